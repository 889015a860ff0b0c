/- Printed by a program of this session out of the translation: plain functions with the answers of the Go functions, and the proofs that they have them. -/
import Derived.Test.YtkbclcecmcdlfaaHI
namespace Go.Proofs.Ytkbclcecmcdlfaa.PH
open Go.RowKit Go.Proofs.YtkbclcecmcdlfaaW.PrintWords Go.Proofs.YtkbclcecmcdlfaaW.PrintLast Go.Proofs.YtkbclcecmcdlfaaW.PrintMore
attribute [local go_sem] max2_int min2_int max_two min_two max_three min_three max_four min_four   -- for this text's walks alone
set_option linter.unusedVariables false
set_option linter.unusedSimpArgs false

/-! ### dataflowlaw10_small: function 10 -/
def dataflowlaw10_small.f  : Option ((List (S35))) := some (([(⟨(⟨#[65]⟩ : ByteArray), (⟨#[]⟩ : ByteArray), (([(⟨(⟨#[102]⟩ : ByteArray), (⟨#[105, 110, 116]⟩ : ByteArray)⟩ : S37)] : List (S37))), (([(⟨(⟨#[109]⟩ : ByteArray), false, ([] : List ByteArray), (⟨#[]⟩ : ByteArray)⟩ : S40)] : List (S40)))⟩ : S35), (⟨(⟨#[66]⟩ : ByteArray), (⟨#[65]⟩ : ByteArray), ([] : List (S37)), (([(⟨(⟨#[109]⟩ : ByteArray), false, ([] : List ByteArray), (⟨#[]⟩ : ByteArray)⟩ : S40)] : List (S40)))⟩ : S35)] : List (S35)))
set_option maxHeartbeats 8000000 in
set_option maxRecDepth 100000 in
theorem dataflowlaw10_small.calls  (r : List (S35)) (w : World) (h : dataflowlaw10_small.f  = some r) :
  Calls Try.prog 10 #[] w fun e w' => ∃ v0_ : Value, e = .returned (.agg #[v0_]) ∧ Kd.N k35 35 w' w.heap.size (fun k_ => (w.heap.size ≤ k_)) v0_ r ∧ Below w.heap.size w w' := by
 have hu28 := Try.underlying28
 have hu37 := Try.underlying37
 have hu40 := Try.underlying40
 have hu35 := Try.underlying35
 have HB := Aside0.mk (Below.refl w.heap.size w)
 have H : (some (([(⟨(⟨#[65]⟩ : ByteArray), (⟨#[]⟩ : ByteArray), (([(⟨(⟨#[102]⟩ : ByteArray), (⟨#[105, 110, 116]⟩ : ByteArray)⟩ : S37)] : List (S37))), (([(⟨(⟨#[109]⟩ : ByteArray), false, ([] : List ByteArray), (⟨#[]⟩ : ByteArray)⟩ : S40)] : List (S40)))⟩ : S35), (⟨(⟨#[66]⟩ : ByteArray), (⟨#[65]⟩ : ByteArray), ([] : List (S37)), (([(⟨(⟨#[109]⟩ : ByteArray), false, ([] : List ByteArray), (⟨#[]⟩ : ByteArray)⟩ : S40)] : List (S40)))⟩ : S35)] : List (S35)))) = some r := h
 clear h
 obtain ⟨y181, hy181⟩ : ∃ y_ : List (S37), y_ = (([(⟨(⟨#[102]⟩ : ByteArray), (⟨#[105, 110, 116]⟩ : ByteArray)⟩ : S37)] : List (S37))) := ⟨_, rfl⟩
 replace H : (some (([(⟨(⟨#[65]⟩ : ByteArray), (⟨#[]⟩ : ByteArray), y181, (([(⟨(⟨#[109]⟩ : ByteArray), false, ([] : List ByteArray), (⟨#[]⟩ : ByteArray)⟩ : S40)] : List (S40)))⟩ : S35), (⟨(⟨#[66]⟩ : ByteArray), (⟨#[65]⟩ : ByteArray), ([] : List (S37)), (([(⟨(⟨#[109]⟩ : ByteArray), false, ([] : List ByteArray), (⟨#[]⟩ : ByteArray)⟩ : S40)] : List (S40)))⟩ : S35)] : List (S35)))) = some r := by first | (rw [hy181]; with_reducible exact H) | (have H2_ := (Option.bind_some _ _).symm.trans H; rw [hy181]; with_reducible exact H2_) | (have H2_ := (Option.bind_some _ _).symm.trans H; with_reducible exact H2_) | with_reducible exact H | (rw [hy181]; exact H) | exact H
 have Ny181 := Aside0.mk hy181
 clear hy181
 obtain ⟨y184, hy184⟩ : ∃ y_ : List (S40), y_ = (([(⟨(⟨#[109]⟩ : ByteArray), false, ([] : List ByteArray), (⟨#[]⟩ : ByteArray)⟩ : S40)] : List (S40))) := ⟨_, rfl⟩
 replace H : (some (([(⟨(⟨#[65]⟩ : ByteArray), (⟨#[]⟩ : ByteArray), y181, y184⟩ : S35), (⟨(⟨#[66]⟩ : ByteArray), (⟨#[65]⟩ : ByteArray), ([] : List (S37)), (([(⟨(⟨#[109]⟩ : ByteArray), false, ([] : List ByteArray), (⟨#[]⟩ : ByteArray)⟩ : S40)] : List (S40)))⟩ : S35)] : List (S35)))) = some r := by first | (rw [hy184]; with_reducible exact H) | (have H2_ := (Option.bind_some _ _).symm.trans H; rw [hy184]; with_reducible exact H2_) | (have H2_ := (Option.bind_some _ _).symm.trans H; with_reducible exact H2_) | with_reducible exact H | (rw [hy184]; exact H) | exact H
 have Ny184 := Aside0.mk hy184
 clear hy184
 obtain ⟨y187, hy187⟩ : ∃ y_ : List (S40), y_ = (([(⟨(⟨#[109]⟩ : ByteArray), false, ([] : List ByteArray), (⟨#[]⟩ : ByteArray)⟩ : S40)] : List (S40))) := ⟨_, rfl⟩
 replace H : (some (([(⟨(⟨#[65]⟩ : ByteArray), (⟨#[]⟩ : ByteArray), y181, y184⟩ : S35), (⟨(⟨#[66]⟩ : ByteArray), (⟨#[65]⟩ : ByteArray), ([] : List (S37)), y187⟩ : S35)] : List (S35)))) = some r := by first | (rw [hy187]; with_reducible exact H) | (have H2_ := (Option.bind_some _ _).symm.trans H; rw [hy187]; with_reducible exact H2_) | (have H2_ := (Option.bind_some _ _).symm.trans H; with_reducible exact H2_) | with_reducible exact H | (rw [hy187]; exact H) | exact H
 have Ny187 := Aside0.mk hy187
 clear hy187
 obtain ⟨y190, hy190⟩ : ∃ y_ : List (S35), y_ = (([(⟨(⟨#[65]⟩ : ByteArray), (⟨#[]⟩ : ByteArray), y181, y184⟩ : S35), (⟨(⟨#[66]⟩ : ByteArray), (⟨#[65]⟩ : ByteArray), ([] : List (S37)), y187⟩ : S35)] : List (S35))) := ⟨_, rfl⟩
 replace H : (some y190) = some r := by first | (rw [hy190]; with_reducible exact H) | (have H2_ := (Option.bind_some _ _).symm.trans H; rw [hy190]; with_reducible exact H2_) | (have H2_ := (Option.bind_some _ _).symm.trans H; with_reducible exact H2_) | with_reducible exact H | (rw [hy190]; exact H) | exact H
 have Ny190 := Aside0.mk hy190
 clear hy190
 obtain rfl := Option.some.inj H
 go_enter Try.func10, Try.ntmps10
 go_wp2_with (first | ((with_reducible refine gate_dst (N := 0) rfl ?_); refine box_event ?hg (N := 0) ?hd (cs := #[.slice none 0 0]) (t := 28) ?hr ?_; (case hd => rfl); (case hg => rfl); (case hr => first | (go_simp; done) | (go_simp; rfl)); intro gb180 hg w1 hbox hb; have n0_ := Aside0.mk (below_step (by repeat with_reducible first | exact HB.out | apply below_alloc | apply pw_below_drewN | apply below_drew1) hb); have n1_ := Aside0.mk (hbox); have n2_ := Aside0.mk ((by rw [hg]; exact (below_size (by repeat with_reducible first | exact HB.out | apply below_alloc | apply pw_below_drewN | apply below_drew1)) : w.heap.size ≤ gb180)); have n3_ := Aside0.mk ((by rw [hg]; exact (below_size (by repeat with_reducible first | exact HB.out | apply below_alloc | apply pw_below_drewN | apply below_drew1)) : w.heap.size ≤ gb180)); clear HB; have HB := n0_; have BK180 := n1_; have GW180 := n2_; have GE180 := n3_; clear n0_ n1_ n2_ n3_; clear hb hbox hg) | ((with_reducible refine gate_dst (N := 2) rfl ?_); refine Kd.R_lit k37 _ 37 ?hg (N := 2) ?hd (xs := ([(⟨(⟨#[102]⟩ : ByteArray), (⟨#[105, 110, 116]⟩ : ByteArray)⟩ : S37)] : List (S37))) (inner := [.string (⟨#[102]⟩ : ByteArray), .string (⟨#[105, 110, 116]⟩ : ByteArray)]) (ok := fun _ => True) (okp := fun _ => True) ?hr ?hp (fun _ hk => hk) trivial (Below.refl _ _) (Nat.le_refl _) (by simp) ?_; (case hd => rfl); (case hg => rfl); (case hr => first | (go_simp; done) | (go_simp; rfl)); (case hp => exact (Reps.c2 (show Kd.M k37 _ _ _ (⟨(⟨#[102]⟩ : ByteArray), (⟨#[105, 110, 116]⟩ : ByteArray)⟩ : S37) [.string (⟨#[102]⟩ : ByteArray), .string (⟨#[105, 110, 116]⟩ : ByteArray)] from (k37_mkM _ _ _ (⟨(⟨#[102]⟩ : ByteArray), (⟨#[105, 110, 116]⟩ : ByteArray)⟩ : S37) )) (Reps.none _ _))); intro v182 w2 ho3 hb hg_ hnew_; clear hg_ hnew_; (first | rw [← Ny181.out] at ho3 | (simp only [Int.reduceToNat] at ho3; rw [← Ny181.out] at ho3)); have n0_ := Aside0.mk (Kd.R_lower (Kd.R_newM (M := fun k_ => (w.heap.size ≤ k_)) ho3 (below_size (by repeat with_reducible first | exact HB.out | apply below_alloc | apply pw_below_drewN | apply below_drew1 | refine below_set ?_ GE180.out)) (fun k_ h_ => h_)) (below_size (by repeat with_reducible first | exact HB.out | apply below_alloc | apply pw_below_drewN | apply below_drew1 | refine below_set ?_ GE180.out))); have n1_ := Aside0.mk (blk_below (g := gb180) (o := .cells #[.slice none 0 0] 28 (0, 0)) (by (with_reducible repeat first | apply bn | apply bd | apply ba); exact BK180.out) hb); have n2_ := Aside0.mk (below_step (by repeat with_reducible first | exact HB.out | apply below_alloc | apply pw_below_drewN | apply below_drew1 | refine below_set ?_ GE180.out) hb); clear BK180; clear HB; have HO183 := n0_; have BK180 := n1_; have HB := n2_; clear n0_ n1_ n2_; clear hb ho3) | ((with_reducible refine gate_dst (N := 4) rfl ?_); refine Kd.N_lit k40 _ 40 ?hg (N' := 4) ?hd (xs := ([(⟨(⟨#[109]⟩ : ByteArray), false, ([] : List ByteArray), (⟨#[]⟩ : ByteArray)⟩ : S40)] : List (S40))) (inner := [.string (⟨#[109]⟩ : ByteArray), .bool false, .slice none 0 0, .string (⟨#[]⟩ : ByteArray)]) (ok := (fun k_ => (w.heap.size ≤ k_) ∧ some k_ ≠ (v182 : Value).ownBlock ∧ k_ ≠ gb180)) (okp := (fun k_ => (w.heap.size ≤ k_) ∧ some k_ ≠ (v182 : Value).ownBlock ∧ k_ ≠ gb180)) ?hr ?hp (fun _ hk => hk) ((show ∀ k_, w2.heap.size ≤ k_ → (fun k_ => (w.heap.size ≤ k_) ∧ some k_ ≠ (v182 : Value).ownBlock ∧ k_ ≠ gb180) k_ from fun k_ hk => ⟨(Nat.le_trans (below_size (by repeat with_reducible first | exact HB.out | apply below_alloc | apply pw_below_drewN | apply below_drew1 | refine below_set ?_ GE180.out)) hk), Kd.fresh' (Kd.R_lt (by (with_reducible repeat first | apply Kd.R_alloc | apply Kd.R_drewN | apply Kd.R_drew); exact HO183.out)) k_ hk, Kd.freshB (g := gb180) (o := .cells #[.slice none 0 0] 28 (0, 0)) (by (with_reducible repeat first | apply bn | apply bd | apply ba); exact BK180.out) k_ hk⟩) _ (Nat.le_refl _)) (Below.refl _ _) (Nat.le_refl _) (by simp) ?_; (case hd => rfl); (case hg => rfl); (case hr => first | (go_simp; done) | (go_simp; rfl)); (case hp => exact (Reps.c4 (show Kd.FK k40 _ _ (⟨(⟨#[109]⟩ : ByteArray), false, ([] : List ByteArray), (⟨#[]⟩ : ByteArray)⟩ : S40) [.string (⟨#[109]⟩ : ByteArray), .bool false, .slice none 0 0, .string (⟨#[]⟩ : ByteArray)] from (k40_mkF _ _ (⟨(⟨#[109]⟩ : ByteArray), false, ([] : List ByteArray), (⟨#[]⟩ : ByteArray)⟩ : S40) (Nat.le_refl _) (Kd.F_nil _ _ _))) (Reps.none _ _))); intro v185 w4 ho5 hb hg_ hnew_; clear hg_ hnew_; (first | rw [← Ny184.out] at ho5 | (simp only [Int.reduceToNat] at ho5; rw [← Ny184.out] at ho5)); have n0_ := Aside0.mk (Kd.R_below (by (with_reducible repeat first | apply Kd.R_alloc | apply Kd.R_drewN | apply Kd.R_drew); exact HO183.out) hb); have n1_ := Aside0.mk (Kd.N_lower ho5 (below_size (by repeat with_reducible first | exact HB.out | apply below_alloc | apply pw_below_drewN | apply below_drew1 | refine below_set ?_ GE180.out))); have n2_ := Aside0.mk (blk_below (g := gb180) (o := .cells #[.slice none 0 0] 28 (0, 0)) (by (with_reducible repeat first | apply bn | apply bd | apply ba); exact BK180.out) hb); have n3_ := Aside0.mk (below_step (by repeat with_reducible first | exact HB.out | apply below_alloc | apply pw_below_drewN | apply below_drew1 | refine below_set ?_ GE180.out) hb); clear HO183; clear BK180; clear HB; have HO183 := n0_; have HO186 := n1_; have BK180 := n2_; have HB := n3_; clear n0_ n1_ n2_ n3_; clear hb ho5; obtain ⟨Ao6, co6, eo6⟩ := Kd.N_slice HO186.out; subst eo6; obtain ⟨Ao7, co7, eo7⟩ := Kd.R_slice HO183.out; subst eo7) | ((with_reducible refine gate_dst (N := 7) rfl ?_); refine Kd.N_lit k40 _ 40 ?hg (N' := 7) ?hd (xs := ([(⟨(⟨#[109]⟩ : ByteArray), false, ([] : List ByteArray), (⟨#[]⟩ : ByteArray)⟩ : S40)] : List (S40))) (inner := [.string (⟨#[109]⟩ : ByteArray), .bool false, .slice none 0 0, .string (⟨#[]⟩ : ByteArray)]) (ok := (fun k_ => (w.heap.size ≤ k_) ∧ some k_ ≠ (.slice Ao7 y181.length co7 : Value).ownBlock ∧ some k_ ≠ (.slice Ao6 y184.length co6 : Value).ownBlock ∧ k_ ≠ gb180)) (okp := (fun k_ => (w.heap.size ≤ k_) ∧ some k_ ≠ (.slice Ao7 y181.length co7 : Value).ownBlock ∧ some k_ ≠ (.slice Ao6 y184.length co6 : Value).ownBlock ∧ k_ ≠ gb180)) ?hr ?hp (fun _ hk => hk) ((show ∀ k_, w4.heap.size ≤ k_ → (fun k_ => (w.heap.size ≤ k_) ∧ some k_ ≠ (.slice Ao7 y181.length co7 : Value).ownBlock ∧ some k_ ≠ (.slice Ao6 y184.length co6 : Value).ownBlock ∧ k_ ≠ gb180) k_ from fun k_ hk => ⟨(Nat.le_trans (below_size (by repeat with_reducible first | exact HB.out | apply below_alloc | apply pw_below_drewN | apply below_drew1 | refine below_set ?_ GE180.out)) hk), Kd.fresh' (Kd.R_lt (by (with_reducible repeat first | apply Kd.R_alloc | apply Kd.R_drewN | apply Kd.R_drew); exact HO183.out)) k_ hk, Kd.fresh' (Kd.N_lt (by (with_reducible repeat first | apply Kd.N_alloc | apply Kd.N_drewN | apply Kd.N_drew); exact HO186.out)) k_ hk, Kd.freshB (g := gb180) (o := .cells #[.slice none 0 0] 28 (0, 0)) (by (with_reducible repeat first | apply bn | apply bd | apply ba); exact BK180.out) k_ hk⟩) _ (Nat.le_refl _)) (Below.refl _ _) (Nat.le_refl _) (by simp) ?_; (case hd => rfl); (case hg => rfl); (case hr => first | (go_simp; done) | (go_simp; rfl)); (case hp => exact (Reps.c4 (show Kd.FK k40 _ _ (⟨(⟨#[109]⟩ : ByteArray), false, ([] : List ByteArray), (⟨#[]⟩ : ByteArray)⟩ : S40) [.string (⟨#[109]⟩ : ByteArray), .bool false, .slice none 0 0, .string (⟨#[]⟩ : ByteArray)] from (k40_mkF _ _ (⟨(⟨#[109]⟩ : ByteArray), false, ([] : List ByteArray), (⟨#[]⟩ : ByteArray)⟩ : S40) (Nat.le_refl _) (Kd.F_nil _ _ _))) (Reps.none _ _))); intro v188 w8 ho9 hb hg_ hnew_; clear hg_ hnew_; (first | rw [← Ny187.out] at ho9 | (simp only [Int.reduceToNat] at ho9; rw [← Ny187.out] at ho9)); have n0_ := Aside0.mk (Kd.R_below (by (with_reducible repeat first | apply Kd.R_alloc | apply Kd.R_drewN | apply Kd.R_drew); exact HO183.out) hb); have n1_ := Aside0.mk (Kd.N_elder' (by (with_reducible repeat first | apply Kd.N_alloc | apply Kd.N_drewN | apply Kd.N_drew); exact HO186.out) (Kd.N_base ho9) hb); have n2_ := Aside0.mk (Kd.N_lower ho9 (below_size (by repeat with_reducible first | exact HB.out | apply below_alloc | apply pw_below_drewN | apply below_drew1 | refine below_set ?_ GE180.out))); have n3_ := Aside0.mk (blk_below (g := gb180) (o := .cells #[.slice none 0 0] 28 (0, 0)) (by (with_reducible repeat first | apply bn | apply bd | apply ba); exact BK180.out) hb); have n4_ := Aside0.mk (below_step (by repeat with_reducible first | exact HB.out | apply below_alloc | apply pw_below_drewN | apply below_drew1 | refine below_set ?_ GE180.out) hb); clear HO183; clear HO186; clear BK180; clear HB; have HO183 := n0_; have HO186 := n1_; have HO189 := n2_; have BK180 := n3_; have HB := n4_; clear n0_ n1_ n2_ n3_ n4_; clear hb ho9; obtain ⟨Ao10, co10, eo10⟩ := Kd.N_slice HO189.out; subst eo10) | ((with_reducible refine gate_dst (N := 9) rfl ?_); refine Kd.N_lit k35 _ 35 ?hg (N' := 9) ?hd (xs := ([(⟨(⟨#[65]⟩ : ByteArray), (⟨#[]⟩ : ByteArray), y181, y184⟩ : S35), (⟨(⟨#[66]⟩ : ByteArray), (⟨#[65]⟩ : ByteArray), ([] : List (S37)), y187⟩ : S35)] : List (S35))) (inner := [.string (⟨#[65]⟩ : ByteArray), .string (⟨#[]⟩ : ByteArray), .slice Ao7 y181.length co7, .slice Ao6 y184.length co6, .string (⟨#[66]⟩ : ByteArray), .string (⟨#[65]⟩ : ByteArray), .slice none 0 0, .slice Ao10 y187.length co10]) (ok := (fun k_ => (w.heap.size ≤ k_) ∧ k_ ≠ gb180)) (okp := (fun k_ => (w.heap.size ≤ k_) ∧ k_ ≠ gb180)) ?hr ?hp (fun _ hk => hk) ((show ∀ k_, w8.heap.size ≤ k_ → (fun k_ => (w.heap.size ≤ k_) ∧ k_ ≠ gb180) k_ from fun k_ hk => ⟨(Nat.le_trans (below_size (by repeat with_reducible first | exact HB.out | apply below_alloc | apply pw_below_drewN | apply below_drew1 | refine below_set ?_ GE180.out)) hk), Kd.freshB (g := gb180) (o := .cells #[.slice none 0 0] 28 (0, 0)) (by (with_reducible repeat first | apply bn | apply bd | apply ba); exact BK180.out) k_ hk⟩) _ (Nat.le_refl _)) (Below.refl _ _) (Nat.le_refl _) (by simp) ?_; (case hd => rfl); (case hg => rfl); (case hr => first | (go_simp; done) | (go_simp; rfl)); (case hp => exact (Reps.c4 (show Kd.FK k35 _ _ (⟨(⟨#[65]⟩ : ByteArray), (⟨#[]⟩ : ByteArray), y181, y184⟩ : S35) [.string (⟨#[65]⟩ : ByteArray), .string (⟨#[]⟩ : ByteArray), .slice Ao7 y181.length co7, .slice Ao6 y184.length co6] from (k35_mkF _ _ (⟨(⟨#[65]⟩ : ByteArray), (⟨#[]⟩ : ByteArray), y181, y184⟩ : S35) (Kd.R_reads' (Kd.R_mono (ok' := (fun k_ => (w.heap.size ≤ k_) ∧ k_ ≠ gb180)) (Kd.R_types (HO183.out) BK180.out (by decide)) (fun k_ hk => ⟨hk.1.1, hk.2⟩))).2.1 (Kd.R_F (Kd.R_mono (ok' := (fun k_ => (w.heap.size ≤ k_) ∧ k_ ≠ gb180)) (Kd.R_types (HO183.out) BK180.out (by decide)) (fun k_ hk => ⟨hk.1.1, hk.2⟩))) (Kd.N_reads' (Kd.N_mono (ok' := (fun k_ => (w.heap.size ≤ k_) ∧ k_ ≠ gb180)) (HO186.out) (fun k_ hk => ⟨hk.1.1, hk.1.2.2⟩))).2.1 (Kd.N_F (Kd.N_mono (ok' := (fun k_ => (w.heap.size ≤ k_) ∧ k_ ≠ gb180)) (HO186.out) (fun k_ hk => ⟨hk.1.1, hk.1.2.2⟩))))) (Reps.c4 (show Kd.FK k35 _ _ (⟨(⟨#[66]⟩ : ByteArray), (⟨#[65]⟩ : ByteArray), ([] : List (S37)), y187⟩ : S35) [.string (⟨#[66]⟩ : ByteArray), .string (⟨#[65]⟩ : ByteArray), .slice none 0 0, .slice Ao10 y187.length co10] from (k35_mkF _ _ (⟨(⟨#[66]⟩ : ByteArray), (⟨#[65]⟩ : ByteArray), ([] : List (S37)), y187⟩ : S35) (Nat.le_refl _) (Kd.F_nil _ _ _) (Kd.N_reads' (Kd.N_mono (ok' := (fun k_ => (w.heap.size ≤ k_) ∧ k_ ≠ gb180)) (HO189.out) (fun k_ hk => ⟨hk.1, hk.2.2.2⟩))).2.1 (Kd.N_F (Kd.N_mono (ok' := (fun k_ => (w.heap.size ≤ k_) ∧ k_ ≠ gb180)) (HO189.out) (fun k_ hk => ⟨hk.1, hk.2.2.2⟩))))) (Reps.none _ _)))); intro v191 w11 ho12 hb hg_ hnew_; clear hg_ hnew_; (first | rw [← Ny190.out] at ho12 | (simp only [Int.reduceToNat] at ho12; rw [← Ny190.out] at ho12)); have n0_ := Aside0.mk (Kd.N_lower ho12 (below_size (by repeat with_reducible first | exact HB.out | apply below_alloc | apply pw_below_drewN | apply below_drew1 | refine below_set ?_ GE180.out))); have n1_ := Aside0.mk (blk_below (g := gb180) (o := .cells #[.slice none 0 0] 28 (0, 0)) (by (with_reducible repeat first | apply bn | apply bd | apply ba); exact BK180.out) hb); have n2_ := Aside0.mk (below_step (by repeat with_reducible first | exact HB.out | apply below_alloc | apply pw_below_drewN | apply below_drew1 | refine below_set ?_ GE180.out) hb); clear BK180; clear HB; clear HO183; clear HO186; clear HO189; have HO192 := n0_; have BK180 := n1_; have HB := n2_; clear n0_ n1_ n2_; clear hb ho12; obtain ⟨Ao13, co13, eo13⟩ := Kd.N_slice HO192.out; subst eo13; have hcz14_0 : w11.cell? ⟨gb180, 0, none⟩ = some (.slice none 0 0) := (blk_cell BK180.out 0).trans rfl; have hfz14_0 := blk_frozen BK180.out 0))
 refine bodyPost_ret (results_cell_row rfl _ _ gb180 28 #[.slice Ao13 y190.length co13] (0, 0) _ rfl (by (with_reducible repeat first | apply bn | apply bd | apply ba); refine blk_put (cs := #[.slice none 0 0]) ?_ 0 _ rfl; (with_reducible repeat first | apply bn | apply bd | apply ba); exact BK180.out) Try.underlying28 rfl (by kernel_rfl)) rfl ?_
 exact ⟨_, by first | rfl | (simp [errW_none, errW_some] <;> rfl) | (simp [*, errW_none, errW_some] <;> rfl), by (with_reducible repeat first | apply Kd.N_alloc | apply Kd.N_drewN | apply Kd.N_drew); exact Kd.N_mono (Kd.N_far (p := ⟨gb180, 0, none⟩) (Kd.N_mono HO192.out (fun k_ hk => (⟨hk, hk.2⟩ : _ ∧ k_ ≠ gb180))) (fun _ hk => hk.2) (.slice Ao13 y190.length co13)) (fun _ hk => hk.1.1), by repeat with_reducible first | exact HB.out | apply below_alloc | apply pw_below_drewN | apply below_drew1 | refine below_set ?_ GE180.out⟩

/-! ### slices_Index_int_int: function 31 -/
def slices_Index_int_int.l0 : Nat → List Int → Int → Int → Int → Option (Int)
 | 0, _, _, _, _ => none
 | k + 1, x0, x1, x7, x8 => if x8 < x7 then (if 0 ≤ x8 then (if x8 < (x0.length : Int) then (if x1 = (rd x0 x8) then (some x8) else (slices_Index_int_int.l0 k x0 x1 x7 (wrap64 (x8 + 1)))) else (none)) else (none)) else (some (-1))
def slices_Index_int_int.f (k : Nat) (l0 : List Int) (a1 : Int) : Option (Int) := slices_Index_int_int.l0 k l0 a1 (l0.length : Int) 0
theorem slices_Index_int_int.mono_l : ∀ k, (∀ y0 y1 y2 y3, LeO (slices_Index_int_int.l0 k y0 y1 y2 y3) (slices_Index_int_int.l0 (k + 1) y0 y1 y2 y3))
 | 0 => fun _ _ _ _ r h => by simp [slices_Index_int_int.l0] at h
 | k + 1 => by
  have ih0 := slices_Index_int_int.mono_l k
  ·intro y0 y1 y2 y3
   unfold slices_Index_int_int.l0
   repeat' first
   | (with_reducible exact ih0 _ _ _ _)
   | (with_reducible exact LeO.refl _)
   | (with_reducible exact LeO.none _)
   | (with_reducible refine LeO.ite ?_ ?_)
   | (with_reducible refine LeO.bind ?_ (fun _ => ?_))
   | exact ih0 _ _ _ _
   | exact LeO.none _
   | refine LeO.ite ?_ ?_
   | refine LeO.bind ?_ (fun _ => ?_)
theorem slices_Index_int_int.mono : ∀ a0 a1 k, LeO (slices_Index_int_int.f k a0 a1) (slices_Index_int_int.f (k + 1) a0 a1) := by
 intro a0 a1 k
 have ih0 := slices_Index_int_int.mono_l k
 unfold slices_Index_int_int.f
 repeat' first
   | (with_reducible exact ih0 _ _ _ _)
   | (with_reducible exact LeO.refl _)
   | (with_reducible exact LeO.none _)
   | (with_reducible refine LeO.ite ?_ ?_)
   | (with_reducible refine LeO.bind ?_ (fun _ => ?_))
   | exact ih0 _ _ _ _
   | exact LeO.none _
   | refine LeO.ite ?_ ?_
   | refine LeO.bind ?_ (fun _ => ?_)
set_option maxHeartbeats 8000000 in
set_option maxRecDepth 100000 in
theorem slices_Index_int_int.calls (k : Nat) (A0 : Option Addr) (c0 : Nat) (l0 : List Int) (a1 : Int) (r : Int) (w : World) (hr0 : Kd.C (Kd.int .i64) w A0 l0.length l0) (hc0 : l0.length ≤ c0) (h : slices_Index_int_int.f k l0 a1 = some r) :
  Calls Try.prog 31 #[.slice A0 l0.length c0, .int .i64 a1] w fun e w' => e = .returned (.int .i64 r) ∧ Drawn0 w w' := by
 have HR0 := Aside0.mk hr0
 have HC0 := Aside0.mk hc0
 clear hr0 hc0
 have H : (slices_Index_int_int.l0 k l0 a1 (l0.length : Int) 0) = some r := h
 clear h
 have H' := Aside0.mk H
 clear H
 go_enter Try.func31, Try.ntmps31
 go_wp2
 go_loopg [8] k (fun kq v8 w' => ∃ (x8_1 : Int), v8 = .int .i64 x8_1 ∧ Aside0 (slices_Index_int_int.l0 kq l0 a1 (l0.length : Int) x8_1 = some r) ∧ Aside0 (kq ≤ k) ∧ Drawn0 w w')
 case atStart => exact ⟨(0), (by first | rfl | (simp; done) | (simp [*]; done)), H', ⟨Nat.le_refl _⟩, by repeat (first | exact Drawn0.refl _ | apply Drawn0.step)⟩
 case round =>
  clear H'
  try clear p2
  obtain ⟨x8_1, rfl, HA, HK1, ⟨m1, rfl⟩⟩ := hrel
  cases gk with
  | zero => exact absurd HA.out (by simp [slices_Index_int_int.l0])
  | succ k1 =>
   have H := HA.out
   clear HA
   simp only [slices_Index_int_int.l0] at H
   by_cases c3 : x8_1 < (l0.length : Int)
   ·rw [if_pos c3] at H
    have c3b0 : decide (x8_1 < (l0.length : Int)) = true := decide_eq_true c3
    clear c3
    by_cases c4 : 0 ≤ x8_1
    ·rw [if_pos c4] at H
     have c4b0 : decide (0 ≤ x8_1) = true := decide_eq_true c4
     clear c4
     by_cases c5 : x8_1 < (l0.length : Int)
     ·rw [if_pos c5] at H
      have c5b0 : decide (x8_1 < (l0.length : Int)) = true := decide_eq_true c5
      clear c5
      by_cases c6 : a1 = (rd l0 x8_1)
      ·rw [if_pos c6] at H
       have c6b0 : (a1 == (rd l0 x8_1)) = true := beq_iff_eq.mpr c6
       have c6b1 : (a1 != (rd l0 x8_1)) = false := bne_eq_false_iff_eq.mpr c6
       clear c6
       obtain rfl := Option.some.inj H
       have p193 : 0 ≤ (x8_1 : Int) := of_decide_eq_true (by first | (with_reducible assumption) | assumption)
       have q193 : x8_1 < (l0.length : Int) := of_decide_eq_true (by first | (with_reducible assumption) | assumption)
       obtain ⟨ad193, e193, hx193_0⟩ := Kd.at_int HR0.out x8_1 p193 q193
       cases e193
       replace p193 := eq_true p193
       replace q193 := eq_true q193
       go_wp2
       go_ret
       exact ⟨by first | rfl | (simp; done) | (simp [*]; done), by repeat (first | exact Drawn0.refl _ | apply Drawn0.step)⟩
      ·rw [if_neg c6] at H
       have c6b0 : (a1 == (rd l0 x8_1)) = false := beq_eq_false_iff_ne.mpr c6
       have c6b1 : (a1 != (rd l0 x8_1)) = true := bne_iff_ne.mpr c6
       have H' := Aside0.mk H
       clear H
       have p193 : 0 ≤ (x8_1 : Int) := of_decide_eq_true (by first | (with_reducible assumption) | assumption)
       have q193 : x8_1 < (l0.length : Int) := of_decide_eq_true (by first | (with_reducible assumption) | assumption)
       obtain ⟨ad193, e193, hx193_0⟩ := Kd.at_int HR0.out x8_1 p193 q193
       cases e193
       replace p193 := eq_true p193
       replace q193 := eq_true q193
       go_wp2
       go_roundg k1
       case measure => have := HK1.out; omega
       case rel => exact ⟨(wrap64 (x8_1 + 1)), (by first | rfl | (simp; done) | (simp [*]; done)), H', ⟨by have := HK1.out; omega⟩, by repeat (first | exact Drawn0.refl _ | apply Drawn0.step)⟩
     ·rw [if_neg c5] at H
      exact absurd H (by simp)
    ·rw [if_neg c4] at H
     exact absurd H (by simp)
   ·rw [if_neg c3] at H
    have c3b0 : decide (x8_1 < (l0.length : Int)) = false := decide_eq_false c3
    clear c3
    obtain rfl := Option.some.inj H
    go_wp2
    go_ret
    exact ⟨by first | rfl | (simp; done) | (simp [*]; done), by repeat (first | exact Drawn0.refl _ | apply Drawn0.step)⟩

/-! ### slices_Contains_int_int: function 25 -/
def slices_Contains_int_int.f (k : Nat) (l0 : List Int) (a1 : Int) : Option (Bool) := (slices_Index_int_int.f k l0 a1).bind fun t194 => (some (decide (t194 ≥ 0)))
theorem slices_Contains_int_int.mono : ∀ a0 a1 k, LeO (slices_Contains_int_int.f k a0 a1) (slices_Contains_int_int.f (k + 1) a0 a1) := by
 intro a0 a1 k
 unfold slices_Contains_int_int.f
 repeat' first
   | (with_reducible exact slices_Index_int_int.mono _ _ _)
   | (with_reducible exact LeO.refl _)
   | (with_reducible exact LeO.none _)
   | (with_reducible refine LeO.ite ?_ ?_)
   | (with_reducible refine LeO.bind ?_ (fun _ => ?_))
   | exact slices_Index_int_int.mono _ _ _
   | exact LeO.none _
   | refine LeO.ite ?_ ?_
   | refine LeO.bind ?_ (fun _ => ?_)
set_option maxHeartbeats 8000000 in
set_option maxRecDepth 100000 in
theorem slices_Contains_int_int.calls (k : Nat) (A0 : Option Addr) (c0 : Nat) (l0 : List Int) (a1 : Int) (r : Bool) (w : World) (hr0 : Kd.C (Kd.int .i64) w A0 l0.length l0) (hc0 : l0.length ≤ c0) (h : slices_Contains_int_int.f k l0 a1 = some r) :
  Calls Try.prog 25 #[.slice A0 l0.length c0, .int .i64 a1] w fun e w' => e = .returned (.bool r) ∧ Drawn0 w w' := by
 have HR0 := Aside0.mk hr0
 have HC0 := Aside0.mk hc0
 clear hr0 hc0
 have H : ((slices_Index_int_int.f k l0 a1).bind fun t194 => (some (decide (t194 ≥ 0)))) = some r := h
 clear h
 replace H := Option.bind_eq_some_iff.mp H
 obtain ⟨t194, A30, H⟩ := H
 replace H : (some (decide (t194 ≥ 0))) = some r := H
 have A3 := Aside0.mk A30
 clear A30
 obtain rfl := Option.some.inj H
 go_enter Try.func25, Try.ntmps25
 go_wp2_with (first | ((with_reducible refine gate_callee (f := 31) rfl ?_); refine goesL_ (some 7) rfl rfl Try.func31 (by kernel_rfl) rfl #[.slice A0 l0.length c0, .int .i64 a1] rfl (by (try simp only [List.map_toArray, List.map_cons, List.map_nil]); first | done | rfl) ?_; (with_reducible refine (slices_Index_int_int.calls k _ _ l0 a1 t194 _ ?side1 ?side2 A3.out).mono ?_); (case side1 => repeat (first | exact HR0.out | (with_reducible refine Kd.C_alloc ?_ _) | (with_reducible refine Kd.C_drewN ?_ _) | (with_reducible refine Kd.C_drew ?_))); (case side2 => exact HC0.out); rintro e w' ⟨rfl, ⟨nd, rfl⟩⟩; refine ⟨_, rfl, ?_⟩))
 go_ret
 exact ⟨by first | rfl | (simp; done) | (simp [*]; done), by repeat (first | exact Drawn0.refl _ | apply Drawn0.step)⟩

/-! ### hier_chain: function 16 -/
def hier_chain.l0 : Nat → MapSI.Ents → List Int → Int → Bool → List (S35) → Option (List Int × Bool)
 | 0, _, _, _, _, _ => none
 | k + 1, x1, x6, x8, x9, x196000 => if x9 = true then ((slices_Contains_int_int.f k x6 x8).bind fun t198 => (if t198 = true then (some (x6, true)) else (if x6.length < 17592186044416 then ((some (x6 ++ [x8] : List Int)).bind fun y199 => (if 0 ≤ x8 then (if x8 < (x196000.length : Int) then (if ((rd_T35 x196000 x8).f1).toList = ([] : List UInt8) then (some (y199, false)) else ((look.f x1 ((rd_T35 x196000 x8).f1)).bind fun bt203 => (hier_chain.l0 k x1 y199 bt203.1 bt203.2 x196000))) else (none)) else (none))) else (none)))) else (some (x6, false))
def hier_chain.f (k : Nat) (l0_0 : List (S35)) (a1 : MapSI.Ents) (a2 : ByteArray) : Option (List Int × Bool) := (look.f a1 a2).bind fun bt196 => (hier_chain.l0 k a1 ([] : List Int) bt196.1 bt196.2 l0_0)
theorem hier_chain.mono_l : ∀ k, (∀ y0 y1 y2 y3 y4, LeO (hier_chain.l0 k y0 y1 y2 y3 y4) (hier_chain.l0 (k + 1) y0 y1 y2 y3 y4))
 | 0 => fun _ _ _ _ _ r h => by simp [hier_chain.l0] at h
 | k + 1 => by
  have ih0 := hier_chain.mono_l k
  ·intro y0 y1 y2 y3 y4
   unfold hier_chain.l0
   repeat' first
   | (with_reducible exact ih0 _ _ _ _ _)
   | (with_reducible exact slices_Contains_int_int.mono _ _ _)
   | (with_reducible exact LeO.refl _)
   | (with_reducible exact LeO.none _)
   | (with_reducible refine LeO.ite ?_ ?_)
   | (with_reducible refine LeO.bind ?_ (fun _ => ?_))
   | exact ih0 _ _ _ _ _
   | exact slices_Contains_int_int.mono _ _ _
   | exact LeO.none _
   | refine LeO.ite ?_ ?_
   | refine LeO.bind ?_ (fun _ => ?_)
theorem hier_chain.mono : ∀ a0 a1 a2 k, LeO (hier_chain.f k a0 a1 a2) (hier_chain.f (k + 1) a0 a1 a2) := by
 intro a0 a1 a2 k
 have ih0 := hier_chain.mono_l k
 unfold hier_chain.f
 repeat' first
   | (with_reducible exact ih0 _ _ _ _ _)
   | (with_reducible exact slices_Contains_int_int.mono _ _ _)
   | (with_reducible exact LeO.refl _)
   | (with_reducible exact LeO.none _)
   | (with_reducible refine LeO.ite ?_ ?_)
   | (with_reducible refine LeO.bind ?_ (fun _ => ?_))
   | exact ih0 _ _ _ _ _
   | exact slices_Contains_int_int.mono _ _ _
   | exact LeO.none _
   | refine LeO.ite ?_ ?_
   | refine LeO.bind ?_ (fun _ => ?_)
set_option maxHeartbeats 8000000 in
set_option maxRecDepth 100000 in
theorem hier_chain.calls (k : Nat) (A0_0 : Option Addr) (c0_0 : Nat) (l0_0 : List (S35)) {b1 : Nat} (a1 : MapSI.Ents) (a2 : ByteArray) (r1 : List Int) (r2 : Bool) (w : World) (hr0_0 : Kd.C k35 w A0_0 l0_0.length l0_0) (hc0_0 : l0_0.length ≤ c0_0) (hm1 : MapSI.Is w b1 a1) (h : hier_chain.f k l0_0 a1 a2 = some (r1, r2)) :
  Calls Try.prog 16 #[.agg #[.slice A0_0 l0_0.length c0_0], .map (some b1), .string a2] w fun e w' => ∃ v0_ : Value, e = .returned (.tuple #[v0_, .bool r2]) ∧ Kd.R (Kd.int .i64) 3 w' w.heap.size (fun _ => True) v0_ r1 ∧ Below w.heap.size w w' := by
 have hu28 := Try.underlying28
 have HR0_0 := Aside0.mk hr0_0
 have HC0_0 := Aside0.mk hc0_0
 clear hr0_0 hc0_0
 have HM1 := Aside0.mk hm1
 clear hm1
 have HB := Aside0.mk (Below.refl w.heap.size w)
 have H : ((look.f a1 a2).bind fun bt196 => (hier_chain.l0 k a1 ([] : List Int) bt196.1 bt196.2 l0_0)) = some (r1, r2) := h
 clear h
 replace H := Option.bind_eq_some_iff.mp H
 obtain ⟨⟨t196, t197⟩, A40, H⟩ := H
 replace H : (hier_chain.l0 k a1 ([] : List Int) t196 t197 l0_0) = some (r1, r2) := H
 have A4 := Aside0.mk A40
 clear A40
 have H' := Aside0.mk H
 clear H
 go_enter Try.func16, Try.ntmps16
 go_wp2_with (first | ((with_reducible refine gate_dst (N := 3) rfl ?_); refine box_event ?hg (N := 3) ?hd (cs := #[.slice A0_0 l0_0.length c0_0]) (t := 28) ?hr ?_; (case hd => rfl); (case hg => rfl); (case hr => first | (go_simp; done) | (go_simp; rfl)); intro gb195 hg w5 hbox hb; have n0_ := Aside0.mk (below_step (by repeat with_reducible first | exact HB.out | apply below_alloc | apply pw_below_drewN | apply below_drew1) hb); have n1_ := Aside0.mk (hbox); have n2_ := Aside0.mk ((by rw [hg]; exact (below_size (by repeat with_reducible first | exact HB.out | apply below_alloc | apply pw_below_drewN | apply below_drew1)) : w.heap.size ≤ gb195)); have n3_ := Aside0.mk ((by rw [hg]; exact (below_size (by repeat with_reducible first | exact HB.out | apply below_alloc | apply pw_below_drewN | apply below_drew1)) : w.heap.size ≤ gb195)); clear HB; have HB := n0_; have BK195 := n1_; have GW195 := n2_; have GE195 := n3_; clear n0_ n1_ n2_ n3_; clear hb hbox hg) | ((with_reducible refine gate_dst (N := 14) rfl ?_); at_lookup; refine MapSI.wp_look rfl _ _ rfl Try.underlying9 Try.underlying59 (zero3_run _) b1 a1 a2 rfl rfl t196 t197 A4.out (MapSI.Is.below HM1.out (by repeat with_reducible first | exact HB.out | apply below_alloc | apply pw_below_drewN | apply below_drew1 | refine below_set ?_ GE195.out)) ?_))
 go_loopg [6, 8, 9] k (fun kq v6 v8 v9 w' => ∃ (x6_1 : List Int) (x8_1 : Int) (x9_1 : Bool), v8 = .int .i64 x8_1 ∧ v9 = .bool x9_1 ∧ Aside0 (hier_chain.l0 kq a1 x6_1 x8_1 x9_1 l0_0 = some (r1, r2)) ∧ Aside0 (kq ≤ k) ∧ Aside0 (Kd.R (Kd.int .i64) 3 w' w.heap.size (fun _ => True) v6 x6_1) ∧ Aside0 (w'.heap[gb195]? = some (.cells #[(.slice A0_0 l0_0.length c0_0)] 28 (0, 0))) ∧ Aside0 (Below w.heap.size w w'))
 case atStart => exact ⟨(([] : List Int)), (t196), (t197), (by first | rfl | (simp; done) | (simp [*]; done)), (by first | rfl | (simp; done) | (simp [*]; done)), H', ⟨Nat.le_refl _⟩, ⟨by first | exact Kd.R_nil _ _ _ _ _ | exact Kd.N_nil _ _ _ _ _ | exact Kd.V_nil _ _ _ _ _ | exact Kd.Q_nil _ _ _ _ _ | exact Kd.S_nil _ _ _ _ _⟩, ⟨by (with_reducible repeat first | apply bn | apply bd | apply ba); exact BK195.out⟩, ⟨by repeat with_reducible first | exact HB.out | apply below_alloc | apply pw_below_drewN | apply below_drew1 | refine below_set ?_ GE195.out⟩⟩
 case round =>
  clear H'
  try clear c1
  try clear p2
  obtain ⟨x6_1, x8_1, x9_1, rfl, rfl, HA, HK1, HO_6, BK195, HB⟩ := hrel
  cases gk with
  | zero => exact absurd HA.out (by simp [hier_chain.l0])
  | succ k1 =>
   have H := HA.out
   clear HA
   simp only [hier_chain.l0] at H
   by_cases c6 : x9_1 = true
   ·subst c6
    have H1 : ((slices_Contains_int_int.f k1 x6_1 x8_1).bind fun t198 => (if t198 = true then (some (x6_1, true)) else (if x6_1.length < 17592186044416 then ((some (x6_1 ++ [x8_1] : List Int)).bind fun y199 => (if 0 ≤ x8_1 then (if x8_1 < (l0_0.length : Int) then (if ((rd_T35 l0_0 x8_1).f1).toList = ([] : List UInt8) then (some (y199, false)) else ((look.f a1 ((rd_T35 l0_0 x8_1).f1)).bind fun bt203 => (hier_chain.l0 k1 a1 y199 bt203.1 bt203.2 l0_0))) else (none)) else (none))) else (none)))) = some (r1, r2) := by rw [if_pos rfl] at H; exact H
    clear H
    have H := H1
    clear H1
    replace H := Option.bind_eq_some_iff.mp H
    obtain ⟨t198, A70, H⟩ := H
    replace H : (if t198 = true then (some (x6_1, true)) else (if x6_1.length < 17592186044416 then ((some (x6_1 ++ [x8_1] : List Int)).bind fun y199 => (if 0 ≤ x8_1 then (if x8_1 < (l0_0.length : Int) then (if ((rd_T35 l0_0 x8_1).f1).toList = ([] : List UInt8) then (some (y199, false)) else ((look.f a1 ((rd_T35 l0_0 x8_1).f1)).bind fun bt203 => (hier_chain.l0 k1 a1 y199 bt203.1 bt203.2 l0_0))) else (none)) else (none))) else (none))) = some (r1, r2) := H
    have A7 := Aside0.mk A70
    clear A70
    by_cases c8 : t198 = true
    ·subst c8
     have H1 : (some (x6_1, true)) = some (r1, r2) := by rw [if_pos rfl] at H; exact H
     clear H
     have H := H1
     clear H1
     simp only [Option.some.injEq, Prod.mk.injEq] at H
     obtain ⟨rfl, rfl⟩ := H
     obtain ⟨Ao9, co9, eo9⟩ := Kd.R_slice HO_6.out
     subst eo9
     go_wp2_with (first | ((with_reducible refine gate_callee (f := 25) rfl ?_); refine goesL_ (some 20) rfl rfl Try.func25 (by kernel_rfl) rfl #[.slice Ao9 x6_1.length co9, .int .i64 x8_1] rfl (by (try simp only [List.map_toArray, List.map_cons, List.map_nil]); first | done | rfl) ?_; (with_reducible refine (slices_Contains_int_int.calls k1 _ _ x6_1 x8_1 true _ ?side1 ?side2 A7.out).mono ?_); (case side1 => repeat (first | exact (Kd.R_reads' HO_6.out).2.2 | (with_reducible refine Kd.C_alloc ?_ _) | (with_reducible refine Kd.C_drewN ?_ _) | (with_reducible refine Kd.C_drew ?_))); (case side2 => exact (Kd.R_reads' HO_6.out).2.1); rintro e w' ⟨rfl, ⟨nd, rfl⟩⟩; refine ⟨_, rfl, ?_⟩))
     go_ret2
     exact ⟨_, by first | rfl | (simp [errW_none, errW_some] <;> rfl) | (simp [*, errW_none, errW_some] <;> rfl), by (with_reducible repeat first | apply Kd.R_alloc | apply Kd.R_drewN | apply Kd.R_drew); exact HO_6.out, by repeat with_reducible first | exact HB.out | apply below_alloc | apply pw_below_drewN | apply below_drew1 | refine below_set ?_ GE195.out⟩
    ·replace c8 := Bool.eq_false_iff.mpr c8
     subst c8
     have H1 : (if x6_1.length < 17592186044416 then ((some (x6_1 ++ [x8_1] : List Int)).bind fun y199 => (if 0 ≤ x8_1 then (if x8_1 < (l0_0.length : Int) then (if ((rd_T35 l0_0 x8_1).f1).toList = ([] : List UInt8) then (some (y199, false)) else ((look.f a1 ((rd_T35 l0_0 x8_1).f1)).bind fun bt203 => (hier_chain.l0 k1 a1 y199 bt203.1 bt203.2 l0_0))) else (none)) else (none))) else (none)) = some (r1, r2) := by rw [if_neg (show ¬ (false = true) by decide)] at H; exact H
     clear H
     have H := H1
     clear H1
     by_cases c10 : x6_1.length < 17592186044416
     ·rw [if_pos c10] at H
      have LMc10 := Aside0.mk c10
      clear c10
      obtain ⟨y199, hy199⟩ : ∃ y_ : List Int, y_ = (x6_1 ++ [x8_1]) := ⟨_, rfl⟩
      replace H : (if 0 ≤ x8_1 then (if x8_1 < (l0_0.length : Int) then (if ((rd_T35 l0_0 x8_1).f1).toList = ([] : List UInt8) then (some (y199, false)) else ((look.f a1 ((rd_T35 l0_0 x8_1).f1)).bind fun bt203 => (hier_chain.l0 k1 a1 y199 bt203.1 bt203.2 l0_0))) else (none)) else (none)) = some (r1, r2) := by first | (rw [hy199]; with_reducible exact H) | (have H2_ := (Option.bind_some _ _).symm.trans H; rw [hy199]; with_reducible exact H2_) | (have H2_ := (Option.bind_some _ _).symm.trans H; with_reducible exact H2_) | with_reducible exact H | (rw [hy199]; exact H) | exact H
      have Ny199 := Aside0.mk hy199
      clear hy199
      by_cases c11 : 0 ≤ x8_1
      ·rw [if_pos c11] at H
       have c11b0 : decide (0 ≤ x8_1) = true := decide_eq_true c11
       clear c11
       by_cases c12 : x8_1 < (l0_0.length : Int)
       ·rw [if_pos c12] at H
        have c12b0 : decide (x8_1 < (l0_0.length : Int)) = true := decide_eq_true c12
        clear c12
        by_cases c13 : ((rd_T35 l0_0 x8_1).f1).toList = ([] : List UInt8)
        ·rw [if_pos c13] at H
         have c13b0 : (((rd_T35 l0_0 x8_1).f1).toList == ([] : List UInt8)) = true := beq_iff_eq.mpr c13
         have c13b1 : (((rd_T35 l0_0 x8_1).f1).toList != ([] : List UInt8)) = false := bne_eq_false_iff_eq.mpr c13
         clear c13
         simp only [Option.some.injEq, Prod.mk.injEq] at H
         obtain ⟨rfl, rfl⟩ := H
         obtain ⟨Ao14, co14, eo14⟩ := Kd.R_slice HO_6.out
         subst eo14
         go_wp2_with (first | ((with_reducible refine gate_callee (f := 25) rfl ?_); refine goesL_ (some 20) rfl rfl Try.func25 (by kernel_rfl) rfl #[.slice Ao14 x6_1.length co14, .int .i64 x8_1] rfl (by (try simp only [List.map_toArray, List.map_cons, List.map_nil]); first | done | rfl) ?_; (with_reducible refine (slices_Contains_int_int.calls k1 _ _ x6_1 x8_1 false _ ?side1 ?side2 A7.out).mono ?_); (case side1 => repeat (first | exact (Kd.R_reads' HO_6.out).2.2 | (with_reducible refine Kd.C_alloc ?_ _) | (with_reducible refine Kd.C_drewN ?_ _) | (with_reducible refine Kd.C_drew ?_))); (case side2 => exact (Kd.R_reads' HO_6.out).2.1); rintro e w' ⟨rfl, ⟨nd, rfl⟩⟩; refine ⟨_, rfl, ?_⟩) | ((with_reducible refine gate_builtin (b := .append) (xs := #[.tmp 22, .tmp 24]) rfl ?_); at_builtin; refine Kd.R_append (Kd.int .i64) (w0 := w) w.heap.size rfl (.tmp 22) (.tmp 24) 56 3 (.int .i64 0) 8 rfl Try.underlying56 info3 rfl (by decide) (by omega) (.slice Ao14 x6_1.length co14) x6_1 x8_1 [.int .i64 x8_1] (fun _ => True) (fun _ => False) rfl rfl ?aP (fun _ hk => hk.elim) ?aF ?aO ?aB ?aS ?aL ?_; (case aP => exact rfl); (case aB => exact (by repeat with_reducible first | exact HB.out | apply below_alloc | apply pw_below_drewN | apply below_drew1 | refine below_set ?_ GE195.out)); (case aF => exact (fun _ _ => trivial)); (case aO => exact (by (with_reducible repeat first | apply Kd.R_alloc | apply Kd.R_drewN | apply Kd.R_drew); exact HO_6.out)); (case aS => exact (below_size (by repeat with_reducible first | exact HB.out | apply below_alloc | apply pw_below_drewN | apply below_drew1 | refine below_set ?_ GE195.out))); (case aL => have := LMc10.out; omega); intro v200 w15 ho hb hg hat; rw [← Ny199.out] at ho; have n0_ := Aside0.mk (blk_grown (g := gb195) (o := .cells #[.slice A0_0 l0_0.length c0_0] 28 (0, 0)) (by (with_reducible repeat first | apply bn | apply bd | apply ba); exact BK195.out) hg (Kd.R_ne HO_6.out BK195.out (by decide))); have n1_ := Aside0.mk (hb); have n2_ := Aside0.mk (ho); clear BK195; clear HB; clear HO_6; have BK195 := n0_; have HB := n1_; have HO201 := n2_; clear n0_ n1_ n2_; clear ho hb hg hat; have hcz16_0 : w15.cell? ⟨gb195, 0, none⟩ = some (.slice A0_0 l0_0.length c0_0) := (blk_cell BK195.out 0).trans rfl; have hfz16_0 := blk_frozen BK195.out 0; have p202 : 0 ≤ (x8_1 : Int) := of_decide_eq_true (by first | (with_reducible assumption) | assumption); have q202 : x8_1 < (l0_0.length : Int) := of_decide_eq_true (by first | (with_reducible assumption) | assumption); obtain ⟨ad202, A202_2, c202_2, A202_3, c202_3, e202, hx202_0, hx202_1, hx202_2, hx202_3, hl202_2, hi202_2, hl202_3, hi202_3⟩ := at_T35 HR0_0.out x8_1 p202 q202; cases e202; replace hx202_0 := (HB.out.cell (World.block_lt_of_cell? w _ hx202_0)).trans hx202_0; replace hx202_1 := (HB.out.cell (World.block_lt_of_cell? w _ hx202_1)).trans hx202_1; replace hx202_2 := (HB.out.cell (World.block_lt_of_cell? w _ hx202_2)).trans hx202_2; replace hx202_3 := (HB.out.cell (World.block_lt_of_cell? w _ hx202_3)).trans hx202_3; have HR202_2 := Aside0.mk hi202_2; have HC202_2 := Aside0.mk hl202_2; clear hi202_2 hl202_2; have HR202_3 := Aside0.mk hi202_3; have HC202_3 := Aside0.mk hl202_3; clear hi202_3 hl202_3; replace p202 := eq_true p202; replace q202 := eq_true q202))
         go_ret2
         exact ⟨_, by first | rfl | (simp [errW_none, errW_some] <;> rfl) | (simp [*, errW_none, errW_some] <;> rfl), by (with_reducible repeat first | apply Kd.R_alloc | apply Kd.R_drewN | apply Kd.R_drew); exact HO201.out, by repeat with_reducible first | exact HB.out | apply below_alloc | apply pw_below_drewN | apply below_drew1 | refine below_set ?_ GE195.out⟩
        ·rw [if_neg c13] at H
         have c13b0 : (((rd_T35 l0_0 x8_1).f1).toList == ([] : List UInt8)) = false := beq_eq_false_iff_ne.mpr c13
         have c13b1 : (((rd_T35 l0_0 x8_1).f1).toList != ([] : List UInt8)) = true := bne_iff_ne.mpr c13
         replace H := Option.bind_eq_some_iff.mp H
         obtain ⟨⟨t203, t204⟩, A170, H⟩ := H
         replace H : (hier_chain.l0 k1 a1 y199 t203 t204 l0_0) = some (r1, r2) := H
         have A17 := Aside0.mk A170
         clear A170
         have H' := Aside0.mk H
         clear H
         obtain ⟨Ao18, co18, eo18⟩ := Kd.R_slice HO_6.out
         subst eo18
         go_wp2_with (first | ((with_reducible refine gate_callee (f := 25) rfl ?_); refine goesL_ (some 20) rfl rfl Try.func25 (by kernel_rfl) rfl #[.slice Ao18 x6_1.length co18, .int .i64 x8_1] rfl (by (try simp only [List.map_toArray, List.map_cons, List.map_nil]); first | done | rfl) ?_; (with_reducible refine (slices_Contains_int_int.calls k1 _ _ x6_1 x8_1 false _ ?side1 ?side2 A7.out).mono ?_); (case side1 => repeat (first | exact (Kd.R_reads' HO_6.out).2.2 | (with_reducible refine Kd.C_alloc ?_ _) | (with_reducible refine Kd.C_drewN ?_ _) | (with_reducible refine Kd.C_drew ?_))); (case side2 => exact (Kd.R_reads' HO_6.out).2.1); rintro e w' ⟨rfl, ⟨nd, rfl⟩⟩; refine ⟨_, rfl, ?_⟩) | ((with_reducible refine gate_builtin (b := .append) (xs := #[.tmp 22, .tmp 24]) rfl ?_); at_builtin; refine Kd.R_append (Kd.int .i64) (w0 := w) w.heap.size rfl (.tmp 22) (.tmp 24) 56 3 (.int .i64 0) 8 rfl Try.underlying56 info3 rfl (by decide) (by omega) (.slice Ao18 x6_1.length co18) x6_1 x8_1 [.int .i64 x8_1] (fun _ => True) (fun _ => False) rfl rfl ?aP (fun _ hk => hk.elim) ?aF ?aO ?aB ?aS ?aL ?_; (case aP => exact rfl); (case aB => exact (by repeat with_reducible first | exact HB.out | apply below_alloc | apply pw_below_drewN | apply below_drew1 | refine below_set ?_ GE195.out)); (case aF => exact (fun _ _ => trivial)); (case aO => exact (by (with_reducible repeat first | apply Kd.R_alloc | apply Kd.R_drewN | apply Kd.R_drew); exact HO_6.out)); (case aS => exact (below_size (by repeat with_reducible first | exact HB.out | apply below_alloc | apply pw_below_drewN | apply below_drew1 | refine below_set ?_ GE195.out))); (case aL => have := LMc10.out; omega); intro v200 w19 ho hb hg hat; rw [← Ny199.out] at ho; have n0_ := Aside0.mk (blk_grown (g := gb195) (o := .cells #[.slice A0_0 l0_0.length c0_0] 28 (0, 0)) (by (with_reducible repeat first | apply bn | apply bd | apply ba); exact BK195.out) hg (Kd.R_ne HO_6.out BK195.out (by decide))); have n1_ := Aside0.mk (hb); have n2_ := Aside0.mk (ho); clear BK195; clear HB; clear HO_6; have BK195 := n0_; have HB := n1_; have HO201 := n2_; clear n0_ n1_ n2_; clear ho hb hg hat; have hcz20_0 : w19.cell? ⟨gb195, 0, none⟩ = some (.slice A0_0 l0_0.length c0_0) := (blk_cell BK195.out 0).trans rfl; have hfz20_0 := blk_frozen BK195.out 0; have p202 : 0 ≤ (x8_1 : Int) := of_decide_eq_true (by first | (with_reducible assumption) | assumption); have q202 : x8_1 < (l0_0.length : Int) := of_decide_eq_true (by first | (with_reducible assumption) | assumption); obtain ⟨ad202, A202_2, c202_2, A202_3, c202_3, e202, hx202_0, hx202_1, hx202_2, hx202_3, hl202_2, hi202_2, hl202_3, hi202_3⟩ := at_T35 HR0_0.out x8_1 p202 q202; cases e202; replace hx202_0 := (HB.out.cell (World.block_lt_of_cell? w _ hx202_0)).trans hx202_0; replace hx202_1 := (HB.out.cell (World.block_lt_of_cell? w _ hx202_1)).trans hx202_1; replace hx202_2 := (HB.out.cell (World.block_lt_of_cell? w _ hx202_2)).trans hx202_2; replace hx202_3 := (HB.out.cell (World.block_lt_of_cell? w _ hx202_3)).trans hx202_3; have HR202_2 := Aside0.mk hi202_2; have HC202_2 := Aside0.mk hl202_2; clear hi202_2 hl202_2; have HR202_3 := Aside0.mk hi202_3; have HC202_3 := Aside0.mk hl202_3; clear hi202_3 hl202_3; replace p202 := eq_true p202; replace q202 := eq_true q202) | ((with_reducible refine gate_dst (N := 37) rfl ?_); at_lookup; refine MapSI.wp_look rfl _ _ rfl Try.underlying9 Try.underlying59 (zero3_run _) b1 a1 ((rd_T35 l0_0 x8_1).f1) rfl rfl t203 t204 A17.out (MapSI.Is.below HM1.out (by repeat with_reducible first | exact HB.out | apply below_alloc | apply pw_below_drewN | apply below_drew1 | refine below_set ?_ GE195.out)) ?_))
         go_roundg k1
         case measure => have := HK1.out; omega
         case rel => exact ⟨(y199), (t203), (t204), (by first | rfl | (simp; done) | (simp [*]; done)), (by first | rfl | (simp; done) | (simp [*]; done)), H', ⟨by have := HK1.out; omega⟩, ⟨by (with_reducible repeat first | apply Kd.R_alloc | apply Kd.R_drewN | apply Kd.R_drew); exact HO201.out⟩, ⟨by (with_reducible repeat first | apply bn | apply bd | apply ba); exact BK195.out⟩, ⟨by repeat with_reducible first | exact HB.out | apply below_alloc | apply pw_below_drewN | apply below_drew1 | refine below_set ?_ GE195.out⟩⟩
       ·rw [if_neg c12] at H
        exact absurd H (by simp)
      ·rw [if_neg c11] at H
       exact absurd H (by simp)
     ·rw [if_neg c10] at H
      exact absurd H (by simp)
   ·replace c6 := Bool.eq_false_iff.mpr c6
    subst c6
    have H1 : (some (x6_1, false)) = some (r1, r2) := by rw [if_neg (show ¬ (false = true) by decide)] at H; exact H
    clear H
    have H := H1
    clear H1
    simp only [Option.some.injEq, Prod.mk.injEq] at H
    obtain ⟨rfl, rfl⟩ := H
    go_wp2
    go_ret2
    exact ⟨_, by first | rfl | (simp [errW_none, errW_some] <;> rfl) | (simp [*, errW_none, errW_some] <;> rfl), by (with_reducible repeat first | apply Kd.R_alloc | apply Kd.R_drewN | apply Kd.R_drew); exact HO_6.out, by repeat with_reducible first | exact HB.out | apply below_alloc | apply pw_below_drewN | apply below_drew1 | refine below_set ?_ GE195.out⟩

end Go.Proofs.Ytkbclcecmcdlfaa.PH
