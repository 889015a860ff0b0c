/- Printed by a program of this session out of the translation: plain functions with the answers of the Go functions, and the proofs that they have them. -/
import Derived.Test.YtlfoehjjgbnkaaaDoorPOx0
import Derived.Test.YtlfoehjjgbnkaaaDoorPOx2
import Derived.Test.YtlfoehjjgbnkaaaDoorPOx3
namespace Go.Proofs.YtlfoehjjgbnkaaaDoor.PO
open Go.RowKit Go.Proofs.YtlfoehjjgbnkaaaDoorW.PrintWords Go.Proofs.YtlfoehjjgbnkaaaDoorW.PrintLast Go.Proofs.YtlfoehjjgbnkaaaDoorW.PrintMore
attribute [local go_sem] max2_int min2_int max_two min_two max_three min_three max_four min_four   -- for this text's walks alone
set_option linter.unusedVariables false
set_option linter.unusedSimpArgs false

/-! ### dataflowlaw01_BitsOwn: function 9 -/
def dataflowlaw01_BitsOwn.j0 : Nat → List Int → List Int → Int → Bool → Option (Bool)
  | 0, _, _, _, _ => none
  | k + 1, x0, x1, x2, x21 => if x21 = true then ((dataflowlaw01_awake.f k).bind fun t159 => (some t159)) else ((some (([] : List Int) : List Int)).bind fun y160 => (if y160.length + x0.length < 17592186044416 then ((some (y160 ++ x0 : List Int)).bind fun y163 => ((some (([] : List Int) : List Int)).bind fun y166 => (if y166.length + x1.length < 17592186044416 then ((some (y166 ++ x1 : List Int)).bind fun y169 => ((bits_Union.f k y163 y169).bind fun t172 => ((bits_Minus.f k y163 y169).bind fun t175 => ((bits_Both.f k y163 y169).bind fun t178 => ((bits_Without.f y163 x2).bind fun t181 => ((bits_With.f y163 x2).bind fun bt187 => (if (([t172, t175, t178, t181] : List (List Int))).length < 5864062014805 then ((dataflowref01_Equal.f k y163 x0).bind fun t194 => (if t194 = true then ((dataflowref01_Equal.f k y169 x1).bind fun t195 => (if t195 = true then ((dataflowlaw01_awake.f k).bind fun t196 => (some t196)) else (some false))) else (some false))) else (none)))))))) else (none)))) else (none)))
def dataflowlaw01_BitsOwn.f (k : Nat) (l0 : List Int) (l1 : List Int) (a2 : Int) : Option (Bool) := if (l0.length : Int) > 1100 then (dataflowlaw01_BitsOwn.j0 k l0 l1 a2 true) else (dataflowlaw01_BitsOwn.j0 k l0 l1 a2 (decide ((l1.length : Int) > 1100)))
theorem dataflowlaw01_BitsOwn.mono_l : ∀ k, (∀ y0 y1 y2 y3, LeO (dataflowlaw01_BitsOwn.j0 k y0 y1 y2 y3) (dataflowlaw01_BitsOwn.j0 (k + 1) y0 y1 y2 y3))
  | 0 => fun _ _ _ _ r h => by simp [dataflowlaw01_BitsOwn.j0] at h
  | k + 1 => by
    have ih0 := dataflowlaw01_BitsOwn.mono_l k
    · intro y0 y1 y2 y3
      unfold dataflowlaw01_BitsOwn.j0
      repeat' first
      | (with_reducible exact ih0 _ _ _ _)
      | (with_reducible exact bits_Both.mono _ _ _)
      | (with_reducible exact bits_Minus.mono _ _ _)
      | (with_reducible exact bits_Union.mono _ _ _)
      | (with_reducible exact dataflowlaw01_awake.mono _)
      | (with_reducible exact dataflowref01_Equal.mono _ _ _)
      | (with_reducible exact LeO.refl _)
      | (with_reducible exact LeO.none _)
      | (with_reducible refine LeO.ite ?_ ?_)
      | (with_reducible refine LeO.bind ?_ (fun _ => ?_))
      | exact ih0 _ _ _ _
      | exact bits_Both.mono _ _ _
      | exact bits_Minus.mono _ _ _
      | exact bits_Union.mono _ _ _
      | exact dataflowlaw01_awake.mono _
      | exact dataflowref01_Equal.mono _ _ _
      | exact LeO.none _
      | refine LeO.ite ?_ ?_
      | refine LeO.bind ?_ (fun _ => ?_)
theorem dataflowlaw01_BitsOwn.mono : ∀ a0 a1 a2 k, LeO (dataflowlaw01_BitsOwn.f k a0 a1 a2) (dataflowlaw01_BitsOwn.f (k + 1) a0 a1 a2) := by
  intro a0 a1 a2 k
  have ih0 := dataflowlaw01_BitsOwn.mono_l k
  unfold dataflowlaw01_BitsOwn.f
  repeat' first
      | (with_reducible exact ih0 _ _ _ _)
      | (with_reducible exact bits_Both.mono _ _ _)
      | (with_reducible exact bits_Minus.mono _ _ _)
      | (with_reducible exact bits_Union.mono _ _ _)
      | (with_reducible exact dataflowlaw01_awake.mono _)
      | (with_reducible exact dataflowref01_Equal.mono _ _ _)
      | (with_reducible exact LeO.refl _)
      | (with_reducible exact LeO.none _)
      | (with_reducible refine LeO.ite ?_ ?_)
      | (with_reducible refine LeO.bind ?_ (fun _ => ?_))
      | exact ih0 _ _ _ _
      | exact bits_Both.mono _ _ _
      | exact bits_Minus.mono _ _ _
      | exact bits_Union.mono _ _ _
      | exact dataflowlaw01_awake.mono _
      | exact dataflowref01_Equal.mono _ _ _
      | exact LeO.none _
      | refine LeO.ite ?_ ?_
      | refine LeO.bind ?_ (fun _ => ?_)
/-- A slice, as a thing of one cell. -/
abbrev KdS : Kd (Option Addr × Nat × Nat) := Kd.scalar (fun p => .slice p.1 p.2.1 p.2.2) (fun _ => rfl)
/-- The block of a slice is none of those that stood first. -/
def Bs (B : Nat) (v : Value) : Prop := ∀ A n c, v = .slice A n c → 0 < n → ∃ g, A = some ⟨g, 0, none⟩ ∧ B ≤ g
theorem Bs.of {d : Kd Int} {e base B B' : Nat} {W : World} {v : Value} {xs : List Int} (h : WV d e W base (fun k => B' ≤ k) v xs) (hB : B ≤ B') : Bs B v := by
  intro A n c hv hn
  obtain ⟨g, cur, hA, hok, -⟩ := h.2 A n c hv hn
  exact ⟨g, hA, Nat.le_trans hB hok⟩
/-- Every slice of the list that isn't empty lies in a block of numbers that may be written. -/
def Wrs (W : World) (B : Nat) (ok : Nat → Prop) (R : List (Option Addr × Nat × Nat)) : Prop :=
  ∀ p ∈ R, p.2.1 ≤ 9223372036854775807 ∧ p.2.1 ≤ p.2.2 ∧ (0 < p.2.1 → ∃ g cur, p.1 = some ⟨g, 0, none⟩ ∧ B ≤ g ∧ ok g ∧ W.heap[g]? = some (.cells cur 54 (0, 0)) ∧ ∀ j, j < p.2.1 → ∃ x, cur[j]? = some (.int .u64 x))
theorem Wrs.one {base B : Nat} {W : World} {ok ok' : Nat → Prop} {A : Option Addr} {n c : Nat} {xs : List Int} (h : WV (Kd.int .u64) 54 W base ok (.slice A n c) xs) (hb : Bs B (.slice A n c)) (hk : ∀ k, ok k → ok' k) :
    n ≤ 9223372036854775807 ∧ n ≤ c ∧ (0 < n → ∃ g cur, A = some ⟨g, 0, none⟩ ∧ B ≤ g ∧ ok' g ∧ W.heap[g]? = some (.cells cur 54 (0, 0)) ∧ ∀ j, j < n → ∃ x, cur[j]? = some (.int .u64 x)) := by
  obtain ⟨h1, h2, hC⟩ := WV_reads' h
  refine ⟨?_, h2, fun hn => ?_⟩
  · have := Kd.F_max (WV_F h); omega
  · obtain ⟨g, cur, hA, hok, hc⟩ := h.2 A n c rfl hn
    obtain ⟨g', hA', hB⟩ := hb A n c rfl hn
    rw [hA] at hA'
    injection hA' with e1
    injection e1 with e2
    subst e2
    refine ⟨g, cur, hA, hB, hk _ hok, hc, fun j hj => ?_⟩
    obtain ⟨ad, e, hx⟩ := Kd.at_int hC (j : Int) (by omega) (by omega)
    rw [hA] at e
    injection e with e
    subst e
    rw [Int.toNat_natCast] at hx
    have ea : (⟨g, 0, none⟩ : Addr).add j = ⟨g, j, none⟩ := by unfold Addr.add; split <;> simp_all
    rw [ea] at hx
    exact ⟨rd xs (j : Int), by simpa [World.cell?, hc] using hx⟩
theorem Wrs.heap {B : Nat} {W W' : World} {ok : Nat → Prop} {R : List (Option Addr × Nat × Nat)} (h : Wrs W B ok R) (he : W'.heap = W.heap) : Wrs W' B ok R := by
  unfold Wrs at *
  rw [he]
  exact h
theorem Wrs.put {B : Nat} {W : World} {ok : Nat → Prop} {R : List (Option Addr × Nat × Nat)} (h : Wrs W B ok R) (g k : Nat) (y : Int) : Wrs (W.setCell ⟨g, k, none⟩ (.int .u64 y)) B ok R := by
  intro p hp
  obtain ⟨h1, h2, h3⟩ := h p hp
  refine ⟨h1, h2, fun hn => ?_⟩
  obtain ⟨g', cur, hA, hB, hok, hc, hx⟩ := h3 hn
  by_cases e : g' = g
  · subst e
    refine ⟨g', cur.setIfInBounds k (.int .u64 y), hA, hB, hok, blk_set hc k _, fun j hj => ?_⟩
    obtain ⟨x, hx⟩ := hx j hj
    have hl := (Array.getElem?_eq_some_iff.1 hx).1
    by_cases ej : k = j
    · subst ej
      exact ⟨y, by rw [Array.getElem?_setIfInBounds_self]; simp [hl]⟩
    · exact ⟨x, by rw [Array.getElem?_setIfInBounds_ne ej]; exact hx⟩
  · exact ⟨g', cur, hA, hB, hok, blk_far hc (by exact e) _, hx⟩
theorem R_other {e base g j : Nat} {W : World} {ok : Nat → Prop} {v u : Value} {xs : List Int} (h : (Kd.int .u64).R e W base ok v xs) (hne : some g ≠ v.ownBlock) : (Kd.int .u64).R e (W.setCell ⟨g, j, none⟩ u) base ok v xs :=
  Kd.R_mono (Kd.R_far (p := ⟨g, j, none⟩) (Kd.R_far1 h rfl hne) (fun k hk => hk.2) u) (fun k hk => hk.1)
set_option maxHeartbeats 8000000 in
set_option maxRecDepth 100000 in
theorem dataflowlaw01_BitsOwn.calls (k : Nat) (A0 : Option Addr) (c0 : Nat) (l0 : List Int) (A1 : Option Addr) (c1 : Nat) (l1 : List Int) (a2 : Int) (r : Bool) (w : World) (hr0 : Kd.C (Kd.int .u64) w A0 l0.length l0) (hc0 : l0.length ≤ c0) (hr1 : Kd.C (Kd.int .u64) w A1 l1.length l1) (hc1 : l1.length ≤ c1) (h : dataflowlaw01_BitsOwn.f k l0 l1 a2 = some r) (hT : TabW w) (hrt : r = true) :
    Calls Tryd.prog 9 #[.slice A0 l0.length c0, .slice A1 l1.length c1, .int .i64 a2] w fun e w' => e = .returned (.bool r) ∧ Below w.heap.size w w' := by
  have HRT := Aside0.mk hrt
  clear hrt
  have HT_ := Aside0.mk hT
  clear hT
  have HR0 := Aside0.mk hr0
  have HC0 := Aside0.mk hc0
  clear hr0 hc0
  have HR1 := Aside0.mk hr1
  have HC1 := Aside0.mk hc1
  clear hr1 hc1
  have HB := Aside0.mk (Below.refl w.heap.size w)
  have H : (if (l0.length : Int) > 1100 then (dataflowlaw01_BitsOwn.j0 k l0 l1 a2 true) else (dataflowlaw01_BitsOwn.j0 k l0 l1 a2 (decide ((l1.length : Int) > 1100)))) = some r := h
  clear h
  have HC4 := Aside0.mk H
  clear H
  go_enter Tryd.func9, Tryd.ntmps9
  go_upto_region 1 with (fail)
  go_cut [21] (fun v21 wc => ∃ (kq : Nat) (x21_3 : Bool), v21 = .bool x21_3 ∧ Aside0 (dataflowlaw01_BitsOwn.j0 kq l0 l1 a2 x21_3 = some r) ∧ Aside0 (kq ≤ k) ∧ Aside0 (Below w.heap.size w wc))
  case first =>
    have H := HC4.out
    clear HC4
    by_cases c5 : (l0.length : Int) > 1100
    · rw [if_pos c5] at H
      have c5b0 : decide (1100 < (l0.length : Int)) = true := decide_eq_true c5
      have c5b1 : decide (1100 < l0.length) = true := decide_eq_true (by omega)
      clear c5
      (first | rw [c5b0] | (simp only [i64_w, i32_w]; rw [c5b0]) | skip)
      have H' := Aside0.mk H
      clear H
      go_wp2
      go_meet
      case rel => exact ⟨_, (true), (by first | rfl | (simp; done) | (simp [*]; done)), H', ⟨by first | omega | exact Nat.le_refl _⟩, ⟨by repeat (first | (with_reducible first | exact HB.out | apply below_alloc | apply pw_below_drewN | apply below_drew1) | exact HB.out)⟩⟩
    · rw [if_neg c5] at H
      have c5b0 : decide (1100 < (l0.length : Int)) = false := decide_eq_false c5
      have c5b1 : decide (1100 < l0.length) = false := decide_eq_false (by omega)
      clear c5
      (first | rw [c5b0] | (simp only [i64_w, i32_w]; rw [c5b0]) | skip)
      have H' := Aside0.mk H
      clear H
      go_wp2
      go_meet
      case rel => exact ⟨_, (decide ((l1.length : Int) > 1100)), (by first | rfl | (simp; done) | (simp [*]; done)), H', ⟨by first | omega | exact Nat.le_refl _⟩, ⟨by repeat (first | (with_reducible first | exact HB.out | apply below_alloc | apply pw_below_drewN | apply below_drew1) | exact HB.out)⟩⟩
  case rest =>
    clear HC4
    try clear c1
    try clear p2
    try clear c5
    try clear c5b0
    try clear c5b1
    obtain ⟨kq, x21_3, rfl, HA, HJ3, HB⟩ := hcut
    cases kq with
    | zero => exact absurd HA.out (by simp [dataflowlaw01_BitsOwn.j0])
    | succ kj3 =>
      have H := HA.out
      clear HA
      simp only [dataflowlaw01_BitsOwn.j0] at H
      by_cases c6 : x21_3 = true
      · subst c6
        have H1 : ((dataflowlaw01_awake.f kj3).bind fun t159 => (some t159)) = some r := by rw [if_pos rfl] at H; exact H
        clear H
        have H := H1
        clear H1
        replace H := Option.bind_eq_some_iff.mp H
        obtain ⟨t159, A70, H⟩ := H
        replace H : (some t159) = some r := H
        have A7 := Aside0.mk A70
        clear A70
        obtain rfl := Option.some.inj H
        go_wp2_with (first | ((with_reducible refine gate_callee (f := 10) rfl ?_); refine goesL_ (some 22) rfl rfl Tryd.func10 (by kernel_rfl) rfl #[] rfl (by (try simp only [List.map_toArray, List.map_cons, List.map_nil]); first | done | rfl | (simp only [List.length_drop, List.length_take]; rfl)) ?_; (with_reducible refine (dataflowlaw01_awake.calls kj3  t159 _ A7.out ?sideT).mono ?_); (case sideT => exact HT_.out.below (by repeat (first | (with_reducible first | exact HB.out | exact Below.refl _ _ | apply below_alloc | apply pw_below_drewN | apply below_drew1) | exact HB.out | exact Below.refl _ _))); rintro e w8 ⟨rfl, hb⟩; refine ⟨_, rfl, ?_⟩; have n0_ := Aside0.mk (below_step (by repeat (first | (with_reducible first | exact HB.out | apply below_alloc | apply pw_below_drewN | apply below_drew1) | exact HB.out)) hb); clear HB; have HB := n0_; clear n0_; (try clear hb); (try clear hb2); (try clear hk); (try clear hi)))
        go_ret
        exact ⟨by first | rfl | (simp [errW_none, errW_some] <;> rfl) | (simp [*, errW_none, errW_some] <;> rfl), by repeat (first | (with_reducible first | exact HB.out | apply below_alloc | apply pw_below_drewN | apply below_drew1) | exact HB.out)⟩
      · replace c6 := Bool.eq_false_iff.mpr c6
        subst c6
        have H1 : ((some (([] : List Int) : List Int)).bind fun y160 => (if y160.length + l0.length < 17592186044416 then ((some (y160 ++ l0 : List Int)).bind fun y163 => ((some (([] : List Int) : List Int)).bind fun y166 => (if y166.length + l1.length < 17592186044416 then ((some (y166 ++ l1 : List Int)).bind fun y169 => ((bits_Union.f kj3 y163 y169).bind fun t172 => ((bits_Minus.f kj3 y163 y169).bind fun t175 => ((bits_Both.f kj3 y163 y169).bind fun t178 => ((bits_Without.f y163 a2).bind fun t181 => ((bits_With.f y163 a2).bind fun bt187 => (if (([t172, t175, t178, t181] : List (List Int))).length < 5864062014805 then ((dataflowref01_Equal.f kj3 y163 l0).bind fun t194 => (if t194 = true then ((dataflowref01_Equal.f kj3 y169 l1).bind fun t195 => (if t195 = true then ((dataflowlaw01_awake.f kj3).bind fun t196 => (some t196)) else (some false))) else (some false))) else (none)))))))) else (none)))) else (none))) = some r := by rw [if_neg (show ¬ (false = true) by decide)] at H; exact H
        clear H
        have H := H1
        clear H1
        obtain ⟨y160, hy160⟩ : ∃ y_ : List Int, y_ = (([] : List Int)) := ⟨_, rfl⟩
        replace H : (if y160.length + l0.length < 17592186044416 then ((some (y160 ++ l0 : List Int)).bind fun y163 => ((some (([] : List Int) : List Int)).bind fun y166 => (if y166.length + l1.length < 17592186044416 then ((some (y166 ++ l1 : List Int)).bind fun y169 => ((bits_Union.f kj3 y163 y169).bind fun t172 => ((bits_Minus.f kj3 y163 y169).bind fun t175 => ((bits_Both.f kj3 y163 y169).bind fun t178 => ((bits_Without.f y163 a2).bind fun t181 => ((bits_With.f y163 a2).bind fun bt187 => (if (([t172, t175, t178, t181] : List (List Int))).length < 5864062014805 then ((dataflowref01_Equal.f kj3 y163 l0).bind fun t194 => (if t194 = true then ((dataflowref01_Equal.f kj3 y169 l1).bind fun t195 => (if t195 = true then ((dataflowlaw01_awake.f kj3).bind fun t196 => (some t196)) else (some false))) else (some false))) else (none)))))))) else (none)))) else (none)) = some r := by first | (rw [hy160]; with_reducible exact H) | (have H2_ := (Option.bind_some _ _).symm.trans H; rw [hy160]; with_reducible exact H2_) | (have H2_ := (Option.bind_some _ _).symm.trans H; with_reducible exact H2_) | with_reducible exact H | (rw [hy160]; exact H) | exact H
        have Ny160 := Aside0.mk hy160
        clear hy160
        by_cases c9 : y160.length + l0.length < 17592186044416
        · rw [if_pos c9] at H
          have LMc9 := Aside0.mk c9
          clear c9
          obtain ⟨y163, hy163⟩ : ∃ y_ : List Int, y_ = (y160 ++ l0) := ⟨_, rfl⟩
          replace H : ((some (([] : List Int) : List Int)).bind fun y166 => (if y166.length + l1.length < 17592186044416 then ((some (y166 ++ l1 : List Int)).bind fun y169 => ((bits_Union.f kj3 y163 y169).bind fun t172 => ((bits_Minus.f kj3 y163 y169).bind fun t175 => ((bits_Both.f kj3 y163 y169).bind fun t178 => ((bits_Without.f y163 a2).bind fun t181 => ((bits_With.f y163 a2).bind fun bt187 => (if (([t172, t175, t178, t181] : List (List Int))).length < 5864062014805 then ((dataflowref01_Equal.f kj3 y163 l0).bind fun t194 => (if t194 = true then ((dataflowref01_Equal.f kj3 y169 l1).bind fun t195 => (if t195 = true then ((dataflowlaw01_awake.f kj3).bind fun t196 => (some t196)) else (some false))) else (some false))) else (none)))))))) else (none))) = some r := by first | (rw [hy163]; with_reducible exact H) | (have H2_ := (Option.bind_some _ _).symm.trans H; rw [hy163]; with_reducible exact H2_) | (have H2_ := (Option.bind_some _ _).symm.trans H; with_reducible exact H2_) | with_reducible exact H | (rw [hy163]; exact H) | exact H
          have Ny163 := Aside0.mk hy163
          clear hy163
          obtain ⟨y166, hy166⟩ : ∃ y_ : List Int, y_ = (([] : List Int)) := ⟨_, rfl⟩
          replace H : (if y166.length + l1.length < 17592186044416 then ((some (y166 ++ l1 : List Int)).bind fun y169 => ((bits_Union.f kj3 y163 y169).bind fun t172 => ((bits_Minus.f kj3 y163 y169).bind fun t175 => ((bits_Both.f kj3 y163 y169).bind fun t178 => ((bits_Without.f y163 a2).bind fun t181 => ((bits_With.f y163 a2).bind fun bt187 => (if (([t172, t175, t178, t181] : List (List Int))).length < 5864062014805 then ((dataflowref01_Equal.f kj3 y163 l0).bind fun t194 => (if t194 = true then ((dataflowref01_Equal.f kj3 y169 l1).bind fun t195 => (if t195 = true then ((dataflowlaw01_awake.f kj3).bind fun t196 => (some t196)) else (some false))) else (some false))) else (none)))))))) else (none)) = some r := by first | (rw [hy166]; with_reducible exact H) | (have H2_ := (Option.bind_some _ _).symm.trans H; rw [hy166]; with_reducible exact H2_) | (have H2_ := (Option.bind_some _ _).symm.trans H; with_reducible exact H2_) | with_reducible exact H | (rw [hy166]; exact H) | exact H
          have Ny166 := Aside0.mk hy166
          clear hy166
          by_cases c10 : y166.length + l1.length < 17592186044416
          · rw [if_pos c10] at H
            have LMc10 := Aside0.mk c10
            clear c10
            obtain ⟨y169, hy169⟩ : ∃ y_ : List Int, y_ = (y166 ++ l1) := ⟨_, rfl⟩
            replace H : ((bits_Union.f kj3 y163 y169).bind fun t172 => ((bits_Minus.f kj3 y163 y169).bind fun t175 => ((bits_Both.f kj3 y163 y169).bind fun t178 => ((bits_Without.f y163 a2).bind fun t181 => ((bits_With.f y163 a2).bind fun bt187 => (if (([t172, t175, t178, t181] : List (List Int))).length < 5864062014805 then ((dataflowref01_Equal.f kj3 y163 l0).bind fun t194 => (if t194 = true then ((dataflowref01_Equal.f kj3 y169 l1).bind fun t195 => (if t195 = true then ((dataflowlaw01_awake.f kj3).bind fun t196 => (some t196)) else (some false))) else (some false))) else (none))))))) = some r := by first | (rw [hy169]; with_reducible exact H) | (have H2_ := (Option.bind_some _ _).symm.trans H; rw [hy169]; with_reducible exact H2_) | (have H2_ := (Option.bind_some _ _).symm.trans H; with_reducible exact H2_) | with_reducible exact H | (rw [hy169]; exact H) | exact H
            have Ny169 := Aside0.mk hy169
            clear hy169
            replace H := Option.bind_eq_some_iff.mp H
            obtain ⟨t172, A110, H⟩ := H
            replace H : ((bits_Minus.f kj3 y163 y169).bind fun t175 => ((bits_Both.f kj3 y163 y169).bind fun t178 => ((bits_Without.f y163 a2).bind fun t181 => ((bits_With.f y163 a2).bind fun bt187 => (if (([t172, t175, t178, t181] : List (List Int))).length < 5864062014805 then ((dataflowref01_Equal.f kj3 y163 l0).bind fun t194 => (if t194 = true then ((dataflowref01_Equal.f kj3 y169 l1).bind fun t195 => (if t195 = true then ((dataflowlaw01_awake.f kj3).bind fun t196 => (some t196)) else (some false))) else (some false))) else (none)))))) = some r := H
            have A11 := Aside0.mk A110
            clear A110
            replace H := Option.bind_eq_some_iff.mp H
            obtain ⟨t175, A120, H⟩ := H
            replace H : ((bits_Both.f kj3 y163 y169).bind fun t178 => ((bits_Without.f y163 a2).bind fun t181 => ((bits_With.f y163 a2).bind fun bt187 => (if (([t172, t175, t178, t181] : List (List Int))).length < 5864062014805 then ((dataflowref01_Equal.f kj3 y163 l0).bind fun t194 => (if t194 = true then ((dataflowref01_Equal.f kj3 y169 l1).bind fun t195 => (if t195 = true then ((dataflowlaw01_awake.f kj3).bind fun t196 => (some t196)) else (some false))) else (some false))) else (none))))) = some r := H
            have A12 := Aside0.mk A120
            clear A120
            replace H := Option.bind_eq_some_iff.mp H
            obtain ⟨t178, A130, H⟩ := H
            replace H : ((bits_Without.f y163 a2).bind fun t181 => ((bits_With.f y163 a2).bind fun bt187 => (if (([t172, t175, t178, t181] : List (List Int))).length < 5864062014805 then ((dataflowref01_Equal.f kj3 y163 l0).bind fun t194 => (if t194 = true then ((dataflowref01_Equal.f kj3 y169 l1).bind fun t195 => (if t195 = true then ((dataflowlaw01_awake.f kj3).bind fun t196 => (some t196)) else (some false))) else (some false))) else (none)))) = some r := H
            have A13 := Aside0.mk A130
            clear A130
            replace H := Option.bind_eq_some_iff.mp H
            obtain ⟨t181, A140, H⟩ := H
            replace H : ((bits_With.f y163 a2).bind fun bt187 => (if (([t172, t175, t178, t181] : List (List Int))).length < 5864062014805 then ((dataflowref01_Equal.f kj3 y163 l0).bind fun t194 => (if t194 = true then ((dataflowref01_Equal.f kj3 y169 l1).bind fun t195 => (if t195 = true then ((dataflowlaw01_awake.f kj3).bind fun t196 => (some t196)) else (some false))) else (some false))) else (none))) = some r := H
            have A14 := Aside0.mk A140
            clear A140
            obtain ⟨y184, hy184⟩ : ∃ y_ : List (List Int), y_ = (([t172, t175, t178, t181] : List (List Int))) := ⟨_, rfl⟩
            replace H : ((bits_With.f y163 a2).bind fun bt187 => (if y184.length < 5864062014805 then ((dataflowref01_Equal.f kj3 y163 l0).bind fun t194 => (if t194 = true then ((dataflowref01_Equal.f kj3 y169 l1).bind fun t195 => (if t195 = true then ((dataflowlaw01_awake.f kj3).bind fun t196 => (some t196)) else (some false))) else (some false))) else (none))) = some r := by first | (rw [hy184]; with_reducible exact H) | (have H2_ := (Option.bind_some _ _).symm.trans H; rw [hy184]; with_reducible exact H2_) | (have H2_ := (Option.bind_some _ _).symm.trans H; with_reducible exact H2_) | with_reducible exact H | (rw [hy184]; exact H) | exact H
            have Ny184 := Aside0.mk hy184
            clear hy184
            replace H := Option.bind_eq_some_iff.mp H
            obtain ⟨⟨t187, t190⟩, A150, H⟩ := H
            replace H : (if y184.length < 5864062014805 then ((dataflowref01_Equal.f kj3 y163 l0).bind fun t194 => (if t194 = true then ((dataflowref01_Equal.f kj3 y169 l1).bind fun t195 => (if t195 = true then ((dataflowlaw01_awake.f kj3).bind fun t196 => (some t196)) else (some false))) else (some false))) else (none)) = some r := H
            have A15 := Aside0.mk A150
            clear A150
            by_cases c16 : y184.length < 5864062014805
            · rw [if_pos c16] at H
              have LMc16 := Aside0.mk c16
              clear c16
              obtain ⟨y191, hy191⟩ : ∃ y_ : List (List Int), y_ = (y184 ++ [t187]) := ⟨_, rfl⟩
              replace H : ((dataflowref01_Equal.f kj3 y163 l0).bind fun t194 => (if t194 = true then ((dataflowref01_Equal.f kj3 y169 l1).bind fun t195 => (if t195 = true then ((dataflowlaw01_awake.f kj3).bind fun t196 => (some t196)) else (some false))) else (some false))) = some r := by first | (rw [hy191]; with_reducible exact H) | (have H2_ := (Option.bind_some _ _).symm.trans H; rw [hy191]; with_reducible exact H2_) | (have H2_ := (Option.bind_some _ _).symm.trans H; with_reducible exact H2_) | with_reducible exact H | (rw [hy191]; exact H) | exact H
              have Ny191 := Aside0.mk hy191
              clear hy191
              replace H := Option.bind_eq_some_iff.mp H
              obtain ⟨t194, A170, H⟩ := H
              replace H : (if t194 = true then ((dataflowref01_Equal.f kj3 y169 l1).bind fun t195 => (if t195 = true then ((dataflowlaw01_awake.f kj3).bind fun t196 => (some t196)) else (some false))) else (some false)) = some r := H
              have A17 := Aside0.mk A170
              clear A170
              by_cases c18 : t194 = true
              · subst c18
                have H1 : ((dataflowref01_Equal.f kj3 y169 l1).bind fun t195 => (if t195 = true then ((dataflowlaw01_awake.f kj3).bind fun t196 => (some t196)) else (some false))) = some r := by rw [if_pos rfl] at H; exact H
                clear H
                have H := H1
                clear H1
                replace H := Option.bind_eq_some_iff.mp H
                obtain ⟨t195, A190, H⟩ := H
                replace H : (if t195 = true then ((dataflowlaw01_awake.f kj3).bind fun t196 => (some t196)) else (some false)) = some r := H
                have A19 := Aside0.mk A190
                clear A190
                by_cases c20 : t195 = true
                · subst c20
                  have H1 : ((dataflowlaw01_awake.f kj3).bind fun t196 => (some t196)) = some r := by rw [if_pos rfl] at H; exact H
                  clear H
                  have H := H1
                  clear H1
                  replace H := Option.bind_eq_some_iff.mp H
                  obtain ⟨t196, A210, H⟩ := H
                  replace H : (some t196) = some r := H
                  have A21 := Aside0.mk A210
                  clear A210
                  obtain rfl := Option.some.inj H
                  go_wp2_with (first | ((with_reducible refine gate_dst (N := 23) rfl ?_); (try (refine gate_guard (by rfl) ?_; dsimp only)); refine Kd.R_lit (Kd.int .u64) _ 54 ?hg (N := 23) ?hd (xs := ([] : List Int)) (inner := []) (ok := fun _ => True) (okp := fun _ => True) ?hr ?hp (fun _ hk => hk) trivial (Below.refl _ _) (Nat.le_refl _) (by simp) ?_; (case hd => rfl); (case hg => rfl); (case hr => first | (go_simp; done) | (go_simp; rfl)); (case hp => exact (Reps.none _ _)); intro v161 w22 ho23 hb hg_ hnew_; clear hg_ hnew_; (first | rw [← Ny160.out] at ho23 | (simp only [Int.reduceToNat] at ho23; rw [← Ny160.out] at ho23)); have n0_ := Aside0.mk (Kd.R_lower ho23 (below_size (by repeat (first | (with_reducible first | exact HB.out | apply below_alloc | apply pw_below_drewN | apply below_drew1) | exact HB.out)))); have n1_ := Aside0.mk (below_step (by repeat (first | (with_reducible first | exact HB.out | apply below_alloc | apply pw_below_drewN | apply below_drew1) | exact HB.out)) hb); clear HB; have HO162 := n0_; have HB := n1_; clear n0_ n1_; clear hb ho23) | ((with_reducible refine gate_builtin (b := .append) (xs := #[.tmp 23, .tmp 24]) rfl ?_); (try (refine gate_guard (by rfl) ?_; dsimp only)); at_builtin; refine Kd.R_append_rows (Kd.int .u64) (w0 := w) w.heap.size rfl (.tmp 23) (.tmp 24) 26 54 (.int .u64 0) 8 rfl Tryd.underlying26 info54 rfl (by decide) (by omega) v161 y160 l0 _ _ _ (fun _ => True) (fun _ => False) rfl rfl ?aO ?aR (fun _ _ h => h) (fun _ h => h.elim) ?aF ?aB ?aS ?aL ?_; (case aR => repeat (first | exact (Kd.C_below HR0.out HB.out) | (with_reducible refine Kd.C_alloc ?_ _) | (with_reducible refine Kd.C_drewN ?_ _) | (with_reducible refine Kd.C_drew ?_))); (case aB => exact (by repeat (first | (with_reducible first | exact HB.out | apply below_alloc | apply pw_below_drewN | apply below_drew1) | exact HB.out))); (case aF => exact (fun _ _ => trivial)); (case aO => exact (by (with_reducible repeat (first | apply Kd.R_alloc | apply Kd.R_drewN | apply Kd.R_drew)); exact HO162.out)); (case aS => exact (below_size (by repeat (first | (with_reducible first | exact HB.out | apply below_alloc | apply pw_below_drewN | apply below_drew1) | exact HB.out)))); (case aL => have := LMc9.out; omega); intro v164 w24 ho hb hg hat; rw [← Ny163.out] at ho; have n0_ := Aside0.mk (hb); have n1_ := Aside0.mk (ho); clear HB; clear HO162; have HB := n0_; have HO165 := n1_; clear n0_ n1_; clear ho hb hg hat) | ((with_reducible refine gate_dst (N := 26) rfl ?_); (try (refine gate_guard (by rfl) ?_; dsimp only)); refine Kd.R_lit (Kd.int .u64) _ 54 ?hg (N := 26) ?hd (xs := ([] : List Int)) (inner := []) (ok := fun _ => True) (okp := fun _ => True) ?hr ?hp (fun _ hk => hk) trivial (Below.refl _ _) (Nat.le_refl _) (by simp) ?_; (case hd => rfl); (case hg => rfl); (case hr => first | (go_simp; done) | (go_simp; rfl)); (case hp => exact (Reps.none _ _)); intro v167 w25 ho26 hb hg_ hnew_; clear hg_ hnew_; (first | rw [← Ny166.out] at ho26 | (simp only [Int.reduceToNat] at ho26; rw [← Ny166.out] at ho26)); have n0_ := Aside0.mk (Kd.R_elder' (by (with_reducible repeat (first | apply Kd.R_alloc | apply Kd.R_drewN | apply Kd.R_drew)); exact HO165.out) (Kd.R_base ho26) hb); have n1_ := Aside0.mk (Kd.R_lower (Kd.R_new' ho26 (Kd.R_lt (by (with_reducible repeat (first | apply Kd.R_alloc | apply Kd.R_drewN | apply Kd.R_drew)); exact HO165.out))) (below_size (by repeat (first | (with_reducible first | exact HB.out | apply below_alloc | apply pw_below_drewN | apply below_drew1) | exact HB.out)))); have n2_ := Aside0.mk (below_step (by repeat (first | (with_reducible first | exact HB.out | apply below_alloc | apply pw_below_drewN | apply below_drew1) | exact HB.out)) hb); clear HO165; clear HB; have HO165 := n0_; have HO168 := n1_; have HB := n2_; clear n0_ n1_ n2_; clear hb ho26) | ((with_reducible refine gate_builtin (b := .append) (xs := #[.tmp 26, .tmp 27]) rfl ?_); (try (refine gate_guard (by rfl) ?_; dsimp only)); at_builtin; refine Kd.R_append_rows (Kd.int .u64) (w0 := w) w.heap.size rfl (.tmp 26) (.tmp 27) 26 54 (.int .u64 0) 8 rfl Tryd.underlying26 info54 rfl (by decide) (by omega) v167 y166 l1 _ _ _ (fun k_ => some k_ ≠ (v164 : Value).ownBlock) (fun _ => False) rfl rfl ?aO ?aR (fun _ _ h => h) (fun _ h => h.elim) ?aF ?aB ?aS ?aL ?_; (case aR => repeat (first | exact (Kd.C_below HR1.out HB.out) | (with_reducible refine Kd.C_alloc ?_ _) | (with_reducible refine Kd.C_drewN ?_ _) | (with_reducible refine Kd.C_drew ?_))); (case aB => exact (by repeat (first | (with_reducible first | exact HB.out | apply below_alloc | apply pw_below_drewN | apply below_drew1) | exact HB.out))); (case aF => exact (fun k_ hk => Kd.fresh' (Kd.R_lt (by (with_reducible repeat (first | apply Kd.R_alloc | apply Kd.R_drewN | apply Kd.R_drew)); exact HO165.out)) k_ hk)); (case aO => exact (by (with_reducible repeat (first | apply Kd.R_alloc | apply Kd.R_drewN | apply Kd.R_drew)); exact Kd.R_mono HO168.out (fun _ hk => hk.2))); (case aS => exact (below_size (by repeat (first | (with_reducible first | exact HB.out | apply below_alloc | apply pw_below_drewN | apply below_drew1) | exact HB.out)))); (case aL => have := LMc10.out; omega); intro v170 w27 ho hb hg hat; rw [← Ny169.out] at ho; have n0_ := Aside0.mk (Kd.R_after (ok := (fun _ => True)) (by (with_reducible repeat (first | apply Kd.R_alloc | apply Kd.R_drewN | apply Kd.R_drew)); exact HO165.out) hg hat); have n1_ := Aside0.mk (hb); have n2_ := Aside0.mk (ho); clear HO165; clear HB; clear HO168; have HO165 := n0_; have HB := n1_; have HO171 := n2_; clear n0_ n1_ n2_; clear ho hb hg hat; obtain ⟨Ao28, co28, eo28⟩ := Kd.R_slice HO165.out; subst eo28; obtain ⟨Ao29, co29, eo29⟩ := Kd.R_slice HO171.out; subst eo29) | ((with_reducible refine gate_callee (f := 26) rfl ?_); refine goesL_ (some 31) rfl rfl Tryd.func26 (by kernel_rfl) rfl #[.slice Ao28 y163.length co28, .slice Ao29 y169.length co29] rfl (by (try simp only [List.map_toArray, List.map_cons, List.map_nil]); first | done | rfl | (simp only [List.length_drop, List.length_take]; rfl)) ?_; (with_reducible refine (bits_Union.calls kj3 _ _ y163 _ _ y169 t172 _ ?side1 ?side2 ?side3 ?side4 A11.out).mono ?_); (case side1 => repeat (first | exact (Kd.R_reads' HO165.out).2.2 | (with_reducible refine Kd.C_alloc ?_ _) | (with_reducible refine Kd.C_drewN ?_ _) | (with_reducible refine Kd.C_drew ?_))); (case side2 => exact (Kd.R_reads' HO165.out).2.1); (case side3 => repeat (first | exact (Kd.R_reads' HO171.out).2.2 | (with_reducible refine Kd.C_alloc ?_ _) | (with_reducible refine Kd.C_drewN ?_ _) | (with_reducible refine Kd.C_drew ?_))); (case side4 => exact (Kd.R_reads' HO171.out).2.1); rintro e w30 ⟨v173, rfl, ho0, hb⟩; refine ⟨_, rfl, ?_⟩; have BS173 := Aside0.mk (Bs.of ho0 (below_size (by repeat (first | (with_reducible first | exact HB.out | apply below_alloc | apply pw_below_drewN | apply below_drew1) | exact HB.out)))); have n0_ := Aside0.mk (Kd.R_below (by (with_reducible repeat (first | apply Kd.R_alloc | apply Kd.R_drewN | apply Kd.R_drew)); exact HO165.out) hb); have n1_ := Aside0.mk (Kd.R_below (by (with_reducible repeat (first | apply Kd.R_alloc | apply Kd.R_drewN | apply Kd.R_drew)); exact HO171.out) hb); have n2_ := Aside0.mk (WV_lower (WV_mono (ok' := fun k_ => some k_ ≠ (.slice Ao28 y163.length co28 : Value).ownBlock ∧ some k_ ≠ (.slice Ao29 y169.length co29 : Value).ownBlock) ho0 (fun k_ hk_ => ⟨(Kd.fresh' (Kd.R_lt (by (with_reducible repeat (first | apply Kd.R_alloc | apply Kd.R_drewN | apply Kd.R_drew)); exact HO165.out)) k_ hk_), (Kd.fresh' (Kd.R_lt (by (with_reducible repeat (first | apply Kd.R_alloc | apply Kd.R_drewN | apply Kd.R_drew)); exact HO171.out)) k_ hk_)⟩)) (below_size (by repeat (first | (with_reducible first | exact HB.out | apply below_alloc | apply pw_below_drewN | apply below_drew1) | exact HB.out)))); have n3_ := Aside0.mk (below_step (by repeat (first | (with_reducible first | exact HB.out | apply below_alloc | apply pw_below_drewN | apply below_drew1) | exact HB.out)) hb); clear HO165; clear HO171; clear HB; have HO165 := n0_; have HO171 := n1_; have HO174 := n2_; have HB := n3_; clear n0_ n1_ n2_ n3_; (try clear hb); (try clear hb2); (try clear hk); (try clear hi); (try clear ho0)) | ((with_reducible refine gate_callee (f := 27) rfl ?_); refine goesL_ (some 34) rfl rfl Tryd.func27 (by kernel_rfl) rfl #[.slice Ao28 y163.length co28, .slice Ao29 y169.length co29] rfl (by (try simp only [List.map_toArray, List.map_cons, List.map_nil]); first | done | rfl | (simp only [List.length_drop, List.length_take]; rfl)) ?_; (with_reducible refine (bits_Minus.calls kj3 _ _ y163 _ _ y169 t175 _ ?side1 ?side2 ?side3 ?side4 A12.out).mono ?_); (case side1 => repeat (first | exact (Kd.R_reads' HO165.out).2.2 | (with_reducible refine Kd.C_alloc ?_ _) | (with_reducible refine Kd.C_drewN ?_ _) | (with_reducible refine Kd.C_drew ?_))); (case side2 => exact (Kd.R_reads' HO165.out).2.1); (case side3 => repeat (first | exact (Kd.R_reads' HO171.out).2.2 | (with_reducible refine Kd.C_alloc ?_ _) | (with_reducible refine Kd.C_drewN ?_ _) | (with_reducible refine Kd.C_drew ?_))); (case side4 => exact (Kd.R_reads' HO171.out).2.1); rintro e w31 ⟨v176, rfl, ho0, hb⟩; refine ⟨_, rfl, ?_⟩; have BS176 := Aside0.mk (Bs.of ho0 (below_size (by repeat (first | (with_reducible first | exact HB.out | apply below_alloc | apply pw_below_drewN | apply below_drew1) | exact HB.out)))); have n0_ := Aside0.mk (Kd.R_below (by (with_reducible repeat (first | apply Kd.R_alloc | apply Kd.R_drewN | apply Kd.R_drew)); exact HO165.out) hb); have n1_ := Aside0.mk (Kd.R_below (by (with_reducible repeat (first | apply Kd.R_alloc | apply Kd.R_drewN | apply Kd.R_drew)); exact HO171.out) hb); have n2_ := Aside0.mk (WV_below (by (with_reducible repeat (first | apply WV_alloc | apply WV_drewN | apply WV_drew)); exact HO174.out) hb); have n3_ := Aside0.mk (WV_lower (WV_mono (ok' := fun k_ => some k_ ≠ (.slice Ao28 y163.length co28 : Value).ownBlock ∧ some k_ ≠ (.slice Ao29 y169.length co29 : Value).ownBlock) ho0 (fun k_ hk_ => ⟨(Kd.fresh' (Kd.R_lt (by (with_reducible repeat (first | apply Kd.R_alloc | apply Kd.R_drewN | apply Kd.R_drew)); exact HO165.out)) k_ hk_), (Kd.fresh' (Kd.R_lt (by (with_reducible repeat (first | apply Kd.R_alloc | apply Kd.R_drewN | apply Kd.R_drew)); exact HO171.out)) k_ hk_)⟩)) (below_size (by repeat (first | (with_reducible first | exact HB.out | apply below_alloc | apply pw_below_drewN | apply below_drew1) | exact HB.out)))); have n4_ := Aside0.mk (below_step (by repeat (first | (with_reducible first | exact HB.out | apply below_alloc | apply pw_below_drewN | apply below_drew1) | exact HB.out)) hb); clear HO165; clear HO171; clear HO174; clear HB; have HO165 := n0_; have HO171 := n1_; have HO174 := n2_; have HO177 := n3_; have HB := n4_; clear n0_ n1_ n2_ n3_ n4_; (try clear hb); (try clear hb2); (try clear hk); (try clear hi); (try clear ho0)) | ((with_reducible refine gate_callee (f := 29) rfl ?_); refine goesL_ (some 37) rfl rfl Tryd.func29 (by kernel_rfl) rfl #[.slice Ao28 y163.length co28, .slice Ao29 y169.length co29] rfl (by (try simp only [List.map_toArray, List.map_cons, List.map_nil]); first | done | rfl | (simp only [List.length_drop, List.length_take]; rfl)) ?_; (with_reducible refine (bits_Both.calls kj3 _ _ y163 _ _ y169 t178 _ ?side1 ?side2 ?side3 ?side4 A13.out).mono ?_); (case side1 => repeat (first | exact (Kd.R_reads' HO165.out).2.2 | (with_reducible refine Kd.C_alloc ?_ _) | (with_reducible refine Kd.C_drewN ?_ _) | (with_reducible refine Kd.C_drew ?_))); (case side2 => exact (Kd.R_reads' HO165.out).2.1); (case side3 => repeat (first | exact (Kd.R_reads' HO171.out).2.2 | (with_reducible refine Kd.C_alloc ?_ _) | (with_reducible refine Kd.C_drewN ?_ _) | (with_reducible refine Kd.C_drew ?_))); (case side4 => exact (Kd.R_reads' HO171.out).2.1); rintro e w32 ⟨v179, rfl, ho0, hb⟩; refine ⟨_, rfl, ?_⟩; have BS179 := Aside0.mk (Bs.of ho0 (below_size (by repeat (first | (with_reducible first | exact HB.out | apply below_alloc | apply pw_below_drewN | apply below_drew1) | exact HB.out)))); have n0_ := Aside0.mk (Kd.R_below (by (with_reducible repeat (first | apply Kd.R_alloc | apply Kd.R_drewN | apply Kd.R_drew)); exact HO165.out) hb); have n1_ := Aside0.mk (Kd.R_below (by (with_reducible repeat (first | apply Kd.R_alloc | apply Kd.R_drewN | apply Kd.R_drew)); exact HO171.out) hb); have n2_ := Aside0.mk (WV_below (by (with_reducible repeat (first | apply WV_alloc | apply WV_drewN | apply WV_drew)); exact HO174.out) hb); have n3_ := Aside0.mk (WV_below (by (with_reducible repeat (first | apply WV_alloc | apply WV_drewN | apply WV_drew)); exact HO177.out) hb); have n4_ := Aside0.mk (WV_lower (WV_mono (ok' := fun k_ => some k_ ≠ (.slice Ao28 y163.length co28 : Value).ownBlock ∧ some k_ ≠ (.slice Ao29 y169.length co29 : Value).ownBlock) ho0 (fun k_ hk_ => ⟨(Kd.fresh' (Kd.R_lt (by (with_reducible repeat (first | apply Kd.R_alloc | apply Kd.R_drewN | apply Kd.R_drew)); exact HO165.out)) k_ hk_), (Kd.fresh' (Kd.R_lt (by (with_reducible repeat (first | apply Kd.R_alloc | apply Kd.R_drewN | apply Kd.R_drew)); exact HO171.out)) k_ hk_)⟩)) (below_size (by repeat (first | (with_reducible first | exact HB.out | apply below_alloc | apply pw_below_drewN | apply below_drew1) | exact HB.out)))); have n5_ := Aside0.mk (below_step (by repeat (first | (with_reducible first | exact HB.out | apply below_alloc | apply pw_below_drewN | apply below_drew1) | exact HB.out)) hb); clear HO165; clear HO171; clear HO174; clear HO177; clear HB; have HO165 := n0_; have HO171 := n1_; have HO174 := n2_; have HO177 := n3_; have HO180 := n4_; have HB := n5_; clear n0_ n1_ n2_ n3_ n4_ n5_; (try clear hb); (try clear hb2); (try clear hk); (try clear hi); (try clear ho0)) | ((with_reducible refine gate_callee (f := 22) rfl ?_); refine goesL_ (some 40) rfl rfl Tryd.func22 (by kernel_rfl) rfl #[.slice Ao28 y163.length co28, .int .i64 a2] rfl (by (try simp only [List.map_toArray, List.map_cons, List.map_nil]); first | done | rfl | (simp only [List.length_drop, List.length_take]; rfl)) ?_; (with_reducible refine (bits_Without.calls _ _ y163 a2 t181 _ ?side1 ?side2 A14.out).mono ?_); (case side1 => repeat (first | exact (Kd.R_reads' HO165.out).2.2 | (with_reducible refine Kd.C_alloc ?_ _) | (with_reducible refine Kd.C_drewN ?_ _) | (with_reducible refine Kd.C_drew ?_))); (case side2 => exact (Kd.R_reads' HO165.out).2.1); rintro e w33 ⟨v182, rfl, ho0, hb⟩; refine ⟨_, rfl, ?_⟩; have BS182 := Aside0.mk (Bs.of ho0 (below_size (by repeat (first | (with_reducible first | exact HB.out | apply below_alloc | apply pw_below_drewN | apply below_drew1) | exact HB.out)))); have n0_ := Aside0.mk (Kd.R_below (by (with_reducible repeat (first | apply Kd.R_alloc | apply Kd.R_drewN | apply Kd.R_drew)); exact HO165.out) hb); have n1_ := Aside0.mk (Kd.R_below (by (with_reducible repeat (first | apply Kd.R_alloc | apply Kd.R_drewN | apply Kd.R_drew)); exact HO171.out) hb); have n2_ := Aside0.mk (WV_below (by (with_reducible repeat (first | apply WV_alloc | apply WV_drewN | apply WV_drew)); exact HO174.out) hb); have n3_ := Aside0.mk (WV_below (by (with_reducible repeat (first | apply WV_alloc | apply WV_drewN | apply WV_drew)); exact HO177.out) hb); have n4_ := Aside0.mk (WV_below (by (with_reducible repeat (first | apply WV_alloc | apply WV_drewN | apply WV_drew)); exact HO180.out) hb); have n5_ := Aside0.mk (WV_lower (WV_mono (ok' := fun k_ => some k_ ≠ (.slice Ao28 y163.length co28 : Value).ownBlock ∧ some k_ ≠ (.slice Ao29 y169.length co29 : Value).ownBlock) ho0 (fun k_ hk_ => ⟨(Kd.fresh' (Kd.R_lt (by (with_reducible repeat (first | apply Kd.R_alloc | apply Kd.R_drewN | apply Kd.R_drew)); exact HO165.out)) k_ hk_), (Kd.fresh' (Kd.R_lt (by (with_reducible repeat (first | apply Kd.R_alloc | apply Kd.R_drewN | apply Kd.R_drew)); exact HO171.out)) k_ hk_)⟩)) (below_size (by repeat (first | (with_reducible first | exact HB.out | apply below_alloc | apply pw_below_drewN | apply below_drew1) | exact HB.out)))); have n6_ := Aside0.mk (below_step (by repeat (first | (with_reducible first | exact HB.out | apply below_alloc | apply pw_below_drewN | apply below_drew1) | exact HB.out)) hb); clear HO165; clear HO171; clear HO174; clear HO177; clear HO180; clear HB; have HO165 := n0_; have HO171 := n1_; have HO174 := n2_; have HO177 := n3_; have HO180 := n4_; have HO183 := n5_; have HB := n6_; clear n0_ n1_ n2_ n3_ n4_ n5_ n6_; (try clear hb); (try clear hb2); (try clear hk); (try clear hi); (try clear ho0); obtain ⟨Ao34, co34, eo34⟩ := WV_slice HO174.out; subst eo34; obtain ⟨Ao35, co35, eo35⟩ := WV_slice HO177.out; subst eo35; obtain ⟨Ao36, co36, eo36⟩ := WV_slice HO180.out; subst eo36; obtain ⟨Ao37, co37, eo37⟩ := WV_slice HO183.out; subst eo37) | ((with_reducible refine gate_dst (N := 41) rfl ?_); (try (refine gate_guard (by rfl) ?_; dsimp only)); refine Kd.R_lit KdS _ 25 ?hg (N := 41) ?hd (xs := [(Ao34, t172.length, co34), (Ao35, t175.length, co35), (Ao36, t178.length, co36), (Ao37, t181.length, co37)]) (inner := [.slice Ao34 t172.length co34, .slice Ao35 t175.length co35, .slice Ao36 t178.length co36, .slice Ao37 t181.length co37]) (ok := (fun k_ => some k_ ≠ (.slice Ao28 y163.length co28 : Value).ownBlock ∧ some k_ ≠ (.slice Ao29 y169.length co29 : Value).ownBlock)) (okp := (fun k_ => some k_ ≠ (.slice Ao28 y163.length co28 : Value).ownBlock ∧ some k_ ≠ (.slice Ao29 y169.length co29 : Value).ownBlock)) ?hr ?hp (fun _ hk => hk) ((show ∀ k_, w33.heap.size ≤ k_ → (fun k_ => some k_ ≠ (.slice Ao28 y163.length co28 : Value).ownBlock ∧ some k_ ≠ (.slice Ao29 y169.length co29 : Value).ownBlock) k_ from fun k_ hk => ⟨Kd.fresh' (Kd.R_lt (by (with_reducible repeat (first | apply Kd.R_alloc | apply Kd.R_drewN | apply Kd.R_drew)); exact HO165.out)) k_ hk, Kd.fresh' (Kd.R_lt (by (with_reducible repeat (first | apply Kd.R_alloc | apply Kd.R_drewN | apply Kd.R_drew)); exact HO171.out)) k_ hk⟩) _ (Nat.le_refl _)) (Below.refl _ _) (Nat.le_refl _) (by simp) ?_; (case hd => rfl); (case hg => rfl); (case hr => first | (go_simp; done) | (go_simp; rfl)); (case hp => exact scalar_reps _); intro v185 w38 ho39 hb hg_ hnew_; clear hg_ hnew_; have n0_ := Aside0.mk (Kd.R_below (by (with_reducible repeat (first | apply Kd.R_alloc | apply Kd.R_drewN | apply Kd.R_drew)); exact HO165.out) hb); have n1_ := Aside0.mk (Kd.R_below (by (with_reducible repeat (first | apply Kd.R_alloc | apply Kd.R_drewN | apply Kd.R_drew)); exact HO171.out) hb); have n2_ := Aside0.mk (WV_elder' (by (with_reducible repeat (first | apply WV_alloc | apply WV_drewN | apply WV_drew)); exact HO174.out) (Kd.R_base ho39) hb); have n3_ := Aside0.mk (WV_elder' (by (with_reducible repeat (first | apply WV_alloc | apply WV_drewN | apply WV_drew)); exact HO177.out) (Kd.R_base ho39) hb); have n4_ := Aside0.mk (WV_elder' (by (with_reducible repeat (first | apply WV_alloc | apply WV_drewN | apply WV_drew)); exact HO180.out) (Kd.R_base ho39) hb); have n5_ := Aside0.mk (WV_elder' (by (with_reducible repeat (first | apply WV_alloc | apply WV_drewN | apply WV_drew)); exact HO183.out) (Kd.R_base ho39) hb); have n6_ := Aside0.mk (Kd.R_lower ho39 (below_size (by repeat (first | (with_reducible first | exact HB.out | apply below_alloc | apply pw_below_drewN | apply below_drew1) | exact HB.out)))); have n7_ := Aside0.mk (below_step (by repeat (first | (with_reducible first | exact HB.out | apply below_alloc | apply pw_below_drewN | apply below_drew1) | exact HB.out)) hb); clear HO165; clear HO171; clear HO174; clear HO177; clear HO180; clear HO183; clear HB; have HO165 := n0_; have HO171 := n1_; have HO174 := n2_; have HO177 := n3_; have HO180 := n4_; have HO183 := n5_; have HO186 := n6_; have HB := n7_; clear n0_ n1_ n2_ n3_ n4_ n5_ n6_ n7_; clear hb ho39) | ((with_reducible refine gate_callee (f := 21) rfl ?_); refine goesL_ (some 45) rfl rfl Tryd.func21 (by kernel_rfl) rfl #[.slice Ao28 y163.length co28, .int .i64 a2] rfl (by (try simp only [List.map_toArray, List.map_cons, List.map_nil]); first | done | rfl | (simp only [List.length_drop, List.length_take]; rfl)) ?_; (with_reducible refine (bits_With.calls _ _ y163 a2 t187 t190 _ ?side1 ?side2 A15.out).mono ?_); (case side1 => repeat (first | exact (Kd.R_reads' HO165.out).2.2 | (with_reducible refine Kd.C_alloc ?_ _) | (with_reducible refine Kd.C_drewN ?_ _) | (with_reducible refine Kd.C_drew ?_))); (case side2 => exact (Kd.R_reads' HO165.out).2.1); rintro e w40 ⟨v188, rfl, ho0, hb⟩; refine ⟨_, rfl, ?_⟩; have BS188 := Aside0.mk (Bs.of ho0 (below_size (by repeat (first | (with_reducible first | exact HB.out | apply below_alloc | apply pw_below_drewN | apply below_drew1) | exact HB.out)))); have n0_ := Aside0.mk (Kd.R_below (by (with_reducible repeat (first | apply Kd.R_alloc | apply Kd.R_drewN | apply Kd.R_drew)); exact HO165.out) hb); have n1_ := Aside0.mk (Kd.R_below (by (with_reducible repeat (first | apply Kd.R_alloc | apply Kd.R_drewN | apply Kd.R_drew)); exact HO171.out) hb); have n2_ := Aside0.mk (WV_below (by (with_reducible repeat (first | apply WV_alloc | apply WV_drewN | apply WV_drew)); exact HO174.out) hb); have n3_ := Aside0.mk (WV_below (by (with_reducible repeat (first | apply WV_alloc | apply WV_drewN | apply WV_drew)); exact HO177.out) hb); have n4_ := Aside0.mk (WV_below (by (with_reducible repeat (first | apply WV_alloc | apply WV_drewN | apply WV_drew)); exact HO180.out) hb); have n5_ := Aside0.mk (WV_below (by (with_reducible repeat (first | apply WV_alloc | apply WV_drewN | apply WV_drew)); exact HO183.out) hb); have n6_ := Aside0.mk (Kd.R_below (by (with_reducible repeat (first | apply Kd.R_alloc | apply Kd.R_drewN | apply Kd.R_drew)); exact HO186.out) hb); have n7_ := Aside0.mk (WV_lower (WV_mono (ok' := fun k_ => some k_ ≠ (.slice Ao28 y163.length co28 : Value).ownBlock ∧ some k_ ≠ (.slice Ao29 y169.length co29 : Value).ownBlock ∧ some k_ ≠ (v185 : Value).ownBlock) ho0 (fun k_ hk_ => ⟨(Kd.fresh' (Kd.R_lt (by (with_reducible repeat (first | apply Kd.R_alloc | apply Kd.R_drewN | apply Kd.R_drew)); exact HO165.out)) k_ hk_), (Kd.fresh' (Kd.R_lt (by (with_reducible repeat (first | apply Kd.R_alloc | apply Kd.R_drewN | apply Kd.R_drew)); exact HO171.out)) k_ hk_), (Kd.fresh' (Kd.R_lt (by (with_reducible repeat (first | apply Kd.R_alloc | apply Kd.R_drewN | apply Kd.R_drew)); exact HO186.out)) k_ hk_)⟩)) (below_size (by repeat (first | (with_reducible first | exact HB.out | apply below_alloc | apply pw_below_drewN | apply below_drew1) | exact HB.out)))); have n8_ := Aside0.mk (below_step (by repeat (first | (with_reducible first | exact HB.out | apply below_alloc | apply pw_below_drewN | apply below_drew1) | exact HB.out)) hb); clear HO165; clear HO171; clear HO174; clear HO177; clear HO180; clear HO183; clear HO186; clear HB; have HO165 := n0_; have HO171 := n1_; have HO174 := n2_; have HO177 := n3_; have HO180 := n4_; have HO183 := n5_; have HO186 := n6_; have HO189 := n7_; have HB := n8_; clear n0_ n1_ n2_ n3_ n4_ n5_ n6_ n7_ n8_; (try clear hb); (try clear hb2); (try clear hk); (try clear hi); (try clear ho0); obtain ⟨Ao42, co42, eo42⟩ := WV_slice HO189.out; subst eo42) | ((with_reducible refine gate_builtin (b := .append) (xs := #[.tmp 48, .tmp 50]) rfl ?_); (try (refine gate_guard (by rfl) ?_; dsimp only)); at_builtin; refine Kd.R_append KdS (w0 := w) w.heap.size rfl (.tmp 48) (.tmp 50) 53 25 (.slice none 0 0) 24 rfl Tryd.underlying53 info25 rfl (by decide) (by omega) v185 [(Ao34, t172.length, co34), (Ao35, t175.length, co35), (Ao36, t178.length, co36), (Ao37, t181.length, co37)] (Ao42, t187.length, co42) [.slice Ao42 t187.length co42] (fun k_ => some k_ ≠ (.slice Ao28 y163.length co28 : Value).ownBlock ∧ some k_ ≠ (.slice Ao29 y169.length co29 : Value).ownBlock) (fun k_ => ((fun k_ => some k_ ≠ (.slice Ao28 y163.length co28 : Value).ownBlock ∧ some k_ ≠ (.slice Ao29 y169.length co29 : Value).ownBlock)) k_ ∧ some k_ ≠ (v185 : Value).ownBlock) rfl rfl ?aP (fun _ hk => hk) ?aF ?aO ?aB ?aS ?aL ?_; (case aP => exact rfl); (case aB => exact (by repeat (first | (with_reducible first | exact HB.out | apply below_alloc | apply pw_below_drewN | apply below_drew1) | exact HB.out))); (case aF => exact (fun k_ hk => ⟨Kd.fresh' (Kd.R_lt (by (with_reducible repeat (first | apply Kd.R_alloc | apply Kd.R_drewN | apply Kd.R_drew)); exact HO165.out)) k_ hk, Kd.fresh' (Kd.R_lt (by (with_reducible repeat (first | apply Kd.R_alloc | apply Kd.R_drewN | apply Kd.R_drew)); exact HO171.out)) k_ hk⟩)); (case aO => exact (by (with_reducible repeat (first | apply Kd.R_alloc | apply Kd.R_drewN | apply Kd.R_drew)); exact HO186.out)); (case aS => exact (below_size (by repeat (first | (with_reducible first | exact HB.out | apply below_alloc | apply pw_below_drewN | apply below_drew1) | exact HB.out)))); (case aL => simp); intro v192 w41 ho hb hg hat; have n0_ := Aside0.mk (Kd.R_over' (by (with_reducible repeat (first | apply Kd.R_alloc | apply Kd.R_drewN | apply Kd.R_drew)); exact HO165.out) (Kd.R_typed (by (with_reducible repeat (first | apply Kd.R_alloc | apply Kd.R_drewN | apply Kd.R_drew)); exact HO186.out)) (by decide) hg); have n1_ := Aside0.mk (Kd.R_over' (by (with_reducible repeat (first | apply Kd.R_alloc | apply Kd.R_drewN | apply Kd.R_drew)); exact HO171.out) (Kd.R_typed (by (with_reducible repeat (first | apply Kd.R_alloc | apply Kd.R_drewN | apply Kd.R_drew)); exact HO186.out)) (by decide) hg); have n2_ := Aside0.mk (WV_afterv (ok := (fun k_ => some k_ ≠ (.slice Ao28 y163.length co28 : Value).ownBlock ∧ some k_ ≠ (.slice Ao29 y169.length co29 : Value).ownBlock)) (by (with_reducible repeat (first | apply WV_alloc | apply WV_drewN | apply WV_drew)); exact HO174.out) hg hat); have n3_ := Aside0.mk (WV_afterv (ok := (fun k_ => some k_ ≠ (.slice Ao28 y163.length co28 : Value).ownBlock ∧ some k_ ≠ (.slice Ao29 y169.length co29 : Value).ownBlock)) (by (with_reducible repeat (first | apply WV_alloc | apply WV_drewN | apply WV_drew)); exact HO177.out) hg hat); have n4_ := Aside0.mk (WV_afterv (ok := (fun k_ => some k_ ≠ (.slice Ao28 y163.length co28 : Value).ownBlock ∧ some k_ ≠ (.slice Ao29 y169.length co29 : Value).ownBlock)) (by (with_reducible repeat (first | apply WV_alloc | apply WV_drewN | apply WV_drew)); exact HO180.out) hg hat); have n5_ := Aside0.mk (WV_afterv (ok := (fun k_ => some k_ ≠ (.slice Ao28 y163.length co28 : Value).ownBlock ∧ some k_ ≠ (.slice Ao29 y169.length co29 : Value).ownBlock)) (by (with_reducible repeat (first | apply WV_alloc | apply WV_drewN | apply WV_drew)); exact HO183.out) hg hat); have n6_ := Aside0.mk (WV_afterv (ok := (fun k_ => some k_ ≠ (.slice Ao28 y163.length co28 : Value).ownBlock ∧ some k_ ≠ (.slice Ao29 y169.length co29 : Value).ownBlock)) (by (with_reducible repeat (first | apply WV_alloc | apply WV_drewN | apply WV_drew)); exact WV_mono HO189.out (fun _ hk => ⟨⟨hk.1, hk.2.1⟩, hk.2.2⟩)) hg hat); have n7_ := Aside0.mk (hb); have n8_ := Aside0.mk (ho); clear HO165; clear HO171; clear HO174; clear HO177; clear HO180; clear HO183; clear HO189; clear HB; clear HO186; have HO165 := n0_; have HO171 := n1_; have HO174 := n2_; have HO177 := n3_; have HO180 := n4_; have HO183 := n5_; have HO189 := n6_; have HB := n7_; have HO193 := n8_; clear n0_ n1_ n2_ n3_ n4_ n5_ n6_ n7_ n8_; clear ho hb hg hat))
                  obtain ⟨R5, hR5⟩ : ∃ R5 : List (Option Addr × Nat × Nat), R5 = [(Ao34, t172.length, co34), (Ao35, t175.length, co35), (Ao36, t178.length, co36), (Ao37, t181.length, co37)] ++ [(Ao42, t187.length, co42)] := ⟨_, rfl⟩
                  rw [← hR5] at HO193
                  have hlen : R5.length = 5 := by rw [hR5]; rfl
                  have HW := Aside0.mk (show Wrs w41 w.heap.size (fun g => some g ≠ (Value.slice Ao28 y163.length co28).ownBlock ∧ some g ≠ (Value.slice Ao29 y169.length co29).ownBlock) R5 by
                    intro p hp
                    rw [hR5] at hp
                    simp only [List.cons_append, List.nil_append, List.mem_cons, List.not_mem_nil, or_false] at hp
                    rcases hp with rfl | rfl | rfl | rfl | rfl
                    · exact Wrs.one HO174.out BS173.out (fun k hk => hk.1)
                    · exact Wrs.one HO177.out BS176.out (fun k hk => hk.1)
                    · exact Wrs.one HO180.out BS179.out (fun k hk => hk.1)
                    · exact Wrs.one HO183.out BS182.out (fun k hk => hk.1)
                    · exact Wrs.one HO189.out BS188.out (fun k hk => hk.1))
                  clear HO174 HO177 HO180 HO183 HO189 BS173 BS176 BS179 BS182 BS188 hR5
                  obtain ⟨gl, capl, hv192, -, -, -⟩ := Kd.R_form HO193.out (by omega)
                  rw [hlen] at hv192
                  subst hv192
                  go_loopg [12] 6 (fun kq v12 w' => ∃ i : Nat, v12 = .int .i64 (i : Int) ∧ kq + i = 6 ∧ i ≤ 5 ∧ Aside0 ((Kd.int .u64).R 54 w' w.heap.size (fun k => True ∧ some k ≠ (Value.slice Ao29 y169.length co29).ownBlock) (Value.slice Ao28 y163.length co28) y163) ∧ Aside0 ((Kd.int .u64).R 54 w' w.heap.size (fun k_ => some k_ ≠ (Value.slice Ao28 y163.length co28).ownBlock) (Value.slice Ao29 y169.length co29) y169) ∧ Aside0 (KdS.R 25 w' w.heap.size (fun k_ => some k_ ≠ (Value.slice Ao28 y163.length co28).ownBlock ∧ some k_ ≠ (Value.slice Ao29 y169.length co29).ownBlock) (.slice (some ⟨gl, 0, none⟩) 5 capl) R5) ∧ Aside0 (Wrs w' w.heap.size (fun g => some g ≠ (Value.slice Ao28 y163.length co28).ownBlock ∧ some g ≠ (Value.slice Ao29 y169.length co29).ownBlock) R5) ∧ Aside0 (Below w.heap.size w w'))
                  case atStart => exact ⟨0, rfl, rfl, by omega, HO165, HO171, HO193, HW, HB⟩
                  case round =>
                    clear HO165 HO171 HO193 HW HB
                    obtain ⟨i, rfl, hki, hi5, HO165, HO171, HO193, HW, HB⟩ := hrel
                    by_cases hi : i < 5
                    · cases gk with
                      | zero => omega
                      | succ k1 =>
                        have d5 : decide ((i : Int) < 5) = true := decide_eq_true (by omega)
                        obtain ⟨⟨A, n, c⟩, hp⟩ : ∃ p, p = R5.getD i (none, 0, 0) := ⟨_, rfl⟩
                        have hmem : (A, n, c) ∈ R5 := by
                          rw [hp, List.getD_eq_getElem?_getD, List.getElem?_eq_getElem (by omega)]
                          exact List.getElem_mem _
                        obtain ⟨hn1, hn2, -⟩ := HW.out (A, n, c) hmem
                        have hrd : rdOf (none, 0, 0) R5 (i : Int) = (A, n, c) := by rw [hp]; unfold rdOf; rw [Int.toNat_natCast]
                        have HMEM := Aside0.mk hmem
                        have HRD := Aside0.mk hrd
                        clear hp hmem hrd
                        go_wp2
                        go_loopg [13] (n + 1) (fun kq v13 w' => ∃ j : Nat, v13 = .int .i64 (j : Int) ∧ kq + j = n + 1 ∧ j ≤ n ∧ Aside0 ((Kd.int .u64).R 54 w' w.heap.size (fun k => True ∧ some k ≠ (Value.slice Ao29 y169.length co29).ownBlock) (Value.slice Ao28 y163.length co28) y163) ∧ Aside0 ((Kd.int .u64).R 54 w' w.heap.size (fun k_ => some k_ ≠ (Value.slice Ao28 y163.length co28).ownBlock) (Value.slice Ao29 y169.length co29) y169) ∧ Aside0 (KdS.R 25 w' w.heap.size (fun k_ => some k_ ≠ (Value.slice Ao28 y163.length co28).ownBlock ∧ some k_ ≠ (Value.slice Ao29 y169.length co29).ownBlock) (.slice (some ⟨gl, 0, none⟩) 5 capl) R5) ∧ Aside0 (Wrs w' w.heap.size (fun g => some g ≠ (Value.slice Ao28 y163.length co28).ownBlock ∧ some g ≠ (Value.slice Ao29 y169.length co29).ownBlock) R5) ∧ Aside0 (Below w.heap.size w w'))
                        case atStart => exact ⟨0, rfl, rfl, by omega, HO165, HO171, HO193, HW, HB⟩
                        case round =>
                          clear HO165 HO171 HO193 HW HB
                          obtain ⟨j, rfl, hkj, hjn, HO165, HO171, HO193, HW, HB⟩ := hrel
                          obtain ⟨hcl, -⟩ := Kd.R_celln (none, 0, 0) HO193.out (i : Int) (by omega) (by omega)
                          rw [HRD.out, Int.toNat_natCast] at hcl
                          dsimp only at hcl
                          by_cases hj : j < n
                          · cases gk with
                            | zero => omega
                            | succ k2 =>
                              have dn : decide ((j : Int) < (n : Int)) = true := decide_eq_true (by omega)
                              obtain ⟨-, -, hrow⟩ := HW.out (A, n, c) HMEM.out
                              obtain ⟨g, cur, hA, hBg, hok, hcg, hcur⟩ := hrow (by show 0 < n; omega)
                              obtain ⟨x, hx⟩ := hcur j hj
                              have hA' : A = some ⟨g, 0, none⟩ := hA
                              subst hA'
                              have hxw : wr.cell? ⟨g, j, none⟩ = some (.int .u64 x) := by simp [World.cell?, hcg, hx]
                              have hfw : wr.frozen? ⟨g, j, none⟩ = false := by simp [World.frozen?, hcg]
                              have HCG := Aside0.mk hcg
                              have HBG := Aside0.mk hBg
                              have HOK := Aside0.mk hok
                              clear hrow hA hcur hx hcg hBg hok
                              go_wp2_with fail
                              go_region
                              go_wp2_with fail
                              go_roundg k2
                              case measure => omega
                              case rel => exact ⟨j + 1, by first | go_num | (simp; done) | (simp [*]; done), by omega, by omega, ⟨Kd.R_drew (R_other HO165.out HOK.out.1)⟩, ⟨Kd.R_drew (R_other HO171.out HOK.out.2)⟩, ⟨Kd.R_drew (Kd.R_set HO193.out HCG.out (by decide) j _)⟩, ⟨(HW.out.put g j _).heap rfl⟩, ⟨below_drew1 (below_set HB.out HBG.out)⟩⟩
                          · have hjn2 : j = n := by omega
                            subst hjn2
                            go_wp2
                            go_roundg k1
                            case measure => omega
                            case rel => exact ⟨i + 1, by first | go_num | (simp; done) | (simp [*]; done), by omega, by omega, ⟨by (with_reducible repeat (first | apply Kd.R_alloc | apply Kd.R_drewN | apply Kd.R_drew)); exact HO165.out⟩, ⟨by (with_reducible repeat (first | apply Kd.R_alloc | apply Kd.R_drewN | apply Kd.R_drew)); exact HO171.out⟩, ⟨by (with_reducible repeat (first | apply Kd.R_alloc | apply Kd.R_drewN | apply Kd.R_drew)); exact HO193.out⟩, ⟨HW.out.heap rfl⟩, ⟨by repeat (first | (with_reducible first | exact HB.out | apply below_alloc | apply pw_below_drewN | apply below_drew1) | exact HB.out)⟩⟩
                    · obtain rfl : i = 5 := by omega
                      go_wp2_with (first | ((with_reducible refine gate_callee (f := 13) rfl ?_); refine goesL_ (some 83) rfl rfl Tryd.func13 (by kernel_rfl) rfl #[.slice Ao28 y163.length co28, .slice A0 l0.length c0] rfl (by (try simp only [List.map_toArray, List.map_cons, List.map_nil]); first | done | rfl | (simp only [List.length_drop, List.length_take]; rfl)) ?_; (with_reducible refine (dataflowref01_Equal.calls kj3 _ _ y163 _ _ l0 true _ ?side1 ?side2 ?side3 ?side4 A17.out).mono ?_); (case side1 => repeat (first | exact (Kd.R_reads' HO165.out).2.2 | (with_reducible refine Kd.C_alloc ?_ _) | (with_reducible refine Kd.C_drewN ?_ _) | (with_reducible refine Kd.C_drew ?_))); (case side2 => exact (Kd.R_reads' HO165.out).2.1); (case side3 => repeat (first | exact (Kd.C_below HR0.out HB.out) | (with_reducible refine Kd.C_alloc ?_ _) | (with_reducible refine Kd.C_drewN ?_ _) | (with_reducible refine Kd.C_drew ?_))); (case side4 => exact HC0.out); rintro e w' ⟨rfl, ⟨nd, rfl⟩⟩; refine ⟨_, rfl, ?_⟩) | (go_at_call 13; (with_reducible refine (dataflowref01_Equal.calls kj3 _ _ y169 _ _ l1 true _ ?side1 ?side2 ?side3 ?side4 A19.out).mono ?_); (case side1 => repeat (first | exact (Kd.R_reads' HO171.out).2.2 | (with_reducible refine Kd.C_alloc ?_ _) | (with_reducible refine Kd.C_drewN ?_ _) | (with_reducible refine Kd.C_drew ?_))); (case side2 => exact (Kd.R_reads' HO171.out).2.1); (case side3 => repeat (first | exact (Kd.C_below HR1.out (by repeat (first | (with_reducible first | exact HB.out | apply below_alloc | apply pw_below_drewN | apply below_drew1) | exact HB.out))) | (with_reducible refine Kd.C_alloc ?_ _) | (with_reducible refine Kd.C_drewN ?_ _) | (with_reducible refine Kd.C_drew ?_))); (case side4 => exact HC1.out); rintro e w' ⟨rfl, ⟨nd, rfl⟩⟩) | (go_at_call 10; (with_reducible refine (dataflowlaw01_awake.calls kj3  t196 _ A21.out ?sideT).mono ?_); (case sideT => exact HT_.out.below (by repeat (first | (with_reducible first | exact HB.out | exact Below.refl _ _ | apply below_alloc | apply pw_below_drewN | apply below_drew1) | exact HB.out | exact Below.refl _ _))); rintro e w43 ⟨rfl, hb⟩; have n0_ := Aside0.mk (Kd.R_below (by (with_reducible repeat (first | apply Kd.R_alloc | apply Kd.R_drewN | apply Kd.R_drew)); exact HO165.out) hb); have n1_ := Aside0.mk (Kd.R_below (by (with_reducible repeat (first | apply Kd.R_alloc | apply Kd.R_drewN | apply Kd.R_drew)); exact HO171.out) hb); have n7_ := Aside0.mk (Kd.R_below (by (with_reducible repeat (first | apply Kd.R_alloc | apply Kd.R_drewN | apply Kd.R_drew)); exact HO193.out) hb); have n8_ := Aside0.mk (below_step (by repeat (first | (with_reducible first | exact HB.out | apply below_alloc | apply pw_below_drewN | apply below_drew1) | exact HB.out)) hb); clear HO165; clear HO171; clear HO193; clear HB; have HO165 := n0_; have HO171 := n1_; have HO193 := n7_; have HB := n8_; clear n0_ n1_ n7_ n8_; (try clear hb); (try clear hb2); (try clear hk); (try clear hi)))
                      go_ret
                      exact ⟨by first | rfl | (simp [errW_none, errW_some] <;> rfl) | (simp [*, errW_none, errW_some] <;> rfl), by repeat (first | (with_reducible first | exact HB.out | apply below_alloc | apply pw_below_drewN | apply below_drew1) | exact HB.out)⟩

                · replace c20 := Bool.eq_false_iff.mpr c20
                  subst c20
                  have H1 : (some false) = some r := by rw [if_neg (show ¬ (false = true) by decide)] at H; exact H
                  exact absurd HRT.out (by rw [← Option.some.inj H1]; decide)
              · replace c18 := Bool.eq_false_iff.mpr c18
                subst c18
                have H1 : (some false) = some r := by rw [if_neg (show ¬ (false = true) by decide)] at H; exact H
                exact absurd HRT.out (by rw [← Option.some.inj H1]; decide)
            · rw [if_neg c16] at H
              exact absurd H (by simp)
          · rw [if_neg c10] at H
            exact absurd H (by simp)
        · rw [if_neg c9] at H
          exact absurd H (by simp)



/-- THE ONE PURE STATEMENT of dataflowlaw01_BitsOwn: yours. -/
def dataflowlaw01_BitsOwn.Pure : Prop := ∀ (l0 : List Int) (l1 : List Int) (a2 : Int), l0.length ≤ maxLen → l0.length * 8 ≤ 140737488351232 → (∀ x ∈ l0, (Lit.int .u64 x).wf = true) → l1.length ≤ maxLen → l1.length * 8 ≤ 140737488351232 → (∀ x ∈ l1, (Lit.int .u64 x).wf = true) → (Lit.int .i64 a2).wf = true → ∃ k, dataflowlaw01_BitsOwn.f k l0 l1 a2 = some true
theorem dataflowlaw01_BitsOwn.walk (P : dataflowlaw01_BitsOwn.Pure) (a0 : Option Addr) (len0 cap0 : Nat) (z0 : List Int) (a1 : Option Addr) (len1 cap1 : Nat) (z1 : List Int) (a2 : Int) (w : World) (w0 : (a0 = none ∧ len0 = 0 ∧ cap0 = 0 ∧ z0 = []) ∨ ∃ x, a0 = some x ∧ len0 ≤ cap0 ∧ cap0 ≤ maxLen ∧ z0.length = cap0 ∧ (∀ i, i < z0.length → w.cell? (x.add i) = some (.int .u64 (z0.getD i 0))) ∧ ∀ n ∈ z0, (Lit.int .u64 n).wf = true) (y0 : len0 * 8 ≤ 140737488351232) (w1 : (a1 = none ∧ len1 = 0 ∧ cap1 = 0 ∧ z1 = []) ∨ ∃ x, a1 = some x ∧ len1 ≤ cap1 ∧ cap1 ≤ maxLen ∧ z1.length = cap1 ∧ (∀ i, i < z1.length → w.cell? (x.add i) = some (.int .u64 (z1.getD i 0))) ∧ ∀ n ∈ z1, (Lit.int .u64 n).wf = true) (y1 : len1 * 8 ≤ 140737488351232) (w2 : (Lit.int .i64 a2).wf = true) (hT : TabW w) :
    Calls Tryd.prog 9 #[.slice a0 len0 cap0, .slice a1 len1 cap1, .int .i64 a2] w fun e w' => e = .returned (.bool true) ∧ Below w.heap.size w w' := by
  obtain ⟨l0, rfl, hr0, hm0, hw0, hc0⟩ := ReadsInt.ofRowC w0
  obtain ⟨l1, rfl, hr1, hm1, hw1, hc1⟩ := ReadsInt.ofRowC w1
  obtain ⟨k, h⟩ := P l0 l1 a2 hm0 y0 hw0 hm1 y1 hw1 w2
  refine (dataflowlaw01_BitsOwn.calls k _ _ l0 _ _ l1 a2 true w (Kd.C_of_reads (d := (0 : Int)) (h1 := fun _ => rfl) hr0) hc0 (Kd.C_of_reads (d := (0 : Int)) (h1 := fun _ => rfl) hr1) hc1 h hT rfl).mono ?_
  rintro e w' ⟨rfl, hd⟩
  exact ⟨rfl, hd⟩

end Go.Proofs.YtlfoehjjgbnkaaaDoor.PO
