/- Printed by a program of this session out of the translation: plain functions with the answers of the Go functions, and the proofs that they have them. -/
import Derived.Test.YtkbclcecmcdlfaaDoorD3
namespace Go.Proofs.YtkbclcecmcdlfaaDoor.PD
open Go.RowKit Go.Proofs.YtkbclcecmcdlfaaDoorW.PrintWords Go.Proofs.YtkbclcecmcdlfaaDoorW.PrintLast Go.Proofs.YtkbclcecmcdlfaaDoorW.PrintMore
attribute [local go_sem] max2_int min2_int max_two min_two max_three min_three max_four min_four   -- for this text's walks alone
set_option linter.unusedVariables false
set_option linter.unusedSimpArgs false

/-! ### slices_Equal_string_string: function 53 -/
def slices_Equal_string_string.l0 : Nat → List ByteArray → List ByteArray → Int → Int → Option (Bool)
 | 0, _, _, _, _ => none
 | k + 1, x0, x1, x12, x13 => if x13 < x12 then (if 0 ≤ x13 then (if x13 < (x0.length : Int) then (if x13 < (x1.length : Int) then (if (rdOf ByteArray.empty x0 x13).toList = (rdOf ByteArray.empty x1 x13).toList then (slices_Equal_string_string.l0 k x0 x1 x12 (wrap64 (x13 + 1))) else (some false)) else (none)) else (none)) else (none)) else (some true)
def slices_Equal_string_string.f (k : Nat) (l0 : List ByteArray) (l1 : List ByteArray) : Option (Bool) := if (l0.length : Int) = (l1.length : Int) then (slices_Equal_string_string.l0 k l0 l1 (l0.length : Int) 0) else (some false)
theorem slices_Equal_string_string.mono_l : ∀ k, (∀ y0 y1 y2 y3, LeO (slices_Equal_string_string.l0 k y0 y1 y2 y3) (slices_Equal_string_string.l0 (k + 1) y0 y1 y2 y3))
 | 0 => fun _ _ _ _ r h => by simp [slices_Equal_string_string.l0] at h
 | k + 1 => by
  have ih0 := slices_Equal_string_string.mono_l k
  ·intro y0 y1 y2 y3
   unfold slices_Equal_string_string.l0
   repeat' first
   | (with_reducible exact ih0 _ _ _ _)
   | (with_reducible exact LeO.refl _)
   | (with_reducible exact LeO.none _)
   | (with_reducible refine LeO.ite ?_ ?_)
   | (with_reducible refine LeO.bind ?_ (fun _ => ?_))
   | exact ih0 _ _ _ _
   | exact LeO.none _
   | refine LeO.ite ?_ ?_
   | refine LeO.bind ?_ (fun _ => ?_)
theorem slices_Equal_string_string.mono : ∀ a0 a1 k, LeO (slices_Equal_string_string.f k a0 a1) (slices_Equal_string_string.f (k + 1) a0 a1) := by
 intro a0 a1 k
 have ih0 := slices_Equal_string_string.mono_l k
 unfold slices_Equal_string_string.f
 repeat' first
   | (with_reducible exact ih0 _ _ _ _)
   | (with_reducible exact LeO.refl _)
   | (with_reducible exact LeO.none _)
   | (with_reducible refine LeO.ite ?_ ?_)
   | (with_reducible refine LeO.bind ?_ (fun _ => ?_))
   | exact ih0 _ _ _ _
   | exact LeO.none _
   | refine LeO.ite ?_ ?_
   | refine LeO.bind ?_ (fun _ => ?_)
set_option maxHeartbeats 8000000 in
set_option maxRecDepth 100000 in
theorem slices_Equal_string_string.calls (k : Nat) (A0 : Option Addr) (c0 : Nat) (l0 : List ByteArray) (A1 : Option Addr) (c1 : Nat) (l1 : List ByteArray) (r : Bool) (w : World) (hr0 : Kd.C Kd.string w A0 l0.length l0) (hc0 : l0.length ≤ c0) (hr1 : Kd.C Kd.string w A1 l1.length l1) (hc1 : l1.length ≤ c1) (h : slices_Equal_string_string.f k l0 l1 = some r) :
  Calls Tryd.prog 53 #[.slice A0 l0.length c0, .slice A1 l1.length c1] w fun e w' => e = .returned (.bool r) ∧ Drawn0 w w' := by
 have HR0 := Aside0.mk hr0
 have HC0 := Aside0.mk hc0
 clear hr0 hc0
 have HR1 := Aside0.mk hr1
 have HC1 := Aside0.mk hc1
 clear hr1 hc1
 have H : (if (l0.length : Int) = (l1.length : Int) then (slices_Equal_string_string.l0 k l0 l1 (l0.length : Int) 0) else (some false)) = some r := h
 clear h
 by_cases c3 : (l0.length : Int) = (l1.length : Int)
 ·rw [if_pos c3] at H
  have c3b0 : ((l0.length : Int) == (l1.length : Int)) = true := beq_iff_eq.mpr c3
  have c3b1 : ((l0.length : Int) != (l1.length : Int)) = false := bne_eq_false_iff_eq.mpr c3
  have c3b2 : (l0.length == l1.length) = true := by first | simpa using c3 | (simp at c3 ⊢; omega)
  clear c3
  have H' := Aside0.mk H
  clear H
  go_enter Tryd.func53, Tryd.ntmps53
  go_wp2
  repeat (go_quiet (fail); try go_wp2)
  go_loopg [13] k (fun kq v13 w' => ∃ (x13_1 : Int), v13 = .int .i64 x13_1 ∧ Aside0 (slices_Equal_string_string.l0 kq l0 l1 (l0.length : Int) x13_1 = some r) ∧ Aside0 (kq ≤ k) ∧ Drawn0 w w')
  case atStart => exact ⟨(0), (by first | rfl | (simp; done) | (simp [*]; done)), H', ⟨Nat.le_refl _⟩, by repeat (first | exact Drawn0.refl _ | apply Drawn0.step)⟩
  case round =>
   clear H'
   (try clear c1);(try clear p2);(try clear c3);(try clear c3b0);(try clear c3b1);(try clear c3b2)
   obtain ⟨x13_1, rfl, HA, HK1, ⟨m1, rfl⟩⟩ := hrel
   cases gk with
   | zero => exact absurd HA.out (by simp [slices_Equal_string_string.l0])
   | succ k1 =>
    have H := HA.out
    clear HA
    simp only [slices_Equal_string_string.l0] at H
    by_cases c4 : x13_1 < (l0.length : Int)
    ·rw [if_pos c4] at H
     have c4b0 : decide (x13_1 < (l0.length : Int)) = true := decide_eq_true c4
     clear c4
     by_cases c5 : 0 ≤ x13_1
     ·rw [if_pos c5] at H
      have c5b0 : decide (0 ≤ x13_1) = true := decide_eq_true c5
      clear c5
      by_cases c6 : x13_1 < (l0.length : Int)
      ·rw [if_pos c6] at H
       have c6b0 : decide (x13_1 < (l0.length : Int)) = true := decide_eq_true c6
       clear c6
       by_cases c7 : x13_1 < (l1.length : Int)
       ·rw [if_pos c7] at H
        have c7b0 : decide (x13_1 < (l1.length : Int)) = true := decide_eq_true c7
        clear c7
        by_cases c8 : (rdOf ByteArray.empty l0 x13_1).toList = (rdOf ByteArray.empty l1 x13_1).toList
        ·rw [if_pos c8] at H
         have c8b0 : ((rdOf ByteArray.empty l0 x13_1).toList == (rdOf ByteArray.empty l1 x13_1).toList) = true := beq_iff_eq.mpr c8
         have c8b1 : ((rdOf ByteArray.empty l0 x13_1).toList != (rdOf ByteArray.empty l1 x13_1).toList) = false := bne_eq_false_iff_eq.mpr c8
         clear c8
         have H' := Aside0.mk H
         clear H
         have p132 : 0 ≤ (x13_1 : Int) := of_decide_eq_true (by first | (with_reducible assumption) | assumption)
         have q132 : x13_1 < (l0.length : Int) := of_decide_eq_true (by first | (with_reducible assumption) | assumption)
         obtain ⟨ad132, e132, hx132_0⟩ := Kd.at_string HR0.out x13_1 p132 q132
         cases e132
         replace p132 := eq_true p132
         replace q132 := eq_true q132
         have p133 : 0 ≤ (x13_1 : Int) := of_decide_eq_true (by first | (with_reducible assumption) | assumption)
         have q133 : x13_1 < (l1.length : Int) := of_decide_eq_true (by first | (with_reducible assumption) | assumption)
         obtain ⟨ad133, e133, hx133_0⟩ := Kd.at_string HR1.out x13_1 p133 q133
         cases e133
         replace p133 := eq_true p133
         replace q133 := eq_true q133
         go_wp2
         repeat (go_quiet (fail); try go_wp2)
         go_roundg k1
         case measure => have := HK1.out; omega
         case rel => exact ⟨(wrap64 (x13_1 + 1)), (by first | rfl | (simp; done) | (simp [*]; done)), H', ⟨by have := HK1.out; omega⟩, by repeat (first | exact Drawn0.refl _ | apply Drawn0.step)⟩
        ·rw [if_neg c8] at H
         have c8b0 : ((rdOf ByteArray.empty l0 x13_1).toList == (rdOf ByteArray.empty l1 x13_1).toList) = false := beq_eq_false_iff_ne.mpr c8
         have c8b1 : ((rdOf ByteArray.empty l0 x13_1).toList != (rdOf ByteArray.empty l1 x13_1).toList) = true := bne_iff_ne.mpr c8
         obtain rfl := Option.some.inj H
         have p132 : 0 ≤ (x13_1 : Int) := of_decide_eq_true (by first | (with_reducible assumption) | assumption)
         have q132 : x13_1 < (l0.length : Int) := of_decide_eq_true (by first | (with_reducible assumption) | assumption)
         obtain ⟨ad132, e132, hx132_0⟩ := Kd.at_string HR0.out x13_1 p132 q132
         cases e132
         replace p132 := eq_true p132
         replace q132 := eq_true q132
         have p133 : 0 ≤ (x13_1 : Int) := of_decide_eq_true (by first | (with_reducible assumption) | assumption)
         have q133 : x13_1 < (l1.length : Int) := of_decide_eq_true (by first | (with_reducible assumption) | assumption)
         obtain ⟨ad133, e133, hx133_0⟩ := Kd.at_string HR1.out x13_1 p133 q133
         cases e133
         replace p133 := eq_true p133
         replace q133 := eq_true q133
         go_wp2
         repeat (go_quiet (fail); try go_wp2)
         go_ret
         exact ⟨by first | rfl | (simp; done) | (simp [*]; done), by repeat (first | exact Drawn0.refl _ | apply Drawn0.step)⟩
       ·rw [if_neg c7] at H
        exact absurd H (by simp)
      ·rw [if_neg c6] at H
       exact absurd H (by simp)
     ·rw [if_neg c5] at H
      exact absurd H (by simp)
    ·rw [if_neg c4] at H
     have c4b0 : decide (x13_1 < (l0.length : Int)) = false := decide_eq_false c4
     clear c4
     obtain rfl := Option.some.inj H
     go_wp2
     repeat (go_quiet (fail); try go_wp2)
     go_ret
     exact ⟨by first | rfl | (simp; done) | (simp [*]; done), by repeat (first | exact Drawn0.refl _ | apply Drawn0.step)⟩
 ·rw [if_neg c3] at H
  have c3b0 : ((l0.length : Int) == (l1.length : Int)) = false := beq_eq_false_iff_ne.mpr c3
  have c3b1 : ((l0.length : Int) != (l1.length : Int)) = true := bne_iff_ne.mpr c3
  have c3b2 : (l0.length == l1.length) = false := by first | simpa using c3 | (simp at c3 ⊢; omega)
  obtain rfl := Option.some.inj H
  go_enter Tryd.func53, Tryd.ntmps53
  go_wp2
  repeat (go_quiet (fail); try go_wp2)
  go_ret
  exact ⟨by first | rfl | (simp; done) | (simp [*]; done), by repeat (first | exact Drawn0.refl _ | apply Drawn0.step)⟩

/-! ### hier_checker_method: function 34 -/
mutual
def hier_checker_method.j0 : Nat → List Int → List (S32) → MapSI.Ents → ByteArray → Bool → List ByteArray → ByteArray → Option (Int)
 | 0, _, _, _, _, _, _, _ => none
 | k + 1, x3, x135000, x135001, x136000, x136001, x136002, x136003 => hier_checker_method.l0 k x3 (x3.length : Int) 0 x135000 x135001 x136000 x136001 x136002 x136003
def hier_checker_method.l0 : Nat → List Int → Int → Int → List (S32) → MapSI.Ents → ByteArray → Bool → List ByteArray → ByteArray → Option (Int)
 | 0, _, _, _, _, _, _, _, _, _ => none
 | k + 1, x44, x45, x46, x135000, x135001, x136000, x136001, x136002, x136003 => if x46 < x45 then (if 0 ≤ x46 then (if x46 < (x44.length : Int) then (if 0 ≤ (rd x44 x46) then (if (rd x44 x46) < (x135000.length : Int) then (hier_checker_method.l1 k x44 x45 x46 ((rd_T32 x135000 (rd x44 x46)).f3) (((rd_T32 x135000 (rd x44 x46)).f3).length : Int) 0 x135000 x135001 x136000 x136001 x136002 x136003) else (none)) else (none)) else (none)) else (none)) else (some 0)
def hier_checker_method.l1 : Nat → List Int → Int → Int → List (S37) → Int → Int → List (S32) → MapSI.Ents → ByteArray → Bool → List ByteArray → ByteArray → Option (Int)
 | 0, _, _, _, _, _, _, _, _, _, _, _, _ => none
 | k + 1, x44, x45, x46, x56, x57, x58, x135000, x135001, x136000, x136001, x136002, x136003 => if x58 < x57 then (if 0 ≤ x58 then (if x58 < (x56.length : Int) then (if ((rd_T37 x56 x58).f0).toList = x136000.toList then (if (rd_T37 x56 x58).f1 = true then (some 11) else (if x136001 = true then (some 11) else (if ((rd_T37 x56 x58).f3).toList = x136003.toList then ((slices_Equal_string_string.f k ((rd_T37 x56 x58).f2) x136002).bind fun t144 => (if t144 = true then (hier_checker_method.l1 k x44 x45 x46 x56 x57 (wrap64 (x58 + 1)) x135000 x135001 x136000 x136001 x136002 x136003) else (some 11))) else (some 11)))) else (hier_checker_method.l1 k x44 x45 x46 x56 x57 (wrap64 (x58 + 1)) x135000 x135001 x136000 x136001 x136002 x136003)) else (none)) else (none)) else (hier_checker_method.l0 k x44 x45 (wrap64 (x46 + 1)) x135000 x135001 x136000 x136001 x136002 x136003)
end
def hier_checker_method.f (k : Nat) (l0_0 : List (S32)) (a0_1 : MapSI.Ents) (l1 : List (S37)) (a2_0 : ByteArray) (a2_1 : Bool) (l2_2 : List ByteArray) (a2_3 : ByteArray) (l3 : List Int) : Option (Int) := (lex_Ident.f k a2_0).bind fun t136 => (if t136 = true then ((anyS.f k l1 a2_0).bind fun t137 => (if t137 = true then (some 7) else (if (l2_2.length : Int) > 6 then (some 3) else ((anyT.f k l2_2 l0_0 a0_1).bind fun t138 => (if t138 = true then (some 8) else (if a2_3.toList = ([] : List UInt8) then (hier_checker_method.j0 k l3 l0_0 a0_1 a2_0 a2_1 l2_2 a2_3) else ((hier_checker_isType.f l0_0 a0_1 a2_3).bind fun t139 => (if t139 = true then (hier_checker_method.j0 k l3 l0_0 a0_1 a2_0 a2_1 l2_2 a2_3) else (some 8))))))))) else (some 5))
theorem hier_checker_method.mono_l : ∀ k, (∀ y0 y1 y2 y3 y4 y5 y6, LeO (hier_checker_method.j0 k y0 y1 y2 y3 y4 y5 y6) (hier_checker_method.j0 (k + 1) y0 y1 y2 y3 y4 y5 y6)) ∧ (∀ y0 y1 y2 y3 y4 y5 y6 y7 y8, LeO (hier_checker_method.l0 k y0 y1 y2 y3 y4 y5 y6 y7 y8) (hier_checker_method.l0 (k + 1) y0 y1 y2 y3 y4 y5 y6 y7 y8)) ∧ (∀ y0 y1 y2 y3 y4 y5 y6 y7 y8 y9 y10 y11, LeO (hier_checker_method.l1 k y0 y1 y2 y3 y4 y5 y6 y7 y8 y9 y10 y11) (hier_checker_method.l1 (k + 1) y0 y1 y2 y3 y4 y5 y6 y7 y8 y9 y10 y11))
 | 0 => ⟨fun _ _ _ _ _ _ _ r h => by simp [hier_checker_method.j0] at h, fun _ _ _ _ _ _ _ _ _ r h => by simp [hier_checker_method.l0] at h, fun _ _ _ _ _ _ _ _ _ _ _ _ r h => by simp [hier_checker_method.l1] at h⟩
 | k + 1 => by
  obtain ⟨ih0, ih1, ih2⟩ := hier_checker_method.mono_l k
  refine ⟨?_, ?_, ?_⟩
  ·intro y0 y1 y2 y3 y4 y5 y6
   unfold hier_checker_method.j0
   repeat' first
   | (with_reducible exact ih0 _ _ _ _ _ _ _)
   | (with_reducible exact ih1 _ _ _ _ _ _ _ _ _)
   | (with_reducible exact ih2 _ _ _ _ _ _ _ _ _ _ _ _)
   | (with_reducible exact anyS.mono _ _ _)
   | (with_reducible exact anyT.mono _ _ _ _)
   | (with_reducible exact lex_Ident.mono _ _)
   | (with_reducible exact slices_Equal_string_string.mono _ _ _)
   | (with_reducible exact LeO.refl _)
   | (with_reducible exact LeO.none _)
   | (with_reducible refine LeO.ite ?_ ?_)
   | (with_reducible refine LeO.bind ?_ (fun _ => ?_))
   | exact ih0 _ _ _ _ _ _ _
   | exact ih1 _ _ _ _ _ _ _ _ _
   | exact ih2 _ _ _ _ _ _ _ _ _ _ _ _
   | exact anyS.mono _ _ _
   | exact anyT.mono _ _ _ _
   | exact lex_Ident.mono _ _
   | exact slices_Equal_string_string.mono _ _ _
   | exact LeO.none _
   | refine LeO.ite ?_ ?_
   | refine LeO.bind ?_ (fun _ => ?_)
  ·intro y0 y1 y2 y3 y4 y5 y6 y7 y8
   unfold hier_checker_method.l0
   repeat' first
   | (with_reducible exact ih0 _ _ _ _ _ _ _)
   | (with_reducible exact ih1 _ _ _ _ _ _ _ _ _)
   | (with_reducible exact ih2 _ _ _ _ _ _ _ _ _ _ _ _)
   | (with_reducible exact anyS.mono _ _ _)
   | (with_reducible exact anyT.mono _ _ _ _)
   | (with_reducible exact lex_Ident.mono _ _)
   | (with_reducible exact slices_Equal_string_string.mono _ _ _)
   | (with_reducible exact LeO.refl _)
   | (with_reducible exact LeO.none _)
   | (with_reducible refine LeO.ite ?_ ?_)
   | (with_reducible refine LeO.bind ?_ (fun _ => ?_))
   | exact ih0 _ _ _ _ _ _ _
   | exact ih1 _ _ _ _ _ _ _ _ _
   | exact ih2 _ _ _ _ _ _ _ _ _ _ _ _
   | exact anyS.mono _ _ _
   | exact anyT.mono _ _ _ _
   | exact lex_Ident.mono _ _
   | exact slices_Equal_string_string.mono _ _ _
   | exact LeO.none _
   | refine LeO.ite ?_ ?_
   | refine LeO.bind ?_ (fun _ => ?_)
  ·intro y0 y1 y2 y3 y4 y5 y6 y7 y8 y9 y10 y11
   unfold hier_checker_method.l1
   repeat' first
   | (with_reducible exact ih0 _ _ _ _ _ _ _)
   | (with_reducible exact ih1 _ _ _ _ _ _ _ _ _)
   | (with_reducible exact ih2 _ _ _ _ _ _ _ _ _ _ _ _)
   | (with_reducible exact anyS.mono _ _ _)
   | (with_reducible exact anyT.mono _ _ _ _)
   | (with_reducible exact lex_Ident.mono _ _)
   | (with_reducible exact slices_Equal_string_string.mono _ _ _)
   | (with_reducible exact LeO.refl _)
   | (with_reducible exact LeO.none _)
   | (with_reducible refine LeO.ite ?_ ?_)
   | (with_reducible refine LeO.bind ?_ (fun _ => ?_))
   | exact ih0 _ _ _ _ _ _ _
   | exact ih1 _ _ _ _ _ _ _ _ _
   | exact ih2 _ _ _ _ _ _ _ _ _ _ _ _
   | exact anyS.mono _ _ _
   | exact anyT.mono _ _ _ _
   | exact lex_Ident.mono _ _
   | exact slices_Equal_string_string.mono _ _ _
   | exact LeO.none _
   | refine LeO.ite ?_ ?_
   | refine LeO.bind ?_ (fun _ => ?_)
theorem hier_checker_method.mono : ∀ a0 a1 a2 a3 a4 a5 a6 a7 k, LeO (hier_checker_method.f k a0 a1 a2 a3 a4 a5 a6 a7) (hier_checker_method.f (k + 1) a0 a1 a2 a3 a4 a5 a6 a7) := by
 intro a0 a1 a2 a3 a4 a5 a6 a7 k
 obtain ⟨ih0, ih1, ih2⟩ := hier_checker_method.mono_l k
 unfold hier_checker_method.f
 repeat' first
   | (with_reducible exact ih0 _ _ _ _ _ _ _)
   | (with_reducible exact ih1 _ _ _ _ _ _ _ _ _)
   | (with_reducible exact ih2 _ _ _ _ _ _ _ _ _ _ _ _)
   | (with_reducible exact anyS.mono _ _ _)
   | (with_reducible exact anyT.mono _ _ _ _)
   | (with_reducible exact lex_Ident.mono _ _)
   | (with_reducible exact slices_Equal_string_string.mono _ _ _)
   | (with_reducible exact LeO.refl _)
   | (with_reducible exact LeO.none _)
   | (with_reducible refine LeO.ite ?_ ?_)
   | (with_reducible refine LeO.bind ?_ (fun _ => ?_))
   | exact ih0 _ _ _ _ _ _ _
   | exact ih1 _ _ _ _ _ _ _ _ _
   | exact ih2 _ _ _ _ _ _ _ _ _ _ _ _
   | exact anyS.mono _ _ _
   | exact anyT.mono _ _ _ _
   | exact lex_Ident.mono _ _
   | exact slices_Equal_string_string.mono _ _ _
   | exact LeO.none _
   | refine LeO.ite ?_ ?_
   | refine LeO.bind ?_ (fun _ => ?_)
set_option maxHeartbeats 8000000 in
set_option maxRecDepth 100000 in
theorem hier_checker_method.calls (k : Nat) (A0_0 : Option Addr) (c0_0 : Nat) (l0_0 : List (S32)) {b1 : Nat} (a0_1 : MapSI.Ents) (A1 : Option Addr) (c1 : Nat) (l1 : List (S37)) (a2_0 : ByteArray) (a2_1 : Bool) (A2_2 : Option Addr) (c2_2 : Nat) (l2_2 : List ByteArray) (a2_3 : ByteArray) (A3 : Option Addr) (c3 : Nat) (l3 : List Int) (r : Int) (w : World) (hr0_0 : Kd.C k32 w A0_0 l0_0.length l0_0) (hc0_0 : l0_0.length ≤ c0_0) (hr1 : Kd.C k37 w A1 l1.length l1) (hc1 : l1.length ≤ c1) (hr2_2 : Kd.C Kd.string w A2_2 l2_2.length l2_2) (hc2_2 : l2_2.length ≤ c2_2) (hr3 : Kd.C (Kd.int .i64) w A3 l3.length l3) (hc3 : l3.length ≤ c3) (hm1 : MapSI.Is w b1 a0_1) (h : hier_checker_method.f k l0_0 a0_1 l1 a2_0 a2_1 l2_2 a2_3 l3 = some r) (hT : TabW w) :
  Calls Tryd.prog 34 #[.agg #[.slice A0_0 l0_0.length c0_0, .map (some b1)], .slice A1 l1.length c1, .agg #[.string a2_0, .bool a2_1, .slice A2_2 l2_2.length c2_2, .string a2_3], .slice A3 l3.length c3] w fun e w' => e = .returned (.int .i64 r) ∧ Below w.heap.size w w' := by
 have HTB_ := Aside0.mk hT
 clear hT
 have hu52 := Tryd.underlying52
 have hu37 := Tryd.underlying37
 have HM1 := Aside0.mk hm1
 clear hm1
 have HR0_0 := Aside0.mk hr0_0
 have HC0_0 := Aside0.mk hc0_0
 clear hr0_0 hc0_0
 have HR1 := Aside0.mk hr1
 have HC1 := Aside0.mk hc1
 clear hr1 hc1
 have HR2_2 := Aside0.mk hr2_2
 have HC2_2 := Aside0.mk hc2_2
 clear hr2_2 hc2_2
 have HR3 := Aside0.mk hr3
 have HC3 := Aside0.mk hc3
 clear hr3 hc3
 have HB := Aside0.mk (Below.refl w.heap.size w)
 have H : ((lex_Ident.f k a2_0).bind fun t136 => (if t136 = true then ((anyS.f k l1 a2_0).bind fun t137 => (if t137 = true then (some 7) else (if (l2_2.length : Int) > 6 then (some 3) else ((anyT.f k l2_2 l0_0 a0_1).bind fun t138 => (if t138 = true then (some 8) else (if a2_3.toList = ([] : List UInt8) then (hier_checker_method.j0 k l3 l0_0 a0_1 a2_0 a2_1 l2_2 a2_3) else ((hier_checker_isType.f l0_0 a0_1 a2_3).bind fun t139 => (if t139 = true then (hier_checker_method.j0 k l3 l0_0 a0_1 a2_0 a2_1 l2_2 a2_3) else (some 8))))))))) else (some 5))) = some r := h
 clear h
 have HC5 := Aside0.mk H
 clear H
 go_enter Tryd.func34, Tryd.ntmps34
 go_upto_block 0 with (first | ((with_reducible refine gate_dst (N := 4) rfl ?_); refine box_event ?hg (N := 4) ?hd (cs := #[.slice A0_0 l0_0.length c0_0, .map (some b1)]) (t := 52) ?hr ?_; (case hd => rfl); (case hg => rfl); (case hr => first | (go_simp; done) | (go_simp; rfl)); intro gb134 hg w6 hbox hb; have n0_ := Aside0.mk (below_step (by repeat with_reducible first | exact HB.out | apply below_alloc | apply pw_below_drewN | apply below_drew1) hb); have n1_ := Aside0.mk (hbox); have n2_ := Aside0.mk ((by rw [hg]; exact (below_size (by repeat with_reducible first | exact HB.out | apply below_alloc | apply pw_below_drewN | apply below_drew1)) : w.heap.size ≤ gb134)); have n3_ := Aside0.mk ((by rw [hg]; exact (below_size (by repeat with_reducible first | exact HB.out | apply below_alloc | apply pw_below_drewN | apply below_drew1)) : w.heap.size ≤ gb134)); clear HB; have HB := n0_; have BK134 := n1_; have GW134 := n2_; have GE134 := n3_; clear n0_ n1_ n2_ n3_; clear hb hbox hg) | ((with_reducible refine gate_dst (N := 6) rfl ?_); refine box_event ?hg (N := 6) ?hd (cs := #[.string a2_0, .bool a2_1, .slice A2_2 l2_2.length c2_2, .string a2_3]) (t := 37) ?hr ?_; (case hd => rfl); (case hg => rfl); (case hr => first | (go_simp; done) | (go_simp; rfl)); intro gb135 hg w7 hbox hb; have n0_ := Aside0.mk (blk_below (g := gb134) (o := .cells #[.slice A0_0 l0_0.length c0_0, .map (some b1)] 52 (0, 0)) (by (with_reducible repeat first | apply bn | apply bd | apply ba); exact BK134.out) hb); have n1_ := Aside0.mk (below_step (by repeat with_reducible first | exact HB.out | apply below_alloc | apply pw_below_drewN | apply below_drew1 | refine below_set ?_ GE134.out) hb); have n2_ := Aside0.mk (hbox); have n3_ := Aside0.mk ((by rw [hg]; exact (below_size (by repeat with_reducible first | exact HB.out | apply below_alloc | apply pw_below_drewN | apply below_drew1 | refine below_set ?_ GE134.out)) : w.heap.size ≤ gb135)); have n4_ := Aside0.mk ((by rw [hg]; exact (below_size (by repeat with_reducible first | exact HB.out | apply below_alloc | apply pw_below_drewN | apply below_drew1 | refine below_set ?_ GE134.out)) : w.heap.size ≤ gb135)); have n5_ := Aside0.mk ((by rw [hg]; exact Nat.ne_of_lt (blk_lt (g := gb134) (o := .cells #[.slice A0_0 l0_0.length c0_0, .map (some b1)] 52 (0, 0)) (by (with_reducible repeat first | apply bn | apply bd | apply ba); exact BK134.out)) : gb134 ≠ gb135)); have n6_ := Aside0.mk ((by rw [hg]; exact Nat.ne_of_gt (blk_lt (g := gb134) (o := .cells #[.slice A0_0 l0_0.length c0_0, .map (some b1)] 52 (0, 0)) (by (with_reducible repeat first | apply bn | apply bd | apply ba); exact BK134.out)) : gb135 ≠ gb134)); clear BK134; clear HB; have BK134 := n0_; have HB := n1_; have BK135 := n2_; have GW135 := n3_; have GE135 := n4_; have NB134_135 := n5_; have NB135_134 := n6_; clear n0_ n1_ n2_ n3_ n4_ n5_ n6_; clear hb hbox hg))
 (try simp only [Act.put, List.setIfInBounds_toArray, List.set_cons_zero, List.set_cons_succ])
 go_cut [] (fun wc => ∃ (kq : Nat), Aside0 (hier_checker_method.j0 kq l3 l0_0 a0_1 a2_0 a2_1 l2_2 a2_3 = some r) ∧ Aside0 (kq ≤ k) ∧ Aside0 (wc.heap[gb134]? = some (.cells #[(.slice A0_0 l0_0.length c0_0), .map (some b1)] 52 (0, 0))) ∧ Aside0 (wc.heap[gb135]? = some (.cells #[.string a2_0, .bool a2_1, (.slice A2_2 l2_2.length c2_2), .string a2_3] 37 (0, 0))) ∧ Aside0 (Below w.heap.size w wc))
 case first =>
  have H := HC5.out
  clear HC5
  replace H := Option.bind_eq_some_iff.mp H
  obtain ⟨t136, A80, H⟩ := H
  replace H : (if t136 = true then ((anyS.f k l1 a2_0).bind fun t137 => (if t137 = true then (some 7) else (if (l2_2.length : Int) > 6 then (some 3) else ((anyT.f k l2_2 l0_0 a0_1).bind fun t138 => (if t138 = true then (some 8) else (if a2_3.toList = ([] : List UInt8) then (hier_checker_method.j0 k l3 l0_0 a0_1 a2_0 a2_1 l2_2 a2_3) else ((hier_checker_isType.f l0_0 a0_1 a2_3).bind fun t139 => (if t139 = true then (hier_checker_method.j0 k l3 l0_0 a0_1 a2_0 a2_1 l2_2 a2_3) else (some 8))))))))) else (some 5)) = some r := H
  have A8 := Aside0.mk A80
  clear A80
  by_cases c9 : t136 = true
  ·subst c9
   have H1 : ((anyS.f k l1 a2_0).bind fun t137 => (if t137 = true then (some 7) else (if (l2_2.length : Int) > 6 then (some 3) else ((anyT.f k l2_2 l0_0 a0_1).bind fun t138 => (if t138 = true then (some 8) else (if a2_3.toList = ([] : List UInt8) then (hier_checker_method.j0 k l3 l0_0 a0_1 a2_0 a2_1 l2_2 a2_3) else ((hier_checker_isType.f l0_0 a0_1 a2_3).bind fun t139 => (if t139 = true then (hier_checker_method.j0 k l3 l0_0 a0_1 a2_0 a2_1 l2_2 a2_3) else (some 8))))))))) = some r := by rw [if_pos rfl] at H; exact H
   clear H
   have H := H1
   clear H1
   replace H := Option.bind_eq_some_iff.mp H
   obtain ⟨t137, A100, H⟩ := H
   replace H : (if t137 = true then (some 7) else (if (l2_2.length : Int) > 6 then (some 3) else ((anyT.f k l2_2 l0_0 a0_1).bind fun t138 => (if t138 = true then (some 8) else (if a2_3.toList = ([] : List UInt8) then (hier_checker_method.j0 k l3 l0_0 a0_1 a2_0 a2_1 l2_2 a2_3) else ((hier_checker_isType.f l0_0 a0_1 a2_3).bind fun t139 => (if t139 = true then (hier_checker_method.j0 k l3 l0_0 a0_1 a2_0 a2_1 l2_2 a2_3) else (some 8)))))))) = some r := H
   have A10 := Aside0.mk A100
   clear A100
   by_cases c11 : t137 = true
   ·subst c11
    have H1 : (some 7) = some r := by rw [if_pos rfl] at H; exact H
    clear H
    have H := H1
    clear H1
    obtain rfl := Option.some.inj H
    have hnb12 := NB135_134.out
    have hnc12 := NB134_135.out
    have hcz13_0 : w7.cell? ⟨gb135, 0, none⟩ = some (.string a2_0) := (blk_cell BK135.out 0).trans rfl
    have hcz13_1 : w7.cell? ⟨gb135, 1, none⟩ = some (.bool a2_1) := (blk_cell BK135.out 1).trans rfl
    have hcz13_2 : w7.cell? ⟨gb135, 2, none⟩ = some (.slice A2_2 l2_2.length c2_2) := (blk_cell BK135.out 2).trans rfl
    have hcz13_3 : w7.cell? ⟨gb135, 3, none⟩ = some (.string a2_3) := (blk_cell BK135.out 3).trans rfl
    have hfz13_0 := blk_frozen BK135.out 0
    have hfz13_1 := blk_frozen BK135.out 1
    have hfz13_2 := blk_frozen BK135.out 2
    have hfz13_3 := blk_frozen BK135.out 3
    go_wp2_with (first | ((with_reducible refine gate_callee (f := 32) rfl ?_); refine goesL_ (some 16) rfl rfl Tryd.func32 (by kernel_rfl) rfl #[.string a2_0] rfl (by (try simp only [List.map_toArray, List.map_cons, List.map_nil]); first | done | rfl) ?_; (with_reducible refine (lex_Ident.calls k a2_0 true _ A8.out ?sideT).mono ?_); (case sideT => first | exact HTB_.out | exact HTB_.out.below (by repeat with_reducible first | exact HB.out | apply below_alloc | apply pw_below_drewN | apply below_drew1 | refine below_set ?_ GE134.out | refine below_set ?_ GE135.out | refine below_set ?_ GE143.out)); rintro e w' ⟨rfl, ⟨nd, rfl⟩⟩; refine ⟨_, rfl, ?_⟩) | ((with_reducible refine gate_callee (f := 49) rfl ?_); refine goesL_ (some 21) rfl rfl Tryd.func49 (by kernel_rfl) rfl #[.slice A1 l1.length c1, .func (.func 50) #[] #[.pointer (some ⟨gb135, 0, none⟩)]] rfl (by (try simp only [List.map_toArray, List.map_cons, List.map_nil]); first | done | rfl) ?_; (with_reducible refine (anyS.calls k gb135 a2_0 a2_1 A2_2 l2_2.length c2_2 a2_3 _ _ l1 true _ ?sideC ?side1 A10.out).mono ?_); (case side1 => repeat (first | exact (Kd.C_below HR1.out (by repeat with_reducible first | exact HB.out | apply below_alloc | apply pw_below_drewN | apply below_drew1 | refine below_set ?_ GE134.out | refine below_set ?_ GE135.out)) | (with_reducible refine Kd.C_alloc ?_ _) | (with_reducible refine Kd.C_drewN ?_ _) | (with_reducible refine Kd.C_drew ?_))); skip; (case sideC => exact (by (with_reducible repeat first | apply bn | apply bd | apply ba); exact BK135.out)); rintro e w14 ⟨rfl, hb⟩; refine ⟨_, rfl, ?_⟩; have n0_ := Aside0.mk (blk_below (g := gb134) (o := .cells #[.slice A0_0 l0_0.length c0_0, .map (some b1)] 52 (0, 0)) (by (with_reducible repeat first | apply bn | apply bd | apply ba); exact BK134.out) hb); have n1_ := Aside0.mk (blk_below (g := gb135) (o := .cells #[.string a2_0, .bool a2_1, .slice A2_2 l2_2.length c2_2, .string a2_3] 37 (0, 0)) (by (with_reducible repeat first | apply bn | apply bd | apply ba); exact BK135.out) hb); have n2_ := Aside0.mk (below_step (by repeat with_reducible first | exact HB.out | apply below_alloc | apply pw_below_drewN | apply below_drew1 | refine below_set ?_ GE134.out | refine below_set ?_ GE135.out) hb); clear BK134; clear BK135; clear HB; have BK134 := n0_; have BK135 := n1_; have HB := n2_; clear n0_ n1_ n2_; (try clear hb); (try clear hb2); (try clear hk); (try clear hi)))
    go_ret
    exact ⟨by first | rfl | (simp [errW_none, errW_some] <;> rfl) | (simp [*, errW_none, errW_some] <;> rfl), by repeat with_reducible first | exact HB.out | apply below_alloc | apply pw_below_drewN | apply below_drew1 | refine below_set ?_ GE134.out | refine below_set ?_ GE135.out⟩
   ·replace c11 := Bool.eq_false_iff.mpr c11
    subst c11
    have H1 : (if (l2_2.length : Int) > 6 then (some 3) else ((anyT.f k l2_2 l0_0 a0_1).bind fun t138 => (if t138 = true then (some 8) else (if a2_3.toList = ([] : List UInt8) then (hier_checker_method.j0 k l3 l0_0 a0_1 a2_0 a2_1 l2_2 a2_3) else ((hier_checker_isType.f l0_0 a0_1 a2_3).bind fun t139 => (if t139 = true then (hier_checker_method.j0 k l3 l0_0 a0_1 a2_0 a2_1 l2_2 a2_3) else (some 8))))))) = some r := by rw [if_neg (show ¬ (false = true) by decide)] at H; exact H
    clear H
    have H := H1
    clear H1
    by_cases c15 : (l2_2.length : Int) > 6
    ·rw [if_pos c15] at H
     have c15b0 : decide (6 < (l2_2.length : Int)) = true := decide_eq_true c15
     have c15b1 : decide (6 < l2_2.length) = true := decide_eq_true (by omega)
     clear c15
     (first | rw [c15b0] | (simp only [i64_w, i32_w]; rw [c15b0]) | skip)
     obtain rfl := Option.some.inj H
     have hnb16 := NB135_134.out
     have hnc16 := NB134_135.out
     have hcz17_0 : w7.cell? ⟨gb135, 0, none⟩ = some (.string a2_0) := (blk_cell BK135.out 0).trans rfl
     have hcz17_1 : w7.cell? ⟨gb135, 1, none⟩ = some (.bool a2_1) := (blk_cell BK135.out 1).trans rfl
     have hcz17_2 : w7.cell? ⟨gb135, 2, none⟩ = some (.slice A2_2 l2_2.length c2_2) := (blk_cell BK135.out 2).trans rfl
     have hcz17_3 : w7.cell? ⟨gb135, 3, none⟩ = some (.string a2_3) := (blk_cell BK135.out 3).trans rfl
     have hfz17_0 := blk_frozen BK135.out 0
     have hfz17_1 := blk_frozen BK135.out 1
     have hfz17_2 := blk_frozen BK135.out 2
     have hfz17_3 := blk_frozen BK135.out 3
     go_wp2_with (first | ((with_reducible refine gate_callee (f := 32) rfl ?_); refine goesL_ (some 16) rfl rfl Tryd.func32 (by kernel_rfl) rfl #[.string a2_0] rfl (by (try simp only [List.map_toArray, List.map_cons, List.map_nil]); first | done | rfl) ?_; (with_reducible refine (lex_Ident.calls k a2_0 true _ A8.out ?sideT).mono ?_); (case sideT => first | exact HTB_.out | exact HTB_.out.below (by repeat with_reducible first | exact HB.out | apply below_alloc | apply pw_below_drewN | apply below_drew1 | refine below_set ?_ GE134.out | refine below_set ?_ GE135.out | refine below_set ?_ GE143.out)); rintro e w' ⟨rfl, ⟨nd, rfl⟩⟩; refine ⟨_, rfl, ?_⟩) | ((with_reducible refine gate_callee (f := 49) rfl ?_); refine goesL_ (some 21) rfl rfl Tryd.func49 (by kernel_rfl) rfl #[.slice A1 l1.length c1, .func (.func 50) #[] #[.pointer (some ⟨gb135, 0, none⟩)]] rfl (by (try simp only [List.map_toArray, List.map_cons, List.map_nil]); first | done | rfl) ?_; (with_reducible refine (anyS.calls k gb135 a2_0 a2_1 A2_2 l2_2.length c2_2 a2_3 _ _ l1 false _ ?sideC ?side1 A10.out).mono ?_); (case side1 => repeat (first | exact (Kd.C_below HR1.out (by repeat with_reducible first | exact HB.out | apply below_alloc | apply pw_below_drewN | apply below_drew1 | refine below_set ?_ GE134.out | refine below_set ?_ GE135.out)) | (with_reducible refine Kd.C_alloc ?_ _) | (with_reducible refine Kd.C_drewN ?_ _) | (with_reducible refine Kd.C_drew ?_))); skip; (case sideC => exact (by (with_reducible repeat first | apply bn | apply bd | apply ba); exact BK135.out)); rintro e w18 ⟨rfl, hb⟩; refine ⟨_, rfl, ?_⟩; have n0_ := Aside0.mk (blk_below (g := gb134) (o := .cells #[.slice A0_0 l0_0.length c0_0, .map (some b1)] 52 (0, 0)) (by (with_reducible repeat first | apply bn | apply bd | apply ba); exact BK134.out) hb); have n1_ := Aside0.mk (blk_below (g := gb135) (o := .cells #[.string a2_0, .bool a2_1, .slice A2_2 l2_2.length c2_2, .string a2_3] 37 (0, 0)) (by (with_reducible repeat first | apply bn | apply bd | apply ba); exact BK135.out) hb); have n2_ := Aside0.mk (below_step (by repeat with_reducible first | exact HB.out | apply below_alloc | apply pw_below_drewN | apply below_drew1 | refine below_set ?_ GE134.out | refine below_set ?_ GE135.out) hb); clear BK134; clear BK135; clear HB; have BK134 := n0_; have BK135 := n1_; have HB := n2_; clear n0_ n1_ n2_; (try clear hb); (try clear hb2); (try clear hk); (try clear hi); have hcz19_0 : w18.cell? ⟨gb135, 0, none⟩ = some (.string a2_0) := (blk_cell BK135.out 0).trans rfl; have hcz19_1 : w18.cell? ⟨gb135, 1, none⟩ = some (.bool a2_1) := (blk_cell BK135.out 1).trans rfl; have hcz19_2 : w18.cell? ⟨gb135, 2, none⟩ = some (.slice A2_2 l2_2.length c2_2) := (blk_cell BK135.out 2).trans rfl; have hcz19_3 : w18.cell? ⟨gb135, 3, none⟩ = some (.string a2_3) := (blk_cell BK135.out 3).trans rfl; have hfz19_0 := blk_frozen BK135.out 0; have hfz19_1 := blk_frozen BK135.out 1; have hfz19_2 := blk_frozen BK135.out 2; have hfz19_3 := blk_frozen BK135.out 3))
     go_ret
     exact ⟨by first | rfl | (simp [errW_none, errW_some] <;> rfl) | (simp [*, errW_none, errW_some] <;> rfl), by repeat with_reducible first | exact HB.out | apply below_alloc | apply pw_below_drewN | apply below_drew1 | refine below_set ?_ GE134.out | refine below_set ?_ GE135.out⟩
    ·rw [if_neg c15] at H
     have c15b0 : decide (6 < (l2_2.length : Int)) = false := decide_eq_false c15
     have c15b1 : decide (6 < l2_2.length) = false := decide_eq_false (by omega)
     clear c15
     (first | rw [c15b0] | (simp only [i64_w, i32_w]; rw [c15b0]) | skip)
     replace H := Option.bind_eq_some_iff.mp H
     obtain ⟨t138, A200, H⟩ := H
     replace H : (if t138 = true then (some 8) else (if a2_3.toList = ([] : List UInt8) then (hier_checker_method.j0 k l3 l0_0 a0_1 a2_0 a2_1 l2_2 a2_3) else ((hier_checker_isType.f l0_0 a0_1 a2_3).bind fun t139 => (if t139 = true then (hier_checker_method.j0 k l3 l0_0 a0_1 a2_0 a2_1 l2_2 a2_3) else (some 8))))) = some r := H
     have A20 := Aside0.mk A200
     clear A200
     by_cases c21 : t138 = true
     ·subst c21
      have H1 : (some 8) = some r := by rw [if_pos rfl] at H; exact H
      clear H
      have H := H1
      clear H1
      obtain rfl := Option.some.inj H
      have hnb22 := NB135_134.out
      have hnc22 := NB134_135.out
      have hcz23_0 : w7.cell? ⟨gb135, 0, none⟩ = some (.string a2_0) := (blk_cell BK135.out 0).trans rfl
      have hcz23_1 : w7.cell? ⟨gb135, 1, none⟩ = some (.bool a2_1) := (blk_cell BK135.out 1).trans rfl
      have hcz23_2 : w7.cell? ⟨gb135, 2, none⟩ = some (.slice A2_2 l2_2.length c2_2) := (blk_cell BK135.out 2).trans rfl
      have hcz23_3 : w7.cell? ⟨gb135, 3, none⟩ = some (.string a2_3) := (blk_cell BK135.out 3).trans rfl
      have hfz23_0 := blk_frozen BK135.out 0
      have hfz23_1 := blk_frozen BK135.out 1
      have hfz23_2 := blk_frozen BK135.out 2
      have hfz23_3 := blk_frozen BK135.out 3
      go_wp2_with (first | ((with_reducible refine gate_callee (f := 32) rfl ?_); refine goesL_ (some 16) rfl rfl Tryd.func32 (by kernel_rfl) rfl #[.string a2_0] rfl (by (try simp only [List.map_toArray, List.map_cons, List.map_nil]); first | done | rfl) ?_; (with_reducible refine (lex_Ident.calls k a2_0 true _ A8.out ?sideT).mono ?_); (case sideT => first | exact HTB_.out | exact HTB_.out.below (by repeat with_reducible first | exact HB.out | apply below_alloc | apply pw_below_drewN | apply below_drew1 | refine below_set ?_ GE134.out | refine below_set ?_ GE135.out | refine below_set ?_ GE143.out)); rintro e w' ⟨rfl, ⟨nd, rfl⟩⟩; refine ⟨_, rfl, ?_⟩) | ((with_reducible refine gate_callee (f := 49) rfl ?_); refine goesL_ (some 21) rfl rfl Tryd.func49 (by kernel_rfl) rfl #[.slice A1 l1.length c1, .func (.func 50) #[] #[.pointer (some ⟨gb135, 0, none⟩)]] rfl (by (try simp only [List.map_toArray, List.map_cons, List.map_nil]); first | done | rfl) ?_; (with_reducible refine (anyS.calls k gb135 a2_0 a2_1 A2_2 l2_2.length c2_2 a2_3 _ _ l1 false _ ?sideC ?side1 A10.out).mono ?_); (case side1 => repeat (first | exact (Kd.C_below HR1.out (by repeat with_reducible first | exact HB.out | apply below_alloc | apply pw_below_drewN | apply below_drew1 | refine below_set ?_ GE134.out | refine below_set ?_ GE135.out)) | (with_reducible refine Kd.C_alloc ?_ _) | (with_reducible refine Kd.C_drewN ?_ _) | (with_reducible refine Kd.C_drew ?_))); skip; (case sideC => exact (by (with_reducible repeat first | apply bn | apply bd | apply ba); exact BK135.out)); rintro e w24 ⟨rfl, hb⟩; refine ⟨_, rfl, ?_⟩; have n0_ := Aside0.mk (blk_below (g := gb134) (o := .cells #[.slice A0_0 l0_0.length c0_0, .map (some b1)] 52 (0, 0)) (by (with_reducible repeat first | apply bn | apply bd | apply ba); exact BK134.out) hb); have n1_ := Aside0.mk (blk_below (g := gb135) (o := .cells #[.string a2_0, .bool a2_1, .slice A2_2 l2_2.length c2_2, .string a2_3] 37 (0, 0)) (by (with_reducible repeat first | apply bn | apply bd | apply ba); exact BK135.out) hb); have n2_ := Aside0.mk (below_step (by repeat with_reducible first | exact HB.out | apply below_alloc | apply pw_below_drewN | apply below_drew1 | refine below_set ?_ GE134.out | refine below_set ?_ GE135.out) hb); clear BK134; clear BK135; clear HB; have BK134 := n0_; have BK135 := n1_; have HB := n2_; clear n0_ n1_ n2_; (try clear hb); (try clear hb2); (try clear hk); (try clear hi); have hcz25_0 : w24.cell? ⟨gb135, 0, none⟩ = some (.string a2_0) := (blk_cell BK135.out 0).trans rfl; have hcz25_1 : w24.cell? ⟨gb135, 1, none⟩ = some (.bool a2_1) := (blk_cell BK135.out 1).trans rfl; have hcz25_2 : w24.cell? ⟨gb135, 2, none⟩ = some (.slice A2_2 l2_2.length c2_2) := (blk_cell BK135.out 2).trans rfl; have hcz25_3 : w24.cell? ⟨gb135, 3, none⟩ = some (.string a2_3) := (blk_cell BK135.out 3).trans rfl; have hfz25_0 := blk_frozen BK135.out 0; have hfz25_1 := blk_frozen BK135.out 1; have hfz25_2 := blk_frozen BK135.out 2; have hfz25_3 := blk_frozen BK135.out 3; have hcz26_0 : w24.cell? ⟨gb134, 0, none⟩ = some (.slice A0_0 l0_0.length c0_0) := (blk_cell BK134.out 0).trans rfl; have hcz26_1 : w24.cell? ⟨gb134, 1, none⟩ = some (.map (some b1)) := (blk_cell BK134.out 1).trans rfl; have hfz26_0 := blk_frozen BK134.out 0; have hfz26_1 := blk_frozen BK134.out 1) | ((with_reducible refine gate_callee (f := 51) rfl ?_); refine goesL_ (some 31) rfl rfl Tryd.func51 (by kernel_rfl) rfl #[.slice A2_2 l2_2.length c2_2, .func (.func 52) #[] #[.pointer (some ⟨gb134, 0, none⟩)]] rfl (by (try simp only [List.map_toArray, List.map_cons, List.map_nil]); first | done | rfl) ?_; (with_reducible refine (anyT.calls k gb134 A0_0 c0_0 l0_0 b1 a0_1 _ _ l2_2 true _ ?sideC ?side1 A20.out).mono ?_); (case side1 => repeat (first | exact (Kd.C_below HR2_2.out HB.out) | (with_reducible refine Kd.C_alloc ?_ _) | (with_reducible refine Kd.C_drewN ?_ _) | (with_reducible refine Kd.C_drew ?_))); skip; skip; skip; (case sideC => exact ⟨by repeat (first | exact (Kd.C_below HR0_0.out HB.out) | (with_reducible refine Kd.C_alloc ?_ _) | (with_reducible refine Kd.C_drewN ?_ _) | (with_reducible refine Kd.C_drew ?_)), HC0_0.out, (by (with_reducible repeat first | apply bn | apply bd | apply ba); exact BK134.out), (MapSI.Is.below HM1.out (by repeat with_reducible first | exact HB.out | apply below_alloc | apply pw_below_drewN | apply below_drew1 | refine below_set ?_ GE134.out | refine below_set ?_ GE135.out | refine below_set ?_ GE143.out))⟩); rintro e w27 ⟨rfl, hb⟩; refine ⟨_, rfl, ?_⟩; have n0_ := Aside0.mk (blk_below (g := gb134) (o := .cells #[.slice A0_0 l0_0.length c0_0, .map (some b1)] 52 (0, 0)) (by (with_reducible repeat first | apply bn | apply bd | apply ba); exact BK134.out) hb); have n1_ := Aside0.mk (blk_below (g := gb135) (o := .cells #[.string a2_0, .bool a2_1, .slice A2_2 l2_2.length c2_2, .string a2_3] 37 (0, 0)) (by (with_reducible repeat first | apply bn | apply bd | apply ba); exact BK135.out) hb); have n2_ := Aside0.mk (below_step (by repeat with_reducible first | exact HB.out | apply below_alloc | apply pw_below_drewN | apply below_drew1 | refine below_set ?_ GE134.out | refine below_set ?_ GE135.out) hb); clear BK134; clear BK135; clear HB; have BK134 := n0_; have BK135 := n1_; have HB := n2_; clear n0_ n1_ n2_; (try clear hb); (try clear hb2); (try clear hk); (try clear hi)))
      go_ret
      exact ⟨by first | rfl | (simp [errW_none, errW_some] <;> rfl) | (simp [*, errW_none, errW_some] <;> rfl), by repeat with_reducible first | exact HB.out | apply below_alloc | apply pw_below_drewN | apply below_drew1 | refine below_set ?_ GE134.out | refine below_set ?_ GE135.out⟩
     ·replace c21 := Bool.eq_false_iff.mpr c21
      subst c21
      have H1 : (if a2_3.toList = ([] : List UInt8) then (hier_checker_method.j0 k l3 l0_0 a0_1 a2_0 a2_1 l2_2 a2_3) else ((hier_checker_isType.f l0_0 a0_1 a2_3).bind fun t139 => (if t139 = true then (hier_checker_method.j0 k l3 l0_0 a0_1 a2_0 a2_1 l2_2 a2_3) else (some 8)))) = some r := by rw [if_neg (show ¬ (false = true) by decide)] at H; exact H
      clear H
      have H := H1
      clear H1
      by_cases c28 : a2_3.toList = ([] : List UInt8)
      ·rw [if_pos c28] at H
       have c28b0 : (a2_3.toList == ([] : List UInt8)) = true := beq_iff_eq.mpr c28
       have c28b1 : (a2_3.toList != ([] : List UInt8)) = false := bne_eq_false_iff_eq.mpr c28
       clear c28
       have H' := Aside0.mk H
       clear H
       have hnb29 := NB135_134.out
       have hnc29 := NB134_135.out
       have hcz30_0 : w7.cell? ⟨gb135, 0, none⟩ = some (.string a2_0) := (blk_cell BK135.out 0).trans rfl
       have hcz30_1 : w7.cell? ⟨gb135, 1, none⟩ = some (.bool a2_1) := (blk_cell BK135.out 1).trans rfl
       have hcz30_2 : w7.cell? ⟨gb135, 2, none⟩ = some (.slice A2_2 l2_2.length c2_2) := (blk_cell BK135.out 2).trans rfl
       have hcz30_3 : w7.cell? ⟨gb135, 3, none⟩ = some (.string a2_3) := (blk_cell BK135.out 3).trans rfl
       have hfz30_0 := blk_frozen BK135.out 0
       have hfz30_1 := blk_frozen BK135.out 1
       have hfz30_2 := blk_frozen BK135.out 2
       have hfz30_3 := blk_frozen BK135.out 3
       go_wp2_with (first | ((with_reducible refine gate_callee (f := 32) rfl ?_); refine goesL_ (some 16) rfl rfl Tryd.func32 (by kernel_rfl) rfl #[.string a2_0] rfl (by (try simp only [List.map_toArray, List.map_cons, List.map_nil]); first | done | rfl) ?_; (with_reducible refine (lex_Ident.calls k a2_0 true _ A8.out ?sideT).mono ?_); (case sideT => first | exact HTB_.out | exact HTB_.out.below (by repeat with_reducible first | exact HB.out | apply below_alloc | apply pw_below_drewN | apply below_drew1 | refine below_set ?_ GE134.out | refine below_set ?_ GE135.out | refine below_set ?_ GE143.out)); rintro e w' ⟨rfl, ⟨nd, rfl⟩⟩; refine ⟨_, rfl, ?_⟩) | ((with_reducible refine gate_callee (f := 49) rfl ?_); refine goesL_ (some 21) rfl rfl Tryd.func49 (by kernel_rfl) rfl #[.slice A1 l1.length c1, .func (.func 50) #[] #[.pointer (some ⟨gb135, 0, none⟩)]] rfl (by (try simp only [List.map_toArray, List.map_cons, List.map_nil]); first | done | rfl) ?_; (with_reducible refine (anyS.calls k gb135 a2_0 a2_1 A2_2 l2_2.length c2_2 a2_3 _ _ l1 false _ ?sideC ?side1 A10.out).mono ?_); (case side1 => repeat (first | exact (Kd.C_below HR1.out (by repeat with_reducible first | exact HB.out | apply below_alloc | apply pw_below_drewN | apply below_drew1 | refine below_set ?_ GE134.out | refine below_set ?_ GE135.out)) | (with_reducible refine Kd.C_alloc ?_ _) | (with_reducible refine Kd.C_drewN ?_ _) | (with_reducible refine Kd.C_drew ?_))); skip; (case sideC => exact (by (with_reducible repeat first | apply bn | apply bd | apply ba); exact BK135.out)); rintro e w31 ⟨rfl, hb⟩; refine ⟨_, rfl, ?_⟩; have n0_ := Aside0.mk (blk_below (g := gb134) (o := .cells #[.slice A0_0 l0_0.length c0_0, .map (some b1)] 52 (0, 0)) (by (with_reducible repeat first | apply bn | apply bd | apply ba); exact BK134.out) hb); have n1_ := Aside0.mk (blk_below (g := gb135) (o := .cells #[.string a2_0, .bool a2_1, .slice A2_2 l2_2.length c2_2, .string a2_3] 37 (0, 0)) (by (with_reducible repeat first | apply bn | apply bd | apply ba); exact BK135.out) hb); have n2_ := Aside0.mk (below_step (by repeat with_reducible first | exact HB.out | apply below_alloc | apply pw_below_drewN | apply below_drew1 | refine below_set ?_ GE134.out | refine below_set ?_ GE135.out) hb); clear BK134; clear BK135; clear HB; have BK134 := n0_; have BK135 := n1_; have HB := n2_; clear n0_ n1_ n2_; (try clear hb); (try clear hb2); (try clear hk); (try clear hi); have hcz32_0 : w31.cell? ⟨gb135, 0, none⟩ = some (.string a2_0) := (blk_cell BK135.out 0).trans rfl; have hcz32_1 : w31.cell? ⟨gb135, 1, none⟩ = some (.bool a2_1) := (blk_cell BK135.out 1).trans rfl; have hcz32_2 : w31.cell? ⟨gb135, 2, none⟩ = some (.slice A2_2 l2_2.length c2_2) := (blk_cell BK135.out 2).trans rfl; have hcz32_3 : w31.cell? ⟨gb135, 3, none⟩ = some (.string a2_3) := (blk_cell BK135.out 3).trans rfl; have hfz32_0 := blk_frozen BK135.out 0; have hfz32_1 := blk_frozen BK135.out 1; have hfz32_2 := blk_frozen BK135.out 2; have hfz32_3 := blk_frozen BK135.out 3; have hcz33_0 : w31.cell? ⟨gb134, 0, none⟩ = some (.slice A0_0 l0_0.length c0_0) := (blk_cell BK134.out 0).trans rfl; have hcz33_1 : w31.cell? ⟨gb134, 1, none⟩ = some (.map (some b1)) := (blk_cell BK134.out 1).trans rfl; have hfz33_0 := blk_frozen BK134.out 0; have hfz33_1 := blk_frozen BK134.out 1) | ((with_reducible refine gate_callee (f := 51) rfl ?_); refine goesL_ (some 31) rfl rfl Tryd.func51 (by kernel_rfl) rfl #[.slice A2_2 l2_2.length c2_2, .func (.func 52) #[] #[.pointer (some ⟨gb134, 0, none⟩)]] rfl (by (try simp only [List.map_toArray, List.map_cons, List.map_nil]); first | done | rfl) ?_; (with_reducible refine (anyT.calls k gb134 A0_0 c0_0 l0_0 b1 a0_1 _ _ l2_2 false _ ?sideC ?side1 A20.out).mono ?_); (case side1 => repeat (first | exact (Kd.C_below HR2_2.out HB.out) | (with_reducible refine Kd.C_alloc ?_ _) | (with_reducible refine Kd.C_drewN ?_ _) | (with_reducible refine Kd.C_drew ?_))); skip; skip; skip; (case sideC => exact ⟨by repeat (first | exact (Kd.C_below HR0_0.out HB.out) | (with_reducible refine Kd.C_alloc ?_ _) | (with_reducible refine Kd.C_drewN ?_ _) | (with_reducible refine Kd.C_drew ?_)), HC0_0.out, (by (with_reducible repeat first | apply bn | apply bd | apply ba); exact BK134.out), (MapSI.Is.below HM1.out (by repeat with_reducible first | exact HB.out | apply below_alloc | apply pw_below_drewN | apply below_drew1 | refine below_set ?_ GE134.out | refine below_set ?_ GE135.out | refine below_set ?_ GE143.out))⟩); rintro e w34 ⟨rfl, hb⟩; refine ⟨_, rfl, ?_⟩; have n0_ := Aside0.mk (blk_below (g := gb134) (o := .cells #[.slice A0_0 l0_0.length c0_0, .map (some b1)] 52 (0, 0)) (by (with_reducible repeat first | apply bn | apply bd | apply ba); exact BK134.out) hb); have n1_ := Aside0.mk (blk_below (g := gb135) (o := .cells #[.string a2_0, .bool a2_1, .slice A2_2 l2_2.length c2_2, .string a2_3] 37 (0, 0)) (by (with_reducible repeat first | apply bn | apply bd | apply ba); exact BK135.out) hb); have n2_ := Aside0.mk (below_step (by repeat with_reducible first | exact HB.out | apply below_alloc | apply pw_below_drewN | apply below_drew1 | refine below_set ?_ GE134.out | refine below_set ?_ GE135.out) hb); clear BK134; clear BK135; clear HB; have BK134 := n0_; have BK135 := n1_; have HB := n2_; clear n0_ n1_ n2_; (try clear hb); (try clear hb2); (try clear hk); (try clear hi); have hcz35_0 : w34.cell? ⟨gb135, 0, none⟩ = some (.string a2_0) := (blk_cell BK135.out 0).trans rfl; have hcz35_1 : w34.cell? ⟨gb135, 1, none⟩ = some (.bool a2_1) := (blk_cell BK135.out 1).trans rfl; have hcz35_2 : w34.cell? ⟨gb135, 2, none⟩ = some (.slice A2_2 l2_2.length c2_2) := (blk_cell BK135.out 2).trans rfl; have hcz35_3 : w34.cell? ⟨gb135, 3, none⟩ = some (.string a2_3) := (blk_cell BK135.out 3).trans rfl; have hfz35_0 := blk_frozen BK135.out 0; have hfz35_1 := blk_frozen BK135.out 1; have hfz35_2 := blk_frozen BK135.out 2; have hfz35_3 := blk_frozen BK135.out 3))
       go_meet
       case rel => exact ⟨_, H', ⟨by first | omega | exact Nat.le_refl _⟩, ⟨by (with_reducible repeat first | apply bn | apply bd | apply ba); exact BK134.out⟩, ⟨by (with_reducible repeat first | apply bn | apply bd | apply ba); exact BK135.out⟩, ⟨by repeat with_reducible first | exact HB.out | apply below_alloc | apply pw_below_drewN | apply below_drew1 | refine below_set ?_ GE134.out | refine below_set ?_ GE135.out⟩⟩
      ·rw [if_neg c28] at H
       have c28b0 : (a2_3.toList == ([] : List UInt8)) = false := beq_eq_false_iff_ne.mpr c28
       have c28b1 : (a2_3.toList != ([] : List UInt8)) = true := bne_iff_ne.mpr c28
       replace H := Option.bind_eq_some_iff.mp H
       obtain ⟨t139, A360, H⟩ := H
       replace H : (if t139 = true then (hier_checker_method.j0 k l3 l0_0 a0_1 a2_0 a2_1 l2_2 a2_3) else (some 8)) = some r := H
       have A36 := Aside0.mk A360
       clear A360
       by_cases c37 : t139 = true
       ·subst c37
        have H1 : (hier_checker_method.j0 k l3 l0_0 a0_1 a2_0 a2_1 l2_2 a2_3) = some r := by rw [if_pos rfl] at H; exact H
        clear H
        have H := H1
        clear H1
        have H' := Aside0.mk H
        clear H
        have hnb38 := NB135_134.out
        have hnc38 := NB134_135.out
        have hcz39_0 : w7.cell? ⟨gb135, 0, none⟩ = some (.string a2_0) := (blk_cell BK135.out 0).trans rfl
        have hcz39_1 : w7.cell? ⟨gb135, 1, none⟩ = some (.bool a2_1) := (blk_cell BK135.out 1).trans rfl
        have hcz39_2 : w7.cell? ⟨gb135, 2, none⟩ = some (.slice A2_2 l2_2.length c2_2) := (blk_cell BK135.out 2).trans rfl
        have hcz39_3 : w7.cell? ⟨gb135, 3, none⟩ = some (.string a2_3) := (blk_cell BK135.out 3).trans rfl
        have hfz39_0 := blk_frozen BK135.out 0
        have hfz39_1 := blk_frozen BK135.out 1
        have hfz39_2 := blk_frozen BK135.out 2
        have hfz39_3 := blk_frozen BK135.out 3
        go_wp2_with (first | ((with_reducible refine gate_callee (f := 32) rfl ?_); refine goesL_ (some 16) rfl rfl Tryd.func32 (by kernel_rfl) rfl #[.string a2_0] rfl (by (try simp only [List.map_toArray, List.map_cons, List.map_nil]); first | done | rfl) ?_; (with_reducible refine (lex_Ident.calls k a2_0 true _ A8.out ?sideT).mono ?_); (case sideT => first | exact HTB_.out | exact HTB_.out.below (by repeat with_reducible first | exact HB.out | apply below_alloc | apply pw_below_drewN | apply below_drew1 | refine below_set ?_ GE134.out | refine below_set ?_ GE135.out | refine below_set ?_ GE143.out)); rintro e w' ⟨rfl, ⟨nd, rfl⟩⟩; refine ⟨_, rfl, ?_⟩) | ((with_reducible refine gate_callee (f := 49) rfl ?_); refine goesL_ (some 21) rfl rfl Tryd.func49 (by kernel_rfl) rfl #[.slice A1 l1.length c1, .func (.func 50) #[] #[.pointer (some ⟨gb135, 0, none⟩)]] rfl (by (try simp only [List.map_toArray, List.map_cons, List.map_nil]); first | done | rfl) ?_; (with_reducible refine (anyS.calls k gb135 a2_0 a2_1 A2_2 l2_2.length c2_2 a2_3 _ _ l1 false _ ?sideC ?side1 A10.out).mono ?_); (case side1 => repeat (first | exact (Kd.C_below HR1.out (by repeat with_reducible first | exact HB.out | apply below_alloc | apply pw_below_drewN | apply below_drew1 | refine below_set ?_ GE134.out | refine below_set ?_ GE135.out)) | (with_reducible refine Kd.C_alloc ?_ _) | (with_reducible refine Kd.C_drewN ?_ _) | (with_reducible refine Kd.C_drew ?_))); skip; (case sideC => exact (by (with_reducible repeat first | apply bn | apply bd | apply ba); exact BK135.out)); rintro e w40 ⟨rfl, hb⟩; refine ⟨_, rfl, ?_⟩; have n0_ := Aside0.mk (blk_below (g := gb134) (o := .cells #[.slice A0_0 l0_0.length c0_0, .map (some b1)] 52 (0, 0)) (by (with_reducible repeat first | apply bn | apply bd | apply ba); exact BK134.out) hb); have n1_ := Aside0.mk (blk_below (g := gb135) (o := .cells #[.string a2_0, .bool a2_1, .slice A2_2 l2_2.length c2_2, .string a2_3] 37 (0, 0)) (by (with_reducible repeat first | apply bn | apply bd | apply ba); exact BK135.out) hb); have n2_ := Aside0.mk (below_step (by repeat with_reducible first | exact HB.out | apply below_alloc | apply pw_below_drewN | apply below_drew1 | refine below_set ?_ GE134.out | refine below_set ?_ GE135.out) hb); clear BK134; clear BK135; clear HB; have BK134 := n0_; have BK135 := n1_; have HB := n2_; clear n0_ n1_ n2_; (try clear hb); (try clear hb2); (try clear hk); (try clear hi); have hcz41_0 : w40.cell? ⟨gb135, 0, none⟩ = some (.string a2_0) := (blk_cell BK135.out 0).trans rfl; have hcz41_1 : w40.cell? ⟨gb135, 1, none⟩ = some (.bool a2_1) := (blk_cell BK135.out 1).trans rfl; have hcz41_2 : w40.cell? ⟨gb135, 2, none⟩ = some (.slice A2_2 l2_2.length c2_2) := (blk_cell BK135.out 2).trans rfl; have hcz41_3 : w40.cell? ⟨gb135, 3, none⟩ = some (.string a2_3) := (blk_cell BK135.out 3).trans rfl; have hfz41_0 := blk_frozen BK135.out 0; have hfz41_1 := blk_frozen BK135.out 1; have hfz41_2 := blk_frozen BK135.out 2; have hfz41_3 := blk_frozen BK135.out 3; have hcz42_0 : w40.cell? ⟨gb134, 0, none⟩ = some (.slice A0_0 l0_0.length c0_0) := (blk_cell BK134.out 0).trans rfl; have hcz42_1 : w40.cell? ⟨gb134, 1, none⟩ = some (.map (some b1)) := (blk_cell BK134.out 1).trans rfl; have hfz42_0 := blk_frozen BK134.out 0; have hfz42_1 := blk_frozen BK134.out 1) | ((with_reducible refine gate_callee (f := 51) rfl ?_); refine goesL_ (some 31) rfl rfl Tryd.func51 (by kernel_rfl) rfl #[.slice A2_2 l2_2.length c2_2, .func (.func 52) #[] #[.pointer (some ⟨gb134, 0, none⟩)]] rfl (by (try simp only [List.map_toArray, List.map_cons, List.map_nil]); first | done | rfl) ?_; (with_reducible refine (anyT.calls k gb134 A0_0 c0_0 l0_0 b1 a0_1 _ _ l2_2 false _ ?sideC ?side1 A20.out).mono ?_); (case side1 => repeat (first | exact (Kd.C_below HR2_2.out HB.out) | (with_reducible refine Kd.C_alloc ?_ _) | (with_reducible refine Kd.C_drewN ?_ _) | (with_reducible refine Kd.C_drew ?_))); skip; skip; skip; (case sideC => exact ⟨by repeat (first | exact (Kd.C_below HR0_0.out HB.out) | (with_reducible refine Kd.C_alloc ?_ _) | (with_reducible refine Kd.C_drewN ?_ _) | (with_reducible refine Kd.C_drew ?_)), HC0_0.out, (by (with_reducible repeat first | apply bn | apply bd | apply ba); exact BK134.out), (MapSI.Is.below HM1.out (by repeat with_reducible first | exact HB.out | apply below_alloc | apply pw_below_drewN | apply below_drew1 | refine below_set ?_ GE134.out | refine below_set ?_ GE135.out | refine below_set ?_ GE143.out))⟩); rintro e w43 ⟨rfl, hb⟩; refine ⟨_, rfl, ?_⟩; have n0_ := Aside0.mk (blk_below (g := gb134) (o := .cells #[.slice A0_0 l0_0.length c0_0, .map (some b1)] 52 (0, 0)) (by (with_reducible repeat first | apply bn | apply bd | apply ba); exact BK134.out) hb); have n1_ := Aside0.mk (blk_below (g := gb135) (o := .cells #[.string a2_0, .bool a2_1, .slice A2_2 l2_2.length c2_2, .string a2_3] 37 (0, 0)) (by (with_reducible repeat first | apply bn | apply bd | apply ba); exact BK135.out) hb); have n2_ := Aside0.mk (below_step (by repeat with_reducible first | exact HB.out | apply below_alloc | apply pw_below_drewN | apply below_drew1 | refine below_set ?_ GE134.out | refine below_set ?_ GE135.out) hb); clear BK134; clear BK135; clear HB; have BK134 := n0_; have BK135 := n1_; have HB := n2_; clear n0_ n1_ n2_; (try clear hb); (try clear hb2); (try clear hk); (try clear hi); have hcz44_0 : w43.cell? ⟨gb135, 0, none⟩ = some (.string a2_0) := (blk_cell BK135.out 0).trans rfl; have hcz44_1 : w43.cell? ⟨gb135, 1, none⟩ = some (.bool a2_1) := (blk_cell BK135.out 1).trans rfl; have hcz44_2 : w43.cell? ⟨gb135, 2, none⟩ = some (.slice A2_2 l2_2.length c2_2) := (blk_cell BK135.out 2).trans rfl; have hcz44_3 : w43.cell? ⟨gb135, 3, none⟩ = some (.string a2_3) := (blk_cell BK135.out 3).trans rfl; have hfz44_0 := blk_frozen BK135.out 0; have hfz44_1 := blk_frozen BK135.out 1; have hfz44_2 := blk_frozen BK135.out 2; have hfz44_3 := blk_frozen BK135.out 3; have hcz45_0 : w43.cell? ⟨gb134, 0, none⟩ = some (.slice A0_0 l0_0.length c0_0) := (blk_cell BK134.out 0).trans rfl; have hcz45_1 : w43.cell? ⟨gb134, 1, none⟩ = some (.map (some b1)) := (blk_cell BK134.out 1).trans rfl; have hfz45_0 := blk_frozen BK134.out 0; have hfz45_1 := blk_frozen BK134.out 1) | (go_at_call 46; (with_reducible refine (hier_checker_isType.calls _ _ l0_0 a0_1 a2_3 true _ ?side1 ?side2 ?sideM A36.out).mono ?_); (case sideM => exact (MapSI.Is.below HM1.out (by repeat with_reducible first | exact HB.out | apply below_alloc | apply pw_below_drewN | apply below_drew1 | refine below_set ?_ GE134.out | refine below_set ?_ GE135.out | refine below_set ?_ GE143.out))); (case side1 => repeat (first | exact (Kd.C_below HR0_0.out HB.out) | (with_reducible refine Kd.C_alloc ?_ _) | (with_reducible refine Kd.C_drewN ?_ _) | (with_reducible refine Kd.C_drew ?_))); (case side2 => exact HC0_0.out); rintro e w46 ⟨rfl, hb⟩; have n0_ := Aside0.mk (blk_below (g := gb134) (o := .cells #[.slice A0_0 l0_0.length c0_0, .map (some b1)] 52 (0, 0)) (by (with_reducible repeat first | apply bn | apply bd | apply ba); exact BK134.out) hb); have n1_ := Aside0.mk (blk_below (g := gb135) (o := .cells #[.string a2_0, .bool a2_1, .slice A2_2 l2_2.length c2_2, .string a2_3] 37 (0, 0)) (by (with_reducible repeat first | apply bn | apply bd | apply ba); exact BK135.out) hb); have n2_ := Aside0.mk (below_step (by repeat with_reducible first | exact HB.out | apply below_alloc | apply pw_below_drewN | apply below_drew1 | refine below_set ?_ GE134.out | refine below_set ?_ GE135.out) hb); clear BK134; clear BK135; clear HB; have BK134 := n0_; have BK135 := n1_; have HB := n2_; clear n0_ n1_ n2_; (try clear hb); (try clear hb2); (try clear hk); (try clear hi)))
        go_meet
        case rel => exact ⟨_, H', ⟨by first | omega | exact Nat.le_refl _⟩, ⟨by (with_reducible repeat first | apply bn | apply bd | apply ba); exact BK134.out⟩, ⟨by (with_reducible repeat first | apply bn | apply bd | apply ba); exact BK135.out⟩, ⟨by repeat with_reducible first | exact HB.out | apply below_alloc | apply pw_below_drewN | apply below_drew1 | refine below_set ?_ GE134.out | refine below_set ?_ GE135.out⟩⟩
       ·replace c37 := Bool.eq_false_iff.mpr c37
        subst c37
        have H1 : (some 8) = some r := by rw [if_neg (show ¬ (false = true) by decide)] at H; exact H
        clear H
        have H := H1
        clear H1
        obtain rfl := Option.some.inj H
        have hnb47 := NB135_134.out
        have hnc47 := NB134_135.out
        have hcz48_0 : w7.cell? ⟨gb135, 0, none⟩ = some (.string a2_0) := (blk_cell BK135.out 0).trans rfl
        have hcz48_1 : w7.cell? ⟨gb135, 1, none⟩ = some (.bool a2_1) := (blk_cell BK135.out 1).trans rfl
        have hcz48_2 : w7.cell? ⟨gb135, 2, none⟩ = some (.slice A2_2 l2_2.length c2_2) := (blk_cell BK135.out 2).trans rfl
        have hcz48_3 : w7.cell? ⟨gb135, 3, none⟩ = some (.string a2_3) := (blk_cell BK135.out 3).trans rfl
        have hfz48_0 := blk_frozen BK135.out 0
        have hfz48_1 := blk_frozen BK135.out 1
        have hfz48_2 := blk_frozen BK135.out 2
        have hfz48_3 := blk_frozen BK135.out 3
        go_wp2_with (first | ((with_reducible refine gate_callee (f := 32) rfl ?_); refine goesL_ (some 16) rfl rfl Tryd.func32 (by kernel_rfl) rfl #[.string a2_0] rfl (by (try simp only [List.map_toArray, List.map_cons, List.map_nil]); first | done | rfl) ?_; (with_reducible refine (lex_Ident.calls k a2_0 true _ A8.out ?sideT).mono ?_); (case sideT => first | exact HTB_.out | exact HTB_.out.below (by repeat with_reducible first | exact HB.out | apply below_alloc | apply pw_below_drewN | apply below_drew1 | refine below_set ?_ GE134.out | refine below_set ?_ GE135.out | refine below_set ?_ GE143.out)); rintro e w' ⟨rfl, ⟨nd, rfl⟩⟩; refine ⟨_, rfl, ?_⟩) | ((with_reducible refine gate_callee (f := 49) rfl ?_); refine goesL_ (some 21) rfl rfl Tryd.func49 (by kernel_rfl) rfl #[.slice A1 l1.length c1, .func (.func 50) #[] #[.pointer (some ⟨gb135, 0, none⟩)]] rfl (by (try simp only [List.map_toArray, List.map_cons, List.map_nil]); first | done | rfl) ?_; (with_reducible refine (anyS.calls k gb135 a2_0 a2_1 A2_2 l2_2.length c2_2 a2_3 _ _ l1 false _ ?sideC ?side1 A10.out).mono ?_); (case side1 => repeat (first | exact (Kd.C_below HR1.out (by repeat with_reducible first | exact HB.out | apply below_alloc | apply pw_below_drewN | apply below_drew1 | refine below_set ?_ GE134.out | refine below_set ?_ GE135.out)) | (with_reducible refine Kd.C_alloc ?_ _) | (with_reducible refine Kd.C_drewN ?_ _) | (with_reducible refine Kd.C_drew ?_))); skip; (case sideC => exact (by (with_reducible repeat first | apply bn | apply bd | apply ba); exact BK135.out)); rintro e w49 ⟨rfl, hb⟩; refine ⟨_, rfl, ?_⟩; have n0_ := Aside0.mk (blk_below (g := gb134) (o := .cells #[.slice A0_0 l0_0.length c0_0, .map (some b1)] 52 (0, 0)) (by (with_reducible repeat first | apply bn | apply bd | apply ba); exact BK134.out) hb); have n1_ := Aside0.mk (blk_below (g := gb135) (o := .cells #[.string a2_0, .bool a2_1, .slice A2_2 l2_2.length c2_2, .string a2_3] 37 (0, 0)) (by (with_reducible repeat first | apply bn | apply bd | apply ba); exact BK135.out) hb); have n2_ := Aside0.mk (below_step (by repeat with_reducible first | exact HB.out | apply below_alloc | apply pw_below_drewN | apply below_drew1 | refine below_set ?_ GE134.out | refine below_set ?_ GE135.out) hb); clear BK134; clear BK135; clear HB; have BK134 := n0_; have BK135 := n1_; have HB := n2_; clear n0_ n1_ n2_; (try clear hb); (try clear hb2); (try clear hk); (try clear hi); have hcz50_0 : w49.cell? ⟨gb135, 0, none⟩ = some (.string a2_0) := (blk_cell BK135.out 0).trans rfl; have hcz50_1 : w49.cell? ⟨gb135, 1, none⟩ = some (.bool a2_1) := (blk_cell BK135.out 1).trans rfl; have hcz50_2 : w49.cell? ⟨gb135, 2, none⟩ = some (.slice A2_2 l2_2.length c2_2) := (blk_cell BK135.out 2).trans rfl; have hcz50_3 : w49.cell? ⟨gb135, 3, none⟩ = some (.string a2_3) := (blk_cell BK135.out 3).trans rfl; have hfz50_0 := blk_frozen BK135.out 0; have hfz50_1 := blk_frozen BK135.out 1; have hfz50_2 := blk_frozen BK135.out 2; have hfz50_3 := blk_frozen BK135.out 3; have hcz51_0 : w49.cell? ⟨gb134, 0, none⟩ = some (.slice A0_0 l0_0.length c0_0) := (blk_cell BK134.out 0).trans rfl; have hcz51_1 : w49.cell? ⟨gb134, 1, none⟩ = some (.map (some b1)) := (blk_cell BK134.out 1).trans rfl; have hfz51_0 := blk_frozen BK134.out 0; have hfz51_1 := blk_frozen BK134.out 1) | ((with_reducible refine gate_callee (f := 51) rfl ?_); refine goesL_ (some 31) rfl rfl Tryd.func51 (by kernel_rfl) rfl #[.slice A2_2 l2_2.length c2_2, .func (.func 52) #[] #[.pointer (some ⟨gb134, 0, none⟩)]] rfl (by (try simp only [List.map_toArray, List.map_cons, List.map_nil]); first | done | rfl) ?_; (with_reducible refine (anyT.calls k gb134 A0_0 c0_0 l0_0 b1 a0_1 _ _ l2_2 false _ ?sideC ?side1 A20.out).mono ?_); (case side1 => repeat (first | exact (Kd.C_below HR2_2.out HB.out) | (with_reducible refine Kd.C_alloc ?_ _) | (with_reducible refine Kd.C_drewN ?_ _) | (with_reducible refine Kd.C_drew ?_))); skip; skip; skip; (case sideC => exact ⟨by repeat (first | exact (Kd.C_below HR0_0.out HB.out) | (with_reducible refine Kd.C_alloc ?_ _) | (with_reducible refine Kd.C_drewN ?_ _) | (with_reducible refine Kd.C_drew ?_)), HC0_0.out, (by (with_reducible repeat first | apply bn | apply bd | apply ba); exact BK134.out), (MapSI.Is.below HM1.out (by repeat with_reducible first | exact HB.out | apply below_alloc | apply pw_below_drewN | apply below_drew1 | refine below_set ?_ GE134.out | refine below_set ?_ GE135.out | refine below_set ?_ GE143.out))⟩); rintro e w52 ⟨rfl, hb⟩; refine ⟨_, rfl, ?_⟩; have n0_ := Aside0.mk (blk_below (g := gb134) (o := .cells #[.slice A0_0 l0_0.length c0_0, .map (some b1)] 52 (0, 0)) (by (with_reducible repeat first | apply bn | apply bd | apply ba); exact BK134.out) hb); have n1_ := Aside0.mk (blk_below (g := gb135) (o := .cells #[.string a2_0, .bool a2_1, .slice A2_2 l2_2.length c2_2, .string a2_3] 37 (0, 0)) (by (with_reducible repeat first | apply bn | apply bd | apply ba); exact BK135.out) hb); have n2_ := Aside0.mk (below_step (by repeat with_reducible first | exact HB.out | apply below_alloc | apply pw_below_drewN | apply below_drew1 | refine below_set ?_ GE134.out | refine below_set ?_ GE135.out) hb); clear BK134; clear BK135; clear HB; have BK134 := n0_; have BK135 := n1_; have HB := n2_; clear n0_ n1_ n2_; (try clear hb); (try clear hb2); (try clear hk); (try clear hi); have hcz53_0 : w52.cell? ⟨gb135, 0, none⟩ = some (.string a2_0) := (blk_cell BK135.out 0).trans rfl; have hcz53_1 : w52.cell? ⟨gb135, 1, none⟩ = some (.bool a2_1) := (blk_cell BK135.out 1).trans rfl; have hcz53_2 : w52.cell? ⟨gb135, 2, none⟩ = some (.slice A2_2 l2_2.length c2_2) := (blk_cell BK135.out 2).trans rfl; have hcz53_3 : w52.cell? ⟨gb135, 3, none⟩ = some (.string a2_3) := (blk_cell BK135.out 3).trans rfl; have hfz53_0 := blk_frozen BK135.out 0; have hfz53_1 := blk_frozen BK135.out 1; have hfz53_2 := blk_frozen BK135.out 2; have hfz53_3 := blk_frozen BK135.out 3; have hcz54_0 : w52.cell? ⟨gb134, 0, none⟩ = some (.slice A0_0 l0_0.length c0_0) := (blk_cell BK134.out 0).trans rfl; have hcz54_1 : w52.cell? ⟨gb134, 1, none⟩ = some (.map (some b1)) := (blk_cell BK134.out 1).trans rfl; have hfz54_0 := blk_frozen BK134.out 0; have hfz54_1 := blk_frozen BK134.out 1) | (go_at_call 46; (with_reducible refine (hier_checker_isType.calls _ _ l0_0 a0_1 a2_3 false _ ?side1 ?side2 ?sideM A36.out).mono ?_); (case sideM => exact (MapSI.Is.below HM1.out (by repeat with_reducible first | exact HB.out | apply below_alloc | apply pw_below_drewN | apply below_drew1 | refine below_set ?_ GE134.out | refine below_set ?_ GE135.out | refine below_set ?_ GE143.out))); (case side1 => repeat (first | exact (Kd.C_below HR0_0.out HB.out) | (with_reducible refine Kd.C_alloc ?_ _) | (with_reducible refine Kd.C_drewN ?_ _) | (with_reducible refine Kd.C_drew ?_))); (case side2 => exact HC0_0.out); rintro e w55 ⟨rfl, hb⟩; have n0_ := Aside0.mk (blk_below (g := gb134) (o := .cells #[.slice A0_0 l0_0.length c0_0, .map (some b1)] 52 (0, 0)) (by (with_reducible repeat first | apply bn | apply bd | apply ba); exact BK134.out) hb); have n1_ := Aside0.mk (blk_below (g := gb135) (o := .cells #[.string a2_0, .bool a2_1, .slice A2_2 l2_2.length c2_2, .string a2_3] 37 (0, 0)) (by (with_reducible repeat first | apply bn | apply bd | apply ba); exact BK135.out) hb); have n2_ := Aside0.mk (below_step (by repeat with_reducible first | exact HB.out | apply below_alloc | apply pw_below_drewN | apply below_drew1 | refine below_set ?_ GE134.out | refine below_set ?_ GE135.out) hb); clear BK134; clear BK135; clear HB; have BK134 := n0_; have BK135 := n1_; have HB := n2_; clear n0_ n1_ n2_; (try clear hb); (try clear hb2); (try clear hk); (try clear hi)))
        go_ret
        exact ⟨by first | rfl | (simp [errW_none, errW_some] <;> rfl) | (simp [*, errW_none, errW_some] <;> rfl), by repeat with_reducible first | exact HB.out | apply below_alloc | apply pw_below_drewN | apply below_drew1 | refine below_set ?_ GE134.out | refine below_set ?_ GE135.out⟩
  ·replace c9 := Bool.eq_false_iff.mpr c9
   subst c9
   have H1 : (some 5) = some r := by rw [if_neg (show ¬ (false = true) by decide)] at H; exact H
   clear H
   have H := H1
   clear H1
   obtain rfl := Option.some.inj H
   have hnb56 := NB135_134.out
   have hnc56 := NB134_135.out
   have hcz57_0 : w7.cell? ⟨gb135, 0, none⟩ = some (.string a2_0) := (blk_cell BK135.out 0).trans rfl
   have hcz57_1 : w7.cell? ⟨gb135, 1, none⟩ = some (.bool a2_1) := (blk_cell BK135.out 1).trans rfl
   have hcz57_2 : w7.cell? ⟨gb135, 2, none⟩ = some (.slice A2_2 l2_2.length c2_2) := (blk_cell BK135.out 2).trans rfl
   have hcz57_3 : w7.cell? ⟨gb135, 3, none⟩ = some (.string a2_3) := (blk_cell BK135.out 3).trans rfl
   have hfz57_0 := blk_frozen BK135.out 0
   have hfz57_1 := blk_frozen BK135.out 1
   have hfz57_2 := blk_frozen BK135.out 2
   have hfz57_3 := blk_frozen BK135.out 3
   go_wp2_with (first | ((with_reducible refine gate_callee (f := 32) rfl ?_); refine goesL_ (some 16) rfl rfl Tryd.func32 (by kernel_rfl) rfl #[.string a2_0] rfl (by (try simp only [List.map_toArray, List.map_cons, List.map_nil]); first | done | rfl) ?_; (with_reducible refine (lex_Ident.calls k a2_0 false _ A8.out ?sideT).mono ?_); (case sideT => first | exact HTB_.out | exact HTB_.out.below (by repeat with_reducible first | exact HB.out | apply below_alloc | apply pw_below_drewN | apply below_drew1 | refine below_set ?_ GE134.out | refine below_set ?_ GE135.out | refine below_set ?_ GE143.out)); rintro e w' ⟨rfl, ⟨nd, rfl⟩⟩; refine ⟨_, rfl, ?_⟩))
   go_ret
   exact ⟨by first | rfl | (simp [errW_none, errW_some] <;> rfl) | (simp [*, errW_none, errW_some] <;> rfl), by repeat with_reducible first | exact HB.out | apply below_alloc | apply pw_below_drewN | apply below_drew1 | refine below_set ?_ GE134.out | refine below_set ?_ GE135.out⟩
 case rest =>
  clear HC5
  (try clear c1);(try clear c2);(try clear p2);(try clear c3);(try clear c4);(try clear c5);(try clear c9);(try clear c10);(try clear c11);(try clear c12);(try clear c15);(try clear c15b0);(try clear c15b1);(try clear c16);(try clear c21);(try clear c22);(try clear c28);(try clear c28b0);(try clear c28b1);(try clear c29);(try clear c32);(try clear c34);(try clear c37);(try clear c38);(try clear c47);(try clear c56);(try clear hcz13_0);(try clear hcz13_1);(try clear hcz13_2);(try clear hcz13_3);(try clear hcz17_0);(try clear hcz17_1);(try clear hcz17_2);(try clear hcz17_3);(try clear hcz19_0);(try clear hcz19_1);(try clear hcz19_2);(try clear hcz19_3);(try clear hcz23_0);(try clear hcz23_1);(try clear hcz23_2);(try clear hcz23_3);(try clear hcz25_0);(try clear hcz25_1);(try clear hcz25_2);(try clear hcz25_3);(try clear hcz26_0);(try clear hcz26_1);(try clear hcz30_0);(try clear hcz30_1);(try clear hcz30_2);(try clear hcz30_3);(try clear hcz32_0);(try clear hcz32_1);(try clear hcz32_2);(try clear hcz32_3);(try clear hcz33_0);(try clear hcz33_1);(try clear hcz35_0);(try clear hcz35_1);(try clear hcz35_2);(try clear hcz35_3);(try clear hcz39_0);(try clear hcz39_1);(try clear hcz39_2);(try clear hcz39_3);(try clear hcz41_0);(try clear hcz41_1);(try clear hcz41_2);(try clear hcz41_3);(try clear hcz42_0);(try clear hcz42_1);(try clear hcz44_0);(try clear hcz44_1);(try clear hcz44_2);(try clear hcz44_3);(try clear hcz45_0);(try clear hcz45_1);(try clear hcz48_0);(try clear hcz48_1);(try clear hcz48_2);(try clear hcz48_3);(try clear hcz50_0);(try clear hcz50_1);(try clear hcz50_2);(try clear hcz50_3);(try clear hcz51_0);(try clear hcz51_1);(try clear hcz53_0);(try clear hcz53_1);(try clear hcz53_2);(try clear hcz53_3);(try clear hcz54_0);(try clear hcz54_1);(try clear hcz57_0);(try clear hcz57_1);(try clear hcz57_2);(try clear hcz57_3);(try clear hfz13_0);(try clear hfz13_1);(try clear hfz13_2);(try clear hfz13_3);(try clear hfz17_0);(try clear hfz17_1);(try clear hfz17_2);(try clear hfz17_3);(try clear hfz19_0);(try clear hfz19_1);(try clear hfz19_2);(try clear hfz19_3);(try clear hfz23_0);(try clear hfz23_1);(try clear hfz23_2);(try clear hfz23_3);(try clear hfz25_0);(try clear hfz25_1);(try clear hfz25_2);(try clear hfz25_3);(try clear hfz26_0);(try clear hfz26_1);(try clear hfz30_0);(try clear hfz30_1);(try clear hfz30_2);(try clear hfz30_3);(try clear hfz32_0);(try clear hfz32_1);(try clear hfz32_2);(try clear hfz32_3);(try clear hfz33_0);(try clear hfz33_1);(try clear hfz35_0);(try clear hfz35_1);(try clear hfz35_2);(try clear hfz35_3);(try clear hfz39_0);(try clear hfz39_1);(try clear hfz39_2);(try clear hfz39_3);(try clear hfz41_0);(try clear hfz41_1);(try clear hfz41_2);(try clear hfz41_3);(try clear hfz42_0);(try clear hfz42_1);(try clear hfz44_0);(try clear hfz44_1);(try clear hfz44_2);(try clear hfz44_3);(try clear hfz45_0);(try clear hfz45_1);(try clear hfz48_0);(try clear hfz48_1);(try clear hfz48_2);(try clear hfz48_3);(try clear hfz50_0);(try clear hfz50_1);(try clear hfz50_2);(try clear hfz50_3);(try clear hfz51_0);(try clear hfz51_1);(try clear hfz53_0);(try clear hfz53_1);(try clear hfz53_2);(try clear hfz53_3);(try clear hfz54_0);(try clear hfz54_1);(try clear hfz57_0);(try clear hfz57_1);(try clear hfz57_2);(try clear hfz57_3)
  obtain ⟨kq, HA, HJ4, BK134, BK135, HB⟩ := hcut
  cases kq with
  | zero => exact absurd HA.out (by simp [hier_checker_method.j0])
  | succ kj4 =>
   have H := HA.out
   clear HA
   simp only [hier_checker_method.j0] at H
   have H' := Aside0.mk H
   clear H
   go_wp2
   go_loopg [46] kj4 (fun kq v46 w' => ∃ (x46_2 : Int), v46 = .int .i64 x46_2 ∧ Aside0 (hier_checker_method.l0 kq l3 (l3.length : Int) x46_2 l0_0 a0_1 a2_0 a2_1 l2_2 a2_3 = some r) ∧ Aside0 (kq ≤ kj4) ∧ Aside0 (w'.heap[gb134]? = some (.cells #[(.slice A0_0 l0_0.length c0_0), .map (some b1)] 52 (0, 0))) ∧ Aside0 (w'.heap[gb135]? = some (.cells #[.string a2_0, .bool a2_1, (.slice A2_2 l2_2.length c2_2), .string a2_3] 37 (0, 0))) ∧ Aside0 (Below w.heap.size w w'))
   case atStart => exact ⟨(0), (by first | rfl | (simp; done) | (simp [*]; done)), H', ⟨Nat.le_refl _⟩, ⟨by (with_reducible repeat first | apply bn | apply bd | apply ba); exact BK134.out⟩, ⟨by (with_reducible repeat first | apply bn | apply bd | apply ba); exact BK135.out⟩, ⟨by repeat with_reducible first | exact HB.out | apply below_alloc | apply pw_below_drewN | apply below_drew1 | refine below_set ?_ GE134.out | refine below_set ?_ GE135.out⟩⟩
   case round =>
    clear H'
    (try clear c1);(try clear c2);(try clear p2);(try clear c3);(try clear c4);(try clear c5);(try clear c9);(try clear c10);(try clear c11);(try clear c12);(try clear c15);(try clear c15b0);(try clear c15b1);(try clear c16);(try clear c21);(try clear c22);(try clear c28);(try clear c28b0);(try clear c28b1);(try clear c29);(try clear c32);(try clear c34);(try clear c37);(try clear c38);(try clear c47);(try clear c56);(try clear hcz13_0);(try clear hcz13_1);(try clear hcz13_2);(try clear hcz13_3);(try clear hcz17_0);(try clear hcz17_1);(try clear hcz17_2);(try clear hcz17_3);(try clear hcz19_0);(try clear hcz19_1);(try clear hcz19_2);(try clear hcz19_3);(try clear hcz23_0);(try clear hcz23_1);(try clear hcz23_2);(try clear hcz23_3);(try clear hcz25_0);(try clear hcz25_1);(try clear hcz25_2);(try clear hcz25_3);(try clear hcz26_0);(try clear hcz26_1);(try clear hcz30_0);(try clear hcz30_1);(try clear hcz30_2);(try clear hcz30_3);(try clear hcz32_0);(try clear hcz32_1);(try clear hcz32_2);(try clear hcz32_3);(try clear hcz33_0);(try clear hcz33_1);(try clear hcz35_0);(try clear hcz35_1);(try clear hcz35_2);(try clear hcz35_3);(try clear hcz39_0);(try clear hcz39_1);(try clear hcz39_2);(try clear hcz39_3);(try clear hcz41_0);(try clear hcz41_1);(try clear hcz41_2);(try clear hcz41_3);(try clear hcz42_0);(try clear hcz42_1);(try clear hcz44_0);(try clear hcz44_1);(try clear hcz44_2);(try clear hcz44_3);(try clear hcz45_0);(try clear hcz45_1);(try clear hcz48_0);(try clear hcz48_1);(try clear hcz48_2);(try clear hcz48_3);(try clear hcz50_0);(try clear hcz50_1);(try clear hcz50_2);(try clear hcz50_3);(try clear hcz51_0);(try clear hcz51_1);(try clear hcz53_0);(try clear hcz53_1);(try clear hcz53_2);(try clear hcz53_3);(try clear hcz54_0);(try clear hcz54_1);(try clear hcz57_0);(try clear hcz57_1);(try clear hcz57_2);(try clear hcz57_3);(try clear hfz13_0);(try clear hfz13_1);(try clear hfz13_2);(try clear hfz13_3);(try clear hfz17_0);(try clear hfz17_1);(try clear hfz17_2);(try clear hfz17_3);(try clear hfz19_0);(try clear hfz19_1);(try clear hfz19_2);(try clear hfz19_3);(try clear hfz23_0);(try clear hfz23_1);(try clear hfz23_2);(try clear hfz23_3);(try clear hfz25_0);(try clear hfz25_1);(try clear hfz25_2);(try clear hfz25_3);(try clear hfz26_0);(try clear hfz26_1);(try clear hfz30_0);(try clear hfz30_1);(try clear hfz30_2);(try clear hfz30_3);(try clear hfz32_0);(try clear hfz32_1);(try clear hfz32_2);(try clear hfz32_3);(try clear hfz33_0);(try clear hfz33_1);(try clear hfz35_0);(try clear hfz35_1);(try clear hfz35_2);(try clear hfz35_3);(try clear hfz39_0);(try clear hfz39_1);(try clear hfz39_2);(try clear hfz39_3);(try clear hfz41_0);(try clear hfz41_1);(try clear hfz41_2);(try clear hfz41_3);(try clear hfz42_0);(try clear hfz42_1);(try clear hfz44_0);(try clear hfz44_1);(try clear hfz44_2);(try clear hfz44_3);(try clear hfz45_0);(try clear hfz45_1);(try clear hfz48_0);(try clear hfz48_1);(try clear hfz48_2);(try clear hfz48_3);(try clear hfz50_0);(try clear hfz50_1);(try clear hfz50_2);(try clear hfz50_3);(try clear hfz51_0);(try clear hfz51_1);(try clear hfz53_0);(try clear hfz53_1);(try clear hfz53_2);(try clear hfz53_3);(try clear hfz54_0);(try clear hfz54_1);(try clear hfz57_0);(try clear hfz57_1);(try clear hfz57_2);(try clear hfz57_3);(try clear p2)
    obtain ⟨x46_2, rfl, HA, HK2, BK134, BK135, HB⟩ := hrel
    cases gk with
    | zero => exact absurd HA.out (by simp [hier_checker_method.l0])
    | succ k2 =>
     have H := HA.out
     clear HA
     simp only [hier_checker_method.l0] at H
     by_cases c58 : x46_2 < (l3.length : Int)
     ·rw [if_pos c58] at H
      have c58b0 : decide (x46_2 < (l3.length : Int)) = true := decide_eq_true c58
      clear c58
      by_cases c59 : 0 ≤ x46_2
      ·rw [if_pos c59] at H
       have c59b0 : decide (0 ≤ x46_2) = true := decide_eq_true c59
       clear c59
       by_cases c60 : x46_2 < (l3.length : Int)
       ·rw [if_pos c60] at H
        have c60b0 : decide (x46_2 < (l3.length : Int)) = true := decide_eq_true c60
        clear c60
        by_cases c61 : 0 ≤ (rd l3 x46_2)
        ·rw [if_pos c61] at H
         have c61b0 : decide (0 ≤ (rd l3 x46_2)) = true := decide_eq_true c61
         clear c61
         by_cases c62 : (rd l3 x46_2) < (l0_0.length : Int)
         ·rw [if_pos c62] at H
          have c62b0 : decide ((rd l3 x46_2) < (l0_0.length : Int)) = true := decide_eq_true c62
          clear c62
          have H' := Aside0.mk H
          clear H
          have p140 : 0 ≤ (x46_2 : Int) := of_decide_eq_true (by first | (with_reducible assumption) | assumption)
          have q140 : x46_2 < (l3.length : Int) := of_decide_eq_true (by first | (with_reducible assumption) | assumption)
          obtain ⟨ad140, e140, hx140_0⟩ := Kd.at_int HR3.out x46_2 p140 q140
          cases e140
          replace hx140_0 := (HB.out.cell (World.block_lt_of_cell? w _ hx140_0)).trans hx140_0
          replace p140 := eq_true p140
          replace q140 := eq_true q140
          have hnb63 := NB134_135.out
          have hnc63 := NB135_134.out
          have hcz64_0 : wr.cell? ⟨gb134, 0, none⟩ = some (.slice A0_0 l0_0.length c0_0) := (blk_cell BK134.out 0).trans rfl
          have hcz64_1 : wr.cell? ⟨gb134, 1, none⟩ = some (.map (some b1)) := (blk_cell BK134.out 1).trans rfl
          have hfz64_0 := blk_frozen BK134.out 0
          have hfz64_1 := blk_frozen BK134.out 1
          have p141 : 0 ≤ ((rd l3 x46_2) : Int) := of_decide_eq_true (by first | (with_reducible assumption) | assumption)
          have q141 : (rd l3 x46_2) < (l0_0.length : Int) := of_decide_eq_true (by first | (with_reducible assumption) | assumption)
          obtain ⟨ad141, A141_2, c141_2, A141_3, c141_3, e141, hx141_0, hx141_1, hx141_2, hx141_3, hl141_2, hi141_2, hl141_3, hi141_3⟩ := at_T32 HR0_0.out (rd l3 x46_2) p141 q141
          cases e141
          replace hx141_0 := (HB.out.cell (World.block_lt_of_cell? w _ hx141_0)).trans hx141_0
          replace hx141_1 := (HB.out.cell (World.block_lt_of_cell? w _ hx141_1)).trans hx141_1
          replace hx141_2 := (HB.out.cell (World.block_lt_of_cell? w _ hx141_2)).trans hx141_2
          replace hx141_3 := (HB.out.cell (World.block_lt_of_cell? w _ hx141_3)).trans hx141_3
          have HR141_2 := Aside0.mk hi141_2
          have HC141_2 := Aside0.mk hl141_2
          clear hi141_2 hl141_2
          have HR141_3 := Aside0.mk hi141_3
          have HC141_3 := Aside0.mk hl141_3
          clear hi141_3 hl141_3
          replace p141 := eq_true p141
          replace q141 := eq_true q141
          go_wp2
          go_loopg [58] k2 (fun kq v58 w' => ∃ (x58_3 : Int), v58 = .int .i64 x58_3 ∧ Aside0 (hier_checker_method.l1 kq l3 (l3.length : Int) x46_2 ((rd_T32 l0_0 (rd l3 x46_2)).f3) (((rd_T32 l0_0 (rd l3 x46_2)).f3).length : Int) x58_3 l0_0 a0_1 a2_0 a2_1 l2_2 a2_3 = some r) ∧ Aside0 (kq ≤ k2) ∧ Aside0 (w'.heap[gb134]? = some (.cells #[(.slice (some ad141) l0_0.length c0_0), .map (some b1)] 52 (0, 0))) ∧ Aside0 (w'.heap[gb135]? = some (.cells #[.string a2_0, .bool a2_1, (.slice A2_2 l2_2.length c2_2), .string a2_3] 37 (0, 0))) ∧ Aside0 (Below w.heap.size w w'))
          case atStart => exact ⟨(0), (by first | rfl | (simp; done) | (simp [*]; done)), H', ⟨Nat.le_refl _⟩, ⟨by (with_reducible repeat first | apply bn | apply bd | apply ba); exact BK134.out⟩, ⟨by (with_reducible repeat first | apply bn | apply bd | apply ba); exact BK135.out⟩, ⟨by repeat with_reducible first | exact HB.out | apply below_alloc | apply pw_below_drewN | apply below_drew1 | refine below_set ?_ GE134.out | refine below_set ?_ GE135.out⟩⟩
          case round =>
           clear H'
           (try clear c1);(try clear p1);(try clear q1);(try clear hx1);(try clear c2);(try clear p2);(try clear c3);(try clear c4);(try clear c5);(try clear c6);(try clear c9);(try clear c10);(try clear c11);(try clear c12);(try clear c14);(try clear p14);(try clear q14);(try clear hx14);(try clear c15);(try clear c15b0);(try clear c15b1);(try clear c16);(try clear c21);(try clear c22);(try clear c28);(try clear c28b0);(try clear c28b1);(try clear c29);(try clear c32);(try clear c34);(try clear c37);(try clear c38);(try clear c47);(try clear c56);(try clear c58);(try clear c58b0);(try clear c59);(try clear c59b0);(try clear c60);(try clear c60b0);(try clear c61);(try clear c61b0);(try clear c62);(try clear c62b0);(try clear c63);(try clear hcz13_0);(try clear hcz13_1);(try clear hcz13_2);(try clear hcz13_3);(try clear hcz17_0);(try clear hcz17_1);(try clear hcz17_2);(try clear hcz17_3);(try clear hcz19_0);(try clear hcz19_1);(try clear hcz19_2);(try clear hcz19_3);(try clear hcz23_0);(try clear hcz23_1);(try clear hcz23_2);(try clear hcz23_3);(try clear hcz25_0);(try clear hcz25_1);(try clear hcz25_2);(try clear hcz25_3);(try clear hcz26_0);(try clear hcz26_1);(try clear hcz30_0);(try clear hcz30_1);(try clear hcz30_2);(try clear hcz30_3);(try clear hcz32_0);(try clear hcz32_1);(try clear hcz32_2);(try clear hcz32_3);(try clear hcz33_0);(try clear hcz33_1);(try clear hcz35_0);(try clear hcz35_1);(try clear hcz35_2);(try clear hcz35_3);(try clear hcz39_0);(try clear hcz39_1);(try clear hcz39_2);(try clear hcz39_3);(try clear hcz41_0);(try clear hcz41_1);(try clear hcz41_2);(try clear hcz41_3);(try clear hcz42_0);(try clear hcz42_1);(try clear hcz44_0);(try clear hcz44_1);(try clear hcz44_2);(try clear hcz44_3);(try clear hcz45_0);(try clear hcz45_1);(try clear hcz48_0);(try clear hcz48_1);(try clear hcz48_2);(try clear hcz48_3);(try clear hcz50_0);(try clear hcz50_1);(try clear hcz50_2);(try clear hcz50_3);(try clear hcz51_0);(try clear hcz51_1);(try clear hcz53_0);(try clear hcz53_1);(try clear hcz53_2);(try clear hcz53_3);(try clear hcz54_0);(try clear hcz54_1);(try clear hcz57_0);(try clear hcz57_1);(try clear hcz57_2);(try clear hcz57_3);(try clear hcz64_0);(try clear hcz64_1);(try clear hfz13_0);(try clear hfz13_1);(try clear hfz13_2);(try clear hfz13_3);(try clear hfz17_0);(try clear hfz17_1);(try clear hfz17_2);(try clear hfz17_3);(try clear hfz19_0);(try clear hfz19_1);(try clear hfz19_2);(try clear hfz19_3);(try clear hfz23_0);(try clear hfz23_1);(try clear hfz23_2);(try clear hfz23_3);(try clear hfz25_0);(try clear hfz25_1);(try clear hfz25_2);(try clear hfz25_3);(try clear hfz26_0);(try clear hfz26_1);(try clear hfz30_0);(try clear hfz30_1);(try clear hfz30_2);(try clear hfz30_3);(try clear hfz32_0);(try clear hfz32_1);(try clear hfz32_2);(try clear hfz32_3);(try clear hfz33_0);(try clear hfz33_1);(try clear hfz35_0);(try clear hfz35_1);(try clear hfz35_2);(try clear hfz35_3);(try clear hfz39_0);(try clear hfz39_1);(try clear hfz39_2);(try clear hfz39_3);(try clear hfz41_0);(try clear hfz41_1);(try clear hfz41_2);(try clear hfz41_3);(try clear hfz42_0);(try clear hfz42_1);(try clear hfz44_0);(try clear hfz44_1);(try clear hfz44_2);(try clear hfz44_3);(try clear hfz45_0);(try clear hfz45_1);(try clear hfz48_0);(try clear hfz48_1);(try clear hfz48_2);(try clear hfz48_3);(try clear hfz50_0);(try clear hfz50_1);(try clear hfz50_2);(try clear hfz50_3);(try clear hfz51_0);(try clear hfz51_1);(try clear hfz53_0);(try clear hfz53_1);(try clear hfz53_2);(try clear hfz53_3);(try clear hfz54_0);(try clear hfz54_1);(try clear hfz57_0);(try clear hfz57_1);(try clear hfz57_2);(try clear hfz57_3);(try clear hfz64_0);(try clear hfz64_1);(try clear hx140_0);(try clear hx141_0);(try clear hx141_1);(try clear hx141_2);(try clear hx141_3);(try clear p140);(try clear p141);(try clear p2);(try clear q140);(try clear q141)
           obtain ⟨x58_3, rfl, HA, HK3, BK134, BK135, HB⟩ := hrel
           cases gk with
           | zero => exact absurd HA.out (by simp [hier_checker_method.l1])
           | succ k3 =>
            have H := HA.out
            clear HA
            simp only [hier_checker_method.l1] at H
            by_cases c65 : x58_3 < (((rd_T32 l0_0 (rd l3 x46_2)).f3).length : Int)
            ·rw [if_pos c65] at H
             have c65b0 : decide (x58_3 < (((rd_T32 l0_0 (rd l3 x46_2)).f3).length : Int)) = true := decide_eq_true c65
             clear c65
             by_cases c66 : 0 ≤ x58_3
             ·rw [if_pos c66] at H
              have c66b0 : decide (0 ≤ x58_3) = true := decide_eq_true c66
              clear c66
              by_cases c67 : x58_3 < (((rd_T32 l0_0 (rd l3 x46_2)).f3).length : Int)
              ·rw [if_pos c67] at H
               have c67b0 : decide (x58_3 < (((rd_T32 l0_0 (rd l3 x46_2)).f3).length : Int)) = true := decide_eq_true c67
               clear c67
               by_cases c68 : ((rd_T37 ((rd_T32 l0_0 (rd l3 x46_2)).f3) x58_3).f0).toList = a2_0.toList
               ·rw [if_pos c68] at H
                have c68b0 : (((rd_T37 ((rd_T32 l0_0 (rd l3 x46_2)).f3) x58_3).f0).toList == a2_0.toList) = true := beq_iff_eq.mpr c68
                have c68b1 : (((rd_T37 ((rd_T32 l0_0 (rd l3 x46_2)).f3) x58_3).f0).toList != a2_0.toList) = false := bne_eq_false_iff_eq.mpr c68
                clear c68
                obtain ⟨bq69, hbq69⟩ : ∃ b_ : Bool, b_ = ((rd_T37 ((rd_T32 l0_0 (rd l3 x46_2)).f3) x58_3).f1) := ⟨_, rfl⟩
                replace H : (if bq69 = true then (some 11) else (if a2_1 = true then (some 11) else (if ((rd_T37 ((rd_T32 l0_0 (rd l3 x46_2)).f3) x58_3).f3).toList = a2_3.toList then ((slices_Equal_string_string.f k3 ((rd_T37 ((rd_T32 l0_0 (rd l3 x46_2)).f3) x58_3).f2) l2_2).bind fun t144 => (if t144 = true then (hier_checker_method.l1 k3 l3 (l3.length : Int) x46_2 ((rd_T32 l0_0 (rd l3 x46_2)).f3) (((rd_T32 l0_0 (rd l3 x46_2)).f3).length : Int) (wrap64 (x58_3 + 1)) l0_0 a0_1 a2_0 a2_1 l2_2 a2_3) else (some 11))) else (some 11)))) = some r := by rw [← hbq69] at H; exact H
                have Nbq69 := Aside0.mk hbq69
                clear hbq69
                by_cases c70 : bq69 = true
                ·subst c70
                 have H1 : (some 11) = some r := by rw [if_pos rfl] at H; exact H
                 clear H
                 have H := H1
                 clear H1
                 obtain rfl := Option.some.inj H
                 have p142 : 0 ≤ (x58_3 : Int) := of_decide_eq_true (by first | (with_reducible assumption) | assumption)
                 have q142 : x58_3 < (((rd_T32 l0_0 (rd l3 x46_2)).f3).length : Int) := of_decide_eq_true (by first | (with_reducible assumption) | assumption)
                 obtain ⟨ad142, A142_2, c142_2, e142, hx142_0, hx142_1, hx142_2, hx142_3, hl142_2, hi142_2⟩ := at_T37 HR141_3.out x58_3 p142 q142
                 (try rw [← Nbq69.out] at hx142_1)
                 cases e142
                 replace hx142_0 := (HB.out.cell (World.block_lt_of_cell? w _ hx142_0)).trans hx142_0
                 replace hx142_1 := (HB.out.cell (World.block_lt_of_cell? w _ hx142_1)).trans hx142_1
                 replace hx142_2 := (HB.out.cell (World.block_lt_of_cell? w _ hx142_2)).trans hx142_2
                 replace hx142_3 := (HB.out.cell (World.block_lt_of_cell? w _ hx142_3)).trans hx142_3
                 have HR142_2 := Aside0.mk hi142_2
                 have HC142_2 := Aside0.mk hl142_2
                 clear hi142_2 hl142_2
                 replace p142 := eq_true p142
                 replace q142 := eq_true q142
                 go_wp2_with (first | ((with_reducible refine gate_dst (N := 12) rfl ?_); refine box_event ?hg (N := 12) ?hd (cs := #[.string (⟨#[]⟩ : ByteArray), .bool false, .slice none 0 0, .string (⟨#[]⟩ : ByteArray)]) (t := 37) ?hr ?_; (case hd => rfl); (case hg => rfl); (case hr => first | (go_simp; done) | (go_simp; rfl)); intro gb143 hg w71 hbox hb; have n0_ := Aside0.mk (blk_below (g := gb134) (o := .cells #[.slice (some ad141) l0_0.length c0_0, .map (some b1)] 52 (0, 0)) (by (with_reducible repeat first | apply bn | apply bd | apply ba); exact BK134.out) hb); have n1_ := Aside0.mk (blk_below (g := gb135) (o := .cells #[.string a2_0, .bool a2_1, .slice A2_2 l2_2.length c2_2, .string a2_3] 37 (0, 0)) (by (with_reducible repeat first | apply bn | apply bd | apply ba); exact BK135.out) hb); have n2_ := Aside0.mk (below_step (by repeat with_reducible first | exact HB.out | apply below_alloc | apply pw_below_drewN | apply below_drew1 | refine below_set ?_ GE134.out | refine below_set ?_ GE135.out) hb); have n3_ := Aside0.mk (hbox); have n4_ := Aside0.mk ((by rw [hg]; exact (below_size (by repeat with_reducible first | exact HB.out | apply below_alloc | apply pw_below_drewN | apply below_drew1 | refine below_set ?_ GE134.out | refine below_set ?_ GE135.out)) : w.heap.size ≤ gb143)); have n5_ := Aside0.mk ((by rw [hg]; exact (below_size (by repeat with_reducible first | exact HB.out | apply below_alloc | apply pw_below_drewN | apply below_drew1 | refine below_set ?_ GE134.out | refine below_set ?_ GE135.out)) : w.heap.size ≤ gb143)); have n6_ := Aside0.mk ((by rw [hg]; exact Nat.ne_of_lt (blk_lt (g := gb134) (o := .cells #[.slice (some ad141) l0_0.length c0_0, .map (some b1)] 52 (0, 0)) (by (with_reducible repeat first | apply bn | apply bd | apply ba); exact BK134.out)) : gb134 ≠ gb143)); have n7_ := Aside0.mk ((by rw [hg]; exact Nat.ne_of_gt (blk_lt (g := gb134) (o := .cells #[.slice (some ad141) l0_0.length c0_0, .map (some b1)] 52 (0, 0)) (by (with_reducible repeat first | apply bn | apply bd | apply ba); exact BK134.out)) : gb143 ≠ gb134)); have n8_ := Aside0.mk ((by rw [hg]; exact Nat.ne_of_lt (blk_lt (g := gb135) (o := .cells #[.string a2_0, .bool a2_1, .slice A2_2 l2_2.length c2_2, .string a2_3] 37 (0, 0)) (by (with_reducible repeat first | apply bn | apply bd | apply ba); exact BK135.out)) : gb135 ≠ gb143)); have n9_ := Aside0.mk ((by rw [hg]; exact Nat.ne_of_gt (blk_lt (g := gb135) (o := .cells #[.string a2_0, .bool a2_1, .slice A2_2 l2_2.length c2_2, .string a2_3] 37 (0, 0)) (by (with_reducible repeat first | apply bn | apply bd | apply ba); exact BK135.out)) : gb143 ≠ gb135)); clear BK134; clear BK135; clear HB; have BK134 := n0_; have BK135 := n1_; have HB := n2_; have BK143 := n3_; have GW143 := n4_; have GE143 := n5_; have NB134_143 := n6_; have NB143_134 := n7_; have NB135_143 := n8_; have NB143_135 := n9_; clear n0_ n1_ n2_ n3_ n4_ n5_ n6_ n7_ n8_ n9_; clear hb hbox hg; have hnb72 := NB143_134.out; have hnc72 := NB134_143.out; have hnb73 := NB143_135.out; have hnc73 := NB135_143.out; have hcz74_0 : w71.cell? ⟨gb143, 0, none⟩ = some (.string (⟨#[]⟩ : ByteArray)) := (blk_cell BK143.out 0).trans rfl; have hcz74_1 : w71.cell? ⟨gb143, 1, none⟩ = some (.bool false) := (blk_cell BK143.out 1).trans rfl; have hcz74_2 : w71.cell? ⟨gb143, 2, none⟩ = some (.slice none 0 0) := (blk_cell BK143.out 2).trans rfl; have hcz74_3 : w71.cell? ⟨gb143, 3, none⟩ = some (.string (⟨#[]⟩ : ByteArray)) := (blk_cell BK143.out 3).trans rfl; have hfz74_0 := blk_frozen BK143.out 0; have hfz74_1 := blk_frozen BK143.out 1; have hfz74_2 := blk_frozen BK143.out 2; have hfz74_3 := blk_frozen BK143.out 3; have hnb75 := NB135_134.out; have hnc75 := NB134_135.out; have hcz76_0 : w71.cell? ⟨gb135, 0, none⟩ = some (.string a2_0) := (blk_cell BK135.out 0).trans rfl; have hcz76_1 : w71.cell? ⟨gb135, 1, none⟩ = some (.bool a2_1) := (blk_cell BK135.out 1).trans rfl; have hcz76_2 : w71.cell? ⟨gb135, 2, none⟩ = some (.slice A2_2 l2_2.length c2_2) := (blk_cell BK135.out 2).trans rfl; have hcz76_3 : w71.cell? ⟨gb135, 3, none⟩ = some (.string a2_3) := (blk_cell BK135.out 3).trans rfl; have hfz76_0 := blk_frozen BK135.out 0; have hfz76_1 := blk_frozen BK135.out 1; have hfz76_2 := blk_frozen BK135.out 2; have hfz76_3 := blk_frozen BK135.out 3))
                 go_ret
                 exact ⟨by first | rfl | (simp [errW_none, errW_some] <;> rfl) | (simp [*, errW_none, errW_some] <;> rfl), by repeat with_reducible first | exact HB.out | apply below_alloc | apply pw_below_drewN | apply below_drew1 | refine below_set ?_ GE134.out | refine below_set ?_ GE135.out | refine below_set ?_ GE143.out⟩
                ·replace c70 := Bool.eq_false_iff.mpr c70
                 subst c70
                 have H1 : (if a2_1 = true then (some 11) else (if ((rd_T37 ((rd_T32 l0_0 (rd l3 x46_2)).f3) x58_3).f3).toList = a2_3.toList then ((slices_Equal_string_string.f k3 ((rd_T37 ((rd_T32 l0_0 (rd l3 x46_2)).f3) x58_3).f2) l2_2).bind fun t144 => (if t144 = true then (hier_checker_method.l1 k3 l3 (l3.length : Int) x46_2 ((rd_T32 l0_0 (rd l3 x46_2)).f3) (((rd_T32 l0_0 (rd l3 x46_2)).f3).length : Int) (wrap64 (x58_3 + 1)) l0_0 a0_1 a2_0 a2_1 l2_2 a2_3) else (some 11))) else (some 11))) = some r := by rw [if_neg (show ¬ (false = true) by decide)] at H; exact H
                 clear H
                 have H := H1
                 clear H1
                 by_cases c77 : a2_1 = true
                 ·subst c77
                  have H1 : (some 11) = some r := by rw [if_pos rfl] at H; exact H
                  clear H
                  have H := H1
                  clear H1
                  obtain rfl := Option.some.inj H
                  have p142 : 0 ≤ (x58_3 : Int) := of_decide_eq_true (by first | (with_reducible assumption) | assumption)
                  have q142 : x58_3 < (((rd_T32 l0_0 (rd l3 x46_2)).f3).length : Int) := of_decide_eq_true (by first | (with_reducible assumption) | assumption)
                  obtain ⟨ad142, A142_2, c142_2, e142, hx142_0, hx142_1, hx142_2, hx142_3, hl142_2, hi142_2⟩ := at_T37 HR141_3.out x58_3 p142 q142
                  (try rw [← Nbq69.out] at hx142_1)
                  cases e142
                  replace hx142_0 := (HB.out.cell (World.block_lt_of_cell? w _ hx142_0)).trans hx142_0
                  replace hx142_1 := (HB.out.cell (World.block_lt_of_cell? w _ hx142_1)).trans hx142_1
                  replace hx142_2 := (HB.out.cell (World.block_lt_of_cell? w _ hx142_2)).trans hx142_2
                  replace hx142_3 := (HB.out.cell (World.block_lt_of_cell? w _ hx142_3)).trans hx142_3
                  have HR142_2 := Aside0.mk hi142_2
                  have HC142_2 := Aside0.mk hl142_2
                  clear hi142_2 hl142_2
                  replace p142 := eq_true p142
                  replace q142 := eq_true q142
                  go_wp2_with (first | ((with_reducible refine gate_dst (N := 12) rfl ?_); refine box_event ?hg (N := 12) ?hd (cs := #[.string (⟨#[]⟩ : ByteArray), .bool false, .slice none 0 0, .string (⟨#[]⟩ : ByteArray)]) (t := 37) ?hr ?_; (case hd => rfl); (case hg => rfl); (case hr => first | (go_simp; done) | (go_simp; rfl)); intro gb143 hg w78 hbox hb; have n0_ := Aside0.mk (blk_below (g := gb134) (o := .cells #[.slice (some ad141) l0_0.length c0_0, .map (some b1)] 52 (0, 0)) (by (with_reducible repeat first | apply bn | apply bd | apply ba); exact BK134.out) hb); have n1_ := Aside0.mk (blk_below (g := gb135) (o := .cells #[.string a2_0, .bool true, .slice A2_2 l2_2.length c2_2, .string a2_3] 37 (0, 0)) (by (with_reducible repeat first | apply bn | apply bd | apply ba); exact BK135.out) hb); have n2_ := Aside0.mk (below_step (by repeat with_reducible first | exact HB.out | apply below_alloc | apply pw_below_drewN | apply below_drew1 | refine below_set ?_ GE134.out | refine below_set ?_ GE135.out) hb); have n3_ := Aside0.mk (hbox); have n4_ := Aside0.mk ((by rw [hg]; exact (below_size (by repeat with_reducible first | exact HB.out | apply below_alloc | apply pw_below_drewN | apply below_drew1 | refine below_set ?_ GE134.out | refine below_set ?_ GE135.out)) : w.heap.size ≤ gb143)); have n5_ := Aside0.mk ((by rw [hg]; exact (below_size (by repeat with_reducible first | exact HB.out | apply below_alloc | apply pw_below_drewN | apply below_drew1 | refine below_set ?_ GE134.out | refine below_set ?_ GE135.out)) : w.heap.size ≤ gb143)); have n6_ := Aside0.mk ((by rw [hg]; exact Nat.ne_of_lt (blk_lt (g := gb134) (o := .cells #[.slice (some ad141) l0_0.length c0_0, .map (some b1)] 52 (0, 0)) (by (with_reducible repeat first | apply bn | apply bd | apply ba); exact BK134.out)) : gb134 ≠ gb143)); have n7_ := Aside0.mk ((by rw [hg]; exact Nat.ne_of_gt (blk_lt (g := gb134) (o := .cells #[.slice (some ad141) l0_0.length c0_0, .map (some b1)] 52 (0, 0)) (by (with_reducible repeat first | apply bn | apply bd | apply ba); exact BK134.out)) : gb143 ≠ gb134)); have n8_ := Aside0.mk ((by rw [hg]; exact Nat.ne_of_lt (blk_lt (g := gb135) (o := .cells #[.string a2_0, .bool true, .slice A2_2 l2_2.length c2_2, .string a2_3] 37 (0, 0)) (by (with_reducible repeat first | apply bn | apply bd | apply ba); exact BK135.out)) : gb135 ≠ gb143)); have n9_ := Aside0.mk ((by rw [hg]; exact Nat.ne_of_gt (blk_lt (g := gb135) (o := .cells #[.string a2_0, .bool true, .slice A2_2 l2_2.length c2_2, .string a2_3] 37 (0, 0)) (by (with_reducible repeat first | apply bn | apply bd | apply ba); exact BK135.out)) : gb143 ≠ gb135)); clear BK134; clear BK135; clear HB; have BK134 := n0_; have BK135 := n1_; have HB := n2_; have BK143 := n3_; have GW143 := n4_; have GE143 := n5_; have NB134_143 := n6_; have NB143_134 := n7_; have NB135_143 := n8_; have NB143_135 := n9_; clear n0_ n1_ n2_ n3_ n4_ n5_ n6_ n7_ n8_ n9_; clear hb hbox hg; have hnb79 := NB143_134.out; have hnc79 := NB134_143.out; have hnb80 := NB143_135.out; have hnc80 := NB135_143.out; have hcz81_0 : w78.cell? ⟨gb143, 0, none⟩ = some (.string (⟨#[]⟩ : ByteArray)) := (blk_cell BK143.out 0).trans rfl; have hcz81_1 : w78.cell? ⟨gb143, 1, none⟩ = some (.bool false) := (blk_cell BK143.out 1).trans rfl; have hcz81_2 : w78.cell? ⟨gb143, 2, none⟩ = some (.slice none 0 0) := (blk_cell BK143.out 2).trans rfl; have hcz81_3 : w78.cell? ⟨gb143, 3, none⟩ = some (.string (⟨#[]⟩ : ByteArray)) := (blk_cell BK143.out 3).trans rfl; have hfz81_0 := blk_frozen BK143.out 0; have hfz81_1 := blk_frozen BK143.out 1; have hfz81_2 := blk_frozen BK143.out 2; have hfz81_3 := blk_frozen BK143.out 3; have hnb82 := NB135_134.out; have hnc82 := NB134_135.out; have hcz83_0 : w78.cell? ⟨gb135, 0, none⟩ = some (.string a2_0) := (blk_cell BK135.out 0).trans rfl; have hcz83_1 : w78.cell? ⟨gb135, 1, none⟩ = some (.bool true) := (blk_cell BK135.out 1).trans rfl; have hcz83_2 : w78.cell? ⟨gb135, 2, none⟩ = some (.slice A2_2 l2_2.length c2_2) := (blk_cell BK135.out 2).trans rfl; have hcz83_3 : w78.cell? ⟨gb135, 3, none⟩ = some (.string a2_3) := (blk_cell BK135.out 3).trans rfl; have hfz83_0 := blk_frozen BK135.out 0; have hfz83_1 := blk_frozen BK135.out 1; have hfz83_2 := blk_frozen BK135.out 2; have hfz83_3 := blk_frozen BK135.out 3))
                  go_ret
                  exact ⟨by first | rfl | (simp [errW_none, errW_some] <;> rfl) | (simp [*, errW_none, errW_some] <;> rfl), by repeat with_reducible first | exact HB.out | apply below_alloc | apply pw_below_drewN | apply below_drew1 | refine below_set ?_ GE134.out | refine below_set ?_ GE135.out | refine below_set ?_ GE143.out⟩
                 ·replace c77 := Bool.eq_false_iff.mpr c77
                  subst c77
                  have H1 : (if ((rd_T37 ((rd_T32 l0_0 (rd l3 x46_2)).f3) x58_3).f3).toList = a2_3.toList then ((slices_Equal_string_string.f k3 ((rd_T37 ((rd_T32 l0_0 (rd l3 x46_2)).f3) x58_3).f2) l2_2).bind fun t144 => (if t144 = true then (hier_checker_method.l1 k3 l3 (l3.length : Int) x46_2 ((rd_T32 l0_0 (rd l3 x46_2)).f3) (((rd_T32 l0_0 (rd l3 x46_2)).f3).length : Int) (wrap64 (x58_3 + 1)) l0_0 a0_1 a2_0 false l2_2 a2_3) else (some 11))) else (some 11)) = some r := by rw [if_neg (show ¬ (false = true) by decide)] at H; exact H
                  clear H
                  have H := H1
                  clear H1
                  by_cases c84 : ((rd_T37 ((rd_T32 l0_0 (rd l3 x46_2)).f3) x58_3).f3).toList = a2_3.toList
                  ·rw [if_pos c84] at H
                   have c84b0 : (((rd_T37 ((rd_T32 l0_0 (rd l3 x46_2)).f3) x58_3).f3).toList == a2_3.toList) = true := beq_iff_eq.mpr c84
                   have c84b1 : (((rd_T37 ((rd_T32 l0_0 (rd l3 x46_2)).f3) x58_3).f3).toList != a2_3.toList) = false := bne_eq_false_iff_eq.mpr c84
                   clear c84
                   replace H := Option.bind_eq_some_iff.mp H
                   obtain ⟨t144, A850, H⟩ := H
                   replace H : (if t144 = true then (hier_checker_method.l1 k3 l3 (l3.length : Int) x46_2 ((rd_T32 l0_0 (rd l3 x46_2)).f3) (((rd_T32 l0_0 (rd l3 x46_2)).f3).length : Int) (wrap64 (x58_3 + 1)) l0_0 a0_1 a2_0 false l2_2 a2_3) else (some 11)) = some r := H
                   have A85 := Aside0.mk A850
                   clear A850
                   by_cases c86 : t144 = true
                   ·subst c86
                    have H1 : (hier_checker_method.l1 k3 l3 (l3.length : Int) x46_2 ((rd_T32 l0_0 (rd l3 x46_2)).f3) (((rd_T32 l0_0 (rd l3 x46_2)).f3).length : Int) (wrap64 (x58_3 + 1)) l0_0 a0_1 a2_0 false l2_2 a2_3) = some r := by rw [if_pos rfl] at H; exact H
                    clear H
                    have H := H1
                    clear H1
                    have H' := Aside0.mk H
                    clear H
                    have p142 : 0 ≤ (x58_3 : Int) := of_decide_eq_true (by first | (with_reducible assumption) | assumption)
                    have q142 : x58_3 < (((rd_T32 l0_0 (rd l3 x46_2)).f3).length : Int) := of_decide_eq_true (by first | (with_reducible assumption) | assumption)
                    obtain ⟨ad142, A142_2, c142_2, e142, hx142_0, hx142_1, hx142_2, hx142_3, hl142_2, hi142_2⟩ := at_T37 HR141_3.out x58_3 p142 q142
                    (try rw [← Nbq69.out] at hx142_1)
                    cases e142
                    replace hx142_0 := (HB.out.cell (World.block_lt_of_cell? w _ hx142_0)).trans hx142_0
                    replace hx142_1 := (HB.out.cell (World.block_lt_of_cell? w _ hx142_1)).trans hx142_1
                    replace hx142_2 := (HB.out.cell (World.block_lt_of_cell? w _ hx142_2)).trans hx142_2
                    replace hx142_3 := (HB.out.cell (World.block_lt_of_cell? w _ hx142_3)).trans hx142_3
                    have HR142_2 := Aside0.mk hi142_2
                    have HC142_2 := Aside0.mk hl142_2
                    clear hi142_2 hl142_2
                    replace p142 := eq_true p142
                    replace q142 := eq_true q142
                    go_wp2_with (first | ((with_reducible refine gate_dst (N := 12) rfl ?_); refine box_event ?hg (N := 12) ?hd (cs := #[.string (⟨#[]⟩ : ByteArray), .bool false, .slice none 0 0, .string (⟨#[]⟩ : ByteArray)]) (t := 37) ?hr ?_; (case hd => rfl); (case hg => rfl); (case hr => first | (go_simp; done) | (go_simp; rfl)); intro gb143 hg w87 hbox hb; have n0_ := Aside0.mk (blk_below (g := gb134) (o := .cells #[.slice (some ad141) l0_0.length c0_0, .map (some b1)] 52 (0, 0)) (by (with_reducible repeat first | apply bn | apply bd | apply ba); exact BK134.out) hb); have n1_ := Aside0.mk (blk_below (g := gb135) (o := .cells #[.string a2_0, .bool false, .slice A2_2 l2_2.length c2_2, .string a2_3] 37 (0, 0)) (by (with_reducible repeat first | apply bn | apply bd | apply ba); exact BK135.out) hb); have n2_ := Aside0.mk (below_step (by repeat with_reducible first | exact HB.out | apply below_alloc | apply pw_below_drewN | apply below_drew1 | refine below_set ?_ GE134.out | refine below_set ?_ GE135.out) hb); have n3_ := Aside0.mk (hbox); have n4_ := Aside0.mk ((by rw [hg]; exact (below_size (by repeat with_reducible first | exact HB.out | apply below_alloc | apply pw_below_drewN | apply below_drew1 | refine below_set ?_ GE134.out | refine below_set ?_ GE135.out)) : w.heap.size ≤ gb143)); have n5_ := Aside0.mk ((by rw [hg]; exact (below_size (by repeat with_reducible first | exact HB.out | apply below_alloc | apply pw_below_drewN | apply below_drew1 | refine below_set ?_ GE134.out | refine below_set ?_ GE135.out)) : w.heap.size ≤ gb143)); have n6_ := Aside0.mk ((by rw [hg]; exact Nat.ne_of_lt (blk_lt (g := gb134) (o := .cells #[.slice (some ad141) l0_0.length c0_0, .map (some b1)] 52 (0, 0)) (by (with_reducible repeat first | apply bn | apply bd | apply ba); exact BK134.out)) : gb134 ≠ gb143)); have n7_ := Aside0.mk ((by rw [hg]; exact Nat.ne_of_gt (blk_lt (g := gb134) (o := .cells #[.slice (some ad141) l0_0.length c0_0, .map (some b1)] 52 (0, 0)) (by (with_reducible repeat first | apply bn | apply bd | apply ba); exact BK134.out)) : gb143 ≠ gb134)); have n8_ := Aside0.mk ((by rw [hg]; exact Nat.ne_of_lt (blk_lt (g := gb135) (o := .cells #[.string a2_0, .bool false, .slice A2_2 l2_2.length c2_2, .string a2_3] 37 (0, 0)) (by (with_reducible repeat first | apply bn | apply bd | apply ba); exact BK135.out)) : gb135 ≠ gb143)); have n9_ := Aside0.mk ((by rw [hg]; exact Nat.ne_of_gt (blk_lt (g := gb135) (o := .cells #[.string a2_0, .bool false, .slice A2_2 l2_2.length c2_2, .string a2_3] 37 (0, 0)) (by (with_reducible repeat first | apply bn | apply bd | apply ba); exact BK135.out)) : gb143 ≠ gb135)); clear BK134; clear BK135; clear HB; have BK134 := n0_; have BK135 := n1_; have HB := n2_; have BK143 := n3_; have GW143 := n4_; have GE143 := n5_; have NB134_143 := n6_; have NB143_134 := n7_; have NB135_143 := n8_; have NB143_135 := n9_; clear n0_ n1_ n2_ n3_ n4_ n5_ n6_ n7_ n8_ n9_; clear hb hbox hg; have hnb88 := NB143_134.out; have hnc88 := NB134_143.out; have hnb89 := NB143_135.out; have hnc89 := NB135_143.out; have hcz90_0 : w87.cell? ⟨gb143, 0, none⟩ = some (.string (⟨#[]⟩ : ByteArray)) := (blk_cell BK143.out 0).trans rfl; have hcz90_1 : w87.cell? ⟨gb143, 1, none⟩ = some (.bool false) := (blk_cell BK143.out 1).trans rfl; have hcz90_2 : w87.cell? ⟨gb143, 2, none⟩ = some (.slice none 0 0) := (blk_cell BK143.out 2).trans rfl; have hcz90_3 : w87.cell? ⟨gb143, 3, none⟩ = some (.string (⟨#[]⟩ : ByteArray)) := (blk_cell BK143.out 3).trans rfl; have hfz90_0 := blk_frozen BK143.out 0; have hfz90_1 := blk_frozen BK143.out 1; have hfz90_2 := blk_frozen BK143.out 2; have hfz90_3 := blk_frozen BK143.out 3; have hnb91 := NB135_134.out; have hnc91 := NB134_135.out; have hcz92_0 : w87.cell? ⟨gb135, 0, none⟩ = some (.string a2_0) := (blk_cell BK135.out 0).trans rfl; have hcz92_1 : w87.cell? ⟨gb135, 1, none⟩ = some (.bool false) := (blk_cell BK135.out 1).trans rfl; have hcz92_2 : w87.cell? ⟨gb135, 2, none⟩ = some (.slice A2_2 l2_2.length c2_2) := (blk_cell BK135.out 2).trans rfl; have hcz92_3 : w87.cell? ⟨gb135, 3, none⟩ = some (.string a2_3) := (blk_cell BK135.out 3).trans rfl; have hfz92_0 := blk_frozen BK135.out 0; have hfz92_1 := blk_frozen BK135.out 1; have hfz92_2 := blk_frozen BK135.out 2; have hfz92_3 := blk_frozen BK135.out 3) | (go_at_call 53; (with_reducible refine (slices_Equal_string_string.calls k3 _ _ ((rd_T37 ((rd_T32 l0_0 (rd l3 x46_2)).f3) x58_3).f2) _ _ l2_2 true _ ?side1 ?side2 ?side3 ?side4 A85.out).mono ?_); (case side1 => exact Kd.C_below HR142_2.out (by repeat with_reducible first | exact HB.out | apply below_alloc | apply pw_below_drewN | apply below_drew1 | refine below_set ?_ GE134.out | refine below_set ?_ GE135.out | refine below_set ?_ GE143.out)); (case side2 => exact HC142_2.out); (case side3 => exact Kd.C_below HR2_2.out (by repeat with_reducible first | exact HB.out | apply below_alloc | apply pw_below_drewN | apply below_drew1 | refine below_set ?_ GE134.out | refine below_set ?_ GE135.out | refine below_set ?_ GE143.out)); (case side4 => exact HC2_2.out); rintro e w' ⟨rfl, ⟨nd, rfl⟩⟩))
                    go_roundg k3
                    case measure => have := HJ4.out; have := HK2.out; have := HK3.out; omega
                    case rel => exact ⟨(wrap64 (x58_3 + 1)), (by first | rfl | (simp; done) | (simp [*]; done)), H', ⟨by have := HJ4.out; have := HK2.out; have := HK3.out; omega⟩, ⟨by (with_reducible repeat first | apply bn | apply bd | apply ba); refine blk_far ?_ NB134_143.out _; refine blk_far ?_ NB134_143.out _; refine blk_far ?_ NB134_143.out _; refine blk_far ?_ NB134_143.out _; (with_reducible repeat first | apply bn | apply bd | apply ba); exact BK134.out⟩, ⟨by (with_reducible repeat first | apply bn | apply bd | apply ba); refine blk_far ?_ NB135_143.out _; refine blk_far ?_ NB135_143.out _; refine blk_far ?_ NB135_143.out _; refine blk_far ?_ NB135_143.out _; (with_reducible repeat first | apply bn | apply bd | apply ba); exact BK135.out⟩, ⟨by repeat with_reducible first | exact HB.out | apply below_alloc | apply pw_below_drewN | apply below_drew1 | refine below_set ?_ GE134.out | refine below_set ?_ GE135.out | refine below_set ?_ GE143.out⟩⟩
                   ·replace c86 := Bool.eq_false_iff.mpr c86
                    subst c86
                    have H1 : (some 11) = some r := by rw [if_neg (show ¬ (false = true) by decide)] at H; exact H
                    clear H
                    have H := H1
                    clear H1
                    obtain rfl := Option.some.inj H
                    have p142 : 0 ≤ (x58_3 : Int) := of_decide_eq_true (by first | (with_reducible assumption) | assumption)
                    have q142 : x58_3 < (((rd_T32 l0_0 (rd l3 x46_2)).f3).length : Int) := of_decide_eq_true (by first | (with_reducible assumption) | assumption)
                    obtain ⟨ad142, A142_2, c142_2, e142, hx142_0, hx142_1, hx142_2, hx142_3, hl142_2, hi142_2⟩ := at_T37 HR141_3.out x58_3 p142 q142
                    (try rw [← Nbq69.out] at hx142_1)
                    cases e142
                    replace hx142_0 := (HB.out.cell (World.block_lt_of_cell? w _ hx142_0)).trans hx142_0
                    replace hx142_1 := (HB.out.cell (World.block_lt_of_cell? w _ hx142_1)).trans hx142_1
                    replace hx142_2 := (HB.out.cell (World.block_lt_of_cell? w _ hx142_2)).trans hx142_2
                    replace hx142_3 := (HB.out.cell (World.block_lt_of_cell? w _ hx142_3)).trans hx142_3
                    have HR142_2 := Aside0.mk hi142_2
                    have HC142_2 := Aside0.mk hl142_2
                    clear hi142_2 hl142_2
                    replace p142 := eq_true p142
                    replace q142 := eq_true q142
                    go_wp2_with (first | ((with_reducible refine gate_dst (N := 12) rfl ?_); refine box_event ?hg (N := 12) ?hd (cs := #[.string (⟨#[]⟩ : ByteArray), .bool false, .slice none 0 0, .string (⟨#[]⟩ : ByteArray)]) (t := 37) ?hr ?_; (case hd => rfl); (case hg => rfl); (case hr => first | (go_simp; done) | (go_simp; rfl)); intro gb143 hg w93 hbox hb; have n0_ := Aside0.mk (blk_below (g := gb134) (o := .cells #[.slice (some ad141) l0_0.length c0_0, .map (some b1)] 52 (0, 0)) (by (with_reducible repeat first | apply bn | apply bd | apply ba); exact BK134.out) hb); have n1_ := Aside0.mk (blk_below (g := gb135) (o := .cells #[.string a2_0, .bool false, .slice A2_2 l2_2.length c2_2, .string a2_3] 37 (0, 0)) (by (with_reducible repeat first | apply bn | apply bd | apply ba); exact BK135.out) hb); have n2_ := Aside0.mk (below_step (by repeat with_reducible first | exact HB.out | apply below_alloc | apply pw_below_drewN | apply below_drew1 | refine below_set ?_ GE134.out | refine below_set ?_ GE135.out) hb); have n3_ := Aside0.mk (hbox); have n4_ := Aside0.mk ((by rw [hg]; exact (below_size (by repeat with_reducible first | exact HB.out | apply below_alloc | apply pw_below_drewN | apply below_drew1 | refine below_set ?_ GE134.out | refine below_set ?_ GE135.out)) : w.heap.size ≤ gb143)); have n5_ := Aside0.mk ((by rw [hg]; exact (below_size (by repeat with_reducible first | exact HB.out | apply below_alloc | apply pw_below_drewN | apply below_drew1 | refine below_set ?_ GE134.out | refine below_set ?_ GE135.out)) : w.heap.size ≤ gb143)); have n6_ := Aside0.mk ((by rw [hg]; exact Nat.ne_of_lt (blk_lt (g := gb134) (o := .cells #[.slice (some ad141) l0_0.length c0_0, .map (some b1)] 52 (0, 0)) (by (with_reducible repeat first | apply bn | apply bd | apply ba); exact BK134.out)) : gb134 ≠ gb143)); have n7_ := Aside0.mk ((by rw [hg]; exact Nat.ne_of_gt (blk_lt (g := gb134) (o := .cells #[.slice (some ad141) l0_0.length c0_0, .map (some b1)] 52 (0, 0)) (by (with_reducible repeat first | apply bn | apply bd | apply ba); exact BK134.out)) : gb143 ≠ gb134)); have n8_ := Aside0.mk ((by rw [hg]; exact Nat.ne_of_lt (blk_lt (g := gb135) (o := .cells #[.string a2_0, .bool false, .slice A2_2 l2_2.length c2_2, .string a2_3] 37 (0, 0)) (by (with_reducible repeat first | apply bn | apply bd | apply ba); exact BK135.out)) : gb135 ≠ gb143)); have n9_ := Aside0.mk ((by rw [hg]; exact Nat.ne_of_gt (blk_lt (g := gb135) (o := .cells #[.string a2_0, .bool false, .slice A2_2 l2_2.length c2_2, .string a2_3] 37 (0, 0)) (by (with_reducible repeat first | apply bn | apply bd | apply ba); exact BK135.out)) : gb143 ≠ gb135)); clear BK134; clear BK135; clear HB; have BK134 := n0_; have BK135 := n1_; have HB := n2_; have BK143 := n3_; have GW143 := n4_; have GE143 := n5_; have NB134_143 := n6_; have NB143_134 := n7_; have NB135_143 := n8_; have NB143_135 := n9_; clear n0_ n1_ n2_ n3_ n4_ n5_ n6_ n7_ n8_ n9_; clear hb hbox hg; have hnb94 := NB143_134.out; have hnc94 := NB134_143.out; have hnb95 := NB143_135.out; have hnc95 := NB135_143.out; have hcz96_0 : w93.cell? ⟨gb143, 0, none⟩ = some (.string (⟨#[]⟩ : ByteArray)) := (blk_cell BK143.out 0).trans rfl; have hcz96_1 : w93.cell? ⟨gb143, 1, none⟩ = some (.bool false) := (blk_cell BK143.out 1).trans rfl; have hcz96_2 : w93.cell? ⟨gb143, 2, none⟩ = some (.slice none 0 0) := (blk_cell BK143.out 2).trans rfl; have hcz96_3 : w93.cell? ⟨gb143, 3, none⟩ = some (.string (⟨#[]⟩ : ByteArray)) := (blk_cell BK143.out 3).trans rfl; have hfz96_0 := blk_frozen BK143.out 0; have hfz96_1 := blk_frozen BK143.out 1; have hfz96_2 := blk_frozen BK143.out 2; have hfz96_3 := blk_frozen BK143.out 3; have hnb97 := NB135_134.out; have hnc97 := NB134_135.out; have hcz98_0 : w93.cell? ⟨gb135, 0, none⟩ = some (.string a2_0) := (blk_cell BK135.out 0).trans rfl; have hcz98_1 : w93.cell? ⟨gb135, 1, none⟩ = some (.bool false) := (blk_cell BK135.out 1).trans rfl; have hcz98_2 : w93.cell? ⟨gb135, 2, none⟩ = some (.slice A2_2 l2_2.length c2_2) := (blk_cell BK135.out 2).trans rfl; have hcz98_3 : w93.cell? ⟨gb135, 3, none⟩ = some (.string a2_3) := (blk_cell BK135.out 3).trans rfl; have hfz98_0 := blk_frozen BK135.out 0; have hfz98_1 := blk_frozen BK135.out 1; have hfz98_2 := blk_frozen BK135.out 2; have hfz98_3 := blk_frozen BK135.out 3) | (go_at_call 53; (with_reducible refine (slices_Equal_string_string.calls k3 _ _ ((rd_T37 ((rd_T32 l0_0 (rd l3 x46_2)).f3) x58_3).f2) _ _ l2_2 false _ ?side1 ?side2 ?side3 ?side4 A85.out).mono ?_); (case side1 => exact Kd.C_below HR142_2.out (by repeat with_reducible first | exact HB.out | apply below_alloc | apply pw_below_drewN | apply below_drew1 | refine below_set ?_ GE134.out | refine below_set ?_ GE135.out | refine below_set ?_ GE143.out)); (case side2 => exact HC142_2.out); (case side3 => exact Kd.C_below HR2_2.out (by repeat with_reducible first | exact HB.out | apply below_alloc | apply pw_below_drewN | apply below_drew1 | refine below_set ?_ GE134.out | refine below_set ?_ GE135.out | refine below_set ?_ GE143.out)); (case side4 => exact HC2_2.out); rintro e w' ⟨rfl, ⟨nd, rfl⟩⟩))
                    go_ret
                    exact ⟨by first | rfl | (simp [errW_none, errW_some] <;> rfl) | (simp [*, errW_none, errW_some] <;> rfl), by repeat with_reducible first | exact HB.out | apply below_alloc | apply pw_below_drewN | apply below_drew1 | refine below_set ?_ GE134.out | refine below_set ?_ GE135.out | refine below_set ?_ GE143.out⟩
                  ·rw [if_neg c84] at H
                   have c84b0 : (((rd_T37 ((rd_T32 l0_0 (rd l3 x46_2)).f3) x58_3).f3).toList == a2_3.toList) = false := beq_eq_false_iff_ne.mpr c84
                   have c84b1 : (((rd_T37 ((rd_T32 l0_0 (rd l3 x46_2)).f3) x58_3).f3).toList != a2_3.toList) = true := bne_iff_ne.mpr c84
                   obtain rfl := Option.some.inj H
                   have p142 : 0 ≤ (x58_3 : Int) := of_decide_eq_true (by first | (with_reducible assumption) | assumption)
                   have q142 : x58_3 < (((rd_T32 l0_0 (rd l3 x46_2)).f3).length : Int) := of_decide_eq_true (by first | (with_reducible assumption) | assumption)
                   obtain ⟨ad142, A142_2, c142_2, e142, hx142_0, hx142_1, hx142_2, hx142_3, hl142_2, hi142_2⟩ := at_T37 HR141_3.out x58_3 p142 q142
                   (try rw [← Nbq69.out] at hx142_1)
                   cases e142
                   replace hx142_0 := (HB.out.cell (World.block_lt_of_cell? w _ hx142_0)).trans hx142_0
                   replace hx142_1 := (HB.out.cell (World.block_lt_of_cell? w _ hx142_1)).trans hx142_1
                   replace hx142_2 := (HB.out.cell (World.block_lt_of_cell? w _ hx142_2)).trans hx142_2
                   replace hx142_3 := (HB.out.cell (World.block_lt_of_cell? w _ hx142_3)).trans hx142_3
                   have HR142_2 := Aside0.mk hi142_2
                   have HC142_2 := Aside0.mk hl142_2
                   clear hi142_2 hl142_2
                   replace p142 := eq_true p142
                   replace q142 := eq_true q142
                   go_wp2_with (first | ((with_reducible refine gate_dst (N := 12) rfl ?_); refine box_event ?hg (N := 12) ?hd (cs := #[.string (⟨#[]⟩ : ByteArray), .bool false, .slice none 0 0, .string (⟨#[]⟩ : ByteArray)]) (t := 37) ?hr ?_; (case hd => rfl); (case hg => rfl); (case hr => first | (go_simp; done) | (go_simp; rfl)); intro gb143 hg w99 hbox hb; have n0_ := Aside0.mk (blk_below (g := gb134) (o := .cells #[.slice (some ad141) l0_0.length c0_0, .map (some b1)] 52 (0, 0)) (by (with_reducible repeat first | apply bn | apply bd | apply ba); exact BK134.out) hb); have n1_ := Aside0.mk (blk_below (g := gb135) (o := .cells #[.string a2_0, .bool false, .slice A2_2 l2_2.length c2_2, .string a2_3] 37 (0, 0)) (by (with_reducible repeat first | apply bn | apply bd | apply ba); exact BK135.out) hb); have n2_ := Aside0.mk (below_step (by repeat with_reducible first | exact HB.out | apply below_alloc | apply pw_below_drewN | apply below_drew1 | refine below_set ?_ GE134.out | refine below_set ?_ GE135.out) hb); have n3_ := Aside0.mk (hbox); have n4_ := Aside0.mk ((by rw [hg]; exact (below_size (by repeat with_reducible first | exact HB.out | apply below_alloc | apply pw_below_drewN | apply below_drew1 | refine below_set ?_ GE134.out | refine below_set ?_ GE135.out)) : w.heap.size ≤ gb143)); have n5_ := Aside0.mk ((by rw [hg]; exact (below_size (by repeat with_reducible first | exact HB.out | apply below_alloc | apply pw_below_drewN | apply below_drew1 | refine below_set ?_ GE134.out | refine below_set ?_ GE135.out)) : w.heap.size ≤ gb143)); have n6_ := Aside0.mk ((by rw [hg]; exact Nat.ne_of_lt (blk_lt (g := gb134) (o := .cells #[.slice (some ad141) l0_0.length c0_0, .map (some b1)] 52 (0, 0)) (by (with_reducible repeat first | apply bn | apply bd | apply ba); exact BK134.out)) : gb134 ≠ gb143)); have n7_ := Aside0.mk ((by rw [hg]; exact Nat.ne_of_gt (blk_lt (g := gb134) (o := .cells #[.slice (some ad141) l0_0.length c0_0, .map (some b1)] 52 (0, 0)) (by (with_reducible repeat first | apply bn | apply bd | apply ba); exact BK134.out)) : gb143 ≠ gb134)); have n8_ := Aside0.mk ((by rw [hg]; exact Nat.ne_of_lt (blk_lt (g := gb135) (o := .cells #[.string a2_0, .bool false, .slice A2_2 l2_2.length c2_2, .string a2_3] 37 (0, 0)) (by (with_reducible repeat first | apply bn | apply bd | apply ba); exact BK135.out)) : gb135 ≠ gb143)); have n9_ := Aside0.mk ((by rw [hg]; exact Nat.ne_of_gt (blk_lt (g := gb135) (o := .cells #[.string a2_0, .bool false, .slice A2_2 l2_2.length c2_2, .string a2_3] 37 (0, 0)) (by (with_reducible repeat first | apply bn | apply bd | apply ba); exact BK135.out)) : gb143 ≠ gb135)); clear BK134; clear BK135; clear HB; have BK134 := n0_; have BK135 := n1_; have HB := n2_; have BK143 := n3_; have GW143 := n4_; have GE143 := n5_; have NB134_143 := n6_; have NB143_134 := n7_; have NB135_143 := n8_; have NB143_135 := n9_; clear n0_ n1_ n2_ n3_ n4_ n5_ n6_ n7_ n8_ n9_; clear hb hbox hg; have hnb100 := NB143_134.out; have hnc100 := NB134_143.out; have hnb101 := NB143_135.out; have hnc101 := NB135_143.out; have hcz102_0 : w99.cell? ⟨gb143, 0, none⟩ = some (.string (⟨#[]⟩ : ByteArray)) := (blk_cell BK143.out 0).trans rfl; have hcz102_1 : w99.cell? ⟨gb143, 1, none⟩ = some (.bool false) := (blk_cell BK143.out 1).trans rfl; have hcz102_2 : w99.cell? ⟨gb143, 2, none⟩ = some (.slice none 0 0) := (blk_cell BK143.out 2).trans rfl; have hcz102_3 : w99.cell? ⟨gb143, 3, none⟩ = some (.string (⟨#[]⟩ : ByteArray)) := (blk_cell BK143.out 3).trans rfl; have hfz102_0 := blk_frozen BK143.out 0; have hfz102_1 := blk_frozen BK143.out 1; have hfz102_2 := blk_frozen BK143.out 2; have hfz102_3 := blk_frozen BK143.out 3; have hnb103 := NB135_134.out; have hnc103 := NB134_135.out; have hcz104_0 : w99.cell? ⟨gb135, 0, none⟩ = some (.string a2_0) := (blk_cell BK135.out 0).trans rfl; have hcz104_1 : w99.cell? ⟨gb135, 1, none⟩ = some (.bool false) := (blk_cell BK135.out 1).trans rfl; have hcz104_2 : w99.cell? ⟨gb135, 2, none⟩ = some (.slice A2_2 l2_2.length c2_2) := (blk_cell BK135.out 2).trans rfl; have hcz104_3 : w99.cell? ⟨gb135, 3, none⟩ = some (.string a2_3) := (blk_cell BK135.out 3).trans rfl; have hfz104_0 := blk_frozen BK135.out 0; have hfz104_1 := blk_frozen BK135.out 1; have hfz104_2 := blk_frozen BK135.out 2; have hfz104_3 := blk_frozen BK135.out 3))
                   go_ret
                   exact ⟨by first | rfl | (simp [errW_none, errW_some] <;> rfl) | (simp [*, errW_none, errW_some] <;> rfl), by repeat with_reducible first | exact HB.out | apply below_alloc | apply pw_below_drewN | apply below_drew1 | refine below_set ?_ GE134.out | refine below_set ?_ GE135.out | refine below_set ?_ GE143.out⟩
               ·rw [if_neg c68] at H
                have c68b0 : (((rd_T37 ((rd_T32 l0_0 (rd l3 x46_2)).f3) x58_3).f0).toList == a2_0.toList) = false := beq_eq_false_iff_ne.mpr c68
                have c68b1 : (((rd_T37 ((rd_T32 l0_0 (rd l3 x46_2)).f3) x58_3).f0).toList != a2_0.toList) = true := bne_iff_ne.mpr c68
                have H' := Aside0.mk H
                clear H
                have p142 : 0 ≤ (x58_3 : Int) := of_decide_eq_true (by first | (with_reducible assumption) | assumption)
                have q142 : x58_3 < (((rd_T32 l0_0 (rd l3 x46_2)).f3).length : Int) := of_decide_eq_true (by first | (with_reducible assumption) | assumption)
                obtain ⟨ad142, A142_2, c142_2, e142, hx142_0, hx142_1, hx142_2, hx142_3, hl142_2, hi142_2⟩ := at_T37 HR141_3.out x58_3 p142 q142
                cases e142
                replace hx142_0 := (HB.out.cell (World.block_lt_of_cell? w _ hx142_0)).trans hx142_0
                replace hx142_1 := (HB.out.cell (World.block_lt_of_cell? w _ hx142_1)).trans hx142_1
                replace hx142_2 := (HB.out.cell (World.block_lt_of_cell? w _ hx142_2)).trans hx142_2
                replace hx142_3 := (HB.out.cell (World.block_lt_of_cell? w _ hx142_3)).trans hx142_3
                have HR142_2 := Aside0.mk hi142_2
                have HC142_2 := Aside0.mk hl142_2
                clear hi142_2 hl142_2
                replace p142 := eq_true p142
                replace q142 := eq_true q142
                go_wp2_with (first | ((with_reducible refine gate_dst (N := 12) rfl ?_); refine box_event ?hg (N := 12) ?hd (cs := #[.string (⟨#[]⟩ : ByteArray), .bool false, .slice none 0 0, .string (⟨#[]⟩ : ByteArray)]) (t := 37) ?hr ?_; (case hd => rfl); (case hg => rfl); (case hr => first | (go_simp; done) | (go_simp; rfl)); intro gb143 hg w105 hbox hb; have n0_ := Aside0.mk (blk_below (g := gb134) (o := .cells #[.slice (some ad141) l0_0.length c0_0, .map (some b1)] 52 (0, 0)) (by (with_reducible repeat first | apply bn | apply bd | apply ba); exact BK134.out) hb); have n1_ := Aside0.mk (blk_below (g := gb135) (o := .cells #[.string a2_0, .bool a2_1, .slice A2_2 l2_2.length c2_2, .string a2_3] 37 (0, 0)) (by (with_reducible repeat first | apply bn | apply bd | apply ba); exact BK135.out) hb); have n2_ := Aside0.mk (below_step (by repeat with_reducible first | exact HB.out | apply below_alloc | apply pw_below_drewN | apply below_drew1 | refine below_set ?_ GE134.out | refine below_set ?_ GE135.out) hb); have n3_ := Aside0.mk (hbox); have n4_ := Aside0.mk ((by rw [hg]; exact (below_size (by repeat with_reducible first | exact HB.out | apply below_alloc | apply pw_below_drewN | apply below_drew1 | refine below_set ?_ GE134.out | refine below_set ?_ GE135.out)) : w.heap.size ≤ gb143)); have n5_ := Aside0.mk ((by rw [hg]; exact (below_size (by repeat with_reducible first | exact HB.out | apply below_alloc | apply pw_below_drewN | apply below_drew1 | refine below_set ?_ GE134.out | refine below_set ?_ GE135.out)) : w.heap.size ≤ gb143)); have n6_ := Aside0.mk ((by rw [hg]; exact Nat.ne_of_lt (blk_lt (g := gb134) (o := .cells #[.slice (some ad141) l0_0.length c0_0, .map (some b1)] 52 (0, 0)) (by (with_reducible repeat first | apply bn | apply bd | apply ba); exact BK134.out)) : gb134 ≠ gb143)); have n7_ := Aside0.mk ((by rw [hg]; exact Nat.ne_of_gt (blk_lt (g := gb134) (o := .cells #[.slice (some ad141) l0_0.length c0_0, .map (some b1)] 52 (0, 0)) (by (with_reducible repeat first | apply bn | apply bd | apply ba); exact BK134.out)) : gb143 ≠ gb134)); have n8_ := Aside0.mk ((by rw [hg]; exact Nat.ne_of_lt (blk_lt (g := gb135) (o := .cells #[.string a2_0, .bool a2_1, .slice A2_2 l2_2.length c2_2, .string a2_3] 37 (0, 0)) (by (with_reducible repeat first | apply bn | apply bd | apply ba); exact BK135.out)) : gb135 ≠ gb143)); have n9_ := Aside0.mk ((by rw [hg]; exact Nat.ne_of_gt (blk_lt (g := gb135) (o := .cells #[.string a2_0, .bool a2_1, .slice A2_2 l2_2.length c2_2, .string a2_3] 37 (0, 0)) (by (with_reducible repeat first | apply bn | apply bd | apply ba); exact BK135.out)) : gb143 ≠ gb135)); clear BK134; clear BK135; clear HB; have BK134 := n0_; have BK135 := n1_; have HB := n2_; have BK143 := n3_; have GW143 := n4_; have GE143 := n5_; have NB134_143 := n6_; have NB143_134 := n7_; have NB135_143 := n8_; have NB143_135 := n9_; clear n0_ n1_ n2_ n3_ n4_ n5_ n6_ n7_ n8_ n9_; clear hb hbox hg; have hnb106 := NB143_134.out; have hnc106 := NB134_143.out; have hnb107 := NB143_135.out; have hnc107 := NB135_143.out; have hcz108_0 : w105.cell? ⟨gb143, 0, none⟩ = some (.string (⟨#[]⟩ : ByteArray)) := (blk_cell BK143.out 0).trans rfl; have hcz108_1 : w105.cell? ⟨gb143, 1, none⟩ = some (.bool false) := (blk_cell BK143.out 1).trans rfl; have hcz108_2 : w105.cell? ⟨gb143, 2, none⟩ = some (.slice none 0 0) := (blk_cell BK143.out 2).trans rfl; have hcz108_3 : w105.cell? ⟨gb143, 3, none⟩ = some (.string (⟨#[]⟩ : ByteArray)) := (blk_cell BK143.out 3).trans rfl; have hfz108_0 := blk_frozen BK143.out 0; have hfz108_1 := blk_frozen BK143.out 1; have hfz108_2 := blk_frozen BK143.out 2; have hfz108_3 := blk_frozen BK143.out 3; have hnb109 := NB135_134.out; have hnc109 := NB134_135.out; have hcz110_0 : w105.cell? ⟨gb135, 0, none⟩ = some (.string a2_0) := (blk_cell BK135.out 0).trans rfl; have hcz110_1 : w105.cell? ⟨gb135, 1, none⟩ = some (.bool a2_1) := (blk_cell BK135.out 1).trans rfl; have hcz110_2 : w105.cell? ⟨gb135, 2, none⟩ = some (.slice A2_2 l2_2.length c2_2) := (blk_cell BK135.out 2).trans rfl; have hcz110_3 : w105.cell? ⟨gb135, 3, none⟩ = some (.string a2_3) := (blk_cell BK135.out 3).trans rfl; have hfz110_0 := blk_frozen BK135.out 0; have hfz110_1 := blk_frozen BK135.out 1; have hfz110_2 := blk_frozen BK135.out 2; have hfz110_3 := blk_frozen BK135.out 3))
                go_roundg k3
                case measure => have := HJ4.out; have := HK2.out; have := HK3.out; omega
                case rel => exact ⟨(wrap64 (x58_3 + 1)), (by first | rfl | (simp; done) | (simp [*]; done)), H', ⟨by have := HJ4.out; have := HK2.out; have := HK3.out; omega⟩, ⟨by (with_reducible repeat first | apply bn | apply bd | apply ba); refine blk_far ?_ NB134_143.out _; refine blk_far ?_ NB134_143.out _; refine blk_far ?_ NB134_143.out _; refine blk_far ?_ NB134_143.out _; (with_reducible repeat first | apply bn | apply bd | apply ba); exact BK134.out⟩, ⟨by (with_reducible repeat first | apply bn | apply bd | apply ba); refine blk_far ?_ NB135_143.out _; refine blk_far ?_ NB135_143.out _; refine blk_far ?_ NB135_143.out _; refine blk_far ?_ NB135_143.out _; (with_reducible repeat first | apply bn | apply bd | apply ba); exact BK135.out⟩, ⟨by repeat with_reducible first | exact HB.out | apply below_alloc | apply pw_below_drewN | apply below_drew1 | refine below_set ?_ GE134.out | refine below_set ?_ GE135.out | refine below_set ?_ GE143.out⟩⟩
              ·rw [if_neg c67] at H
               exact absurd H (by simp)
             ·rw [if_neg c66] at H
              exact absurd H (by simp)
            ·rw [if_neg c65] at H
             have c65b0 : decide (x58_3 < (((rd_T32 l0_0 (rd l3 x46_2)).f3).length : Int)) = false := decide_eq_false c65
             clear c65
             have H' := Aside0.mk H
             clear H
             go_wp2
             go_roundg k3
             case measure => have := HJ4.out; have := HK2.out; have := HK3.out; omega
             case rel => exact ⟨(wrap64 (x46_2 + 1)), (by first | rfl | (simp; done) | (simp [*]; done)), H', ⟨by have := HJ4.out; have := HK2.out; have := HK3.out; omega⟩, ⟨by (with_reducible repeat first | apply bn | apply bd | apply ba); exact BK134.out⟩, ⟨by (with_reducible repeat first | apply bn | apply bd | apply ba); exact BK135.out⟩, ⟨by repeat with_reducible first | exact HB.out | apply below_alloc | apply pw_below_drewN | apply below_drew1 | refine below_set ?_ GE134.out | refine below_set ?_ GE135.out⟩⟩
         ·rw [if_neg c62] at H
          exact absurd H (by simp)
        ·rw [if_neg c61] at H
         exact absurd H (by simp)
       ·rw [if_neg c60] at H
        exact absurd H (by simp)
      ·rw [if_neg c59] at H
       exact absurd H (by simp)
     ·rw [if_neg c58] at H
      have c58b0 : decide (x46_2 < (l3.length : Int)) = false := decide_eq_false c58
      clear c58
      obtain rfl := Option.some.inj H
      go_wp2
      go_ret
      exact ⟨by first | rfl | (simp [errW_none, errW_some] <;> rfl) | (simp [*, errW_none, errW_some] <;> rfl), by repeat with_reducible first | exact HB.out | apply below_alloc | apply pw_below_drewN | apply below_drew1 | refine below_set ?_ GE134.out | refine below_set ?_ GE135.out⟩

end Go.Proofs.YtkbclcecmcdlfaaDoor.PD
