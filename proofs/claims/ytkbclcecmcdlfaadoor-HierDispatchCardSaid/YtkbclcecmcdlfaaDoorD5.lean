/- Printed by a program of this session out of the translation: plain functions with the answers of the Go functions, and the proofs that they have them. -/
import Derived.Test.YtkbclcecmcdlfaaDoorD4
namespace Go.Proofs.YtkbclcecmcdlfaaDoor.PD
open Go.RowKit Go.Proofs.YtkbclcecmcdlfaaDoorW.PrintWords Go.Proofs.YtkbclcecmcdlfaaDoorW.PrintLast Go.Proofs.YtkbclcecmcdlfaaDoorW.PrintMore
attribute [local go_sem] max2_int min2_int max_two min_two max_three min_three max_four min_four   -- for this text's walks alone
set_option linter.unusedVariables false
set_option linter.unusedSimpArgs false

theorem nisE (l : List UInt8) : (!l.isEmpty) = (l != []) := by cases l <;> rfl
/-! ### hier_checker_class: function 21 -/
mutual
def hier_checker_class.j0 : Nat → Bool → List (S32) → MapSI.Ents → ByteArray → ByteArray → List (S67) → List (S37) → Option (Int)
 | 0, _, _, _, _, _, _, _ => none
 | k + 1, x47, x146000, x146001, x148000, x148001, x148002, x148003 => if x47 = true then (some 6) else ((hier_chain.f k x146000 x146001 x148000).bind fun bt152 => (if bt152.2 = true then (some 10) else (if (x148002.length : Int) > 16 then (hier_checker_class.j1 k bt152.1 true x146000 x146001 x148000 x148001 x148002 x148003) else (hier_checker_class.j1 k bt152.1 (decide ((x148003.length : Int) > 16)) x146000 x146001 x148000 x148001 x148002 x148003))))
def hier_checker_class.j1 : Nat → List Int → Bool → List (S32) → MapSI.Ents → ByteArray → ByteArray → List (S67) → List (S37) → Option (Int)
 | 0, _, _, _, _, _, _, _, _ => none
 | k + 1, x8, x68, x146000, x146001, x148000, x148001, x148002, x148003 => if x68 = true then (some 3) else (hier_checker_class.l0 k x8 x148002 (x148002.length : Int) 0 x146000 x146001 x148000 x148001 x148002 x148003)
def hier_checker_class.l0 : Nat → List Int → List (S67) → Int → Int → List (S32) → MapSI.Ents → ByteArray → ByteArray → List (S67) → List (S37) → Option (Int)
 | 0, _, _, _, _, _, _, _, _, _, _ => none
 | k + 1, x8, x70, x71, x72, x146000, x146001, x148000, x148001, x148002, x148003 => if x72 < x71 then (if 0 ≤ x72 then (if x72 < (x70.length : Int) then (if x72 ≤ (x148002.length : Int) then (if 1 ≤ (x8.length : Int) then ((hier_checker_field.f k x146000 x146001 (x148002.take (x72 : Int).toNat) ((rd_T67 x70 x72).f0) ((rd_T67 x70 x72).f1) (x8.drop 1)).bind fun t166 => (if t166 = 0 then (hier_checker_class.l0 k x8 x70 x71 (wrap64 (x72 + 1)) x146000 x146001 x148000 x148001 x148002 x148003) else (some t166))) else (none)) else (none)) else (none)) else (none)) else (hier_checker_class.l1 k x8 x148003 (x148003.length : Int) 0 x146000 x146001 x148000 x148001 x148002 x148003)
def hier_checker_class.l1 : Nat → List Int → List (S37) → Int → Int → List (S32) → MapSI.Ents → ByteArray → ByteArray → List (S67) → List (S37) → Option (Int)
 | 0, _, _, _, _, _, _, _, _, _, _ => none
 | k + 1, x8, x91, x92, x93, x146000, x146001, x148000, x148001, x148002, x148003 => if x93 < x92 then (if 0 ≤ x93 then (if x93 < (x91.length : Int) then (if x93 ≤ (x148003.length : Int) then (if 1 ≤ (x8.length : Int) then ((hier_checker_method.f k x146000 x146001 (x148003.take (x93 : Int).toNat) ((rd_T37 x91 x93).f0) ((rd_T37 x91 x93).f1) ((rd_T37 x91 x93).f2) ((rd_T37 x91 x93).f3) (x8.drop 1)).bind fun t177 => (if t177 = 0 then (hier_checker_class.l1 k x8 x91 x92 (wrap64 (x93 + 1)) x146000 x146001 x148000 x148001 x148002 x148003) else (some t177))) else (none)) else (none)) else (none)) else (none)) else (some 0)
end
def hier_checker_class.f (k : Nat) (l0_0 : List (S32)) (a0_1 : MapSI.Ents) (a1 : Int) : Option (Int) := if 0 ≤ a1 then (if a1 < (l0_0.length : Int) then ((lex_Ident.f k ((rd_T32 l0_0 a1).f0)).bind fun t148 => (if t148 = true then ((look1.f a0_1 ((rd_T32 l0_0 a1).f0)).bind fun t149 => (if t149 = a1 then ((look.f a0_1 ((rd_T32 l0_0 a1).f1)).bind fun bt150 => (if bt150.2 = true then (hier_checker_class.j0 k false l0_0 a0_1 ((rd_T32 l0_0 a1).f0) ((rd_T32 l0_0 a1).f1) ((rd_T32 l0_0 a1).f2) ((rd_T32 l0_0 a1).f3)) else (hier_checker_class.j0 k (((rd_T32 l0_0 a1).f1).toList != ([] : List UInt8)) l0_0 a0_1 ((rd_T32 l0_0 a1).f0) ((rd_T32 l0_0 a1).f1) ((rd_T32 l0_0 a1).f2) ((rd_T32 l0_0 a1).f3)))) else (some 7))) else (some 5))) else (none)) else (none)
theorem hier_checker_class.mono_l : ∀ k, (∀ y0 y1 y2 y3 y4 y5 y6, LeO (hier_checker_class.j0 k y0 y1 y2 y3 y4 y5 y6) (hier_checker_class.j0 (k + 1) y0 y1 y2 y3 y4 y5 y6)) ∧ (∀ y0 y1 y2 y3 y4 y5 y6 y7, LeO (hier_checker_class.j1 k y0 y1 y2 y3 y4 y5 y6 y7) (hier_checker_class.j1 (k + 1) y0 y1 y2 y3 y4 y5 y6 y7)) ∧ (∀ y0 y1 y2 y3 y4 y5 y6 y7 y8 y9, LeO (hier_checker_class.l0 k y0 y1 y2 y3 y4 y5 y6 y7 y8 y9) (hier_checker_class.l0 (k + 1) y0 y1 y2 y3 y4 y5 y6 y7 y8 y9)) ∧ (∀ y0 y1 y2 y3 y4 y5 y6 y7 y8 y9, LeO (hier_checker_class.l1 k y0 y1 y2 y3 y4 y5 y6 y7 y8 y9) (hier_checker_class.l1 (k + 1) y0 y1 y2 y3 y4 y5 y6 y7 y8 y9))
 | 0 => ⟨fun _ _ _ _ _ _ _ r h => by simp [hier_checker_class.j0] at h, fun _ _ _ _ _ _ _ _ r h => by simp [hier_checker_class.j1] at h, fun _ _ _ _ _ _ _ _ _ _ r h => by simp [hier_checker_class.l0] at h, fun _ _ _ _ _ _ _ _ _ _ r h => by simp [hier_checker_class.l1] at h⟩
 | k + 1 => by
  obtain ⟨ih0, ih1, ih2, ih3⟩ := hier_checker_class.mono_l k
  refine ⟨?_, ?_, ?_, ?_⟩
  ·intro y0 y1 y2 y3 y4 y5 y6
   unfold hier_checker_class.j0
   repeat' first
   | (with_reducible exact ih0 _ _ _ _ _ _ _)
   | (with_reducible exact ih1 _ _ _ _ _ _ _ _)
   | (with_reducible exact ih2 _ _ _ _ _ _ _ _ _ _)
   | (with_reducible exact ih3 _ _ _ _ _ _ _ _ _ _)
   | (with_reducible exact hier_chain.mono _ _ _ _)
   | (with_reducible exact hier_checker_field.mono _ _ _ _ _ _ _)
   | (with_reducible exact hier_checker_method.mono _ _ _ _ _ _ _ _ _)
   | (with_reducible exact lex_Ident.mono _ _)
   | (with_reducible exact LeO.refl _)
   | (with_reducible exact LeO.none _)
   | (with_reducible refine LeO.ite ?_ ?_)
   | (with_reducible refine LeO.bind ?_ (fun _ => ?_))
   | exact ih0 _ _ _ _ _ _ _
   | exact ih1 _ _ _ _ _ _ _ _
   | exact ih2 _ _ _ _ _ _ _ _ _ _
   | exact ih3 _ _ _ _ _ _ _ _ _ _
   | exact hier_chain.mono _ _ _ _
   | exact hier_checker_field.mono _ _ _ _ _ _ _
   | exact hier_checker_method.mono _ _ _ _ _ _ _ _ _
   | exact lex_Ident.mono _ _
   | exact LeO.none _
   | refine LeO.ite ?_ ?_
   | refine LeO.bind ?_ (fun _ => ?_)
  ·intro y0 y1 y2 y3 y4 y5 y6 y7
   unfold hier_checker_class.j1
   repeat' first
   | (with_reducible exact ih0 _ _ _ _ _ _ _)
   | (with_reducible exact ih1 _ _ _ _ _ _ _ _)
   | (with_reducible exact ih2 _ _ _ _ _ _ _ _ _ _)
   | (with_reducible exact ih3 _ _ _ _ _ _ _ _ _ _)
   | (with_reducible exact hier_chain.mono _ _ _ _)
   | (with_reducible exact hier_checker_field.mono _ _ _ _ _ _ _)
   | (with_reducible exact hier_checker_method.mono _ _ _ _ _ _ _ _ _)
   | (with_reducible exact lex_Ident.mono _ _)
   | (with_reducible exact LeO.refl _)
   | (with_reducible exact LeO.none _)
   | (with_reducible refine LeO.ite ?_ ?_)
   | (with_reducible refine LeO.bind ?_ (fun _ => ?_))
   | exact ih0 _ _ _ _ _ _ _
   | exact ih1 _ _ _ _ _ _ _ _
   | exact ih2 _ _ _ _ _ _ _ _ _ _
   | exact ih3 _ _ _ _ _ _ _ _ _ _
   | exact hier_chain.mono _ _ _ _
   | exact hier_checker_field.mono _ _ _ _ _ _ _
   | exact hier_checker_method.mono _ _ _ _ _ _ _ _ _
   | exact lex_Ident.mono _ _
   | exact LeO.none _
   | refine LeO.ite ?_ ?_
   | refine LeO.bind ?_ (fun _ => ?_)
  ·intro y0 y1 y2 y3 y4 y5 y6 y7 y8 y9
   unfold hier_checker_class.l0
   repeat' first
   | (with_reducible exact ih0 _ _ _ _ _ _ _)
   | (with_reducible exact ih1 _ _ _ _ _ _ _ _)
   | (with_reducible exact ih2 _ _ _ _ _ _ _ _ _ _)
   | (with_reducible exact ih3 _ _ _ _ _ _ _ _ _ _)
   | (with_reducible exact hier_chain.mono _ _ _ _)
   | (with_reducible exact hier_checker_field.mono _ _ _ _ _ _ _)
   | (with_reducible exact hier_checker_method.mono _ _ _ _ _ _ _ _ _)
   | (with_reducible exact lex_Ident.mono _ _)
   | (with_reducible exact LeO.refl _)
   | (with_reducible exact LeO.none _)
   | (with_reducible refine LeO.ite ?_ ?_)
   | (with_reducible refine LeO.bind ?_ (fun _ => ?_))
   | exact ih0 _ _ _ _ _ _ _
   | exact ih1 _ _ _ _ _ _ _ _
   | exact ih2 _ _ _ _ _ _ _ _ _ _
   | exact ih3 _ _ _ _ _ _ _ _ _ _
   | exact hier_chain.mono _ _ _ _
   | exact hier_checker_field.mono _ _ _ _ _ _ _
   | exact hier_checker_method.mono _ _ _ _ _ _ _ _ _
   | exact lex_Ident.mono _ _
   | exact LeO.none _
   | refine LeO.ite ?_ ?_
   | refine LeO.bind ?_ (fun _ => ?_)
  ·intro y0 y1 y2 y3 y4 y5 y6 y7 y8 y9
   unfold hier_checker_class.l1
   repeat' first
   | (with_reducible exact ih0 _ _ _ _ _ _ _)
   | (with_reducible exact ih1 _ _ _ _ _ _ _ _)
   | (with_reducible exact ih2 _ _ _ _ _ _ _ _ _ _)
   | (with_reducible exact ih3 _ _ _ _ _ _ _ _ _ _)
   | (with_reducible exact hier_chain.mono _ _ _ _)
   | (with_reducible exact hier_checker_field.mono _ _ _ _ _ _ _)
   | (with_reducible exact hier_checker_method.mono _ _ _ _ _ _ _ _ _)
   | (with_reducible exact lex_Ident.mono _ _)
   | (with_reducible exact LeO.refl _)
   | (with_reducible exact LeO.none _)
   | (with_reducible refine LeO.ite ?_ ?_)
   | (with_reducible refine LeO.bind ?_ (fun _ => ?_))
   | exact ih0 _ _ _ _ _ _ _
   | exact ih1 _ _ _ _ _ _ _ _
   | exact ih2 _ _ _ _ _ _ _ _ _ _
   | exact ih3 _ _ _ _ _ _ _ _ _ _
   | exact hier_chain.mono _ _ _ _
   | exact hier_checker_field.mono _ _ _ _ _ _ _
   | exact hier_checker_method.mono _ _ _ _ _ _ _ _ _
   | exact lex_Ident.mono _ _
   | exact LeO.none _
   | refine LeO.ite ?_ ?_
   | refine LeO.bind ?_ (fun _ => ?_)
theorem hier_checker_class.mono : ∀ a0 a1 a2 k, LeO (hier_checker_class.f k a0 a1 a2) (hier_checker_class.f (k + 1) a0 a1 a2) := by
 intro a0 a1 a2 k
 obtain ⟨ih0, ih1, ih2, ih3⟩ := hier_checker_class.mono_l k
 unfold hier_checker_class.f
 repeat' first
   | (with_reducible exact ih0 _ _ _ _ _ _ _)
   | (with_reducible exact ih1 _ _ _ _ _ _ _ _)
   | (with_reducible exact ih2 _ _ _ _ _ _ _ _ _ _)
   | (with_reducible exact ih3 _ _ _ _ _ _ _ _ _ _)
   | (with_reducible exact hier_chain.mono _ _ _ _)
   | (with_reducible exact hier_checker_field.mono _ _ _ _ _ _ _)
   | (with_reducible exact hier_checker_method.mono _ _ _ _ _ _ _ _ _)
   | (with_reducible exact lex_Ident.mono _ _)
   | (with_reducible exact LeO.refl _)
   | (with_reducible exact LeO.none _)
   | (with_reducible refine LeO.ite ?_ ?_)
   | (with_reducible refine LeO.bind ?_ (fun _ => ?_))
   | exact ih0 _ _ _ _ _ _ _
   | exact ih1 _ _ _ _ _ _ _ _
   | exact ih2 _ _ _ _ _ _ _ _ _ _
   | exact ih3 _ _ _ _ _ _ _ _ _ _
   | exact hier_chain.mono _ _ _ _
   | exact hier_checker_field.mono _ _ _ _ _ _ _
   | exact hier_checker_method.mono _ _ _ _ _ _ _ _ _
   | exact lex_Ident.mono _ _
   | exact LeO.none _
   | refine LeO.ite ?_ ?_
   | refine LeO.bind ?_ (fun _ => ?_)
def hier_checker_class.T17 : Bool × List (List Nat × List Nat) := (true, [([], []), ([], []), ([1], [1]), ([], []), ([2, 3], [2, 3]), ([], []), ([], []), ([6], [6]), ([0, 4, 5, 7], [0, 4, 5, 7]), ([8, 8, 0, 1, 2, 3, 4, 5, 6, 7, 8], [8])])
def hier_checker_class.B17 : List Nat := [0, 0, 2, 0, 14, 0, 0, 64, 255, 511]
theorem hier_checker_class.tab17 : rtab .any (opsOf Tryd.f21 17) = hier_checker_class.T17 := by kernel_rfl
theorem hier_checker_class.bits17 : waitsOk hier_checker_class.T17.2 hier_checker_class.B17 = true := by kernel_rfl
def hier_checker_class.T24 : Bool × List (List Nat × List Nat) := (true, [([], []), ([], []), ([1], [1]), ([], []), ([2, 3], [2, 3]), ([], []), ([], []), ([6], [6]), ([0, 4, 5, 7], [0, 4, 5, 7]), ([8, 8, 0, 1, 2, 3, 4, 5, 6, 7, 8], [8])])
def hier_checker_class.B24 : List Nat := [0, 0, 2, 0, 14, 0, 0, 64, 255, 511]
theorem hier_checker_class.tab24 : rtab .any (opsOf Tryd.f21 24) = hier_checker_class.T24 := by kernel_rfl
theorem hier_checker_class.bits24 : waitsOk hier_checker_class.T24.2 hier_checker_class.B24 = true := by kernel_rfl
set_option maxHeartbeats 8000000 in
set_option maxRecDepth 100000 in
theorem hier_checker_class.calls (k : Nat) (A0_0 : Option Addr) (c0_0 : Nat) (l0_0 : List (S32)) {b1 : Nat} (a0_1 : MapSI.Ents) (a1 : Int) (r : Int) (w : World) (hr0_0 : Kd.C k32 w A0_0 l0_0.length l0_0) (hc0_0 : l0_0.length ≤ c0_0) (hm1 : MapSI.Is w b1 a0_1) (h : hier_checker_class.f k l0_0 a0_1 a1 = some r) (hT : TabW w) :
  Calls Tryd.prog 21 #[.agg #[.slice A0_0 l0_0.length c0_0, .map (some b1)], .int .i64 a1] w fun e w' => e = .returned (.int .i64 r) ∧ Below w.heap.size w w' := by
 have HTB_ := Aside0.mk hT
 clear hT
 have hu52 := Tryd.underlying52
 have hu32 := Tryd.underlying32
 have hu24 := Tryd.underlying24
 have hu67 := Tryd.underlying67
 have hu37 := Tryd.underlying37
 have HM1 := Aside0.mk hm1
 clear hm1
 have HR0_0 := Aside0.mk hr0_0
 have HC0_0 := Aside0.mk hc0_0
 clear hr0_0 hc0_0
 have HB := Aside0.mk (Below.refl w.heap.size w)
 have H : (if 0 ≤ a1 then (if a1 < (l0_0.length : Int) then ((lex_Ident.f k ((rd_T32 l0_0 a1).f0)).bind fun t148 => (if t148 = true then ((look1.f a0_1 ((rd_T32 l0_0 a1).f0)).bind fun t149 => (if t149 = a1 then ((look.f a0_1 ((rd_T32 l0_0 a1).f1)).bind fun bt150 => (if bt150.2 = true then (hier_checker_class.j0 k false l0_0 a0_1 ((rd_T32 l0_0 a1).f0) ((rd_T32 l0_0 a1).f1) ((rd_T32 l0_0 a1).f2) ((rd_T32 l0_0 a1).f3)) else (hier_checker_class.j0 k (((rd_T32 l0_0 a1).f1).toList != ([] : List UInt8)) l0_0 a0_1 ((rd_T32 l0_0 a1).f0) ((rd_T32 l0_0 a1).f1) ((rd_T32 l0_0 a1).f2) ((rd_T32 l0_0 a1).f3)))) else (some 7))) else (some 5))) else (none)) else (none)) = some r := h
 clear h
 by_cases c3 : 0 ≤ a1
 ·rw [if_pos c3] at H
  have c3b0 : decide (0 ≤ a1) = true := decide_eq_true c3
  clear c3
  by_cases c4 : a1 < (l0_0.length : Int)
  ·rw [if_pos c4] at H
   have c4b0 : decide (a1 < (l0_0.length : Int)) = true := decide_eq_true c4
   clear c4
   replace H := Option.bind_eq_some_iff.mp H
   obtain ⟨t148, A50, H⟩ := H
   replace H : (if t148 = true then ((look1.f a0_1 ((rd_T32 l0_0 a1).f0)).bind fun t149 => (if t149 = a1 then ((look.f a0_1 ((rd_T32 l0_0 a1).f1)).bind fun bt150 => (if bt150.2 = true then (hier_checker_class.j0 k false l0_0 a0_1 ((rd_T32 l0_0 a1).f0) ((rd_T32 l0_0 a1).f1) ((rd_T32 l0_0 a1).f2) ((rd_T32 l0_0 a1).f3)) else (hier_checker_class.j0 k (((rd_T32 l0_0 a1).f1).toList != ([] : List UInt8)) l0_0 a0_1 ((rd_T32 l0_0 a1).f0) ((rd_T32 l0_0 a1).f1) ((rd_T32 l0_0 a1).f2) ((rd_T32 l0_0 a1).f3)))) else (some 7))) else (some 5)) = some r := H
   have A5 := Aside0.mk A50
   clear A50
   by_cases c6 : t148 = true
   ·subst c6
    have H1 : ((look1.f a0_1 ((rd_T32 l0_0 a1).f0)).bind fun t149 => (if t149 = a1 then ((look.f a0_1 ((rd_T32 l0_0 a1).f1)).bind fun bt150 => (if bt150.2 = true then (hier_checker_class.j0 k false l0_0 a0_1 ((rd_T32 l0_0 a1).f0) ((rd_T32 l0_0 a1).f1) ((rd_T32 l0_0 a1).f2) ((rd_T32 l0_0 a1).f3)) else (hier_checker_class.j0 k (((rd_T32 l0_0 a1).f1).toList != ([] : List UInt8)) l0_0 a0_1 ((rd_T32 l0_0 a1).f0) ((rd_T32 l0_0 a1).f1) ((rd_T32 l0_0 a1).f2) ((rd_T32 l0_0 a1).f3)))) else (some 7))) = some r := by rw [if_pos rfl] at H; exact H
    clear H
    have H := H1
    clear H1
    replace H := Option.bind_eq_some_iff.mp H
    obtain ⟨t149, A70, H⟩ := H
    replace H : (if t149 = a1 then ((look.f a0_1 ((rd_T32 l0_0 a1).f1)).bind fun bt150 => (if bt150.2 = true then (hier_checker_class.j0 k false l0_0 a0_1 ((rd_T32 l0_0 a1).f0) ((rd_T32 l0_0 a1).f1) ((rd_T32 l0_0 a1).f2) ((rd_T32 l0_0 a1).f3)) else (hier_checker_class.j0 k (((rd_T32 l0_0 a1).f1).toList != ([] : List UInt8)) l0_0 a0_1 ((rd_T32 l0_0 a1).f0) ((rd_T32 l0_0 a1).f1) ((rd_T32 l0_0 a1).f2) ((rd_T32 l0_0 a1).f3)))) else (some 7)) = some r := H
    have A7 := Aside0.mk A70
    clear A70
    by_cases c8 : t149 = a1
    ·rw [if_pos c8] at H
     have c8b0 : (t149 == a1) = true := beq_iff_eq.mpr c8
     have c8b1 : (t149 != a1) = false := bne_eq_false_iff_eq.mpr c8
     clear c8
     replace H := Option.bind_eq_some_iff.mp H
     obtain ⟨⟨t150, t151⟩, A90, H⟩ := H
     replace H : (if t151 = true then (hier_checker_class.j0 k false l0_0 a0_1 ((rd_T32 l0_0 a1).f0) ((rd_T32 l0_0 a1).f1) ((rd_T32 l0_0 a1).f2) ((rd_T32 l0_0 a1).f3)) else (hier_checker_class.j0 k (((rd_T32 l0_0 a1).f1).toList != ([] : List UInt8)) l0_0 a0_1 ((rd_T32 l0_0 a1).f0) ((rd_T32 l0_0 a1).f1) ((rd_T32 l0_0 a1).f2) ((rd_T32 l0_0 a1).f3))) = some r := H
     have A9 := Aside0.mk A90
     clear A90
     have HC10 := Aside0.mk H
     clear H
     go_enter Tryd.func21, Tryd.ntmps21
     go_upto_region 7 with (first | ((with_reducible refine gate_dst (N := 2) rfl ?_); (try (refine gate_guard (by rfl) ?_; dsimp only)); refine box_event ?hg (N := 2) ?hd (cs := #[.slice A0_0 l0_0.length c0_0, .map (some b1)]) (t := 52) ?hr ?_; (case hd => rfl); (case hg => rfl); (case hr => first | (go_simp; done) | (go_simp; rfl)); intro gb145 hg w11 hbox hb; have n0_ := Aside0.mk (below_step (by repeat with_reducible first | exact HB.out | apply below_alloc | apply pw_below_drewN | apply below_drew1) hb); have n1_ := Aside0.mk (hbox); have n2_ := Aside0.mk ((by rw [hg]; exact (below_size (by repeat with_reducible first | exact HB.out | apply below_alloc | apply pw_below_drewN | apply below_drew1)) : w.heap.size ≤ gb145)); have n3_ := Aside0.mk ((by rw [hg]; exact (below_size (by repeat with_reducible first | exact HB.out | apply below_alloc | apply pw_below_drewN | apply below_drew1)) : w.heap.size ≤ gb145)); clear HB; have HB := n0_; have BK145 := n1_; have GW145 := n2_; have GE145 := n3_; clear n0_ n1_ n2_ n3_; clear hb hbox hg; have hcz12_0 : w11.cell? ⟨gb145, 0, none⟩ = some (.slice A0_0 l0_0.length c0_0) := (blk_cell BK145.out 0).trans rfl; have hcz12_1 : w11.cell? ⟨gb145, 1, none⟩ = some (.map (some b1)) := (blk_cell BK145.out 1).trans rfl; have hfz12_0 := blk_frozen BK145.out 0; have hfz12_1 := blk_frozen BK145.out 1; have p146 : 0 ≤ (a1 : Int) := of_decide_eq_true (by first | (with_reducible assumption) | assumption); have q146 : a1 < (l0_0.length : Int) := of_decide_eq_true (by first | (with_reducible assumption) | assumption); obtain ⟨ad146, A146_2, c146_2, A146_3, c146_3, e146, hx146_0, hx146_1, hx146_2, hx146_3, hl146_2, hi146_2, hl146_3, hi146_3⟩ := at_T32 HR0_0.out a1 p146 q146; cases e146; replace hx146_0 := (HB.out.cell (World.block_lt_of_cell? w _ hx146_0)).trans hx146_0; replace hx146_1 := (HB.out.cell (World.block_lt_of_cell? w _ hx146_1)).trans hx146_1; replace hx146_2 := (HB.out.cell (World.block_lt_of_cell? w _ hx146_2)).trans hx146_2; replace hx146_3 := (HB.out.cell (World.block_lt_of_cell? w _ hx146_3)).trans hx146_3; have HR146_2 := Aside0.mk hi146_2; have HC146_2 := Aside0.mk hl146_2; clear hi146_2 hl146_2; have HR146_3 := Aside0.mk hi146_3; have HC146_3 := Aside0.mk hl146_3; clear hi146_3 hl146_3; replace p146 := eq_true p146; replace q146 := eq_true q146) | ((with_reducible refine gate_dst (N := 5) rfl ?_); (try (refine gate_guard (by rfl) ?_; dsimp only)); refine box_event ?hg (N := 5) ?hd (cs := #[.string (⟨#[]⟩ : ByteArray), .string (⟨#[]⟩ : ByteArray), .slice none 0 0, .slice none 0 0]) (t := 32) ?hr ?_; (case hd => rfl); (case hg => rfl); (case hr => first | (go_simp; done) | (go_simp; rfl)); intro gb147 hg w13 hbox hb; have n0_ := Aside0.mk (blk_below (g := gb145) (o := .cells #[.slice (some ad146) l0_0.length c0_0, .map (some b1)] 52 (0, 0)) (by (with_reducible repeat first | apply bn | apply bd | apply ba); exact BK145.out) hb); have n1_ := Aside0.mk (below_step (by repeat with_reducible first | exact HB.out | apply below_alloc | apply pw_below_drewN | apply below_drew1 | refine below_set ?_ GE145.out) hb); have n2_ := Aside0.mk (hbox); have n3_ := Aside0.mk ((by rw [hg]; exact (below_size (by repeat with_reducible first | exact HB.out | apply below_alloc | apply pw_below_drewN | apply below_drew1 | refine below_set ?_ GE145.out)) : w.heap.size ≤ gb147)); have n4_ := Aside0.mk ((by rw [hg]; exact (below_size (by repeat with_reducible first | exact HB.out | apply below_alloc | apply pw_below_drewN | apply below_drew1 | refine below_set ?_ GE145.out)) : w.heap.size ≤ gb147)); have n5_ := Aside0.mk ((by rw [hg]; exact Nat.ne_of_lt (blk_lt (g := gb145) (o := .cells #[.slice (some ad146) l0_0.length c0_0, .map (some b1)] 52 (0, 0)) (by (with_reducible repeat first | apply bn | apply bd | apply ba); exact BK145.out)) : gb145 ≠ gb147)); have n6_ := Aside0.mk ((by rw [hg]; exact Nat.ne_of_gt (blk_lt (g := gb145) (o := .cells #[.slice (some ad146) l0_0.length c0_0, .map (some b1)] 52 (0, 0)) (by (with_reducible repeat first | apply bn | apply bd | apply ba); exact BK145.out)) : gb147 ≠ gb145)); clear BK145; clear HB; have BK145 := n0_; have HB := n1_; have BK147 := n2_; have GW147 := n3_; have GE147 := n4_; have NB145_147 := n5_; have NB147_145 := n6_; clear n0_ n1_ n2_ n3_ n4_ n5_ n6_; clear hb hbox hg; have hnb14 := NB147_145.out; have hnc14 := NB145_147.out; have hcz15_0 : w13.cell? ⟨gb147, 0, none⟩ = some (.string (⟨#[]⟩ : ByteArray)) := (blk_cell BK147.out 0).trans rfl; have hcz15_1 : w13.cell? ⟨gb147, 1, none⟩ = some (.string (⟨#[]⟩ : ByteArray)) := (blk_cell BK147.out 1).trans rfl; have hcz15_2 : w13.cell? ⟨gb147, 2, none⟩ = some (.slice none 0 0) := (blk_cell BK147.out 2).trans rfl; have hcz15_3 : w13.cell? ⟨gb147, 3, none⟩ = some (.slice none 0 0) := (blk_cell BK147.out 3).trans rfl; have hfz15_0 := blk_frozen BK147.out 0; have hfz15_1 := blk_frozen BK147.out 1; have hfz15_2 := blk_frozen BK147.out 2; have hfz15_3 := blk_frozen BK147.out 3) | ((with_reducible refine gate_callee (f := 32) rfl ?_); refine goesL_ (some 24) rfl rfl Tryd.func32 (by kernel_rfl) rfl #[.string ((rd_T32 l0_0 a1).f0)] rfl (by (try simp only [List.map_toArray, List.map_cons, List.map_nil]); first | done | rfl) ?_; (with_reducible refine (lex_Ident.calls k ((rd_T32 l0_0 a1).f0) true _ A5.out ?sideT).mono ?_); (case sideT => first | exact HTB_.out | exact HTB_.out.below (by repeat with_reducible first | exact HB.out | apply below_alloc | apply pw_below_drewN | apply below_drew1 | refine below_set ?_ GE145.out | refine below_set ?_ GE147.out | refine below_set ?_ GE157.out | refine below_set ?_ GE168.out)); rintro e w' ⟨rfl, ⟨nd, rfl⟩⟩; refine ⟨_, rfl, ?_⟩; have hcz16_0 : w13.cell? ⟨gb145, 0, none⟩ = some (.slice (some ad146) l0_0.length c0_0) := (blk_cell BK145.out 0).trans rfl; have hcz16_1 : w13.cell? ⟨gb145, 1, none⟩ = some (.map (some b1)) := (blk_cell BK145.out 1).trans rfl; have hfz16_0 := blk_frozen BK145.out 0; have hfz16_1 := blk_frozen BK145.out 1) | ((with_reducible refine gate_dst (N := 30) rfl ?_); at_lookup; refine wp_look1 rfl _ _ rfl Tryd.underlying9 Tryd.underlying49 (zero3_run _) b1 a0_1 ((rd_T32 l0_0 a1).f0) rfl rfl t149 A7.out (MapSI.Is.below HM1.out (by repeat with_reducible first | exact HB.out | apply below_alloc | apply pw_below_drewN | apply below_drew1 | refine below_set ?_ GE145.out | refine below_set ?_ GE147.out | refine below_set ?_ GE157.out | refine below_set ?_ GE168.out)) ?_) | ((with_reducible refine gate_dst (N := 38) rfl ?_); at_lookup; refine MapSI.wp_look rfl _ _ rfl Tryd.underlying9 Tryd.underlying49 (zero3_run _) b1 a0_1 ((rd_T32 l0_0 a1).f1) rfl rfl t150 t151 A9.out (MapSI.Is.below HM1.out (by repeat with_reducible first | exact HB.out | apply below_alloc | apply pw_below_drewN | apply below_drew1 | refine below_set ?_ GE145.out | refine below_set ?_ GE147.out | refine below_set ?_ GE157.out | refine below_set ?_ GE168.out)) ?_))
     (try simp only [Act.put, List.setIfInBounds_toArray, List.set_cons_zero, List.set_cons_succ])
     go_cut [47] (fun v47 wc => ∃ (kq : Nat) (x47_9 : Bool), v47 = .bool x47_9 ∧ Aside0 (hier_checker_class.j0 kq x47_9 l0_0 a0_1 ((rd_T32 l0_0 a1).f0) ((rd_T32 l0_0 a1).f1) ((rd_T32 l0_0 a1).f2) ((rd_T32 l0_0 a1).f3) = some r) ∧ Aside0 (kq ≤ k) ∧ Aside0 (wc.heap[gb145]? = some (.cells #[(.slice (some ad146) l0_0.length c0_0), .map (some b1)] 52 (0, 0))) ∧ Aside0 (wc.heap[gb147]? = some (.cells #[.string ((rd_T32 l0_0 a1).f0), .string ((rd_T32 l0_0 a1).f1), (.slice A146_2 ((rd_T32 l0_0 a1).f2).length c146_2), (.slice A146_3 ((rd_T32 l0_0 a1).f3).length c146_3)] 32 (0, 0))) ∧ Aside0 (Below w.heap.size w wc))
     case first =>
      have H := HC10.out
      clear HC10
      by_cases c17 : t151 = true
      ·subst c17
       have H1 : (hier_checker_class.j0 k false l0_0 a0_1 ((rd_T32 l0_0 a1).f0) ((rd_T32 l0_0 a1).f1) ((rd_T32 l0_0 a1).f2) ((rd_T32 l0_0 a1).f3)) = some r := by rw [if_pos rfl] at H; exact H
       clear H
       have H := H1
       clear H1
       have H' := Aside0.mk H
       clear H
       go_wp2
       go_meet
       case rel => exact ⟨_, (false), (by first | rfl | (simp; done) | (simp [*]; done)), H', ⟨by first | omega | exact Nat.le_refl _⟩, ⟨by (with_reducible repeat first | apply bn | apply bd | apply ba); refine blk_far ?_ NB145_147.out _; refine blk_far ?_ NB145_147.out _; refine blk_far ?_ NB145_147.out _; refine blk_far ?_ NB145_147.out _; (with_reducible repeat first | apply bn | apply bd | apply ba); exact BK145.out⟩, ⟨by (with_reducible repeat first | apply bn | apply bd | apply ba); refine blk_put (cs := #[.string ((rd_T32 l0_0 a1).f0), .string ((rd_T32 l0_0 a1).f1), .slice A146_2 ((rd_T32 l0_0 a1).f2).length c146_2, .slice none 0 0]) ?_ 3 _ rfl; refine blk_put (cs := #[.string ((rd_T32 l0_0 a1).f0), .string ((rd_T32 l0_0 a1).f1), .slice none 0 0, .slice none 0 0]) ?_ 2 _ rfl; refine blk_put (cs := #[.string ((rd_T32 l0_0 a1).f0), .string (⟨#[]⟩ : ByteArray), .slice none 0 0, .slice none 0 0]) ?_ 1 _ rfl; refine blk_put (cs := #[.string (⟨#[]⟩ : ByteArray), .string (⟨#[]⟩ : ByteArray), .slice none 0 0, .slice none 0 0]) ?_ 0 _ rfl; (with_reducible repeat first | apply bn | apply bd | apply ba); exact BK147.out⟩, ⟨by repeat with_reducible first | exact HB.out | apply below_alloc | apply pw_below_drewN | apply below_drew1 | refine below_set ?_ GE145.out | refine below_set ?_ GE147.out⟩⟩
      ·replace c17 := Bool.eq_false_iff.mpr c17
       subst c17
       have H1 : (hier_checker_class.j0 k (((rd_T32 l0_0 a1).f1).toList != ([] : List UInt8)) l0_0 a0_1 ((rd_T32 l0_0 a1).f0) ((rd_T32 l0_0 a1).f1) ((rd_T32 l0_0 a1).f2) ((rd_T32 l0_0 a1).f3)) = some r := by rw [if_neg (show ¬ (false = true) by decide)] at H; exact H
       clear H
       have H := H1
       clear H1
       have H' := Aside0.mk H
       clear H
       have hnb18 := NB147_145.out
       have hnc18 := NB145_147.out
       have hcz19_0 : w13.cell? ⟨gb147, 0, none⟩ = some (.string (⟨#[]⟩ : ByteArray)) := (blk_cell BK147.out 0).trans rfl
       have hcz19_1 : w13.cell? ⟨gb147, 1, none⟩ = some (.string (⟨#[]⟩ : ByteArray)) := (blk_cell BK147.out 1).trans rfl
       have hcz19_2 : w13.cell? ⟨gb147, 2, none⟩ = some (.slice none 0 0) := (blk_cell BK147.out 2).trans rfl
       have hcz19_3 : w13.cell? ⟨gb147, 3, none⟩ = some (.slice none 0 0) := (blk_cell BK147.out 3).trans rfl
       have hfz19_0 := blk_frozen BK147.out 0
       have hfz19_1 := blk_frozen BK147.out 1
       have hfz19_2 := blk_frozen BK147.out 2
       have hfz19_3 := blk_frozen BK147.out 3
       go_wp2
       go_meet
       case rel => exact ⟨_, ((((rd_T32 l0_0 a1).f1).toList != ([] : List UInt8))), (by first | exact congrArg Value.bool (nisE _) | rfl | (simp; done) | (simp [*]; done)), H', ⟨by first | omega | exact Nat.le_refl _⟩, ⟨by (with_reducible repeat first | apply bn | apply bd | apply ba); refine blk_far ?_ NB145_147.out _; refine blk_far ?_ NB145_147.out _; refine blk_far ?_ NB145_147.out _; refine blk_far ?_ NB145_147.out _; (with_reducible repeat first | apply bn | apply bd | apply ba); exact BK145.out⟩, ⟨by (with_reducible repeat first | apply bn | apply bd | apply ba); refine blk_put (cs := #[.string ((rd_T32 l0_0 a1).f0), .string ((rd_T32 l0_0 a1).f1), .slice A146_2 ((rd_T32 l0_0 a1).f2).length c146_2, .slice none 0 0]) ?_ 3 _ rfl; refine blk_put (cs := #[.string ((rd_T32 l0_0 a1).f0), .string ((rd_T32 l0_0 a1).f1), .slice none 0 0, .slice none 0 0]) ?_ 2 _ rfl; refine blk_put (cs := #[.string ((rd_T32 l0_0 a1).f0), .string (⟨#[]⟩ : ByteArray), .slice none 0 0, .slice none 0 0]) ?_ 1 _ rfl; refine blk_put (cs := #[.string (⟨#[]⟩ : ByteArray), .string (⟨#[]⟩ : ByteArray), .slice none 0 0, .slice none 0 0]) ?_ 0 _ rfl; (with_reducible repeat first | apply bn | apply bd | apply ba); exact BK147.out⟩, ⟨by repeat with_reducible first | exact HB.out | apply below_alloc | apply pw_below_drewN | apply below_drew1 | refine below_set ?_ GE145.out | refine below_set ?_ GE147.out⟩⟩
     case rest =>
      clear HC10
      (try clear c1);(try clear p1);(try clear q1);(try clear hx1);(try clear c2);(try clear p2);(try clear c3);(try clear c3b0);(try clear c4);(try clear c4b0);(try clear c6);(try clear c8);(try clear c8b0);(try clear c8b1);(try clear c9);(try clear c14);(try clear p14);(try clear q14);(try clear hx14);(try clear c17);(try clear c18);(try clear hcz12_0);(try clear hcz12_1);(try clear hcz15_0);(try clear hcz15_1);(try clear hcz15_2);(try clear hcz15_3);(try clear hcz16_0);(try clear hcz16_1);(try clear hcz19_0);(try clear hcz19_1);(try clear hcz19_2);(try clear hcz19_3);(try clear hfz12_0);(try clear hfz12_1);(try clear hfz15_0);(try clear hfz15_1);(try clear hfz15_2);(try clear hfz15_3);(try clear hfz16_0);(try clear hfz16_1);(try clear hfz19_0);(try clear hfz19_1);(try clear hfz19_2);(try clear hfz19_3);(try clear hx146_0);(try clear hx146_1);(try clear hx146_2);(try clear hx146_3);(try clear p146);(try clear q146)
      obtain ⟨kq, x47_9, rfl, HA, HJ9, BK145, BK147, HB⟩ := hcut
      cases kq with
      | zero => exact absurd HA.out (by simp [hier_checker_class.j0])
      | succ kj9 =>
       have H := HA.out
       clear HA
       simp only [hier_checker_class.j0] at H
       by_cases c20 : x47_9 = true
       ·subst c20
        have H1 : (some 6) = some r := by rw [if_pos rfl] at H; exact H
        clear H
        have H := H1
        clear H1
        obtain rfl := Option.some.inj H
        go_wp2
        go_ret
        exact ⟨by first | rfl | (simp [errW_none, errW_some] <;> rfl) | (simp [*, errW_none, errW_some] <;> rfl), by repeat with_reducible first | exact HB.out | apply below_alloc | apply pw_below_drewN | apply below_drew1 | refine below_set ?_ GE145.out | refine below_set ?_ GE147.out⟩
       ·replace c20 := Bool.eq_false_iff.mpr c20
        subst c20
        have H1 : ((hier_chain.f kj9 l0_0 a0_1 ((rd_T32 l0_0 a1).f0)).bind fun bt152 => (if bt152.2 = true then (some 10) else (if (((rd_T32 l0_0 a1).f2).length : Int) > 16 then (hier_checker_class.j1 kj9 bt152.1 true l0_0 a0_1 ((rd_T32 l0_0 a1).f0) ((rd_T32 l0_0 a1).f1) ((rd_T32 l0_0 a1).f2) ((rd_T32 l0_0 a1).f3)) else (hier_checker_class.j1 kj9 bt152.1 (decide ((((rd_T32 l0_0 a1).f3).length : Int) > 16)) l0_0 a0_1 ((rd_T32 l0_0 a1).f0) ((rd_T32 l0_0 a1).f1) ((rd_T32 l0_0 a1).f2) ((rd_T32 l0_0 a1).f3))))) = some r := by rw [if_neg (show ¬ (false = true) by decide)] at H; exact H
        clear H
        have H := H1
        clear H1
        replace H := Option.bind_eq_some_iff.mp H
        obtain ⟨⟨t152, t155⟩, A210, H⟩ := H
        replace H : (if t155 = true then (some 10) else (if (((rd_T32 l0_0 a1).f2).length : Int) > 16 then (hier_checker_class.j1 kj9 t152 true l0_0 a0_1 ((rd_T32 l0_0 a1).f0) ((rd_T32 l0_0 a1).f1) ((rd_T32 l0_0 a1).f2) ((rd_T32 l0_0 a1).f3)) else (hier_checker_class.j1 kj9 t152 (decide ((((rd_T32 l0_0 a1).f3).length : Int) > 16)) l0_0 a0_1 ((rd_T32 l0_0 a1).f0) ((rd_T32 l0_0 a1).f1) ((rd_T32 l0_0 a1).f2) ((rd_T32 l0_0 a1).f3)))) = some r := H
        have A21 := Aside0.mk A210
        clear A210
        by_cases c22 : t155 = true
        ·subst c22
         have H1 : (some 10) = some r := by rw [if_pos rfl] at H; exact H
         clear H
         have H := H1
         clear H1
         obtain rfl := Option.some.inj H
         have hnb23 := NB145_147.out
         have hnc23 := NB147_145.out
         have hcz24_0 : wc.cell? ⟨gb145, 0, none⟩ = some (.slice (some ad146) l0_0.length c0_0) := (blk_cell BK145.out 0).trans rfl
         have hcz24_1 : wc.cell? ⟨gb145, 1, none⟩ = some (.map (some b1)) := (blk_cell BK145.out 1).trans rfl
         have hfz24_0 := blk_frozen BK145.out 0
         have hfz24_1 := blk_frozen BK145.out 1
         have hcz25_0 : wc.cell? ⟨gb147, 0, none⟩ = some (.string ((rd_T32 l0_0 a1).f0)) := (blk_cell BK147.out 0).trans rfl
         have hcz25_1 : wc.cell? ⟨gb147, 1, none⟩ = some (.string ((rd_T32 l0_0 a1).f1)) := (blk_cell BK147.out 1).trans rfl
         have hcz25_2 : wc.cell? ⟨gb147, 2, none⟩ = some (.slice A146_2 ((rd_T32 l0_0 a1).f2).length c146_2) := (blk_cell BK147.out 2).trans rfl
         have hcz25_3 : wc.cell? ⟨gb147, 3, none⟩ = some (.slice A146_3 ((rd_T32 l0_0 a1).f3).length c146_3) := (blk_cell BK147.out 3).trans rfl
         have hfz25_0 := blk_frozen BK147.out 0
         have hfz25_1 := blk_frozen BK147.out 1
         have hfz25_2 := blk_frozen BK147.out 2
         have hfz25_3 := blk_frozen BK147.out 3
         go_wp2_with (first | ((with_reducible refine gate_callee (f := 23) rfl ?_); refine goesL_ (some 55) rfl rfl Tryd.func23 (by kernel_rfl) rfl #[.agg #[.slice (some ad146) l0_0.length c0_0], .map (some b1), .string ((rd_T32 l0_0 a1).f0)] rfl (by (try simp only [List.map_toArray, List.map_cons, List.map_nil]); first | done | rfl) ?_; (with_reducible refine (hier_chain.calls kj9 _ _ l0_0 a0_1 ((rd_T32 l0_0 a1).f0) t152 true _ ?side1 ?side2 ?sideM A21.out).mono ?_); (case sideM => exact (MapSI.Is.below HM1.out (by repeat with_reducible first | exact HB.out | apply below_alloc | apply pw_below_drewN | apply below_drew1 | refine below_set ?_ GE145.out | refine below_set ?_ GE147.out | refine below_set ?_ GE157.out | refine below_set ?_ GE168.out))); (case side1 => repeat (first | exact (Kd.C_below HR0_0.out HB.out) | (with_reducible refine Kd.C_alloc ?_ _) | (with_reducible refine Kd.C_drewN ?_ _) | (with_reducible refine Kd.C_drew ?_))); (case side2 => exact HC0_0.out); rintro e w26 ⟨v153, rfl, ho0, hb⟩; refine ⟨_, rfl, ?_⟩; have n0_ := Aside0.mk (Kd.R_lower ho0 (below_size (by repeat with_reducible first | exact HB.out | apply below_alloc | apply pw_below_drewN | apply below_drew1 | refine below_set ?_ GE145.out | refine below_set ?_ GE147.out))); have n1_ := Aside0.mk (blk_below (g := gb145) (o := .cells #[.slice (some ad146) l0_0.length c0_0, .map (some b1)] 52 (0, 0)) (by (with_reducible repeat first | apply bn | apply bd | apply ba); exact BK145.out) hb); have n2_ := Aside0.mk (blk_below (g := gb147) (o := .cells #[.string ((rd_T32 l0_0 a1).f0), .string ((rd_T32 l0_0 a1).f1), .slice A146_2 ((rd_T32 l0_0 a1).f2).length c146_2, .slice A146_3 ((rd_T32 l0_0 a1).f3).length c146_3] 32 (0, 0)) (by (with_reducible repeat first | apply bn | apply bd | apply ba); exact BK147.out) hb); have n3_ := Aside0.mk (below_step (by repeat with_reducible first | exact HB.out | apply below_alloc | apply pw_below_drewN | apply below_drew1 | refine below_set ?_ GE145.out | refine below_set ?_ GE147.out) hb); clear BK145; clear BK147; clear HB; have HO154 := n0_; have BK145 := n1_; have BK147 := n2_; have HB := n3_; clear n0_ n1_ n2_ n3_; (try clear hb); (try clear hb2); (try clear hk); (try clear hi); (try clear ho0)))
         go_ret
         exact ⟨by first | rfl | (simp [errW_none, errW_some] <;> rfl) | (simp [*, errW_none, errW_some] <;> rfl), by repeat with_reducible first | exact HB.out | apply below_alloc | apply pw_below_drewN | apply below_drew1 | refine below_set ?_ GE145.out | refine below_set ?_ GE147.out⟩
        ·replace c22 := Bool.eq_false_iff.mpr c22
         subst c22
         have H1 : (if (((rd_T32 l0_0 a1).f2).length : Int) > 16 then (hier_checker_class.j1 kj9 t152 true l0_0 a0_1 ((rd_T32 l0_0 a1).f0) ((rd_T32 l0_0 a1).f1) ((rd_T32 l0_0 a1).f2) ((rd_T32 l0_0 a1).f3)) else (hier_checker_class.j1 kj9 t152 (decide ((((rd_T32 l0_0 a1).f3).length : Int) > 16)) l0_0 a0_1 ((rd_T32 l0_0 a1).f0) ((rd_T32 l0_0 a1).f1) ((rd_T32 l0_0 a1).f2) ((rd_T32 l0_0 a1).f3))) = some r := by rw [if_neg (show ¬ (false = true) by decide)] at H; exact H
         clear H
         have H := H1
         clear H1
         have HC27 := Aside0.mk H
         clear H
         have hnb28 := NB145_147.out
         have hnc28 := NB147_145.out
         have hcz29_0 : wc.cell? ⟨gb145, 0, none⟩ = some (.slice (some ad146) l0_0.length c0_0) := (blk_cell BK145.out 0).trans rfl
         have hcz29_1 : wc.cell? ⟨gb145, 1, none⟩ = some (.map (some b1)) := (blk_cell BK145.out 1).trans rfl
         have hfz29_0 := blk_frozen BK145.out 0
         have hfz29_1 := blk_frozen BK145.out 1
         have hcz30_0 : wc.cell? ⟨gb147, 0, none⟩ = some (.string ((rd_T32 l0_0 a1).f0)) := (blk_cell BK147.out 0).trans rfl
         have hcz30_1 : wc.cell? ⟨gb147, 1, none⟩ = some (.string ((rd_T32 l0_0 a1).f1)) := (blk_cell BK147.out 1).trans rfl
         have hcz30_2 : wc.cell? ⟨gb147, 2, none⟩ = some (.slice A146_2 ((rd_T32 l0_0 a1).f2).length c146_2) := (blk_cell BK147.out 2).trans rfl
         have hcz30_3 : wc.cell? ⟨gb147, 3, none⟩ = some (.slice A146_3 ((rd_T32 l0_0 a1).f3).length c146_3) := (blk_cell BK147.out 3).trans rfl
         have hfz30_0 := blk_frozen BK147.out 0
         have hfz30_1 := blk_frozen BK147.out 1
         have hfz30_2 := blk_frozen BK147.out 2
         have hfz30_3 := blk_frozen BK147.out 3
         go_upto_region 12 with (first | ((with_reducible refine gate_callee (f := 23) rfl ?_); refine goesL_ (some 55) rfl rfl Tryd.func23 (by kernel_rfl) rfl #[.agg #[.slice (some ad146) l0_0.length c0_0], .map (some b1), .string ((rd_T32 l0_0 a1).f0)] rfl (by (try simp only [List.map_toArray, List.map_cons, List.map_nil]); first | done | rfl) ?_; (with_reducible refine (hier_chain.calls kj9 _ _ l0_0 a0_1 ((rd_T32 l0_0 a1).f0) t152 false _ ?side1 ?side2 ?sideM A21.out).mono ?_); (case sideM => exact (MapSI.Is.below HM1.out (by repeat with_reducible first | exact HB.out | apply below_alloc | apply pw_below_drewN | apply below_drew1 | refine below_set ?_ GE145.out | refine below_set ?_ GE147.out | refine below_set ?_ GE157.out | refine below_set ?_ GE168.out))); (case side1 => repeat (first | exact (Kd.C_below HR0_0.out HB.out) | (with_reducible refine Kd.C_alloc ?_ _) | (with_reducible refine Kd.C_drewN ?_ _) | (with_reducible refine Kd.C_drew ?_))); (case side2 => exact HC0_0.out); rintro e w31 ⟨v153, rfl, ho0, hb⟩; refine ⟨_, rfl, ?_⟩; have n0_ := Aside0.mk (Kd.R_lower ho0 (below_size (by repeat with_reducible first | exact HB.out | apply below_alloc | apply pw_below_drewN | apply below_drew1 | refine below_set ?_ GE145.out | refine below_set ?_ GE147.out))); have n1_ := Aside0.mk (blk_below (g := gb145) (o := .cells #[.slice (some ad146) l0_0.length c0_0, .map (some b1)] 52 (0, 0)) (by (with_reducible repeat first | apply bn | apply bd | apply ba); exact BK145.out) hb); have n2_ := Aside0.mk (blk_below (g := gb147) (o := .cells #[.string ((rd_T32 l0_0 a1).f0), .string ((rd_T32 l0_0 a1).f1), .slice A146_2 ((rd_T32 l0_0 a1).f2).length c146_2, .slice A146_3 ((rd_T32 l0_0 a1).f3).length c146_3] 32 (0, 0)) (by (with_reducible repeat first | apply bn | apply bd | apply ba); exact BK147.out) hb); have n3_ := Aside0.mk (below_step (by repeat with_reducible first | exact HB.out | apply below_alloc | apply pw_below_drewN | apply below_drew1 | refine below_set ?_ GE145.out | refine below_set ?_ GE147.out) hb); clear BK145; clear BK147; clear HB; have HO154 := n0_; have BK145 := n1_; have BK147 := n2_; have HB := n3_; clear n0_ n1_ n2_ n3_; (try clear hb); (try clear hb2); (try clear hk); (try clear hi); (try clear ho0)))
         (try simp only [Act.put, List.setIfInBounds_toArray, List.set_cons_zero, List.set_cons_succ])
         go_cut [68] (fun v68 wc => ∃ (kq : Nat) (x68_26 : Bool), v68 = .bool x68_26 ∧ Aside0 (hier_checker_class.j1 kq t152 x68_26 l0_0 a0_1 ((rd_T32 l0_0 a1).f0) ((rd_T32 l0_0 a1).f1) ((rd_T32 l0_0 a1).f2) ((rd_T32 l0_0 a1).f3) = some r) ∧ Aside0 (kq ≤ kj9) ∧ Aside0 (Kd.R (Kd.int .i64) 3 wc w.heap.size (fun _ => True) v153 t152) ∧ Aside0 (wc.heap[gb145]? = some (.cells #[(.slice (some ad146) l0_0.length c0_0), .map (some b1)] 52 (0, 0))) ∧ Aside0 (wc.heap[gb147]? = some (.cells #[.string ((rd_T32 l0_0 a1).f0), .string ((rd_T32 l0_0 a1).f1), (.slice A146_2 ((rd_T32 l0_0 a1).f2).length c146_2), (.slice A146_3 ((rd_T32 l0_0 a1).f3).length c146_3)] 32 (0, 0))) ∧ Aside0 (Below w.heap.size w wc))
         case first =>
          have H := HC27.out
          clear HC27
          by_cases c32 : (((rd_T32 l0_0 a1).f2).length : Int) > 16
          ·rw [if_pos c32] at H
           have c32b0 : decide (16 < (((rd_T32 l0_0 a1).f2).length : Int)) = true := decide_eq_true c32
           have c32b1 : decide (16 < ((rd_T32 l0_0 a1).f2).length) = true := decide_eq_true (by omega)
           clear c32
           (first | rw [c32b0] | (simp only [i64_w, i32_w]; rw [c32b0]) | skip)
           have H' := Aside0.mk H
           clear H
           have hnb33 := NB147_145.out
           have hnc33 := NB145_147.out
           have hcz34_0 : w31.cell? ⟨gb147, 0, none⟩ = some (.string ((rd_T32 l0_0 a1).f0)) := (blk_cell BK147.out 0).trans rfl
           have hcz34_1 : w31.cell? ⟨gb147, 1, none⟩ = some (.string ((rd_T32 l0_0 a1).f1)) := (blk_cell BK147.out 1).trans rfl
           have hcz34_2 : w31.cell? ⟨gb147, 2, none⟩ = some (.slice A146_2 ((rd_T32 l0_0 a1).f2).length c146_2) := (blk_cell BK147.out 2).trans rfl
           have hcz34_3 : w31.cell? ⟨gb147, 3, none⟩ = some (.slice A146_3 ((rd_T32 l0_0 a1).f3).length c146_3) := (blk_cell BK147.out 3).trans rfl
           have hfz34_0 := blk_frozen BK147.out 0
           have hfz34_1 := blk_frozen BK147.out 1
           have hfz34_2 := blk_frozen BK147.out 2
           have hfz34_3 := blk_frozen BK147.out 3
           go_wp2
           go_meet
           case rel => exact ⟨_, (true), (by first | rfl | (simp; done) | (simp [*]; done)), H', ⟨by have := HJ9.out; first | omega | exact Nat.le_refl _⟩, ⟨by (with_reducible repeat first | apply Kd.R_alloc | apply Kd.R_drewN | apply Kd.R_drew); exact HO154.out⟩, ⟨by (with_reducible repeat first | apply bn | apply bd | apply ba); exact BK145.out⟩, ⟨by (with_reducible repeat first | apply bn | apply bd | apply ba); exact BK147.out⟩, ⟨by repeat with_reducible first | exact HB.out | apply below_alloc | apply pw_below_drewN | apply below_drew1 | refine below_set ?_ GE145.out | refine below_set ?_ GE147.out⟩⟩
          ·rw [if_neg c32] at H
           have c32b0 : decide (16 < (((rd_T32 l0_0 a1).f2).length : Int)) = false := decide_eq_false c32
           have c32b1 : decide (16 < ((rd_T32 l0_0 a1).f2).length) = false := decide_eq_false (by omega)
           clear c32
           (first | rw [c32b0] | (simp only [i64_w, i32_w]; rw [c32b0]) | skip)
           have H' := Aside0.mk H
           clear H
           have hnb35 := NB147_145.out
           have hnc35 := NB145_147.out
           have hcz36_0 : w31.cell? ⟨gb147, 0, none⟩ = some (.string ((rd_T32 l0_0 a1).f0)) := (blk_cell BK147.out 0).trans rfl
           have hcz36_1 : w31.cell? ⟨gb147, 1, none⟩ = some (.string ((rd_T32 l0_0 a1).f1)) := (blk_cell BK147.out 1).trans rfl
           have hcz36_2 : w31.cell? ⟨gb147, 2, none⟩ = some (.slice A146_2 ((rd_T32 l0_0 a1).f2).length c146_2) := (blk_cell BK147.out 2).trans rfl
           have hcz36_3 : w31.cell? ⟨gb147, 3, none⟩ = some (.slice A146_3 ((rd_T32 l0_0 a1).f3).length c146_3) := (blk_cell BK147.out 3).trans rfl
           have hfz36_0 := blk_frozen BK147.out 0
           have hfz36_1 := blk_frozen BK147.out 1
           have hfz36_2 := blk_frozen BK147.out 2
           have hfz36_3 := blk_frozen BK147.out 3
           go_wp2
           go_meet
           case rel => exact ⟨_, (decide ((((rd_T32 l0_0 a1).f3).length : Int) > 16)), (by first | rfl | (simp; done) | (simp [*]; done)), H', ⟨by have := HJ9.out; first | omega | exact Nat.le_refl _⟩, ⟨by (with_reducible repeat first | apply Kd.R_alloc | apply Kd.R_drewN | apply Kd.R_drew); exact HO154.out⟩, ⟨by (with_reducible repeat first | apply bn | apply bd | apply ba); exact BK145.out⟩, ⟨by (with_reducible repeat first | apply bn | apply bd | apply ba); exact BK147.out⟩, ⟨by repeat with_reducible first | exact HB.out | apply below_alloc | apply pw_below_drewN | apply below_drew1 | refine below_set ?_ GE145.out | refine below_set ?_ GE147.out⟩⟩
         case rest =>
          clear HC27
          (try clear c1);(try clear p1);(try clear q1);(try clear hx1);(try clear c2);(try clear p2);(try clear c3);(try clear c3b0);(try clear c4);(try clear c4b0);(try clear c6);(try clear c8);(try clear c8b0);(try clear c8b1);(try clear c9);(try clear c14);(try clear p14);(try clear q14);(try clear hx14);(try clear c17);(try clear c18);(try clear c20);(try clear c21);(try clear c22);(try clear c23);(try clear c28);(try clear c32);(try clear c32b0);(try clear c32b1);(try clear c33);(try clear c35);(try clear hcz12_0);(try clear hcz12_1);(try clear hcz15_0);(try clear hcz15_1);(try clear hcz15_2);(try clear hcz15_3);(try clear hcz16_0);(try clear hcz16_1);(try clear hcz19_0);(try clear hcz19_1);(try clear hcz19_2);(try clear hcz19_3);(try clear hcz24_0);(try clear hcz24_1);(try clear hcz25_0);(try clear hcz25_1);(try clear hcz25_2);(try clear hcz25_3);(try clear hcz29_0);(try clear hcz29_1);(try clear hcz30_0);(try clear hcz30_1);(try clear hcz30_2);(try clear hcz30_3);(try clear hcz34_0);(try clear hcz34_1);(try clear hcz34_2);(try clear hcz34_3);(try clear hcz36_0);(try clear hcz36_1);(try clear hcz36_2);(try clear hcz36_3);(try clear hfz12_0);(try clear hfz12_1);(try clear hfz15_0);(try clear hfz15_1);(try clear hfz15_2);(try clear hfz15_3);(try clear hfz16_0);(try clear hfz16_1);(try clear hfz19_0);(try clear hfz19_1);(try clear hfz19_2);(try clear hfz19_3);(try clear hfz24_0);(try clear hfz24_1);(try clear hfz25_0);(try clear hfz25_1);(try clear hfz25_2);(try clear hfz25_3);(try clear hfz29_0);(try clear hfz29_1);(try clear hfz30_0);(try clear hfz30_1);(try clear hfz30_2);(try clear hfz30_3);(try clear hfz34_0);(try clear hfz34_1);(try clear hfz34_2);(try clear hfz34_3);(try clear hfz36_0);(try clear hfz36_1);(try clear hfz36_2);(try clear hfz36_3);(try clear hx146_0);(try clear hx146_1);(try clear hx146_2);(try clear hx146_3);(try clear p1);(try clear p14);(try clear p146);(try clear p2);(try clear q1);(try clear q14);(try clear q146)
          obtain ⟨kq, x68_26, rfl, HA, HJ26, HO_8, BK145, BK147, HB⟩ := hcut
          cases kq with
          | zero => exact absurd HA.out (by simp [hier_checker_class.j1])
          | succ kj26 =>
           have H := HA.out
           clear HA
           simp only [hier_checker_class.j1] at H
           by_cases c37 : x68_26 = true
           ·subst c37
            have H1 : (some 3) = some r := by rw [if_pos rfl] at H; exact H
            clear H
            have H := H1
            clear H1
            obtain rfl := Option.some.inj H
            go_wp2
            go_ret
            exact ⟨by first | rfl | (simp [errW_none, errW_some] <;> rfl) | (simp [*, errW_none, errW_some] <;> rfl), by repeat with_reducible first | exact HB.out | apply below_alloc | apply pw_below_drewN | apply below_drew1 | refine below_set ?_ GE145.out | refine below_set ?_ GE147.out⟩
           ·replace c37 := Bool.eq_false_iff.mpr c37
            subst c37
            have H1 : (hier_checker_class.l0 kj26 t152 ((rd_T32 l0_0 a1).f2) (((rd_T32 l0_0 a1).f2).length : Int) 0 l0_0 a0_1 ((rd_T32 l0_0 a1).f0) ((rd_T32 l0_0 a1).f1) ((rd_T32 l0_0 a1).f2) ((rd_T32 l0_0 a1).f3)) = some r := by rw [if_neg (show ¬ (false = true) by decide)] at H; exact H
            clear H
            have H := H1
            clear H1
            have H' := Aside0.mk H
            clear H
            have hnb38 := NB147_145.out
            have hnc38 := NB145_147.out
            have hcz39_0 : wc.cell? ⟨gb147, 0, none⟩ = some (.string ((rd_T32 l0_0 a1).f0)) := (blk_cell BK147.out 0).trans rfl
            have hcz39_1 : wc.cell? ⟨gb147, 1, none⟩ = some (.string ((rd_T32 l0_0 a1).f1)) := (blk_cell BK147.out 1).trans rfl
            have hcz39_2 : wc.cell? ⟨gb147, 2, none⟩ = some (.slice A146_2 ((rd_T32 l0_0 a1).f2).length c146_2) := (blk_cell BK147.out 2).trans rfl
            have hcz39_3 : wc.cell? ⟨gb147, 3, none⟩ = some (.slice A146_3 ((rd_T32 l0_0 a1).f3).length c146_3) := (blk_cell BK147.out 3).trans rfl
            have hfz39_0 := blk_frozen BK147.out 0
            have hfz39_1 := blk_frozen BK147.out 1
            have hfz39_2 := blk_frozen BK147.out 2
            have hfz39_3 := blk_frozen BK147.out 3
            go_wp2
            go_loopg [72] kj26 (fun kq v72 w' => ∃ (x72_3 : Int), v72 = .int .i64 x72_3 ∧ Aside0 (hier_checker_class.l0 kq t152 ((rd_T32 l0_0 a1).f2) (((rd_T32 l0_0 a1).f2).length : Int) x72_3 l0_0 a0_1 ((rd_T32 l0_0 a1).f0) ((rd_T32 l0_0 a1).f1) ((rd_T32 l0_0 a1).f2) ((rd_T32 l0_0 a1).f3) = some r) ∧ Aside0 (kq ≤ kj26) ∧ Aside0 (Kd.R (Kd.int .i64) 3 w' w.heap.size (fun _ => True) v153 t152) ∧ Aside0 (w'.heap[gb145]? = some (.cells #[(.slice (some ad146) l0_0.length c0_0), .map (some b1)] 52 (0, 0))) ∧ Aside0 (w'.heap[gb147]? = some (.cells #[.string ((rd_T32 l0_0 a1).f0), .string ((rd_T32 l0_0 a1).f1), (.slice A146_2 ((rd_T32 l0_0 a1).f2).length c146_2), (.slice A146_3 ((rd_T32 l0_0 a1).f3).length c146_3)] 32 (0, 0))) ∧ Aside0 (Below w.heap.size w w'))
            case atStart => exact ⟨(0), (by first | rfl | (simp; done) | (simp [*]; done)), H', ⟨Nat.le_refl _⟩, ⟨by (with_reducible repeat first | apply Kd.R_alloc | apply Kd.R_drewN | apply Kd.R_drew); exact HO_8.out⟩, ⟨by (with_reducible repeat first | apply bn | apply bd | apply ba); exact BK145.out⟩, ⟨by (with_reducible repeat first | apply bn | apply bd | apply ba); exact BK147.out⟩, ⟨by repeat with_reducible first | exact HB.out | apply below_alloc | apply pw_below_drewN | apply below_drew1 | refine below_set ?_ GE145.out | refine below_set ?_ GE147.out⟩⟩
            case round =>
             clear H'
             (try clear c1);(try clear p1);(try clear q1);(try clear hx1);(try clear c2);(try clear p2);(try clear c3);(try clear c3b0);(try clear c4);(try clear c4b0);(try clear c6);(try clear c8);(try clear c8b0);(try clear c8b1);(try clear c9);(try clear c14);(try clear p14);(try clear q14);(try clear hx14);(try clear c17);(try clear c18);(try clear c20);(try clear c21);(try clear c22);(try clear c23);(try clear c28);(try clear c32);(try clear c32b0);(try clear c32b1);(try clear c33);(try clear c35);(try clear c37);(try clear c38);(try clear hcz12_0);(try clear hcz12_1);(try clear hcz15_0);(try clear hcz15_1);(try clear hcz15_2);(try clear hcz15_3);(try clear hcz16_0);(try clear hcz16_1);(try clear hcz19_0);(try clear hcz19_1);(try clear hcz19_2);(try clear hcz19_3);(try clear hcz24_0);(try clear hcz24_1);(try clear hcz25_0);(try clear hcz25_1);(try clear hcz25_2);(try clear hcz25_3);(try clear hcz29_0);(try clear hcz29_1);(try clear hcz30_0);(try clear hcz30_1);(try clear hcz30_2);(try clear hcz30_3);(try clear hcz34_0);(try clear hcz34_1);(try clear hcz34_2);(try clear hcz34_3);(try clear hcz36_0);(try clear hcz36_1);(try clear hcz36_2);(try clear hcz36_3);(try clear hcz39_0);(try clear hcz39_1);(try clear hcz39_2);(try clear hcz39_3);(try clear hfz12_0);(try clear hfz12_1);(try clear hfz15_0);(try clear hfz15_1);(try clear hfz15_2);(try clear hfz15_3);(try clear hfz16_0);(try clear hfz16_1);(try clear hfz19_0);(try clear hfz19_1);(try clear hfz19_2);(try clear hfz19_3);(try clear hfz24_0);(try clear hfz24_1);(try clear hfz25_0);(try clear hfz25_1);(try clear hfz25_2);(try clear hfz25_3);(try clear hfz29_0);(try clear hfz29_1);(try clear hfz30_0);(try clear hfz30_1);(try clear hfz30_2);(try clear hfz30_3);(try clear hfz34_0);(try clear hfz34_1);(try clear hfz34_2);(try clear hfz34_3);(try clear hfz36_0);(try clear hfz36_1);(try clear hfz36_2);(try clear hfz36_3);(try clear hfz39_0);(try clear hfz39_1);(try clear hfz39_2);(try clear hfz39_3);(try clear hx146_0);(try clear hx146_1);(try clear hx146_2);(try clear hx146_3);(try clear p1);(try clear p14);(try clear p146);(try clear p2);(try clear q1);(try clear q14);(try clear q146)
             obtain ⟨x72_3, rfl, HA, HK3, HO_8, BK145, BK147, HB⟩ := hrel
             cases gk with
             | zero => exact absurd HA.out (by simp [hier_checker_class.l0])
             | succ k3 =>
              have H := HA.out
              clear HA
              simp only [hier_checker_class.l0] at H
              by_cases c40 : x72_3 < (((rd_T32 l0_0 a1).f2).length : Int)
              ·rw [if_pos c40] at H
               have c40b0 : decide (x72_3 < (((rd_T32 l0_0 a1).f2).length : Int)) = true := decide_eq_true c40
               clear c40
               by_cases c41 : 0 ≤ x72_3
               ·rw [if_pos c41] at H
                have c41b0 : decide (0 ≤ x72_3) = true := decide_eq_true c41
                clear c41
                by_cases c42 : x72_3 < (((rd_T32 l0_0 a1).f2).length : Int)
                ·rw [if_pos c42] at H
                 have c42b0 : decide (x72_3 < (((rd_T32 l0_0 a1).f2).length : Int)) = true := decide_eq_true c42
                 clear c42
                 have c43b0 := eq_true (of_decide_eq_true (by first | (with_reducible assumption) | assumption) : 0 ≤ x72_3)
                 by_cases c44 : x72_3 ≤ (((rd_T32 l0_0 a1).f2).length : Int)
                 ·rw [if_pos c44] at H
                  have c44b0 := eq_true c44
                  have c44b1 : decide (x72_3 ≤ (((rd_T32 l0_0 a1).f2).length : Int)) = true := decide_eq_true c44
                  clear c44
                  obtain ⟨y158, hy158⟩ : ∃ y_ : List (S67), y_ = (((rd_T32 l0_0 a1).f2).take (x72_3 : Int).toNat) := ⟨_, rfl⟩
                  replace H : (if 1 ≤ (t152.length : Int) then ((hier_checker_field.f k3 l0_0 a0_1 y158 ((rd_T67 ((rd_T32 l0_0 a1).f2) x72_3).f0) ((rd_T67 ((rd_T32 l0_0 a1).f2) x72_3).f1) (t152.drop 1)).bind fun t166 => (if t166 = 0 then (hier_checker_class.l0 k3 t152 ((rd_T32 l0_0 a1).f2) (((rd_T32 l0_0 a1).f2).length : Int) (wrap64 (x72_3 + 1)) l0_0 a0_1 ((rd_T32 l0_0 a1).f0) ((rd_T32 l0_0 a1).f1) ((rd_T32 l0_0 a1).f2) ((rd_T32 l0_0 a1).f3)) else (some t166))) else (none)) = some r := by first | (rw [hy158]; with_reducible exact H) | (have H2_ := (Option.bind_some _ _).symm.trans H; rw [hy158]; with_reducible exact H2_) | (have H2_ := (Option.bind_some _ _).symm.trans H; with_reducible exact H2_) | with_reducible exact H | (rw [hy158]; exact H) | exact H
                  have Ny158 := Aside0.mk hy158
                  clear hy158
                  by_cases c45 : 1 ≤ (t152.length : Int)
                  ·rw [if_pos c45] at H
                   have c45b0 := eq_true c45
                   have c45b1 : decide (1 ≤ (t152.length : Int)) = true := decide_eq_true c45
                   clear c45
                   obtain ⟨y162, hy162⟩ : ∃ y_ : List Int, y_ = (t152.drop 1) := ⟨_, rfl⟩
                   replace H : ((hier_checker_field.f k3 l0_0 a0_1 y158 ((rd_T67 ((rd_T32 l0_0 a1).f2) x72_3).f0) ((rd_T67 ((rd_T32 l0_0 a1).f2) x72_3).f1) y162).bind fun t166 => (if t166 = 0 then (hier_checker_class.l0 k3 t152 ((rd_T32 l0_0 a1).f2) (((rd_T32 l0_0 a1).f2).length : Int) (wrap64 (x72_3 + 1)) l0_0 a0_1 ((rd_T32 l0_0 a1).f0) ((rd_T32 l0_0 a1).f1) ((rd_T32 l0_0 a1).f2) ((rd_T32 l0_0 a1).f3)) else (some t166))) = some r := by first | (rw [hy162]; with_reducible exact H) | (have H2_ := (Option.bind_some _ _).symm.trans H; rw [hy162]; with_reducible exact H2_) | (have H2_ := (Option.bind_some _ _).symm.trans H; with_reducible exact H2_) | with_reducible exact H | (rw [hy162]; exact H) | exact H
                   have Ny162 := Aside0.mk hy162
                   clear hy162
                   replace H := Option.bind_eq_some_iff.mp H
                   obtain ⟨t166, A460, H⟩ := H
                   replace H : (if t166 = 0 then (hier_checker_class.l0 k3 t152 ((rd_T32 l0_0 a1).f2) (((rd_T32 l0_0 a1).f2).length : Int) (wrap64 (x72_3 + 1)) l0_0 a0_1 ((rd_T32 l0_0 a1).f0) ((rd_T32 l0_0 a1).f1) ((rd_T32 l0_0 a1).f2) ((rd_T32 l0_0 a1).f3)) else (some t166)) = some r := H
                   have A46 := Aside0.mk A460
                   clear A460
                   by_cases c47 : t166 = 0
                   ·rw [if_pos c47] at H
                    have c47b0 : (t166 == 0) = true := beq_iff_eq.mpr c47
                    have c47b1 : (t166 != 0) = false := bne_eq_false_iff_eq.mpr c47
                    clear c47
                    have H' := Aside0.mk H
                    clear H
                    have p156 : 0 ≤ (x72_3 : Int) := of_decide_eq_true (by first | (with_reducible assumption) | assumption)
                    have q156 : x72_3 < (((rd_T32 l0_0 a1).f2).length : Int) := of_decide_eq_true (by first | (with_reducible assumption) | assumption)
                    obtain ⟨ad156, e156, hx156_0, hx156_1⟩ := at_T67 HR146_2.out x72_3 p156 q156
                    cases e156
                    replace hx156_0 := (HB.out.cell (World.block_lt_of_cell? w _ hx156_0)).trans hx156_0
                    replace hx156_1 := (HB.out.cell (World.block_lt_of_cell? w _ hx156_1)).trans hx156_1
                    replace p156 := eq_true p156
                    replace q156 := eq_true q156
                    try go_wp2_with (first | ((with_reducible refine gate_dst (N := 11) rfl ?_); (try (refine gate_guard (by rfl) ?_; dsimp only)); refine box_event ?hg (N := 11) ?hd (cs := #[.string (⟨#[]⟩ : ByteArray), .string (⟨#[]⟩ : ByteArray)]) (t := 67) ?hr ?_; (case hd => rfl); (case hg => rfl); (case hr => first | (go_simp; done) | (go_simp; rfl)); intro gb157 hg w48 hbox hb; have n0_ := Aside0.mk (Kd.R_below (by (with_reducible repeat first | apply Kd.R_alloc | apply Kd.R_drewN | apply Kd.R_drew); exact HO_8.out) hb); have n1_ := Aside0.mk (blk_below (g := gb145) (o := .cells #[.slice (some ad146) l0_0.length c0_0, .map (some b1)] 52 (0, 0)) (by (with_reducible repeat first | apply bn | apply bd | apply ba); exact BK145.out) hb); have n2_ := Aside0.mk (blk_below (g := gb147) (o := .cells #[.string ((rd_T32 l0_0 a1).f0), .string ((rd_T32 l0_0 a1).f1), .slice (some ad156) ((rd_T32 l0_0 a1).f2).length c146_2, .slice A146_3 ((rd_T32 l0_0 a1).f3).length c146_3] 32 (0, 0)) (by (with_reducible repeat first | apply bn | apply bd | apply ba); exact BK147.out) hb); have n3_ := Aside0.mk (below_step (by repeat with_reducible first | exact HB.out | apply below_alloc | apply pw_below_drewN | apply below_drew1 | refine below_set ?_ GE145.out | refine below_set ?_ GE147.out) hb); have n4_ := Aside0.mk (hbox); have n5_ := Aside0.mk ((by rw [hg]; exact (below_size (by repeat with_reducible first | exact HB.out | apply below_alloc | apply pw_below_drewN | apply below_drew1 | refine below_set ?_ GE145.out | refine below_set ?_ GE147.out)) : w.heap.size ≤ gb157)); have n6_ := Aside0.mk ((by rw [hg]; exact (below_size (by repeat with_reducible first | exact HB.out | apply below_alloc | apply pw_below_drewN | apply below_drew1 | refine below_set ?_ GE145.out | refine below_set ?_ GE147.out)) : w.heap.size ≤ gb157)); have n7_ := Aside0.mk ((by rw [hg]; exact Nat.ne_of_lt (blk_lt (g := gb145) (o := .cells #[.slice (some ad146) l0_0.length c0_0, .map (some b1)] 52 (0, 0)) (by (with_reducible repeat first | apply bn | apply bd | apply ba); exact BK145.out)) : gb145 ≠ gb157)); have n8_ := Aside0.mk ((by rw [hg]; exact Nat.ne_of_gt (blk_lt (g := gb145) (o := .cells #[.slice (some ad146) l0_0.length c0_0, .map (some b1)] 52 (0, 0)) (by (with_reducible repeat first | apply bn | apply bd | apply ba); exact BK145.out)) : gb157 ≠ gb145)); have n9_ := Aside0.mk ((by rw [hg]; exact Nat.ne_of_lt (blk_lt (g := gb147) (o := .cells #[.string ((rd_T32 l0_0 a1).f0), .string ((rd_T32 l0_0 a1).f1), .slice (some ad156) ((rd_T32 l0_0 a1).f2).length c146_2, .slice A146_3 ((rd_T32 l0_0 a1).f3).length c146_3] 32 (0, 0)) (by (with_reducible repeat first | apply bn | apply bd | apply ba); exact BK147.out)) : gb147 ≠ gb157)); have n10_ := Aside0.mk ((by rw [hg]; exact Nat.ne_of_gt (blk_lt (g := gb147) (o := .cells #[.string ((rd_T32 l0_0 a1).f0), .string ((rd_T32 l0_0 a1).f1), .slice (some ad156) ((rd_T32 l0_0 a1).f2).length c146_2, .slice A146_3 ((rd_T32 l0_0 a1).f3).length c146_3] 32 (0, 0)) (by (with_reducible repeat first | apply bn | apply bd | apply ba); exact BK147.out)) : gb157 ≠ gb147)); clear HO_8; clear BK145; clear BK147; clear HB; have HO_8 := n0_; have BK145 := n1_; have BK147 := n2_; have HB := n3_; have BK157 := n4_; have GW157 := n5_; have GE157 := n6_; have NB145_157 := n7_; have NB157_145 := n8_; have NB147_157 := n9_; have NB157_147 := n10_; clear n0_ n1_ n2_ n3_ n4_ n5_ n6_ n7_ n8_ n9_ n10_; clear hb hbox hg; have hnb49 := NB157_145.out; have hnc49 := NB145_157.out; have hnb50 := NB157_147.out; have hnc50 := NB147_157.out; have hcz51_0 : w48.cell? ⟨gb157, 0, none⟩ = some (.string (⟨#[]⟩ : ByteArray)) := (blk_cell BK157.out 0).trans rfl; have hcz51_1 : w48.cell? ⟨gb157, 1, none⟩ = some (.string (⟨#[]⟩ : ByteArray)) := (blk_cell BK157.out 1).trans rfl; have hfz51_0 := blk_frozen BK157.out 0; have hfz51_1 := blk_frozen BK157.out 1))
                    have n0_ : Aside0 (Kd.R (Kd.int .i64) 3 ((w48.setCell ⟨gb157, 0, none⟩ (.string ((rd_T67 ((rd_T32 l0_0 a1).f2) x72_3).f0))).setCell ⟨gb157, 1, none⟩ (.string ((rd_T67 ((rd_T32 l0_0 a1).f2) x72_3).f1))) w.heap.size (fun _ => True) v153 t152) := ⟨by (with_reducible repeat first | apply Kd.R_alloc | apply Kd.R_drewN | apply Kd.R_drew); exact Kd.R_mono (Kd.R_far (p := ⟨gb157, 1, none⟩) (Kd.R_far (p := ⟨gb157, 0, none⟩) (Kd.R_types HO_8.out BK157.out (by decide)) (fun _ hk => hk.2) (.string ((rd_T67 ((rd_T32 l0_0 a1).f2) x72_3).f0))) (fun _ hk => hk.2) (.string ((rd_T67 ((rd_T32 l0_0 a1).f2) x72_3).f1))) (fun _ hk => trivial)⟩
                    have n1_ : Aside0 (((w48.setCell ⟨gb157, 0, none⟩ (.string ((rd_T67 ((rd_T32 l0_0 a1).f2) x72_3).f0))).setCell ⟨gb157, 1, none⟩ (.string ((rd_T67 ((rd_T32 l0_0 a1).f2) x72_3).f1))).heap[gb145]? = some (.cells #[.slice (some ad146) l0_0.length c0_0, .map (some b1)] 52 (0, 0))) := ⟨by (with_reducible repeat first | apply bn | apply bd | apply ba); refine blk_far ?_ NB145_157.out _; refine blk_far ?_ NB145_157.out _; (with_reducible repeat first | apply bn | apply bd | apply ba); exact BK145.out⟩
                    have n2_ : Aside0 (((w48.setCell ⟨gb157, 0, none⟩ (.string ((rd_T67 ((rd_T32 l0_0 a1).f2) x72_3).f0))).setCell ⟨gb157, 1, none⟩ (.string ((rd_T67 ((rd_T32 l0_0 a1).f2) x72_3).f1))).heap[gb147]? = some (.cells #[.string ((rd_T32 l0_0 a1).f0), .string ((rd_T32 l0_0 a1).f1), .slice (some ad156) ((rd_T32 l0_0 a1).f2).length c146_2, .slice A146_3 ((rd_T32 l0_0 a1).f3).length c146_3] 32 (0, 0))) := ⟨by (with_reducible repeat first | apply bn | apply bd | apply ba); refine blk_far ?_ NB147_157.out _; refine blk_far ?_ NB147_157.out _; (with_reducible repeat first | apply bn | apply bd | apply ba); exact BK147.out⟩
                    have n3_ : Aside0 (((w48.setCell ⟨gb157, 0, none⟩ (.string ((rd_T67 ((rd_T32 l0_0 a1).f2) x72_3).f0))).setCell ⟨gb157, 1, none⟩ (.string ((rd_T67 ((rd_T32 l0_0 a1).f2) x72_3).f1))).heap[gb157]? = some (.cells #[.string ((rd_T67 ((rd_T32 l0_0 a1).f2) x72_3).f0), .string ((rd_T67 ((rd_T32 l0_0 a1).f2) x72_3).f1)] 67 (0, 0))) := ⟨by (with_reducible repeat first | apply bn | apply bd | apply ba); refine blk_put (cs := #[.string ((rd_T67 ((rd_T32 l0_0 a1).f2) x72_3).f0), .string (⟨#[]⟩ : ByteArray)]) ?_ 1 _ rfl; refine blk_put (cs := #[.string (⟨#[]⟩ : ByteArray), .string (⟨#[]⟩ : ByteArray)]) ?_ 0 _ rfl; (with_reducible repeat first | apply bn | apply bd | apply ba); exact BK157.out⟩
                    have n4_ : Aside0 (Below w.heap.size w ((w48.setCell ⟨gb157, 0, none⟩ (.string ((rd_T67 ((rd_T32 l0_0 a1).f2) x72_3).f0))).setCell ⟨gb157, 1, none⟩ (.string ((rd_T67 ((rd_T32 l0_0 a1).f2) x72_3).f1)))) := ⟨by repeat with_reducible first | exact HB.out | apply below_alloc | apply pw_below_drewN | apply below_drew1 | refine below_set ?_ GE145.out | refine below_set ?_ GE147.out | refine below_set ?_ GE157.out⟩
                    (try clear HO_8)
                    (try clear BK145)
                    (try clear BK147)
                    (try clear BK157)
                    (try clear HB)
                    generalize ((w48.setCell ⟨gb157, 0, none⟩ (.string ((rd_T67 ((rd_T32 l0_0 a1).f2) x72_3).f0))).setCell ⟨gb157, 1, none⟩ (.string ((rd_T67 ((rd_T32 l0_0 a1).f2) x72_3).f1))) = w52 at n0_ n1_ n2_ n3_ n4_ ⊢
                    have HO_8 := n0_
                    have BK145 := n1_
                    have BK147 := n2_
                    have BK157 := n3_
                    have HB := n4_
                    clear n0_ n1_ n2_ n3_ n4_
                    have n0_ := Aside0.mk (Kd.R_drew HO_8.out)
                    have n1_ := Aside0.mk (blk_drew BK145.out)
                    have n2_ := Aside0.mk (blk_drew BK147.out)
                    have n3_ := Aside0.mk (blk_drew BK157.out)
                    have n4_ := Aside0.mk (below_drew1 HB.out)
                    clear HO_8
                    clear BK145
                    clear BK147
                    clear BK157
                    clear HB
                    have HO_8 := n0_
                    have BK145 := n1_
                    have BK147 := n2_
                    have BK157 := n3_
                    have HB := n4_
                    clear n0_ n1_ n2_ n3_ n4_
                    have q54 : (x72_3 : Int) ≤ ((((rd_T32 l0_0 a1).f2).length : Int) : Int) := of_decide_eq_true (by first | (with_reducible assumption) | assumption)
                    obtain ⟨i054, hi054, _, hsz54, _⟩ := info_parts info67
                    have hroom54 : ((rd_T32 l0_0 a1).f2).length ≤ c146_2 := HC146_2.out
                    have hC54 : Kd.C k67 _ (some ad156) ((rd_T32 l0_0 a1).f2).length ((rd_T32 l0_0 a1).f2) := HR146_2.out
                    have hcut54 := cut_to (P := Tryd.prog) 29 67 .i64 Tryd.underlying29 hi054 (some ad156) ((rd_T32 l0_0 a1).f2).length c146_2 x72_3 (of_decide_eq_true (by first | (with_reducible assumption) | assumption)) q54 hroom54
                    have hr54 := Kd.C_take (m := (x72_3 : Int).toNat) hC54 (by omega)
                    have hy54 : y158.length = (x72_3 : Int).toNat := (by rw [Ny158.out, List.length_take]; omega)
                    rw [← Ny158.out] at hr54
                    rw [← hy54] at hcut54
                    have HR161 := Aside0.mk hr54
                    have HC161 := Aside0.mk (show y158.length ≤ c146_2 from by omega)
                    clear hr54 hC54 hroom54 hi054 hsz54
                    have KY54 := Aside0.mk hy54
                    clear hy54
                    replace q54 := eq_true q54
                    obtain ⟨Ao56, co56, eo56⟩ := Kd.R_slice HO_8.out
                    (first | subst eo56 | (injection eo56 with f1_ f2_ f3_; have f4_ := f1_.symm; have f5_ := f3_.symm; clear f1_ f2_ f3_; subst f4_; subst f5_))
                    have q55 : (1 : Int) ≤ ((t152.length : Int) : Int) := of_decide_eq_true (by first | (with_reducible assumption) | assumption)
                    obtain ⟨i055, hi055, _, hsz55, _⟩ := info_parts info3
                    have hroom55 : t152.length ≤ co56 := (Kd.R_reads' HO_8.out).2.1
                    have hC55 : Kd.C (Kd.int .i64) _ Ao56 t152.length t152 := (Kd.R_reads' HO_8.out).2.2
                    have hcut55 := cut_from (P := Tryd.prog) 55 3 .i64 Tryd.underlying55 hi055 1 hsz55 Ao56 t152.length co56 1 (by omega) q55
                    have hr55 := Kd.C_drop (m := (1 : Int).toNat) (c := co56) hC55 (by omega) hroom55
                    obtain ⟨A55, hA55⟩ : ∃ A1, A1 = (if co56 = (1 : Int).toNat then Ao56 else (Ao56 : Option Addr).map (·.add ((1 : Int).toNat * 1))) := ⟨_, rfl⟩
                    obtain ⟨c55, hc55⟩ : ∃ c1, c1 = co56 - (1 : Int).toNat := ⟨_, rfl⟩
                    have hy55 : y162.length = t152.length - (1 : Int).toNat := (by rw [Ny162.out, List.length_drop] <;> omega)
                    rw [show (t152).drop (1 : Int).toNat = y162 from Ny162.out.symm] at hr55
                    replace hr55 : Kd.C (Kd.int .i64) _ A55 y162.length y162 := (by rw [hA55]; exact hr55)
                    rw [← hy55, ← hA55, ← hc55] at hcut55
                    have HR165 := Aside0.mk hr55
                    have HC165 := Aside0.mk (show y162.length ≤ c55 from by rw [hy55, hc55]; exact Nat.sub_le_sub_right hroom55 _)
                    clear hr55 hC55 hroom55 hi055 hsz55 hc55
                    have KY55 := Aside0.mk hy55
                    have KA55 := Aside0.mk hA55
                    clear hy55 hA55
                    have KL55 := Aside0.mk (show 1 ≤ t152.length from by omega)
                    replace q55 := eq_true q55
                    refine start_ (n := 10) (S := fun w' => w'.cell? ⟨gb145, 0, none⟩ = some (.slice (some ad146) l0_0.length c0_0) ∧ w'.cell? ⟨gb145, 1, none⟩ = some (.map (some b1)) ∧ w'.cell? ⟨gb147, 0, none⟩ = some (.string ((rd_T32 l0_0 a1).f0)) ∧ w'.cell? ⟨gb147, 1, none⟩ = some (.string ((rd_T32 l0_0 a1).f1)) ∧ w'.cell? ⟨gb147, 2, none⟩ = some (.slice (some ad156) ((rd_T32 l0_0 a1).f2).length c146_2) ∧ w'.cell? ⟨gb147, 3, none⟩ = some (.slice A146_3 ((rd_T32 l0_0 a1).f3).length c146_3) ∧ w'.cell? ⟨gb157, 0, none⟩ = some (.string ((rd_T67 ((rd_T32 l0_0 a1).f2) x72_3).f0)) ∧ w'.cell? ⟨gb157, 1, none⟩ = some (.string ((rd_T67 ((rd_T32 l0_0 a1).f2) x72_3).f1))) (ds := []) #[false,false,false,false,false,false,false,false,false,false] (by kernel_rfl) rfl rfl ⟨(blk_cell BK145.out 0).trans rfl, (blk_cell BK145.out 1).trans rfl, (blk_cell BK147.out 0).trans rfl, (blk_cell BK147.out 1).trans rfl, (blk_cell BK147.out 2).trans rfl, (blk_cell BK147.out 3).trans rfl, (blk_cell BK157.out 0).trans rfl, (blk_cell BK157.out 1).trans rfl⟩ (fun hHeld => ?_); refine with_tabW hier_checker_class.tab17 hier_checker_class.bits17 (fun HT_ HW_ => ?_)
                    generalize w52.drew = w53 at HO_8 BK145 BK147 BK157 HB HR161 HR165 hHeld ⊢
                    refine pure_ (i := 1) (N := some 78) (v := ?_) (a' := ?_) #[false,true,false,false,false,false,false,false,false,false] rfl rfl (any_of HT_.out (by kernel_rfl)) (fun _ _ _ h => h) (Or.inl ⟨by rfl, ?_⟩) ?_ ?_
                    rotate_left;focus(intro w';go_simp;with_reducible rfl)
                    rotate_left;focus(simp only [Act.put, List.setIfInBounds_toArray, List.set_cons_zero, List.set_cons_succ, i64_w];rfl)
                    refine pure_ (i := 3) (N := some 80) (v := ?_) (a' := ?_) #[false,true,false,true,false,false,false,false,false,false] rfl rfl (any_of HT_.out (by kernel_rfl)) (fun _ _ _ h => h) (Or.inl ⟨by rfl, ?_⟩) ?_ ?_
                    rotate_left;focus(intro w';go_simp;with_reducible rfl)
                    rotate_left;focus(simp only [Act.put, List.setIfInBounds_toArray, List.set_cons_zero, List.set_cons_succ, i64_w];rfl)
                    refine pure_ (i := 6) (N := some 83) (v := ?_) (a' := ?_) #[false,true,false,true,false,false,true,false,false,false] rfl rfl (any_of HT_.out (by kernel_rfl)) (fun _ _ _ h => h) (Or.inl ⟨by rfl, ?_⟩) ?_ ?_
                    rotate_left;focus(intro w';go_simp;with_reducible rfl)
                    rotate_left;focus(simp only [Act.put, List.setIfInBounds_toArray, List.set_cons_zero, List.set_cons_succ, i64_w];rfl)
                    refine pure_ (i := 7) (N := some 84) (v := ?_) (a' := ?_) #[false,true,false,true,false,false,true,true,false,false] rfl rfl (any_of HT_.out (by kernel_rfl)) (fun _ _ _ h => h) (Or.inl ⟨by rfl, ?_⟩) ?_ ?_
                    rotate_left;focus(intro w';go_simp;with_reducible rfl)
                    rotate_left;focus(simp only [Act.put, List.setIfInBounds_toArray, List.set_cons_zero, List.set_cons_succ, i64_w];rfl)
                    refine take_ (i := 0) (N := some 77) (v := ?_) (a' := ?_) #[true,true,false,true,false,false,true,true,false,false] rfl rfl (take_ofW HT_.out HW_.out (by kernel_rfl)) (fun _ _ _ h => h) (Or.inl ⟨by rfl, ?_⟩) hHeld ?_ ?_
                    rotate_left;focus(rintro w' ⟨s0, s1, s2, s3, s4, s5, s6, s7⟩;go_simp;with_reducible rfl)
                    rotate_left;focus(simp only [Act.put, List.setIfInBounds_toArray, List.set_cons_zero, List.set_cons_succ, i64_w];rfl)
                    refine take_ (i := 2) (N := some 79) (v := ?_) (a' := ?_) #[true,true,true,true,false,false,true,true,false,false] rfl rfl (take_ofW HT_.out HW_.out (by kernel_rfl)) (fun _ _ _ h => h) (Or.inl ⟨by rfl, ?_⟩) hHeld ?_ ?_
                    rotate_left;focus(rintro w' ⟨s0, s1, s2, s3, s4, s5, s6, s7⟩;go_simp;with_reducible rfl)
                    rotate_left;focus(simp only [Act.put, List.setIfInBounds_toArray, List.set_cons_zero, List.set_cons_succ, i64_w];rfl)
                    refine pure_ (i := 4) (N := some 81) (v := ?_) (a' := ?_) #[true,true,true,true,true,false,true,true,false,false] rfl rfl (any_of HT_.out (by kernel_rfl)) (fun _ _ _ h => h) (Or.inl ⟨by rfl, ?_⟩) ?_ ?_
                    rotate_left;focus(intro w';go_simp;with_reducible rfl)
                    rotate_left;focus(simp only [Act.put, List.setIfInBounds_toArray, List.set_cons_zero, List.set_cons_succ, i64_w];rfl)
                    refine take_ (i := 5) (N := some 82) (v := ?_) (a' := ?_) #[true,true,true,true,true,true,true,true,false,false] rfl rfl (take_ofW HT_.out HW_.out (by kernel_rfl)) (fun _ _ _ h => h) (Or.inl ⟨by rfl, ?_⟩) hHeld ?_ ?_
                    rotate_left;focus(rintro w' ⟨s0, s1, s2, s3, s4, s5, s6, s7⟩;go_simp;with_reducible rfl)
                    rotate_left;focus(simp only [Act.put, List.setIfInBounds_toArray, List.set_cons_zero, List.set_cons_succ, i64_w];rfl)
                    refine one_ (i := 8) (N := some 85) #[true,true,true,true,true,true,true,true,true,false] rfl rfl (one_of HT_.out (by kernel_rfl)) (by decide) (fun K hK => ?_)
                    refine goes_ Tryd.func33 (by kernel_rfl) rfl #[.agg #[.slice (some ad146) l0_0.length c0_0, .map (some b1)], .slice (some ad156) y158.length c146_2, .agg #[.string ((rd_T67 ((rd_T32 l0_0 a1).f2) x72_3).f0), .string ((rd_T67 ((rd_T32 l0_0 a1).f2) x72_3).f1)], .slice A55 y162.length c55] (by rfl) rfl rfl (by (try simp only [List.map_toArray, List.map_cons, List.map_nil]); first | done | rfl) ?_
                    with_reducible refine (hier_checker_field.calls k3 _ _ l0_0 a0_1 _ _ y158 ((rd_T67 ((rd_T32 l0_0 a1).f2) x72_3).f0) ((rd_T67 ((rd_T32 l0_0 a1).f2) x72_3).f1) _ _ y162 t166 _ ?side1 ?side2 ?side3 ?side4 ?side5 ?side6 ?sideM A46.out ?sideT).mono ?_
                    (case sideT => first | exact HTB_.out | exact HTB_.out.below (by repeat with_reducible first | exact HB.out | apply below_alloc | apply pw_below_drewN | apply below_drew1 | refine below_set ?_ GE145.out | refine below_set ?_ GE147.out | refine below_set ?_ GE157.out | refine below_set ?_ GE168.out))
                    (case sideM => exact (MapSI.Is.below HM1.out (by repeat with_reducible first | exact HB.out | apply below_alloc | apply pw_below_drewN | apply below_drew1 | refine below_set ?_ GE145.out | refine below_set ?_ GE147.out | refine below_set ?_ GE157.out | refine below_set ?_ GE168.out)))
                    (case side1 => repeat (first | exact (Kd.C_below HR0_0.out HB.out) | (with_reducible refine Kd.C_alloc ?_ _) | (with_reducible refine Kd.C_drewN ?_ _) | (with_reducible refine Kd.C_drew ?_)))
                    (case side2 => exact HC0_0.out)
                    (case side3 => repeat (first | exact (Kd.C_below HR161.out HB.out) | (with_reducible refine Kd.C_alloc ?_ _) | (with_reducible refine Kd.C_drewN ?_ _) | (with_reducible refine Kd.C_drew ?_)))
                    (case side4 => exact HC161.out)
                    (case side5 => repeat (first | exact (by repeat (first | (with_reducible exact HR165.out) | (with_reducible refine Kd.C_alloc ?_ _) | (with_reducible refine Kd.C_drewN ?_ _) | (with_reducible refine Kd.C_drew ?_) | exact HR165.out)) | (with_reducible refine Kd.C_alloc ?_ _) | (with_reducible refine Kd.C_drewN ?_ _) | (with_reducible refine Kd.C_drew ?_)))
                    (case side6 => exact HC165.out)
                    rintro e w57 ⟨rfl, hb⟩
                    refine ⟨_, rfl, ?_⟩
                    have n0_ := Aside0.mk (Kd.R_below (by (with_reducible repeat first | apply Kd.R_alloc | apply Kd.R_drewN | apply Kd.R_drew); exact HO_8.out) hb)
                    have n1_ := Aside0.mk (blk_below (g := gb145) (o := .cells #[.slice (some ad146) l0_0.length c0_0, .map (some b1)] 52 (0, 0)) (by (with_reducible repeat first | apply bn | apply bd | apply ba); exact BK145.out) hb)
                    have n2_ := Aside0.mk (blk_below (g := gb147) (o := .cells #[.string ((rd_T32 l0_0 a1).f0), .string ((rd_T32 l0_0 a1).f1), .slice (some ad156) ((rd_T32 l0_0 a1).f2).length c146_2, .slice A146_3 ((rd_T32 l0_0 a1).f3).length c146_3] 32 (0, 0)) (by (with_reducible repeat first | apply bn | apply bd | apply ba); exact BK147.out) hb)
                    have n3_ := Aside0.mk (blk_below (g := gb157) (o := .cells #[.string ((rd_T67 ((rd_T32 l0_0 a1).f2) x72_3).f0), .string ((rd_T67 ((rd_T32 l0_0 a1).f2) x72_3).f1)] 67 (0, 0)) (by (with_reducible repeat first | apply bn | apply bd | apply ba); exact BK157.out) hb)
                    have n4_ := Aside0.mk (Kd.C_below (by repeat (first | (with_reducible exact HR165.out) | (with_reducible refine Kd.C_alloc ?_ _) | (with_reducible refine Kd.C_drewN ?_ _) | (with_reducible refine Kd.C_drew ?_) | exact HR165.out)) hb)
                    have n5_ := Aside0.mk (below_step (by repeat with_reducible first | exact HB.out | apply below_alloc | apply pw_below_drewN | apply below_drew1 | refine below_set ?_ GE145.out | refine below_set ?_ GE147.out | refine below_set ?_ GE157.out) hb)
                    clear HO_8
                    clear BK145
                    clear BK147
                    clear BK157
                    clear HR165
                    clear HB
                    have HO_8 := n0_
                    have BK145 := n1_
                    have BK147 := n2_
                    have BK157 := n3_
                    have HR165 := n4_
                    have HB := n5_
                    clear n0_ n1_ n2_ n3_ n4_ n5_
                    (try clear hb)
                    (try clear hb2)
                    (try clear hk)
                    (try clear hi)
                    refine hK.out _ _ ⟨(blk_cell BK145.out 0).trans rfl, (blk_cell BK145.out 1).trans rfl, (blk_cell BK147.out 0).trans rfl, (blk_cell BK147.out 1).trans rfl, (blk_cell BK147.out 2).trans rfl, (blk_cell BK147.out 3).trans rfl, (blk_cell BK157.out 0).trans rfl, (blk_cell BK157.out 1).trans rfl⟩ (fun hHeld => ?_)
                    clear hK K
                    refine norm_ (a' := ?_) ?_ ?_
                    rotate_left;focus(show Act.put _ (some 85) _ = _;simp only [Act.put, List.setIfInBounds_toArray, List.set_cons_zero, List.set_cons_succ, i64_w];rfl)
                    refine pure_ (i := 9) (N := some 12) (v := ?_) (a' := ?_) #[true,true,true,true,true,true,true,true,true,true] rfl rfl (any_of HT_.out (by kernel_rfl)) (fun _ _ _ h => h) (Or.inl ⟨by rfl, ?_⟩) ?_ ?_
                    rotate_left;focus(intro w';go_simp;with_reducible rfl)
                    rotate_left;focus(simp only [Act.put, List.setIfInBounds_toArray, List.set_cons_zero, List.set_cons_succ, i64_w];rfl)
                    refine done_ (done_of HT_.out (by kernel_rfl)) ?_
                    try go_wp2
                    go_roundg k3
                    case measure => have := HJ9.out; have := HJ26.out; have := HK3.out; omega
                    case rel => exact ⟨(wrap64 (x72_3 + 1)), (by first | rfl | (simp; done) | (simp [*]; done)), H', ⟨by have := HJ9.out; have := HJ26.out; have := HK3.out; omega⟩, ⟨by (with_reducible repeat first | apply Kd.R_alloc | apply Kd.R_drewN | apply Kd.R_drew); exact HO_8.out⟩, ⟨by (with_reducible repeat first | apply bn | apply bd | apply ba); exact BK145.out⟩, ⟨by (with_reducible repeat first | apply bn | apply bd | apply ba); exact BK147.out⟩, ⟨by repeat with_reducible first | exact HB.out | apply below_alloc | apply pw_below_drewN | apply below_drew1 | refine below_set ?_ GE145.out | refine below_set ?_ GE147.out | refine below_set ?_ GE157.out⟩⟩
                   ·rw [if_neg c47] at H
                    have c47b0 : (t166 == 0) = false := beq_eq_false_iff_ne.mpr c47
                    have c47b1 : (t166 != 0) = true := bne_iff_ne.mpr c47
                    obtain rfl := Option.some.inj H
                    have p156 : 0 ≤ (x72_3 : Int) := of_decide_eq_true (by first | (with_reducible assumption) | assumption)
                    have q156 : x72_3 < (((rd_T32 l0_0 a1).f2).length : Int) := of_decide_eq_true (by first | (with_reducible assumption) | assumption)
                    obtain ⟨ad156, e156, hx156_0, hx156_1⟩ := at_T67 HR146_2.out x72_3 p156 q156
                    cases e156
                    replace hx156_0 := (HB.out.cell (World.block_lt_of_cell? w _ hx156_0)).trans hx156_0
                    replace hx156_1 := (HB.out.cell (World.block_lt_of_cell? w _ hx156_1)).trans hx156_1
                    replace p156 := eq_true p156
                    replace q156 := eq_true q156
                    try go_wp2_with (first | ((with_reducible refine gate_dst (N := 11) rfl ?_); (try (refine gate_guard (by rfl) ?_; dsimp only)); refine box_event ?hg (N := 11) ?hd (cs := #[.string (⟨#[]⟩ : ByteArray), .string (⟨#[]⟩ : ByteArray)]) (t := 67) ?hr ?_; (case hd => rfl); (case hg => rfl); (case hr => first | (go_simp; done) | (go_simp; rfl)); intro gb157 hg w58 hbox hb; have n0_ := Aside0.mk (Kd.R_below (by (with_reducible repeat first | apply Kd.R_alloc | apply Kd.R_drewN | apply Kd.R_drew); exact HO_8.out) hb); have n1_ := Aside0.mk (blk_below (g := gb145) (o := .cells #[.slice (some ad146) l0_0.length c0_0, .map (some b1)] 52 (0, 0)) (by (with_reducible repeat first | apply bn | apply bd | apply ba); exact BK145.out) hb); have n2_ := Aside0.mk (blk_below (g := gb147) (o := .cells #[.string ((rd_T32 l0_0 a1).f0), .string ((rd_T32 l0_0 a1).f1), .slice (some ad156) ((rd_T32 l0_0 a1).f2).length c146_2, .slice A146_3 ((rd_T32 l0_0 a1).f3).length c146_3] 32 (0, 0)) (by (with_reducible repeat first | apply bn | apply bd | apply ba); exact BK147.out) hb); have n3_ := Aside0.mk (below_step (by repeat with_reducible first | exact HB.out | apply below_alloc | apply pw_below_drewN | apply below_drew1 | refine below_set ?_ GE145.out | refine below_set ?_ GE147.out) hb); have n4_ := Aside0.mk (hbox); have n5_ := Aside0.mk ((by rw [hg]; exact (below_size (by repeat with_reducible first | exact HB.out | apply below_alloc | apply pw_below_drewN | apply below_drew1 | refine below_set ?_ GE145.out | refine below_set ?_ GE147.out)) : w.heap.size ≤ gb157)); have n6_ := Aside0.mk ((by rw [hg]; exact (below_size (by repeat with_reducible first | exact HB.out | apply below_alloc | apply pw_below_drewN | apply below_drew1 | refine below_set ?_ GE145.out | refine below_set ?_ GE147.out)) : w.heap.size ≤ gb157)); have n7_ := Aside0.mk ((by rw [hg]; exact Nat.ne_of_lt (blk_lt (g := gb145) (o := .cells #[.slice (some ad146) l0_0.length c0_0, .map (some b1)] 52 (0, 0)) (by (with_reducible repeat first | apply bn | apply bd | apply ba); exact BK145.out)) : gb145 ≠ gb157)); have n8_ := Aside0.mk ((by rw [hg]; exact Nat.ne_of_gt (blk_lt (g := gb145) (o := .cells #[.slice (some ad146) l0_0.length c0_0, .map (some b1)] 52 (0, 0)) (by (with_reducible repeat first | apply bn | apply bd | apply ba); exact BK145.out)) : gb157 ≠ gb145)); have n9_ := Aside0.mk ((by rw [hg]; exact Nat.ne_of_lt (blk_lt (g := gb147) (o := .cells #[.string ((rd_T32 l0_0 a1).f0), .string ((rd_T32 l0_0 a1).f1), .slice (some ad156) ((rd_T32 l0_0 a1).f2).length c146_2, .slice A146_3 ((rd_T32 l0_0 a1).f3).length c146_3] 32 (0, 0)) (by (with_reducible repeat first | apply bn | apply bd | apply ba); exact BK147.out)) : gb147 ≠ gb157)); have n10_ := Aside0.mk ((by rw [hg]; exact Nat.ne_of_gt (blk_lt (g := gb147) (o := .cells #[.string ((rd_T32 l0_0 a1).f0), .string ((rd_T32 l0_0 a1).f1), .slice (some ad156) ((rd_T32 l0_0 a1).f2).length c146_2, .slice A146_3 ((rd_T32 l0_0 a1).f3).length c146_3] 32 (0, 0)) (by (with_reducible repeat first | apply bn | apply bd | apply ba); exact BK147.out)) : gb157 ≠ gb147)); clear HO_8; clear BK145; clear BK147; clear HB; have HO_8 := n0_; have BK145 := n1_; have BK147 := n2_; have HB := n3_; have BK157 := n4_; have GW157 := n5_; have GE157 := n6_; have NB145_157 := n7_; have NB157_145 := n8_; have NB147_157 := n9_; have NB157_147 := n10_; clear n0_ n1_ n2_ n3_ n4_ n5_ n6_ n7_ n8_ n9_ n10_; clear hb hbox hg; have hnb59 := NB157_145.out; have hnc59 := NB145_157.out; have hnb60 := NB157_147.out; have hnc60 := NB147_157.out; have hcz61_0 : w58.cell? ⟨gb157, 0, none⟩ = some (.string (⟨#[]⟩ : ByteArray)) := (blk_cell BK157.out 0).trans rfl; have hcz61_1 : w58.cell? ⟨gb157, 1, none⟩ = some (.string (⟨#[]⟩ : ByteArray)) := (blk_cell BK157.out 1).trans rfl; have hfz61_0 := blk_frozen BK157.out 0; have hfz61_1 := blk_frozen BK157.out 1))
                    have n0_ : Aside0 (Kd.R (Kd.int .i64) 3 ((w58.setCell ⟨gb157, 0, none⟩ (.string ((rd_T67 ((rd_T32 l0_0 a1).f2) x72_3).f0))).setCell ⟨gb157, 1, none⟩ (.string ((rd_T67 ((rd_T32 l0_0 a1).f2) x72_3).f1))) w.heap.size (fun _ => True) v153 t152) := ⟨by (with_reducible repeat first | apply Kd.R_alloc | apply Kd.R_drewN | apply Kd.R_drew); exact Kd.R_mono (Kd.R_far (p := ⟨gb157, 1, none⟩) (Kd.R_far (p := ⟨gb157, 0, none⟩) (Kd.R_types HO_8.out BK157.out (by decide)) (fun _ hk => hk.2) (.string ((rd_T67 ((rd_T32 l0_0 a1).f2) x72_3).f0))) (fun _ hk => hk.2) (.string ((rd_T67 ((rd_T32 l0_0 a1).f2) x72_3).f1))) (fun _ hk => trivial)⟩
                    have n1_ : Aside0 (((w58.setCell ⟨gb157, 0, none⟩ (.string ((rd_T67 ((rd_T32 l0_0 a1).f2) x72_3).f0))).setCell ⟨gb157, 1, none⟩ (.string ((rd_T67 ((rd_T32 l0_0 a1).f2) x72_3).f1))).heap[gb145]? = some (.cells #[.slice (some ad146) l0_0.length c0_0, .map (some b1)] 52 (0, 0))) := ⟨by (with_reducible repeat first | apply bn | apply bd | apply ba); refine blk_far ?_ NB145_157.out _; refine blk_far ?_ NB145_157.out _; (with_reducible repeat first | apply bn | apply bd | apply ba); exact BK145.out⟩
                    have n2_ : Aside0 (((w58.setCell ⟨gb157, 0, none⟩ (.string ((rd_T67 ((rd_T32 l0_0 a1).f2) x72_3).f0))).setCell ⟨gb157, 1, none⟩ (.string ((rd_T67 ((rd_T32 l0_0 a1).f2) x72_3).f1))).heap[gb147]? = some (.cells #[.string ((rd_T32 l0_0 a1).f0), .string ((rd_T32 l0_0 a1).f1), .slice (some ad156) ((rd_T32 l0_0 a1).f2).length c146_2, .slice A146_3 ((rd_T32 l0_0 a1).f3).length c146_3] 32 (0, 0))) := ⟨by (with_reducible repeat first | apply bn | apply bd | apply ba); refine blk_far ?_ NB147_157.out _; refine blk_far ?_ NB147_157.out _; (with_reducible repeat first | apply bn | apply bd | apply ba); exact BK147.out⟩
                    have n3_ : Aside0 (((w58.setCell ⟨gb157, 0, none⟩ (.string ((rd_T67 ((rd_T32 l0_0 a1).f2) x72_3).f0))).setCell ⟨gb157, 1, none⟩ (.string ((rd_T67 ((rd_T32 l0_0 a1).f2) x72_3).f1))).heap[gb157]? = some (.cells #[.string ((rd_T67 ((rd_T32 l0_0 a1).f2) x72_3).f0), .string ((rd_T67 ((rd_T32 l0_0 a1).f2) x72_3).f1)] 67 (0, 0))) := ⟨by (with_reducible repeat first | apply bn | apply bd | apply ba); refine blk_put (cs := #[.string ((rd_T67 ((rd_T32 l0_0 a1).f2) x72_3).f0), .string (⟨#[]⟩ : ByteArray)]) ?_ 1 _ rfl; refine blk_put (cs := #[.string (⟨#[]⟩ : ByteArray), .string (⟨#[]⟩ : ByteArray)]) ?_ 0 _ rfl; (with_reducible repeat first | apply bn | apply bd | apply ba); exact BK157.out⟩
                    have n4_ : Aside0 (Below w.heap.size w ((w58.setCell ⟨gb157, 0, none⟩ (.string ((rd_T67 ((rd_T32 l0_0 a1).f2) x72_3).f0))).setCell ⟨gb157, 1, none⟩ (.string ((rd_T67 ((rd_T32 l0_0 a1).f2) x72_3).f1)))) := ⟨by repeat with_reducible first | exact HB.out | apply below_alloc | apply pw_below_drewN | apply below_drew1 | refine below_set ?_ GE145.out | refine below_set ?_ GE147.out | refine below_set ?_ GE157.out⟩
                    (try clear HO_8)
                    (try clear BK145)
                    (try clear BK147)
                    (try clear BK157)
                    (try clear HB)
                    generalize ((w58.setCell ⟨gb157, 0, none⟩ (.string ((rd_T67 ((rd_T32 l0_0 a1).f2) x72_3).f0))).setCell ⟨gb157, 1, none⟩ (.string ((rd_T67 ((rd_T32 l0_0 a1).f2) x72_3).f1))) = w62 at n0_ n1_ n2_ n3_ n4_ ⊢
                    have HO_8 := n0_
                    have BK145 := n1_
                    have BK147 := n2_
                    have BK157 := n3_
                    have HB := n4_
                    clear n0_ n1_ n2_ n3_ n4_
                    have n0_ := Aside0.mk (Kd.R_drew HO_8.out)
                    have n1_ := Aside0.mk (blk_drew BK145.out)
                    have n2_ := Aside0.mk (blk_drew BK147.out)
                    have n3_ := Aside0.mk (blk_drew BK157.out)
                    have n4_ := Aside0.mk (below_drew1 HB.out)
                    clear HO_8
                    clear BK145
                    clear BK147
                    clear BK157
                    clear HB
                    have HO_8 := n0_
                    have BK145 := n1_
                    have BK147 := n2_
                    have BK157 := n3_
                    have HB := n4_
                    clear n0_ n1_ n2_ n3_ n4_
                    have q64 : (x72_3 : Int) ≤ ((((rd_T32 l0_0 a1).f2).length : Int) : Int) := of_decide_eq_true (by first | (with_reducible assumption) | assumption)
                    obtain ⟨i064, hi064, _, hsz64, _⟩ := info_parts info67
                    have hroom64 : ((rd_T32 l0_0 a1).f2).length ≤ c146_2 := HC146_2.out
                    have hC64 : Kd.C k67 _ (some ad156) ((rd_T32 l0_0 a1).f2).length ((rd_T32 l0_0 a1).f2) := HR146_2.out
                    have hcut64 := cut_to (P := Tryd.prog) 29 67 .i64 Tryd.underlying29 hi064 (some ad156) ((rd_T32 l0_0 a1).f2).length c146_2 x72_3 (of_decide_eq_true (by first | (with_reducible assumption) | assumption)) q64 hroom64
                    have hr64 := Kd.C_take (m := (x72_3 : Int).toNat) hC64 (by omega)
                    have hy64 : y158.length = (x72_3 : Int).toNat := (by rw [Ny158.out, List.length_take]; omega)
                    rw [← Ny158.out] at hr64
                    rw [← hy64] at hcut64
                    have HR161 := Aside0.mk hr64
                    have HC161 := Aside0.mk (show y158.length ≤ c146_2 from by omega)
                    clear hr64 hC64 hroom64 hi064 hsz64
                    have KY64 := Aside0.mk hy64
                    clear hy64
                    replace q64 := eq_true q64
                    obtain ⟨Ao66, co66, eo66⟩ := Kd.R_slice HO_8.out
                    (first | subst eo66 | (injection eo66 with f1_ f2_ f3_; have f4_ := f1_.symm; have f5_ := f3_.symm; clear f1_ f2_ f3_; subst f4_; subst f5_))
                    have q65 : (1 : Int) ≤ ((t152.length : Int) : Int) := of_decide_eq_true (by first | (with_reducible assumption) | assumption)
                    obtain ⟨i065, hi065, _, hsz65, _⟩ := info_parts info3
                    have hroom65 : t152.length ≤ co66 := (Kd.R_reads' HO_8.out).2.1
                    have hC65 : Kd.C (Kd.int .i64) _ Ao66 t152.length t152 := (Kd.R_reads' HO_8.out).2.2
                    have hcut65 := cut_from (P := Tryd.prog) 55 3 .i64 Tryd.underlying55 hi065 1 hsz65 Ao66 t152.length co66 1 (by omega) q65
                    have hr65 := Kd.C_drop (m := (1 : Int).toNat) (c := co66) hC65 (by omega) hroom65
                    obtain ⟨A65, hA65⟩ : ∃ A1, A1 = (if co66 = (1 : Int).toNat then Ao66 else (Ao66 : Option Addr).map (·.add ((1 : Int).toNat * 1))) := ⟨_, rfl⟩
                    obtain ⟨c65, hc65⟩ : ∃ c1, c1 = co66 - (1 : Int).toNat := ⟨_, rfl⟩
                    have hy65 : y162.length = t152.length - (1 : Int).toNat := (by rw [Ny162.out, List.length_drop] <;> omega)
                    rw [show (t152).drop (1 : Int).toNat = y162 from Ny162.out.symm] at hr65
                    replace hr65 : Kd.C (Kd.int .i64) _ A65 y162.length y162 := (by rw [hA65]; exact hr65)
                    rw [← hy65, ← hA65, ← hc65] at hcut65
                    have HR165 := Aside0.mk hr65
                    have HC165 := Aside0.mk (show y162.length ≤ c65 from by rw [hy65, hc65]; exact Nat.sub_le_sub_right hroom65 _)
                    clear hr65 hC65 hroom65 hi065 hsz65 hc65
                    have KY65 := Aside0.mk hy65
                    have KA65 := Aside0.mk hA65
                    clear hy65 hA65
                    have KL65 := Aside0.mk (show 1 ≤ t152.length from by omega)
                    replace q65 := eq_true q65
                    refine start_ (n := 10) (S := fun w' => w'.cell? ⟨gb145, 0, none⟩ = some (.slice (some ad146) l0_0.length c0_0) ∧ w'.cell? ⟨gb145, 1, none⟩ = some (.map (some b1)) ∧ w'.cell? ⟨gb147, 0, none⟩ = some (.string ((rd_T32 l0_0 a1).f0)) ∧ w'.cell? ⟨gb147, 1, none⟩ = some (.string ((rd_T32 l0_0 a1).f1)) ∧ w'.cell? ⟨gb147, 2, none⟩ = some (.slice (some ad156) ((rd_T32 l0_0 a1).f2).length c146_2) ∧ w'.cell? ⟨gb147, 3, none⟩ = some (.slice A146_3 ((rd_T32 l0_0 a1).f3).length c146_3) ∧ w'.cell? ⟨gb157, 0, none⟩ = some (.string ((rd_T67 ((rd_T32 l0_0 a1).f2) x72_3).f0)) ∧ w'.cell? ⟨gb157, 1, none⟩ = some (.string ((rd_T67 ((rd_T32 l0_0 a1).f2) x72_3).f1))) (ds := []) #[false,false,false,false,false,false,false,false,false,false] (by kernel_rfl) rfl rfl ⟨(blk_cell BK145.out 0).trans rfl, (blk_cell BK145.out 1).trans rfl, (blk_cell BK147.out 0).trans rfl, (blk_cell BK147.out 1).trans rfl, (blk_cell BK147.out 2).trans rfl, (blk_cell BK147.out 3).trans rfl, (blk_cell BK157.out 0).trans rfl, (blk_cell BK157.out 1).trans rfl⟩ (fun hHeld => ?_); refine with_tabW hier_checker_class.tab17 hier_checker_class.bits17 (fun HT_ HW_ => ?_)
                    generalize w62.drew = w63 at HO_8 BK145 BK147 BK157 HB HR161 HR165 hHeld ⊢
                    refine pure_ (i := 1) (N := some 78) (v := ?_) (a' := ?_) #[false,true,false,false,false,false,false,false,false,false] rfl rfl (any_of HT_.out (by kernel_rfl)) (fun _ _ _ h => h) (Or.inl ⟨by rfl, ?_⟩) ?_ ?_
                    rotate_left;focus(intro w';go_simp;with_reducible rfl)
                    rotate_left;focus(simp only [Act.put, List.setIfInBounds_toArray, List.set_cons_zero, List.set_cons_succ, i64_w];rfl)
                    refine pure_ (i := 3) (N := some 80) (v := ?_) (a' := ?_) #[false,true,false,true,false,false,false,false,false,false] rfl rfl (any_of HT_.out (by kernel_rfl)) (fun _ _ _ h => h) (Or.inl ⟨by rfl, ?_⟩) ?_ ?_
                    rotate_left;focus(intro w';go_simp;with_reducible rfl)
                    rotate_left;focus(simp only [Act.put, List.setIfInBounds_toArray, List.set_cons_zero, List.set_cons_succ, i64_w];rfl)
                    refine pure_ (i := 6) (N := some 83) (v := ?_) (a' := ?_) #[false,true,false,true,false,false,true,false,false,false] rfl rfl (any_of HT_.out (by kernel_rfl)) (fun _ _ _ h => h) (Or.inl ⟨by rfl, ?_⟩) ?_ ?_
                    rotate_left;focus(intro w';go_simp;with_reducible rfl)
                    rotate_left;focus(simp only [Act.put, List.setIfInBounds_toArray, List.set_cons_zero, List.set_cons_succ, i64_w];rfl)
                    refine pure_ (i := 7) (N := some 84) (v := ?_) (a' := ?_) #[false,true,false,true,false,false,true,true,false,false] rfl rfl (any_of HT_.out (by kernel_rfl)) (fun _ _ _ h => h) (Or.inl ⟨by rfl, ?_⟩) ?_ ?_
                    rotate_left;focus(intro w';go_simp;with_reducible rfl)
                    rotate_left;focus(simp only [Act.put, List.setIfInBounds_toArray, List.set_cons_zero, List.set_cons_succ, i64_w];rfl)
                    refine take_ (i := 0) (N := some 77) (v := ?_) (a' := ?_) #[true,true,false,true,false,false,true,true,false,false] rfl rfl (take_ofW HT_.out HW_.out (by kernel_rfl)) (fun _ _ _ h => h) (Or.inl ⟨by rfl, ?_⟩) hHeld ?_ ?_
                    rotate_left;focus(rintro w' ⟨s0, s1, s2, s3, s4, s5, s6, s7⟩;go_simp;with_reducible rfl)
                    rotate_left;focus(simp only [Act.put, List.setIfInBounds_toArray, List.set_cons_zero, List.set_cons_succ, i64_w];rfl)
                    refine take_ (i := 2) (N := some 79) (v := ?_) (a' := ?_) #[true,true,true,true,false,false,true,true,false,false] rfl rfl (take_ofW HT_.out HW_.out (by kernel_rfl)) (fun _ _ _ h => h) (Or.inl ⟨by rfl, ?_⟩) hHeld ?_ ?_
                    rotate_left;focus(rintro w' ⟨s0, s1, s2, s3, s4, s5, s6, s7⟩;go_simp;with_reducible rfl)
                    rotate_left;focus(simp only [Act.put, List.setIfInBounds_toArray, List.set_cons_zero, List.set_cons_succ, i64_w];rfl)
                    refine pure_ (i := 4) (N := some 81) (v := ?_) (a' := ?_) #[true,true,true,true,true,false,true,true,false,false] rfl rfl (any_of HT_.out (by kernel_rfl)) (fun _ _ _ h => h) (Or.inl ⟨by rfl, ?_⟩) ?_ ?_
                    rotate_left;focus(intro w';go_simp;with_reducible rfl)
                    rotate_left;focus(simp only [Act.put, List.setIfInBounds_toArray, List.set_cons_zero, List.set_cons_succ, i64_w];rfl)
                    refine take_ (i := 5) (N := some 82) (v := ?_) (a' := ?_) #[true,true,true,true,true,true,true,true,false,false] rfl rfl (take_ofW HT_.out HW_.out (by kernel_rfl)) (fun _ _ _ h => h) (Or.inl ⟨by rfl, ?_⟩) hHeld ?_ ?_
                    rotate_left;focus(rintro w' ⟨s0, s1, s2, s3, s4, s5, s6, s7⟩;go_simp;with_reducible rfl)
                    rotate_left;focus(simp only [Act.put, List.setIfInBounds_toArray, List.set_cons_zero, List.set_cons_succ, i64_w];rfl)
                    refine one_ (i := 8) (N := some 85) #[true,true,true,true,true,true,true,true,true,false] rfl rfl (one_of HT_.out (by kernel_rfl)) (by decide) (fun K hK => ?_)
                    refine goes_ Tryd.func33 (by kernel_rfl) rfl #[.agg #[.slice (some ad146) l0_0.length c0_0, .map (some b1)], .slice (some ad156) y158.length c146_2, .agg #[.string ((rd_T67 ((rd_T32 l0_0 a1).f2) x72_3).f0), .string ((rd_T67 ((rd_T32 l0_0 a1).f2) x72_3).f1)], .slice A65 y162.length c65] (by rfl) rfl rfl (by (try simp only [List.map_toArray, List.map_cons, List.map_nil]); first | done | rfl) ?_
                    with_reducible refine (hier_checker_field.calls k3 _ _ l0_0 a0_1 _ _ y158 ((rd_T67 ((rd_T32 l0_0 a1).f2) x72_3).f0) ((rd_T67 ((rd_T32 l0_0 a1).f2) x72_3).f1) _ _ y162 t166 _ ?side1 ?side2 ?side3 ?side4 ?side5 ?side6 ?sideM A46.out ?sideT).mono ?_
                    (case sideT => first | exact HTB_.out | exact HTB_.out.below (by repeat with_reducible first | exact HB.out | apply below_alloc | apply pw_below_drewN | apply below_drew1 | refine below_set ?_ GE145.out | refine below_set ?_ GE147.out | refine below_set ?_ GE157.out | refine below_set ?_ GE168.out))
                    (case sideM => exact (MapSI.Is.below HM1.out (by repeat with_reducible first | exact HB.out | apply below_alloc | apply pw_below_drewN | apply below_drew1 | refine below_set ?_ GE145.out | refine below_set ?_ GE147.out | refine below_set ?_ GE157.out | refine below_set ?_ GE168.out)))
                    (case side1 => repeat (first | exact (Kd.C_below HR0_0.out HB.out) | (with_reducible refine Kd.C_alloc ?_ _) | (with_reducible refine Kd.C_drewN ?_ _) | (with_reducible refine Kd.C_drew ?_)))
                    (case side2 => exact HC0_0.out)
                    (case side3 => repeat (first | exact (Kd.C_below HR161.out HB.out) | (with_reducible refine Kd.C_alloc ?_ _) | (with_reducible refine Kd.C_drewN ?_ _) | (with_reducible refine Kd.C_drew ?_)))
                    (case side4 => exact HC161.out)
                    (case side5 => repeat (first | exact (by repeat (first | (with_reducible exact HR165.out) | (with_reducible refine Kd.C_alloc ?_ _) | (with_reducible refine Kd.C_drewN ?_ _) | (with_reducible refine Kd.C_drew ?_) | exact HR165.out)) | (with_reducible refine Kd.C_alloc ?_ _) | (with_reducible refine Kd.C_drewN ?_ _) | (with_reducible refine Kd.C_drew ?_)))
                    (case side6 => exact HC165.out)
                    rintro e w67 ⟨rfl, hb⟩
                    refine ⟨_, rfl, ?_⟩
                    have n0_ := Aside0.mk (Kd.R_below (by (with_reducible repeat first | apply Kd.R_alloc | apply Kd.R_drewN | apply Kd.R_drew); exact HO_8.out) hb)
                    have n1_ := Aside0.mk (blk_below (g := gb145) (o := .cells #[.slice (some ad146) l0_0.length c0_0, .map (some b1)] 52 (0, 0)) (by (with_reducible repeat first | apply bn | apply bd | apply ba); exact BK145.out) hb)
                    have n2_ := Aside0.mk (blk_below (g := gb147) (o := .cells #[.string ((rd_T32 l0_0 a1).f0), .string ((rd_T32 l0_0 a1).f1), .slice (some ad156) ((rd_T32 l0_0 a1).f2).length c146_2, .slice A146_3 ((rd_T32 l0_0 a1).f3).length c146_3] 32 (0, 0)) (by (with_reducible repeat first | apply bn | apply bd | apply ba); exact BK147.out) hb)
                    have n3_ := Aside0.mk (blk_below (g := gb157) (o := .cells #[.string ((rd_T67 ((rd_T32 l0_0 a1).f2) x72_3).f0), .string ((rd_T67 ((rd_T32 l0_0 a1).f2) x72_3).f1)] 67 (0, 0)) (by (with_reducible repeat first | apply bn | apply bd | apply ba); exact BK157.out) hb)
                    have n4_ := Aside0.mk (Kd.C_below (by repeat (first | (with_reducible exact HR165.out) | (with_reducible refine Kd.C_alloc ?_ _) | (with_reducible refine Kd.C_drewN ?_ _) | (with_reducible refine Kd.C_drew ?_) | exact HR165.out)) hb)
                    have n5_ := Aside0.mk (below_step (by repeat with_reducible first | exact HB.out | apply below_alloc | apply pw_below_drewN | apply below_drew1 | refine below_set ?_ GE145.out | refine below_set ?_ GE147.out | refine below_set ?_ GE157.out) hb)
                    clear HO_8
                    clear BK145
                    clear BK147
                    clear BK157
                    clear HR165
                    clear HB
                    have HO_8 := n0_
                    have BK145 := n1_
                    have BK147 := n2_
                    have BK157 := n3_
                    have HR165 := n4_
                    have HB := n5_
                    clear n0_ n1_ n2_ n3_ n4_ n5_
                    (try clear hb)
                    (try clear hb2)
                    (try clear hk)
                    (try clear hi)
                    refine hK.out _ _ ⟨(blk_cell BK145.out 0).trans rfl, (blk_cell BK145.out 1).trans rfl, (blk_cell BK147.out 0).trans rfl, (blk_cell BK147.out 1).trans rfl, (blk_cell BK147.out 2).trans rfl, (blk_cell BK147.out 3).trans rfl, (blk_cell BK157.out 0).trans rfl, (blk_cell BK157.out 1).trans rfl⟩ (fun hHeld => ?_)
                    clear hK K
                    refine norm_ (a' := ?_) ?_ ?_
                    rotate_left;focus(show Act.put _ (some 85) _ = _;simp only [Act.put, List.setIfInBounds_toArray, List.set_cons_zero, List.set_cons_succ, i64_w];rfl)
                    refine pure_ (i := 9) (N := some 12) (v := ?_) (a' := ?_) #[true,true,true,true,true,true,true,true,true,true] rfl rfl (any_of HT_.out (by kernel_rfl)) (fun _ _ _ h => h) (Or.inl ⟨by rfl, ?_⟩) ?_ ?_
                    rotate_left;focus(intro w';go_simp;with_reducible rfl)
                    rotate_left;focus(simp only [Act.put, List.setIfInBounds_toArray, List.set_cons_zero, List.set_cons_succ, i64_w];rfl)
                    refine done_ (done_of HT_.out (by kernel_rfl)) ?_
                    try go_wp2
                    go_ret
                    exact ⟨by first | rfl | (simp [errW_none, errW_some] <;> rfl) | (simp [*, errW_none, errW_some] <;> rfl), by repeat with_reducible first | exact HB.out | apply below_alloc | apply pw_below_drewN | apply below_drew1 | refine below_set ?_ GE145.out | refine below_set ?_ GE147.out | refine below_set ?_ GE157.out⟩
                  ·rw [if_neg c45] at H
                   exact absurd H (by simp)
                 ·rw [if_neg c44] at H
                  exact absurd H (by simp)
                ·rw [if_neg c42] at H
                 exact absurd H (by simp)
               ·rw [if_neg c41] at H
                exact absurd H (by simp)
              ·rw [if_neg c40] at H
               have c40b0 : decide (x72_3 < (((rd_T32 l0_0 a1).f2).length : Int)) = false := decide_eq_false c40
               clear c40
               have H' := Aside0.mk H
               clear H
               have hnb68 := NB147_145.out
               have hnc68 := NB145_147.out
               have hcz69_0 : wr.cell? ⟨gb147, 0, none⟩ = some (.string ((rd_T32 l0_0 a1).f0)) := (blk_cell BK147.out 0).trans rfl
               have hcz69_1 : wr.cell? ⟨gb147, 1, none⟩ = some (.string ((rd_T32 l0_0 a1).f1)) := (blk_cell BK147.out 1).trans rfl
               have hcz69_2 : wr.cell? ⟨gb147, 2, none⟩ = some (.slice A146_2 ((rd_T32 l0_0 a1).f2).length c146_2) := (blk_cell BK147.out 2).trans rfl
               have hcz69_3 : wr.cell? ⟨gb147, 3, none⟩ = some (.slice A146_3 ((rd_T32 l0_0 a1).f3).length c146_3) := (blk_cell BK147.out 3).trans rfl
               have hfz69_0 := blk_frozen BK147.out 0
               have hfz69_1 := blk_frozen BK147.out 1
               have hfz69_2 := blk_frozen BK147.out 2
               have hfz69_3 := blk_frozen BK147.out 3
               go_wp2
               go_loopg [93] k3 (fun kq v93 w' => ∃ (x93_4 : Int), v93 = .int .i64 x93_4 ∧ Aside0 (hier_checker_class.l1 kq t152 ((rd_T32 l0_0 a1).f3) (((rd_T32 l0_0 a1).f3).length : Int) x93_4 l0_0 a0_1 ((rd_T32 l0_0 a1).f0) ((rd_T32 l0_0 a1).f1) ((rd_T32 l0_0 a1).f2) ((rd_T32 l0_0 a1).f3) = some r) ∧ Aside0 (kq ≤ k3) ∧ Aside0 (Kd.R (Kd.int .i64) 3 w' w.heap.size (fun _ => True) v153 t152) ∧ Aside0 (w'.heap[gb145]? = some (.cells #[(.slice (some ad146) l0_0.length c0_0), .map (some b1)] 52 (0, 0))) ∧ Aside0 (w'.heap[gb147]? = some (.cells #[.string ((rd_T32 l0_0 a1).f0), .string ((rd_T32 l0_0 a1).f1), (.slice A146_2 ((rd_T32 l0_0 a1).f2).length c146_2), (.slice A146_3 ((rd_T32 l0_0 a1).f3).length c146_3)] 32 (0, 0))) ∧ Aside0 (Below w.heap.size w w'))
               case atStart => exact ⟨(0), (by first | rfl | (simp; done) | (simp [*]; done)), H', ⟨Nat.le_refl _⟩, ⟨by (with_reducible repeat first | apply Kd.R_alloc | apply Kd.R_drewN | apply Kd.R_drew); exact HO_8.out⟩, ⟨by (with_reducible repeat first | apply bn | apply bd | apply ba); exact BK145.out⟩, ⟨by (with_reducible repeat first | apply bn | apply bd | apply ba); exact BK147.out⟩, ⟨by repeat with_reducible first | exact HB.out | apply below_alloc | apply pw_below_drewN | apply below_drew1 | refine below_set ?_ GE145.out | refine below_set ?_ GE147.out⟩⟩
               case round =>
                clear H'
                (try clear c1);(try clear p1);(try clear q1);(try clear hx1);(try clear c2);(try clear p2);(try clear c3);(try clear c3b0);(try clear c4);(try clear c4b0);(try clear c5);(try clear q5);(try clear c6);(try clear p6);(try clear q6);(try clear c8);(try clear c8b0);(try clear c8b1);(try clear c9);(try clear c14);(try clear p14);(try clear q14);(try clear hx14);(try clear p15);(try clear q15);(try clear hx15);(try clear c17);(try clear c18);(try clear c20);(try clear c21);(try clear c22);(try clear c23);(try clear c28);(try clear c32);(try clear c32b0);(try clear c32b1);(try clear c33);(try clear c35);(try clear c37);(try clear c38);(try clear c40);(try clear c40b0);(try clear c41);(try clear c41b0);(try clear c42);(try clear c42b0);(try clear c43);(try clear c43b0);(try clear c44);(try clear c44b0);(try clear c44b1);(try clear c45);(try clear c45b0);(try clear c45b1);(try clear c47);(try clear c47b0);(try clear c47b1);(try clear c49);(try clear c50);(try clear q54);(try clear c55);(try clear q55);(try clear c59);(try clear c60);(try clear p64);(try clear q64);(try clear c65);(try clear q65);(try clear c68);(try clear hcz12_0);(try clear hcz12_1);(try clear hcz15_0);(try clear hcz15_1);(try clear hcz15_2);(try clear hcz15_3);(try clear hcz16_0);(try clear hcz16_1);(try clear hcz19_0);(try clear hcz19_1);(try clear hcz19_2);(try clear hcz19_3);(try clear hcz24_0);(try clear hcz24_1);(try clear hcz25_0);(try clear hcz25_1);(try clear hcz25_2);(try clear hcz25_3);(try clear hcz29_0);(try clear hcz29_1);(try clear hcz30_0);(try clear hcz30_1);(try clear hcz30_2);(try clear hcz30_3);(try clear hcz34_0);(try clear hcz34_1);(try clear hcz34_2);(try clear hcz34_3);(try clear hcz36_0);(try clear hcz36_1);(try clear hcz36_2);(try clear hcz36_3);(try clear hcz39_0);(try clear hcz39_1);(try clear hcz39_2);(try clear hcz39_3);(try clear hcz51_0);(try clear hcz51_1);(try clear hcz61_0);(try clear hcz61_1);(try clear hcz69_0);(try clear hcz69_1);(try clear hcz69_2);(try clear hcz69_3);(try clear hfz12_0);(try clear hfz12_1);(try clear hfz15_0);(try clear hfz15_1);(try clear hfz15_2);(try clear hfz15_3);(try clear hfz16_0);(try clear hfz16_1);(try clear hfz19_0);(try clear hfz19_1);(try clear hfz19_2);(try clear hfz19_3);(try clear hfz24_0);(try clear hfz24_1);(try clear hfz25_0);(try clear hfz25_1);(try clear hfz25_2);(try clear hfz25_3);(try clear hfz29_0);(try clear hfz29_1);(try clear hfz30_0);(try clear hfz30_1);(try clear hfz30_2);(try clear hfz30_3);(try clear hfz34_0);(try clear hfz34_1);(try clear hfz34_2);(try clear hfz34_3);(try clear hfz36_0);(try clear hfz36_1);(try clear hfz36_2);(try clear hfz36_3);(try clear hfz39_0);(try clear hfz39_1);(try clear hfz39_2);(try clear hfz39_3);(try clear hfz51_0);(try clear hfz51_1);(try clear hfz61_0);(try clear hfz61_1);(try clear hfz69_0);(try clear hfz69_1);(try clear hfz69_2);(try clear hfz69_3);(try clear hx146_0);(try clear hx146_1);(try clear hx146_2);(try clear hx146_3);(try clear hx156_0);(try clear hx156_1);(try clear p1);(try clear p14);(try clear p146);(try clear p156);(try clear p2);(try clear q1);(try clear q14);(try clear q146);(try clear q156);(try clear q54);(try clear q55);(try clear q64);(try clear q65)
                obtain ⟨x93_4, rfl, HA, HK4, HO_8, BK145, BK147, HB⟩ := hrel
                cases gk with
                | zero => exact absurd HA.out (by simp [hier_checker_class.l1])
                | succ k4 =>
                 have H := HA.out
                 clear HA
                 simp only [hier_checker_class.l1] at H
                 by_cases c70 : x93_4 < (((rd_T32 l0_0 a1).f3).length : Int)
                 ·rw [if_pos c70] at H
                  have c70b0 : decide (x93_4 < (((rd_T32 l0_0 a1).f3).length : Int)) = true := decide_eq_true c70
                  clear c70
                  by_cases c71 : 0 ≤ x93_4
                  ·rw [if_pos c71] at H
                   have c71b0 : decide (0 ≤ x93_4) = true := decide_eq_true c71
                   clear c71
                   by_cases c72 : x93_4 < (((rd_T32 l0_0 a1).f3).length : Int)
                   ·rw [if_pos c72] at H
                    have c72b0 : decide (x93_4 < (((rd_T32 l0_0 a1).f3).length : Int)) = true := decide_eq_true c72
                    clear c72
                    have c73b0 := eq_true (of_decide_eq_true (by first | (with_reducible assumption) | assumption) : 0 ≤ x93_4)
                    by_cases c74 : x93_4 ≤ (((rd_T32 l0_0 a1).f3).length : Int)
                    ·rw [if_pos c74] at H
                     have c74b0 := eq_true c74
                     have c74b1 : decide (x93_4 ≤ (((rd_T32 l0_0 a1).f3).length : Int)) = true := decide_eq_true c74
                     clear c74
                     obtain ⟨y169, hy169⟩ : ∃ y_ : List (S37), y_ = (((rd_T32 l0_0 a1).f3).take (x93_4 : Int).toNat) := ⟨_, rfl⟩
                     replace H : (if 1 ≤ (t152.length : Int) then ((hier_checker_method.f k4 l0_0 a0_1 y169 ((rd_T37 ((rd_T32 l0_0 a1).f3) x93_4).f0) ((rd_T37 ((rd_T32 l0_0 a1).f3) x93_4).f1) ((rd_T37 ((rd_T32 l0_0 a1).f3) x93_4).f2) ((rd_T37 ((rd_T32 l0_0 a1).f3) x93_4).f3) (t152.drop 1)).bind fun t177 => (if t177 = 0 then (hier_checker_class.l1 k4 t152 ((rd_T32 l0_0 a1).f3) (((rd_T32 l0_0 a1).f3).length : Int) (wrap64 (x93_4 + 1)) l0_0 a0_1 ((rd_T32 l0_0 a1).f0) ((rd_T32 l0_0 a1).f1) ((rd_T32 l0_0 a1).f2) ((rd_T32 l0_0 a1).f3)) else (some t177))) else (none)) = some r := by first | (rw [hy169]; with_reducible exact H) | (have H2_ := (Option.bind_some _ _).symm.trans H; rw [hy169]; with_reducible exact H2_) | (have H2_ := (Option.bind_some _ _).symm.trans H; with_reducible exact H2_) | with_reducible exact H | (rw [hy169]; exact H) | exact H
                     have Ny169 := Aside0.mk hy169
                     clear hy169
                     by_cases c75 : 1 ≤ (t152.length : Int)
                     ·rw [if_pos c75] at H
                      have c75b0 := eq_true c75
                      have c75b1 : decide (1 ≤ (t152.length : Int)) = true := decide_eq_true c75
                      clear c75
                      obtain ⟨y173, hy173⟩ : ∃ y_ : List Int, y_ = (t152.drop 1) := ⟨_, rfl⟩
                      replace H : ((hier_checker_method.f k4 l0_0 a0_1 y169 ((rd_T37 ((rd_T32 l0_0 a1).f3) x93_4).f0) ((rd_T37 ((rd_T32 l0_0 a1).f3) x93_4).f1) ((rd_T37 ((rd_T32 l0_0 a1).f3) x93_4).f2) ((rd_T37 ((rd_T32 l0_0 a1).f3) x93_4).f3) y173).bind fun t177 => (if t177 = 0 then (hier_checker_class.l1 k4 t152 ((rd_T32 l0_0 a1).f3) (((rd_T32 l0_0 a1).f3).length : Int) (wrap64 (x93_4 + 1)) l0_0 a0_1 ((rd_T32 l0_0 a1).f0) ((rd_T32 l0_0 a1).f1) ((rd_T32 l0_0 a1).f2) ((rd_T32 l0_0 a1).f3)) else (some t177))) = some r := by first | (rw [hy173]; with_reducible exact H) | (have H2_ := (Option.bind_some _ _).symm.trans H; rw [hy173]; with_reducible exact H2_) | (have H2_ := (Option.bind_some _ _).symm.trans H; with_reducible exact H2_) | with_reducible exact H | (rw [hy173]; exact H) | exact H
                      have Ny173 := Aside0.mk hy173
                      clear hy173
                      replace H := Option.bind_eq_some_iff.mp H
                      obtain ⟨t177, A760, H⟩ := H
                      replace H : (if t177 = 0 then (hier_checker_class.l1 k4 t152 ((rd_T32 l0_0 a1).f3) (((rd_T32 l0_0 a1).f3).length : Int) (wrap64 (x93_4 + 1)) l0_0 a0_1 ((rd_T32 l0_0 a1).f0) ((rd_T32 l0_0 a1).f1) ((rd_T32 l0_0 a1).f2) ((rd_T32 l0_0 a1).f3)) else (some t177)) = some r := H
                      have A76 := Aside0.mk A760
                      clear A760
                      by_cases c77 : t177 = 0
                      ·rw [if_pos c77] at H
                       have c77b0 : (t177 == 0) = true := beq_iff_eq.mpr c77
                       have c77b1 : (t177 != 0) = false := bne_eq_false_iff_eq.mpr c77
                       clear c77
                       have H' := Aside0.mk H
                       clear H
                       have p167 : 0 ≤ (x93_4 : Int) := of_decide_eq_true (by first | (with_reducible assumption) | assumption)
                       have q167 : x93_4 < (((rd_T32 l0_0 a1).f3).length : Int) := of_decide_eq_true (by first | (with_reducible assumption) | assumption)
                       obtain ⟨ad167, A167_2, c167_2, e167, hx167_0, hx167_1, hx167_2, hx167_3, hl167_2, hi167_2⟩ := at_T37 HR146_3.out x93_4 p167 q167
                       cases e167
                       replace hx167_0 := (HB.out.cell (World.block_lt_of_cell? w _ hx167_0)).trans hx167_0
                       replace hx167_1 := (HB.out.cell (World.block_lt_of_cell? w _ hx167_1)).trans hx167_1
                       replace hx167_2 := (HB.out.cell (World.block_lt_of_cell? w _ hx167_2)).trans hx167_2
                       replace hx167_3 := (HB.out.cell (World.block_lt_of_cell? w _ hx167_3)).trans hx167_3
                       have HR167_2 := Aside0.mk hi167_2
                       have HC167_2 := Aside0.mk hl167_2
                       clear hi167_2 hl167_2
                       replace p167 := eq_true p167
                       replace q167 := eq_true q167
                       try go_wp2_with (first | ((with_reducible refine gate_dst (N := 14) rfl ?_); (try (refine gate_guard (by rfl) ?_; dsimp only)); refine box_event ?hg (N := 14) ?hd (cs := #[.string (⟨#[]⟩ : ByteArray), .bool false, .slice none 0 0, .string (⟨#[]⟩ : ByteArray)]) (t := 37) ?hr ?_; (case hd => rfl); (case hg => rfl); (case hr => first | (go_simp; done) | (go_simp; rfl)); intro gb168 hg w78 hbox hb; have n0_ := Aside0.mk (Kd.R_below (by (with_reducible repeat first | apply Kd.R_alloc | apply Kd.R_drewN | apply Kd.R_drew); exact HO_8.out) hb); have n1_ := Aside0.mk (blk_below (g := gb145) (o := .cells #[.slice (some ad146) l0_0.length c0_0, .map (some b1)] 52 (0, 0)) (by (with_reducible repeat first | apply bn | apply bd | apply ba); exact BK145.out) hb); have n2_ := Aside0.mk (blk_below (g := gb147) (o := .cells #[.string ((rd_T32 l0_0 a1).f0), .string ((rd_T32 l0_0 a1).f1), .slice A146_2 ((rd_T32 l0_0 a1).f2).length c146_2, .slice (some ad167) ((rd_T32 l0_0 a1).f3).length c146_3] 32 (0, 0)) (by (with_reducible repeat first | apply bn | apply bd | apply ba); exact BK147.out) hb); have n3_ := Aside0.mk (below_step (by repeat with_reducible first | exact HB.out | apply below_alloc | apply pw_below_drewN | apply below_drew1 | refine below_set ?_ GE145.out | refine below_set ?_ GE147.out) hb); have n4_ := Aside0.mk (hbox); have n5_ := Aside0.mk ((by rw [hg]; exact (below_size (by repeat with_reducible first | exact HB.out | apply below_alloc | apply pw_below_drewN | apply below_drew1 | refine below_set ?_ GE145.out | refine below_set ?_ GE147.out)) : w.heap.size ≤ gb168)); have n6_ := Aside0.mk ((by rw [hg]; exact (below_size (by repeat with_reducible first | exact HB.out | apply below_alloc | apply pw_below_drewN | apply below_drew1 | refine below_set ?_ GE145.out | refine below_set ?_ GE147.out)) : w.heap.size ≤ gb168)); have n7_ := Aside0.mk ((by rw [hg]; exact Nat.ne_of_lt (blk_lt (g := gb145) (o := .cells #[.slice (some ad146) l0_0.length c0_0, .map (some b1)] 52 (0, 0)) (by (with_reducible repeat first | apply bn | apply bd | apply ba); exact BK145.out)) : gb145 ≠ gb168)); have n8_ := Aside0.mk ((by rw [hg]; exact Nat.ne_of_gt (blk_lt (g := gb145) (o := .cells #[.slice (some ad146) l0_0.length c0_0, .map (some b1)] 52 (0, 0)) (by (with_reducible repeat first | apply bn | apply bd | apply ba); exact BK145.out)) : gb168 ≠ gb145)); have n9_ := Aside0.mk ((by rw [hg]; exact Nat.ne_of_lt (blk_lt (g := gb147) (o := .cells #[.string ((rd_T32 l0_0 a1).f0), .string ((rd_T32 l0_0 a1).f1), .slice A146_2 ((rd_T32 l0_0 a1).f2).length c146_2, .slice (some ad167) ((rd_T32 l0_0 a1).f3).length c146_3] 32 (0, 0)) (by (with_reducible repeat first | apply bn | apply bd | apply ba); exact BK147.out)) : gb147 ≠ gb168)); have n10_ := Aside0.mk ((by rw [hg]; exact Nat.ne_of_gt (blk_lt (g := gb147) (o := .cells #[.string ((rd_T32 l0_0 a1).f0), .string ((rd_T32 l0_0 a1).f1), .slice A146_2 ((rd_T32 l0_0 a1).f2).length c146_2, .slice (some ad167) ((rd_T32 l0_0 a1).f3).length c146_3] 32 (0, 0)) (by (with_reducible repeat first | apply bn | apply bd | apply ba); exact BK147.out)) : gb168 ≠ gb147)); clear HO_8; clear BK145; clear BK147; clear HB; have HO_8 := n0_; have BK145 := n1_; have BK147 := n2_; have HB := n3_; have BK168 := n4_; have GW168 := n5_; have GE168 := n6_; have NB145_168 := n7_; have NB168_145 := n8_; have NB147_168 := n9_; have NB168_147 := n10_; clear n0_ n1_ n2_ n3_ n4_ n5_ n6_ n7_ n8_ n9_ n10_; clear hb hbox hg; have hnb79 := NB168_145.out; have hnc79 := NB145_168.out; have hnb80 := NB168_147.out; have hnc80 := NB147_168.out; have hcz81_0 : w78.cell? ⟨gb168, 0, none⟩ = some (.string (⟨#[]⟩ : ByteArray)) := (blk_cell BK168.out 0).trans rfl; have hcz81_1 : w78.cell? ⟨gb168, 1, none⟩ = some (.bool false) := (blk_cell BK168.out 1).trans rfl; have hcz81_2 : w78.cell? ⟨gb168, 2, none⟩ = some (.slice none 0 0) := (blk_cell BK168.out 2).trans rfl; have hcz81_3 : w78.cell? ⟨gb168, 3, none⟩ = some (.string (⟨#[]⟩ : ByteArray)) := (blk_cell BK168.out 3).trans rfl; have hfz81_0 := blk_frozen BK168.out 0; have hfz81_1 := blk_frozen BK168.out 1; have hfz81_2 := blk_frozen BK168.out 2; have hfz81_3 := blk_frozen BK168.out 3))
                       have n0_ : Aside0 (Kd.R (Kd.int .i64) 3 ((((w78.setCell ⟨gb168, 0, none⟩ (.string ((rd_T37 ((rd_T32 l0_0 a1).f3) x93_4).f0))).setCell ⟨gb168, 1, none⟩ (.bool ((rd_T37 ((rd_T32 l0_0 a1).f3) x93_4).f1))).setCell ⟨gb168, 2, none⟩ (.slice A167_2 ((rd_T37 ((rd_T32 l0_0 a1).f3) x93_4).f2).length c167_2)).setCell ⟨gb168, 3, none⟩ (.string ((rd_T37 ((rd_T32 l0_0 a1).f3) x93_4).f3))) w.heap.size (fun _ => True) v153 t152) := ⟨by (with_reducible repeat first | apply Kd.R_alloc | apply Kd.R_drewN | apply Kd.R_drew); exact Kd.R_mono (Kd.R_far (p := ⟨gb168, 3, none⟩) (Kd.R_far (p := ⟨gb168, 2, none⟩) (Kd.R_far (p := ⟨gb168, 1, none⟩) (Kd.R_far (p := ⟨gb168, 0, none⟩) (Kd.R_types HO_8.out BK168.out (by decide)) (fun _ hk => hk.2) (.string ((rd_T37 ((rd_T32 l0_0 a1).f3) x93_4).f0))) (fun _ hk => hk.2) (.bool ((rd_T37 ((rd_T32 l0_0 a1).f3) x93_4).f1))) (fun _ hk => hk.2) (.slice A167_2 ((rd_T37 ((rd_T32 l0_0 a1).f3) x93_4).f2).length c167_2)) (fun _ hk => hk.2) (.string ((rd_T37 ((rd_T32 l0_0 a1).f3) x93_4).f3))) (fun _ hk => trivial)⟩
                       have n1_ : Aside0 (((((w78.setCell ⟨gb168, 0, none⟩ (.string ((rd_T37 ((rd_T32 l0_0 a1).f3) x93_4).f0))).setCell ⟨gb168, 1, none⟩ (.bool ((rd_T37 ((rd_T32 l0_0 a1).f3) x93_4).f1))).setCell ⟨gb168, 2, none⟩ (.slice A167_2 ((rd_T37 ((rd_T32 l0_0 a1).f3) x93_4).f2).length c167_2)).setCell ⟨gb168, 3, none⟩ (.string ((rd_T37 ((rd_T32 l0_0 a1).f3) x93_4).f3))).heap[gb145]? = some (.cells #[.slice (some ad146) l0_0.length c0_0, .map (some b1)] 52 (0, 0))) := ⟨by (with_reducible repeat first | apply bn | apply bd | apply ba); refine blk_far ?_ NB145_168.out _; refine blk_far ?_ NB145_168.out _; refine blk_far ?_ NB145_168.out _; refine blk_far ?_ NB145_168.out _; (with_reducible repeat first | apply bn | apply bd | apply ba); exact BK145.out⟩
                       have n2_ : Aside0 (((((w78.setCell ⟨gb168, 0, none⟩ (.string ((rd_T37 ((rd_T32 l0_0 a1).f3) x93_4).f0))).setCell ⟨gb168, 1, none⟩ (.bool ((rd_T37 ((rd_T32 l0_0 a1).f3) x93_4).f1))).setCell ⟨gb168, 2, none⟩ (.slice A167_2 ((rd_T37 ((rd_T32 l0_0 a1).f3) x93_4).f2).length c167_2)).setCell ⟨gb168, 3, none⟩ (.string ((rd_T37 ((rd_T32 l0_0 a1).f3) x93_4).f3))).heap[gb147]? = some (.cells #[.string ((rd_T32 l0_0 a1).f0), .string ((rd_T32 l0_0 a1).f1), .slice A146_2 ((rd_T32 l0_0 a1).f2).length c146_2, .slice (some ad167) ((rd_T32 l0_0 a1).f3).length c146_3] 32 (0, 0))) := ⟨by (with_reducible repeat first | apply bn | apply bd | apply ba); refine blk_far ?_ NB147_168.out _; refine blk_far ?_ NB147_168.out _; refine blk_far ?_ NB147_168.out _; refine blk_far ?_ NB147_168.out _; (with_reducible repeat first | apply bn | apply bd | apply ba); exact BK147.out⟩
                       have n3_ : Aside0 (((((w78.setCell ⟨gb168, 0, none⟩ (.string ((rd_T37 ((rd_T32 l0_0 a1).f3) x93_4).f0))).setCell ⟨gb168, 1, none⟩ (.bool ((rd_T37 ((rd_T32 l0_0 a1).f3) x93_4).f1))).setCell ⟨gb168, 2, none⟩ (.slice A167_2 ((rd_T37 ((rd_T32 l0_0 a1).f3) x93_4).f2).length c167_2)).setCell ⟨gb168, 3, none⟩ (.string ((rd_T37 ((rd_T32 l0_0 a1).f3) x93_4).f3))).heap[gb168]? = some (.cells #[.string ((rd_T37 ((rd_T32 l0_0 a1).f3) x93_4).f0), .bool ((rd_T37 ((rd_T32 l0_0 a1).f3) x93_4).f1), .slice A167_2 ((rd_T37 ((rd_T32 l0_0 a1).f3) x93_4).f2).length c167_2, .string ((rd_T37 ((rd_T32 l0_0 a1).f3) x93_4).f3)] 37 (0, 0))) := ⟨by (with_reducible repeat first | apply bn | apply bd | apply ba); refine blk_put (cs := #[.string ((rd_T37 ((rd_T32 l0_0 a1).f3) x93_4).f0), .bool ((rd_T37 ((rd_T32 l0_0 a1).f3) x93_4).f1), .slice A167_2 ((rd_T37 ((rd_T32 l0_0 a1).f3) x93_4).f2).length c167_2, .string (⟨#[]⟩ : ByteArray)]) ?_ 3 _ rfl; refine blk_put (cs := #[.string ((rd_T37 ((rd_T32 l0_0 a1).f3) x93_4).f0), .bool ((rd_T37 ((rd_T32 l0_0 a1).f3) x93_4).f1), .slice none 0 0, .string (⟨#[]⟩ : ByteArray)]) ?_ 2 _ rfl; refine blk_put (cs := #[.string ((rd_T37 ((rd_T32 l0_0 a1).f3) x93_4).f0), .bool false, .slice none 0 0, .string (⟨#[]⟩ : ByteArray)]) ?_ 1 _ rfl; refine blk_put (cs := #[.string (⟨#[]⟩ : ByteArray), .bool false, .slice none 0 0, .string (⟨#[]⟩ : ByteArray)]) ?_ 0 _ rfl; (with_reducible repeat first | apply bn | apply bd | apply ba); exact BK168.out⟩
                       have n4_ : Aside0 (Below w.heap.size w ((((w78.setCell ⟨gb168, 0, none⟩ (.string ((rd_T37 ((rd_T32 l0_0 a1).f3) x93_4).f0))).setCell ⟨gb168, 1, none⟩ (.bool ((rd_T37 ((rd_T32 l0_0 a1).f3) x93_4).f1))).setCell ⟨gb168, 2, none⟩ (.slice A167_2 ((rd_T37 ((rd_T32 l0_0 a1).f3) x93_4).f2).length c167_2)).setCell ⟨gb168, 3, none⟩ (.string ((rd_T37 ((rd_T32 l0_0 a1).f3) x93_4).f3)))) := ⟨by repeat with_reducible first | exact HB.out | apply below_alloc | apply pw_below_drewN | apply below_drew1 | refine below_set ?_ GE145.out | refine below_set ?_ GE147.out | refine below_set ?_ GE168.out⟩
                       (try clear HO_8)
                       (try clear BK145)
                       (try clear BK147)
                       (try clear BK168)
                       (try clear HB)
                       generalize ((((w78.setCell ⟨gb168, 0, none⟩ (.string ((rd_T37 ((rd_T32 l0_0 a1).f3) x93_4).f0))).setCell ⟨gb168, 1, none⟩ (.bool ((rd_T37 ((rd_T32 l0_0 a1).f3) x93_4).f1))).setCell ⟨gb168, 2, none⟩ (.slice A167_2 ((rd_T37 ((rd_T32 l0_0 a1).f3) x93_4).f2).length c167_2)).setCell ⟨gb168, 3, none⟩ (.string ((rd_T37 ((rd_T32 l0_0 a1).f3) x93_4).f3))) = w82 at n0_ n1_ n2_ n3_ n4_ ⊢
                       have HO_8 := n0_
                       have BK145 := n1_
                       have BK147 := n2_
                       have BK168 := n3_
                       have HB := n4_
                       clear n0_ n1_ n2_ n3_ n4_
                       have n0_ := Aside0.mk (Kd.R_drew HO_8.out)
                       have n1_ := Aside0.mk (blk_drew BK145.out)
                       have n2_ := Aside0.mk (blk_drew BK147.out)
                       have n3_ := Aside0.mk (blk_drew BK168.out)
                       have n4_ := Aside0.mk (below_drew1 HB.out)
                       clear HO_8
                       clear BK145
                       clear BK147
                       clear BK168
                       clear HB
                       have HO_8 := n0_
                       have BK145 := n1_
                       have BK147 := n2_
                       have BK168 := n3_
                       have HB := n4_
                       clear n0_ n1_ n2_ n3_ n4_
                       have q84 : (x93_4 : Int) ≤ ((((rd_T32 l0_0 a1).f3).length : Int) : Int) := of_decide_eq_true (by first | (with_reducible assumption) | assumption)
                       obtain ⟨i084, hi084, _, hsz84, _⟩ := info_parts info37
                       have hroom84 : ((rd_T32 l0_0 a1).f3).length ≤ c146_3 := HC146_3.out
                       have hC84 : Kd.C k37 _ (some ad167) ((rd_T32 l0_0 a1).f3).length ((rd_T32 l0_0 a1).f3) := HR146_3.out
                       have hcut84 := cut_to (P := Tryd.prog) 30 37 .i64 Tryd.underlying30 hi084 (some ad167) ((rd_T32 l0_0 a1).f3).length c146_3 x93_4 (of_decide_eq_true (by first | (with_reducible assumption) | assumption)) q84 hroom84
                       have hr84 := Kd.C_take (m := (x93_4 : Int).toNat) hC84 (by omega)
                       have hy84 : y169.length = (x93_4 : Int).toNat := (by rw [Ny169.out, List.length_take]; omega)
                       rw [← Ny169.out] at hr84
                       rw [← hy84] at hcut84
                       have HR172 := Aside0.mk hr84
                       have HC172 := Aside0.mk (show y169.length ≤ c146_3 from by omega)
                       clear hr84 hC84 hroom84 hi084 hsz84
                       have KY84 := Aside0.mk hy84
                       clear hy84
                       replace q84 := eq_true q84
                       obtain ⟨Ao86, co86, eo86⟩ := Kd.R_slice HO_8.out
                       (first | subst eo86 | (injection eo86 with f1_ f2_ f3_; have f4_ := f1_.symm; have f5_ := f3_.symm; clear f1_ f2_ f3_; subst f4_; subst f5_))
                       have q85 : (1 : Int) ≤ ((t152.length : Int) : Int) := of_decide_eq_true (by first | (with_reducible assumption) | assumption)
                       obtain ⟨i085, hi085, _, hsz85, _⟩ := info_parts info3
                       have hroom85 : t152.length ≤ co86 := (Kd.R_reads' HO_8.out).2.1
                       have hC85 : Kd.C (Kd.int .i64) _ Ao86 t152.length t152 := (Kd.R_reads' HO_8.out).2.2
                       have hcut85 := cut_from (P := Tryd.prog) 55 3 .i64 Tryd.underlying55 hi085 1 hsz85 Ao86 t152.length co86 1 (by omega) q85
                       have hr85 := Kd.C_drop (m := (1 : Int).toNat) (c := co86) hC85 (by omega) hroom85
                       obtain ⟨A85, hA85⟩ : ∃ A1, A1 = (if co86 = (1 : Int).toNat then Ao86 else (Ao86 : Option Addr).map (·.add ((1 : Int).toNat * 1))) := ⟨_, rfl⟩
                       obtain ⟨c85, hc85⟩ : ∃ c1, c1 = co86 - (1 : Int).toNat := ⟨_, rfl⟩
                       have hy85 : y173.length = t152.length - (1 : Int).toNat := (by rw [Ny173.out, List.length_drop] <;> omega)
                       rw [show (t152).drop (1 : Int).toNat = y173 from Ny173.out.symm] at hr85
                       replace hr85 : Kd.C (Kd.int .i64) _ A85 y173.length y173 := (by rw [hA85]; exact hr85)
                       rw [← hy85, ← hA85, ← hc85] at hcut85
                       have HR176 := Aside0.mk hr85
                       have HC176 := Aside0.mk (show y173.length ≤ c85 from by rw [hy85, hc85]; exact Nat.sub_le_sub_right hroom85 _)
                       clear hr85 hC85 hroom85 hi085 hsz85 hc85
                       have KY85 := Aside0.mk hy85
                       have KA85 := Aside0.mk hA85
                       clear hy85 hA85
                       have KL85 := Aside0.mk (show 1 ≤ t152.length from by omega)
                       replace q85 := eq_true q85
                       refine start_ (n := 10) (S := fun w' => w'.cell? ⟨gb145, 0, none⟩ = some (.slice (some ad146) l0_0.length c0_0) ∧ w'.cell? ⟨gb145, 1, none⟩ = some (.map (some b1)) ∧ w'.cell? ⟨gb147, 0, none⟩ = some (.string ((rd_T32 l0_0 a1).f0)) ∧ w'.cell? ⟨gb147, 1, none⟩ = some (.string ((rd_T32 l0_0 a1).f1)) ∧ w'.cell? ⟨gb147, 2, none⟩ = some (.slice A146_2 ((rd_T32 l0_0 a1).f2).length c146_2) ∧ w'.cell? ⟨gb147, 3, none⟩ = some (.slice (some ad167) ((rd_T32 l0_0 a1).f3).length c146_3) ∧ w'.cell? ⟨gb168, 0, none⟩ = some (.string ((rd_T37 ((rd_T32 l0_0 a1).f3) x93_4).f0)) ∧ w'.cell? ⟨gb168, 1, none⟩ = some (.bool ((rd_T37 ((rd_T32 l0_0 a1).f3) x93_4).f1)) ∧ w'.cell? ⟨gb168, 2, none⟩ = some (.slice A167_2 ((rd_T37 ((rd_T32 l0_0 a1).f3) x93_4).f2).length c167_2) ∧ w'.cell? ⟨gb168, 3, none⟩ = some (.string ((rd_T37 ((rd_T32 l0_0 a1).f3) x93_4).f3))) (ds := []) #[false,false,false,false,false,false,false,false,false,false] (by kernel_rfl) rfl rfl ⟨(blk_cell BK145.out 0).trans rfl, (blk_cell BK145.out 1).trans rfl, (blk_cell BK147.out 0).trans rfl, (blk_cell BK147.out 1).trans rfl, (blk_cell BK147.out 2).trans rfl, (blk_cell BK147.out 3).trans rfl, (blk_cell BK168.out 0).trans rfl, (blk_cell BK168.out 1).trans rfl, (blk_cell BK168.out 2).trans rfl, (blk_cell BK168.out 3).trans rfl⟩ (fun hHeld => ?_); refine with_tabW hier_checker_class.tab24 hier_checker_class.bits24 (fun HT_ HW_ => ?_)
                       generalize w82.drew = w83 at HO_8 BK145 BK147 BK168 HB HR172 HR176 hHeld ⊢
                       refine pure_ (i := 1) (N := some 99) (v := ?_) (a' := ?_) #[false,true,false,false,false,false,false,false,false,false] rfl rfl (any_of HT_.out (by kernel_rfl)) (fun _ _ _ h => h) (Or.inl ⟨by rfl, ?_⟩) ?_ ?_
                       rotate_left;focus(intro w';go_simp;with_reducible rfl)
                       rotate_left;focus(simp only [Act.put, List.setIfInBounds_toArray, List.set_cons_zero, List.set_cons_succ, i64_w];rfl)
                       refine pure_ (i := 3) (N := some 101) (v := ?_) (a' := ?_) #[false,true,false,true,false,false,false,false,false,false] rfl rfl (any_of HT_.out (by kernel_rfl)) (fun _ _ _ h => h) (Or.inl ⟨by rfl, ?_⟩) ?_ ?_
                       rotate_left;focus(intro w';go_simp;with_reducible rfl)
                       rotate_left;focus(simp only [Act.put, List.setIfInBounds_toArray, List.set_cons_zero, List.set_cons_succ, i64_w];rfl)
                       refine pure_ (i := 6) (N := some 104) (v := ?_) (a' := ?_) #[false,true,false,true,false,false,true,false,false,false] rfl rfl (any_of HT_.out (by kernel_rfl)) (fun _ _ _ h => h) (Or.inl ⟨by rfl, ?_⟩) ?_ ?_
                       rotate_left;focus(intro w';go_simp;with_reducible rfl)
                       rotate_left;focus(simp only [Act.put, List.setIfInBounds_toArray, List.set_cons_zero, List.set_cons_succ, i64_w];rfl)
                       refine pure_ (i := 7) (N := some 105) (v := ?_) (a' := ?_) #[false,true,false,true,false,false,true,true,false,false] rfl rfl (any_of HT_.out (by kernel_rfl)) (fun _ _ _ h => h) (Or.inl ⟨by rfl, ?_⟩) ?_ ?_
                       rotate_left;focus(intro w';go_simp;with_reducible rfl)
                       rotate_left;focus(simp only [Act.put, List.setIfInBounds_toArray, List.set_cons_zero, List.set_cons_succ, i64_w];rfl)
                       refine take_ (i := 0) (N := some 98) (v := ?_) (a' := ?_) #[true,true,false,true,false,false,true,true,false,false] rfl rfl (take_ofW HT_.out HW_.out (by kernel_rfl)) (fun _ _ _ h => h) (Or.inl ⟨by rfl, ?_⟩) hHeld ?_ ?_
                       rotate_left;focus(rintro w' ⟨s0, s1, s2, s3, s4, s5, s6, s7, s8, s9⟩;go_simp;with_reducible rfl)
                       rotate_left;focus(simp only [Act.put, List.setIfInBounds_toArray, List.set_cons_zero, List.set_cons_succ, i64_w];rfl)
                       refine take_ (i := 2) (N := some 100) (v := ?_) (a' := ?_) #[true,true,true,true,false,false,true,true,false,false] rfl rfl (take_ofW HT_.out HW_.out (by kernel_rfl)) (fun _ _ _ h => h) (Or.inl ⟨by rfl, ?_⟩) hHeld ?_ ?_
                       rotate_left;focus(rintro w' ⟨s0, s1, s2, s3, s4, s5, s6, s7, s8, s9⟩;go_simp;with_reducible rfl)
                       rotate_left;focus(simp only [Act.put, List.setIfInBounds_toArray, List.set_cons_zero, List.set_cons_succ, i64_w];rfl)
                       refine pure_ (i := 4) (N := some 102) (v := ?_) (a' := ?_) #[true,true,true,true,true,false,true,true,false,false] rfl rfl (any_of HT_.out (by kernel_rfl)) (fun _ _ _ h => h) (Or.inl ⟨by rfl, ?_⟩) ?_ ?_
                       rotate_left;focus(intro w';go_simp;with_reducible rfl)
                       rotate_left;focus(simp only [Act.put, List.setIfInBounds_toArray, List.set_cons_zero, List.set_cons_succ, i64_w];rfl)
                       refine take_ (i := 5) (N := some 103) (v := ?_) (a' := ?_) #[true,true,true,true,true,true,true,true,false,false] rfl rfl (take_ofW HT_.out HW_.out (by kernel_rfl)) (fun _ _ _ h => h) (Or.inl ⟨by rfl, ?_⟩) hHeld ?_ ?_
                       rotate_left;focus(rintro w' ⟨s0, s1, s2, s3, s4, s5, s6, s7, s8, s9⟩;go_simp;with_reducible rfl)
                       rotate_left;focus(simp only [Act.put, List.setIfInBounds_toArray, List.set_cons_zero, List.set_cons_succ, i64_w];rfl)
                       refine one_ (i := 8) (N := some 106) #[true,true,true,true,true,true,true,true,true,false] rfl rfl (one_of HT_.out (by kernel_rfl)) (by decide) (fun K hK => ?_)
                       refine goes_ Tryd.func34 (by kernel_rfl) rfl #[.agg #[.slice (some ad146) l0_0.length c0_0, .map (some b1)], .slice (some ad167) y169.length c146_3, .agg #[.string ((rd_T37 ((rd_T32 l0_0 a1).f3) x93_4).f0), .bool ((rd_T37 ((rd_T32 l0_0 a1).f3) x93_4).f1), .slice A167_2 ((rd_T37 ((rd_T32 l0_0 a1).f3) x93_4).f2).length c167_2, .string ((rd_T37 ((rd_T32 l0_0 a1).f3) x93_4).f3)], .slice A85 y173.length c85] (by rfl) rfl rfl (by (try simp only [List.map_toArray, List.map_cons, List.map_nil]); first | done | rfl) ?_
                       with_reducible refine (hier_checker_method.calls k4 _ _ l0_0 a0_1 _ _ y169 ((rd_T37 ((rd_T32 l0_0 a1).f3) x93_4).f0) ((rd_T37 ((rd_T32 l0_0 a1).f3) x93_4).f1) _ _ ((rd_T37 ((rd_T32 l0_0 a1).f3) x93_4).f2) ((rd_T37 ((rd_T32 l0_0 a1).f3) x93_4).f3) _ _ y173 t177 _ ?side1 ?side2 ?side3 ?side4 ?side5 ?side6 ?side7 ?side8 ?sideM A76.out ?sideT).mono ?_
                       (case sideT => first | exact HTB_.out | exact HTB_.out.below (by repeat with_reducible first | exact HB.out | apply below_alloc | apply pw_below_drewN | apply below_drew1 | refine below_set ?_ GE145.out | refine below_set ?_ GE147.out | refine below_set ?_ GE157.out | refine below_set ?_ GE168.out))
                       (case sideM => exact (MapSI.Is.below HM1.out (by repeat with_reducible first | exact HB.out | apply below_alloc | apply pw_below_drewN | apply below_drew1 | refine below_set ?_ GE145.out | refine below_set ?_ GE147.out | refine below_set ?_ GE157.out | refine below_set ?_ GE168.out)))
                       (case side1 => repeat (first | exact (Kd.C_below HR0_0.out HB.out) | (with_reducible refine Kd.C_alloc ?_ _) | (with_reducible refine Kd.C_drewN ?_ _) | (with_reducible refine Kd.C_drew ?_)))
                       (case side2 => exact HC0_0.out)
                       (case side3 => repeat (first | exact (Kd.C_below HR172.out HB.out) | (with_reducible refine Kd.C_alloc ?_ _) | (with_reducible refine Kd.C_drewN ?_ _) | (with_reducible refine Kd.C_drew ?_)))
                       (case side4 => exact HC172.out)
                       (case side5 => repeat (first | exact (Kd.C_below HR167_2.out HB.out) | (with_reducible refine Kd.C_alloc ?_ _) | (with_reducible refine Kd.C_drewN ?_ _) | (with_reducible refine Kd.C_drew ?_)))
                       (case side6 => exact HC167_2.out)
                       (case side7 => repeat (first | exact (by repeat (first | (with_reducible exact HR176.out) | (with_reducible refine Kd.C_alloc ?_ _) | (with_reducible refine Kd.C_drewN ?_ _) | (with_reducible refine Kd.C_drew ?_) | exact HR176.out)) | (with_reducible refine Kd.C_alloc ?_ _) | (with_reducible refine Kd.C_drewN ?_ _) | (with_reducible refine Kd.C_drew ?_)))
                       (case side8 => exact HC176.out)
                       rintro e w87 ⟨rfl, hb⟩
                       refine ⟨_, rfl, ?_⟩
                       have n0_ := Aside0.mk (Kd.R_below (by (with_reducible repeat first | apply Kd.R_alloc | apply Kd.R_drewN | apply Kd.R_drew); exact HO_8.out) hb)
                       have n1_ := Aside0.mk (blk_below (g := gb145) (o := .cells #[.slice (some ad146) l0_0.length c0_0, .map (some b1)] 52 (0, 0)) (by (with_reducible repeat first | apply bn | apply bd | apply ba); exact BK145.out) hb)
                       have n2_ := Aside0.mk (blk_below (g := gb147) (o := .cells #[.string ((rd_T32 l0_0 a1).f0), .string ((rd_T32 l0_0 a1).f1), .slice A146_2 ((rd_T32 l0_0 a1).f2).length c146_2, .slice (some ad167) ((rd_T32 l0_0 a1).f3).length c146_3] 32 (0, 0)) (by (with_reducible repeat first | apply bn | apply bd | apply ba); exact BK147.out) hb)
                       have n3_ := Aside0.mk (blk_below (g := gb168) (o := .cells #[.string ((rd_T37 ((rd_T32 l0_0 a1).f3) x93_4).f0), .bool ((rd_T37 ((rd_T32 l0_0 a1).f3) x93_4).f1), .slice A167_2 ((rd_T37 ((rd_T32 l0_0 a1).f3) x93_4).f2).length c167_2, .string ((rd_T37 ((rd_T32 l0_0 a1).f3) x93_4).f3)] 37 (0, 0)) (by (with_reducible repeat first | apply bn | apply bd | apply ba); exact BK168.out) hb)
                       have n4_ := Aside0.mk (Kd.C_below (by repeat (first | (with_reducible exact HR176.out) | (with_reducible refine Kd.C_alloc ?_ _) | (with_reducible refine Kd.C_drewN ?_ _) | (with_reducible refine Kd.C_drew ?_) | exact HR176.out)) hb)
                       have n5_ := Aside0.mk (below_step (by repeat with_reducible first | exact HB.out | apply below_alloc | apply pw_below_drewN | apply below_drew1 | refine below_set ?_ GE145.out | refine below_set ?_ GE147.out | refine below_set ?_ GE168.out) hb)
                       clear HO_8
                       clear BK145
                       clear BK147
                       clear BK168
                       clear HR176
                       clear HB
                       have HO_8 := n0_
                       have BK145 := n1_
                       have BK147 := n2_
                       have BK168 := n3_
                       have HR176 := n4_
                       have HB := n5_
                       clear n0_ n1_ n2_ n3_ n4_ n5_
                       (try clear hb)
                       (try clear hb2)
                       (try clear hk)
                       (try clear hi)
                       refine hK.out _ _ ⟨(blk_cell BK145.out 0).trans rfl, (blk_cell BK145.out 1).trans rfl, (blk_cell BK147.out 0).trans rfl, (blk_cell BK147.out 1).trans rfl, (blk_cell BK147.out 2).trans rfl, (blk_cell BK147.out 3).trans rfl, (blk_cell BK168.out 0).trans rfl, (blk_cell BK168.out 1).trans rfl, (blk_cell BK168.out 2).trans rfl, (blk_cell BK168.out 3).trans rfl⟩ (fun hHeld => ?_)
                       clear hK K
                       refine norm_ (a' := ?_) ?_ ?_
                       rotate_left;focus(show Act.put _ (some 106) _ = _;simp only [Act.put, List.setIfInBounds_toArray, List.set_cons_zero, List.set_cons_succ, i64_w];rfl)
                       refine pure_ (i := 9) (N := some 15) (v := ?_) (a' := ?_) #[true,true,true,true,true,true,true,true,true,true] rfl rfl (any_of HT_.out (by kernel_rfl)) (fun _ _ _ h => h) (Or.inl ⟨by rfl, ?_⟩) ?_ ?_
                       rotate_left;focus(intro w';go_simp;with_reducible rfl)
                       rotate_left;focus(simp only [Act.put, List.setIfInBounds_toArray, List.set_cons_zero, List.set_cons_succ, i64_w];rfl)
                       refine done_ (done_of HT_.out (by kernel_rfl)) ?_
                       try go_wp2
                       go_roundg k4
                       case measure => have := HJ9.out; have := HJ26.out; have := HK3.out; have := HK4.out; omega
                       case rel => exact ⟨(wrap64 (x93_4 + 1)), (by first | rfl | (simp; done) | (simp [*]; done)), H', ⟨by have := HJ9.out; have := HJ26.out; have := HK3.out; have := HK4.out; omega⟩, ⟨by (with_reducible repeat first | apply Kd.R_alloc | apply Kd.R_drewN | apply Kd.R_drew); exact HO_8.out⟩, ⟨by (with_reducible repeat first | apply bn | apply bd | apply ba); exact BK145.out⟩, ⟨by (with_reducible repeat first | apply bn | apply bd | apply ba); exact BK147.out⟩, ⟨by repeat with_reducible first | exact HB.out | apply below_alloc | apply pw_below_drewN | apply below_drew1 | refine below_set ?_ GE145.out | refine below_set ?_ GE147.out | refine below_set ?_ GE168.out⟩⟩
                      ·rw [if_neg c77] at H
                       have c77b0 : (t177 == 0) = false := beq_eq_false_iff_ne.mpr c77
                       have c77b1 : (t177 != 0) = true := bne_iff_ne.mpr c77
                       obtain rfl := Option.some.inj H
                       have p167 : 0 ≤ (x93_4 : Int) := of_decide_eq_true (by first | (with_reducible assumption) | assumption)
                       have q167 : x93_4 < (((rd_T32 l0_0 a1).f3).length : Int) := of_decide_eq_true (by first | (with_reducible assumption) | assumption)
                       obtain ⟨ad167, A167_2, c167_2, e167, hx167_0, hx167_1, hx167_2, hx167_3, hl167_2, hi167_2⟩ := at_T37 HR146_3.out x93_4 p167 q167
                       cases e167
                       replace hx167_0 := (HB.out.cell (World.block_lt_of_cell? w _ hx167_0)).trans hx167_0
                       replace hx167_1 := (HB.out.cell (World.block_lt_of_cell? w _ hx167_1)).trans hx167_1
                       replace hx167_2 := (HB.out.cell (World.block_lt_of_cell? w _ hx167_2)).trans hx167_2
                       replace hx167_3 := (HB.out.cell (World.block_lt_of_cell? w _ hx167_3)).trans hx167_3
                       have HR167_2 := Aside0.mk hi167_2
                       have HC167_2 := Aside0.mk hl167_2
                       clear hi167_2 hl167_2
                       replace p167 := eq_true p167
                       replace q167 := eq_true q167
                       try go_wp2_with (first | ((with_reducible refine gate_dst (N := 14) rfl ?_); (try (refine gate_guard (by rfl) ?_; dsimp only)); refine box_event ?hg (N := 14) ?hd (cs := #[.string (⟨#[]⟩ : ByteArray), .bool false, .slice none 0 0, .string (⟨#[]⟩ : ByteArray)]) (t := 37) ?hr ?_; (case hd => rfl); (case hg => rfl); (case hr => first | (go_simp; done) | (go_simp; rfl)); intro gb168 hg w88 hbox hb; have n0_ := Aside0.mk (Kd.R_below (by (with_reducible repeat first | apply Kd.R_alloc | apply Kd.R_drewN | apply Kd.R_drew); exact HO_8.out) hb); have n1_ := Aside0.mk (blk_below (g := gb145) (o := .cells #[.slice (some ad146) l0_0.length c0_0, .map (some b1)] 52 (0, 0)) (by (with_reducible repeat first | apply bn | apply bd | apply ba); exact BK145.out) hb); have n2_ := Aside0.mk (blk_below (g := gb147) (o := .cells #[.string ((rd_T32 l0_0 a1).f0), .string ((rd_T32 l0_0 a1).f1), .slice A146_2 ((rd_T32 l0_0 a1).f2).length c146_2, .slice (some ad167) ((rd_T32 l0_0 a1).f3).length c146_3] 32 (0, 0)) (by (with_reducible repeat first | apply bn | apply bd | apply ba); exact BK147.out) hb); have n3_ := Aside0.mk (below_step (by repeat with_reducible first | exact HB.out | apply below_alloc | apply pw_below_drewN | apply below_drew1 | refine below_set ?_ GE145.out | refine below_set ?_ GE147.out) hb); have n4_ := Aside0.mk (hbox); have n5_ := Aside0.mk ((by rw [hg]; exact (below_size (by repeat with_reducible first | exact HB.out | apply below_alloc | apply pw_below_drewN | apply below_drew1 | refine below_set ?_ GE145.out | refine below_set ?_ GE147.out)) : w.heap.size ≤ gb168)); have n6_ := Aside0.mk ((by rw [hg]; exact (below_size (by repeat with_reducible first | exact HB.out | apply below_alloc | apply pw_below_drewN | apply below_drew1 | refine below_set ?_ GE145.out | refine below_set ?_ GE147.out)) : w.heap.size ≤ gb168)); have n7_ := Aside0.mk ((by rw [hg]; exact Nat.ne_of_lt (blk_lt (g := gb145) (o := .cells #[.slice (some ad146) l0_0.length c0_0, .map (some b1)] 52 (0, 0)) (by (with_reducible repeat first | apply bn | apply bd | apply ba); exact BK145.out)) : gb145 ≠ gb168)); have n8_ := Aside0.mk ((by rw [hg]; exact Nat.ne_of_gt (blk_lt (g := gb145) (o := .cells #[.slice (some ad146) l0_0.length c0_0, .map (some b1)] 52 (0, 0)) (by (with_reducible repeat first | apply bn | apply bd | apply ba); exact BK145.out)) : gb168 ≠ gb145)); have n9_ := Aside0.mk ((by rw [hg]; exact Nat.ne_of_lt (blk_lt (g := gb147) (o := .cells #[.string ((rd_T32 l0_0 a1).f0), .string ((rd_T32 l0_0 a1).f1), .slice A146_2 ((rd_T32 l0_0 a1).f2).length c146_2, .slice (some ad167) ((rd_T32 l0_0 a1).f3).length c146_3] 32 (0, 0)) (by (with_reducible repeat first | apply bn | apply bd | apply ba); exact BK147.out)) : gb147 ≠ gb168)); have n10_ := Aside0.mk ((by rw [hg]; exact Nat.ne_of_gt (blk_lt (g := gb147) (o := .cells #[.string ((rd_T32 l0_0 a1).f0), .string ((rd_T32 l0_0 a1).f1), .slice A146_2 ((rd_T32 l0_0 a1).f2).length c146_2, .slice (some ad167) ((rd_T32 l0_0 a1).f3).length c146_3] 32 (0, 0)) (by (with_reducible repeat first | apply bn | apply bd | apply ba); exact BK147.out)) : gb168 ≠ gb147)); clear HO_8; clear BK145; clear BK147; clear HB; have HO_8 := n0_; have BK145 := n1_; have BK147 := n2_; have HB := n3_; have BK168 := n4_; have GW168 := n5_; have GE168 := n6_; have NB145_168 := n7_; have NB168_145 := n8_; have NB147_168 := n9_; have NB168_147 := n10_; clear n0_ n1_ n2_ n3_ n4_ n5_ n6_ n7_ n8_ n9_ n10_; clear hb hbox hg; have hnb89 := NB168_145.out; have hnc89 := NB145_168.out; have hnb90 := NB168_147.out; have hnc90 := NB147_168.out; have hcz91_0 : w88.cell? ⟨gb168, 0, none⟩ = some (.string (⟨#[]⟩ : ByteArray)) := (blk_cell BK168.out 0).trans rfl; have hcz91_1 : w88.cell? ⟨gb168, 1, none⟩ = some (.bool false) := (blk_cell BK168.out 1).trans rfl; have hcz91_2 : w88.cell? ⟨gb168, 2, none⟩ = some (.slice none 0 0) := (blk_cell BK168.out 2).trans rfl; have hcz91_3 : w88.cell? ⟨gb168, 3, none⟩ = some (.string (⟨#[]⟩ : ByteArray)) := (blk_cell BK168.out 3).trans rfl; have hfz91_0 := blk_frozen BK168.out 0; have hfz91_1 := blk_frozen BK168.out 1; have hfz91_2 := blk_frozen BK168.out 2; have hfz91_3 := blk_frozen BK168.out 3))
                       have n0_ : Aside0 (Kd.R (Kd.int .i64) 3 ((((w88.setCell ⟨gb168, 0, none⟩ (.string ((rd_T37 ((rd_T32 l0_0 a1).f3) x93_4).f0))).setCell ⟨gb168, 1, none⟩ (.bool ((rd_T37 ((rd_T32 l0_0 a1).f3) x93_4).f1))).setCell ⟨gb168, 2, none⟩ (.slice A167_2 ((rd_T37 ((rd_T32 l0_0 a1).f3) x93_4).f2).length c167_2)).setCell ⟨gb168, 3, none⟩ (.string ((rd_T37 ((rd_T32 l0_0 a1).f3) x93_4).f3))) w.heap.size (fun _ => True) v153 t152) := ⟨by (with_reducible repeat first | apply Kd.R_alloc | apply Kd.R_drewN | apply Kd.R_drew); exact Kd.R_mono (Kd.R_far (p := ⟨gb168, 3, none⟩) (Kd.R_far (p := ⟨gb168, 2, none⟩) (Kd.R_far (p := ⟨gb168, 1, none⟩) (Kd.R_far (p := ⟨gb168, 0, none⟩) (Kd.R_types HO_8.out BK168.out (by decide)) (fun _ hk => hk.2) (.string ((rd_T37 ((rd_T32 l0_0 a1).f3) x93_4).f0))) (fun _ hk => hk.2) (.bool ((rd_T37 ((rd_T32 l0_0 a1).f3) x93_4).f1))) (fun _ hk => hk.2) (.slice A167_2 ((rd_T37 ((rd_T32 l0_0 a1).f3) x93_4).f2).length c167_2)) (fun _ hk => hk.2) (.string ((rd_T37 ((rd_T32 l0_0 a1).f3) x93_4).f3))) (fun _ hk => trivial)⟩
                       have n1_ : Aside0 (((((w88.setCell ⟨gb168, 0, none⟩ (.string ((rd_T37 ((rd_T32 l0_0 a1).f3) x93_4).f0))).setCell ⟨gb168, 1, none⟩ (.bool ((rd_T37 ((rd_T32 l0_0 a1).f3) x93_4).f1))).setCell ⟨gb168, 2, none⟩ (.slice A167_2 ((rd_T37 ((rd_T32 l0_0 a1).f3) x93_4).f2).length c167_2)).setCell ⟨gb168, 3, none⟩ (.string ((rd_T37 ((rd_T32 l0_0 a1).f3) x93_4).f3))).heap[gb145]? = some (.cells #[.slice (some ad146) l0_0.length c0_0, .map (some b1)] 52 (0, 0))) := ⟨by (with_reducible repeat first | apply bn | apply bd | apply ba); refine blk_far ?_ NB145_168.out _; refine blk_far ?_ NB145_168.out _; refine blk_far ?_ NB145_168.out _; refine blk_far ?_ NB145_168.out _; (with_reducible repeat first | apply bn | apply bd | apply ba); exact BK145.out⟩
                       have n2_ : Aside0 (((((w88.setCell ⟨gb168, 0, none⟩ (.string ((rd_T37 ((rd_T32 l0_0 a1).f3) x93_4).f0))).setCell ⟨gb168, 1, none⟩ (.bool ((rd_T37 ((rd_T32 l0_0 a1).f3) x93_4).f1))).setCell ⟨gb168, 2, none⟩ (.slice A167_2 ((rd_T37 ((rd_T32 l0_0 a1).f3) x93_4).f2).length c167_2)).setCell ⟨gb168, 3, none⟩ (.string ((rd_T37 ((rd_T32 l0_0 a1).f3) x93_4).f3))).heap[gb147]? = some (.cells #[.string ((rd_T32 l0_0 a1).f0), .string ((rd_T32 l0_0 a1).f1), .slice A146_2 ((rd_T32 l0_0 a1).f2).length c146_2, .slice (some ad167) ((rd_T32 l0_0 a1).f3).length c146_3] 32 (0, 0))) := ⟨by (with_reducible repeat first | apply bn | apply bd | apply ba); refine blk_far ?_ NB147_168.out _; refine blk_far ?_ NB147_168.out _; refine blk_far ?_ NB147_168.out _; refine blk_far ?_ NB147_168.out _; (with_reducible repeat first | apply bn | apply bd | apply ba); exact BK147.out⟩
                       have n3_ : Aside0 (((((w88.setCell ⟨gb168, 0, none⟩ (.string ((rd_T37 ((rd_T32 l0_0 a1).f3) x93_4).f0))).setCell ⟨gb168, 1, none⟩ (.bool ((rd_T37 ((rd_T32 l0_0 a1).f3) x93_4).f1))).setCell ⟨gb168, 2, none⟩ (.slice A167_2 ((rd_T37 ((rd_T32 l0_0 a1).f3) x93_4).f2).length c167_2)).setCell ⟨gb168, 3, none⟩ (.string ((rd_T37 ((rd_T32 l0_0 a1).f3) x93_4).f3))).heap[gb168]? = some (.cells #[.string ((rd_T37 ((rd_T32 l0_0 a1).f3) x93_4).f0), .bool ((rd_T37 ((rd_T32 l0_0 a1).f3) x93_4).f1), .slice A167_2 ((rd_T37 ((rd_T32 l0_0 a1).f3) x93_4).f2).length c167_2, .string ((rd_T37 ((rd_T32 l0_0 a1).f3) x93_4).f3)] 37 (0, 0))) := ⟨by (with_reducible repeat first | apply bn | apply bd | apply ba); refine blk_put (cs := #[.string ((rd_T37 ((rd_T32 l0_0 a1).f3) x93_4).f0), .bool ((rd_T37 ((rd_T32 l0_0 a1).f3) x93_4).f1), .slice A167_2 ((rd_T37 ((rd_T32 l0_0 a1).f3) x93_4).f2).length c167_2, .string (⟨#[]⟩ : ByteArray)]) ?_ 3 _ rfl; refine blk_put (cs := #[.string ((rd_T37 ((rd_T32 l0_0 a1).f3) x93_4).f0), .bool ((rd_T37 ((rd_T32 l0_0 a1).f3) x93_4).f1), .slice none 0 0, .string (⟨#[]⟩ : ByteArray)]) ?_ 2 _ rfl; refine blk_put (cs := #[.string ((rd_T37 ((rd_T32 l0_0 a1).f3) x93_4).f0), .bool false, .slice none 0 0, .string (⟨#[]⟩ : ByteArray)]) ?_ 1 _ rfl; refine blk_put (cs := #[.string (⟨#[]⟩ : ByteArray), .bool false, .slice none 0 0, .string (⟨#[]⟩ : ByteArray)]) ?_ 0 _ rfl; (with_reducible repeat first | apply bn | apply bd | apply ba); exact BK168.out⟩
                       have n4_ : Aside0 (Below w.heap.size w ((((w88.setCell ⟨gb168, 0, none⟩ (.string ((rd_T37 ((rd_T32 l0_0 a1).f3) x93_4).f0))).setCell ⟨gb168, 1, none⟩ (.bool ((rd_T37 ((rd_T32 l0_0 a1).f3) x93_4).f1))).setCell ⟨gb168, 2, none⟩ (.slice A167_2 ((rd_T37 ((rd_T32 l0_0 a1).f3) x93_4).f2).length c167_2)).setCell ⟨gb168, 3, none⟩ (.string ((rd_T37 ((rd_T32 l0_0 a1).f3) x93_4).f3)))) := ⟨by repeat with_reducible first | exact HB.out | apply below_alloc | apply pw_below_drewN | apply below_drew1 | refine below_set ?_ GE145.out | refine below_set ?_ GE147.out | refine below_set ?_ GE168.out⟩
                       (try clear HO_8)
                       (try clear BK145)
                       (try clear BK147)
                       (try clear BK168)
                       (try clear HB)
                       generalize ((((w88.setCell ⟨gb168, 0, none⟩ (.string ((rd_T37 ((rd_T32 l0_0 a1).f3) x93_4).f0))).setCell ⟨gb168, 1, none⟩ (.bool ((rd_T37 ((rd_T32 l0_0 a1).f3) x93_4).f1))).setCell ⟨gb168, 2, none⟩ (.slice A167_2 ((rd_T37 ((rd_T32 l0_0 a1).f3) x93_4).f2).length c167_2)).setCell ⟨gb168, 3, none⟩ (.string ((rd_T37 ((rd_T32 l0_0 a1).f3) x93_4).f3))) = w92 at n0_ n1_ n2_ n3_ n4_ ⊢
                       have HO_8 := n0_
                       have BK145 := n1_
                       have BK147 := n2_
                       have BK168 := n3_
                       have HB := n4_
                       clear n0_ n1_ n2_ n3_ n4_
                       have n0_ := Aside0.mk (Kd.R_drew HO_8.out)
                       have n1_ := Aside0.mk (blk_drew BK145.out)
                       have n2_ := Aside0.mk (blk_drew BK147.out)
                       have n3_ := Aside0.mk (blk_drew BK168.out)
                       have n4_ := Aside0.mk (below_drew1 HB.out)
                       clear HO_8
                       clear BK145
                       clear BK147
                       clear BK168
                       clear HB
                       have HO_8 := n0_
                       have BK145 := n1_
                       have BK147 := n2_
                       have BK168 := n3_
                       have HB := n4_
                       clear n0_ n1_ n2_ n3_ n4_
                       have q94 : (x93_4 : Int) ≤ ((((rd_T32 l0_0 a1).f3).length : Int) : Int) := of_decide_eq_true (by first | (with_reducible assumption) | assumption)
                       obtain ⟨i094, hi094, _, hsz94, _⟩ := info_parts info37
                       have hroom94 : ((rd_T32 l0_0 a1).f3).length ≤ c146_3 := HC146_3.out
                       have hC94 : Kd.C k37 _ (some ad167) ((rd_T32 l0_0 a1).f3).length ((rd_T32 l0_0 a1).f3) := HR146_3.out
                       have hcut94 := cut_to (P := Tryd.prog) 30 37 .i64 Tryd.underlying30 hi094 (some ad167) ((rd_T32 l0_0 a1).f3).length c146_3 x93_4 (of_decide_eq_true (by first | (with_reducible assumption) | assumption)) q94 hroom94
                       have hr94 := Kd.C_take (m := (x93_4 : Int).toNat) hC94 (by omega)
                       have hy94 : y169.length = (x93_4 : Int).toNat := (by rw [Ny169.out, List.length_take]; omega)
                       rw [← Ny169.out] at hr94
                       rw [← hy94] at hcut94
                       have HR172 := Aside0.mk hr94
                       have HC172 := Aside0.mk (show y169.length ≤ c146_3 from by omega)
                       clear hr94 hC94 hroom94 hi094 hsz94
                       have KY94 := Aside0.mk hy94
                       clear hy94
                       replace q94 := eq_true q94
                       obtain ⟨Ao96, co96, eo96⟩ := Kd.R_slice HO_8.out
                       (first | subst eo96 | (injection eo96 with f1_ f2_ f3_; have f4_ := f1_.symm; have f5_ := f3_.symm; clear f1_ f2_ f3_; subst f4_; subst f5_))
                       have q95 : (1 : Int) ≤ ((t152.length : Int) : Int) := of_decide_eq_true (by first | (with_reducible assumption) | assumption)
                       obtain ⟨i095, hi095, _, hsz95, _⟩ := info_parts info3
                       have hroom95 : t152.length ≤ co96 := (Kd.R_reads' HO_8.out).2.1
                       have hC95 : Kd.C (Kd.int .i64) _ Ao96 t152.length t152 := (Kd.R_reads' HO_8.out).2.2
                       have hcut95 := cut_from (P := Tryd.prog) 55 3 .i64 Tryd.underlying55 hi095 1 hsz95 Ao96 t152.length co96 1 (by omega) q95
                       have hr95 := Kd.C_drop (m := (1 : Int).toNat) (c := co96) hC95 (by omega) hroom95
                       obtain ⟨A95, hA95⟩ : ∃ A1, A1 = (if co96 = (1 : Int).toNat then Ao96 else (Ao96 : Option Addr).map (·.add ((1 : Int).toNat * 1))) := ⟨_, rfl⟩
                       obtain ⟨c95, hc95⟩ : ∃ c1, c1 = co96 - (1 : Int).toNat := ⟨_, rfl⟩
                       have hy95 : y173.length = t152.length - (1 : Int).toNat := (by rw [Ny173.out, List.length_drop] <;> omega)
                       rw [show (t152).drop (1 : Int).toNat = y173 from Ny173.out.symm] at hr95
                       replace hr95 : Kd.C (Kd.int .i64) _ A95 y173.length y173 := (by rw [hA95]; exact hr95)
                       rw [← hy95, ← hA95, ← hc95] at hcut95
                       have HR176 := Aside0.mk hr95
                       have HC176 := Aside0.mk (show y173.length ≤ c95 from by rw [hy95, hc95]; exact Nat.sub_le_sub_right hroom95 _)
                       clear hr95 hC95 hroom95 hi095 hsz95 hc95
                       have KY95 := Aside0.mk hy95
                       have KA95 := Aside0.mk hA95
                       clear hy95 hA95
                       have KL95 := Aside0.mk (show 1 ≤ t152.length from by omega)
                       replace q95 := eq_true q95
                       refine start_ (n := 10) (S := fun w' => w'.cell? ⟨gb145, 0, none⟩ = some (.slice (some ad146) l0_0.length c0_0) ∧ w'.cell? ⟨gb145, 1, none⟩ = some (.map (some b1)) ∧ w'.cell? ⟨gb147, 0, none⟩ = some (.string ((rd_T32 l0_0 a1).f0)) ∧ w'.cell? ⟨gb147, 1, none⟩ = some (.string ((rd_T32 l0_0 a1).f1)) ∧ w'.cell? ⟨gb147, 2, none⟩ = some (.slice A146_2 ((rd_T32 l0_0 a1).f2).length c146_2) ∧ w'.cell? ⟨gb147, 3, none⟩ = some (.slice (some ad167) ((rd_T32 l0_0 a1).f3).length c146_3) ∧ w'.cell? ⟨gb168, 0, none⟩ = some (.string ((rd_T37 ((rd_T32 l0_0 a1).f3) x93_4).f0)) ∧ w'.cell? ⟨gb168, 1, none⟩ = some (.bool ((rd_T37 ((rd_T32 l0_0 a1).f3) x93_4).f1)) ∧ w'.cell? ⟨gb168, 2, none⟩ = some (.slice A167_2 ((rd_T37 ((rd_T32 l0_0 a1).f3) x93_4).f2).length c167_2) ∧ w'.cell? ⟨gb168, 3, none⟩ = some (.string ((rd_T37 ((rd_T32 l0_0 a1).f3) x93_4).f3))) (ds := []) #[false,false,false,false,false,false,false,false,false,false] (by kernel_rfl) rfl rfl ⟨(blk_cell BK145.out 0).trans rfl, (blk_cell BK145.out 1).trans rfl, (blk_cell BK147.out 0).trans rfl, (blk_cell BK147.out 1).trans rfl, (blk_cell BK147.out 2).trans rfl, (blk_cell BK147.out 3).trans rfl, (blk_cell BK168.out 0).trans rfl, (blk_cell BK168.out 1).trans rfl, (blk_cell BK168.out 2).trans rfl, (blk_cell BK168.out 3).trans rfl⟩ (fun hHeld => ?_); refine with_tabW hier_checker_class.tab24 hier_checker_class.bits24 (fun HT_ HW_ => ?_)
                       generalize w92.drew = w93 at HO_8 BK145 BK147 BK168 HB HR172 HR176 hHeld ⊢
                       refine pure_ (i := 1) (N := some 99) (v := ?_) (a' := ?_) #[false,true,false,false,false,false,false,false,false,false] rfl rfl (any_of HT_.out (by kernel_rfl)) (fun _ _ _ h => h) (Or.inl ⟨by rfl, ?_⟩) ?_ ?_
                       rotate_left;focus(intro w';go_simp;with_reducible rfl)
                       rotate_left;focus(simp only [Act.put, List.setIfInBounds_toArray, List.set_cons_zero, List.set_cons_succ, i64_w];rfl)
                       refine pure_ (i := 3) (N := some 101) (v := ?_) (a' := ?_) #[false,true,false,true,false,false,false,false,false,false] rfl rfl (any_of HT_.out (by kernel_rfl)) (fun _ _ _ h => h) (Or.inl ⟨by rfl, ?_⟩) ?_ ?_
                       rotate_left;focus(intro w';go_simp;with_reducible rfl)
                       rotate_left;focus(simp only [Act.put, List.setIfInBounds_toArray, List.set_cons_zero, List.set_cons_succ, i64_w];rfl)
                       refine pure_ (i := 6) (N := some 104) (v := ?_) (a' := ?_) #[false,true,false,true,false,false,true,false,false,false] rfl rfl (any_of HT_.out (by kernel_rfl)) (fun _ _ _ h => h) (Or.inl ⟨by rfl, ?_⟩) ?_ ?_
                       rotate_left;focus(intro w';go_simp;with_reducible rfl)
                       rotate_left;focus(simp only [Act.put, List.setIfInBounds_toArray, List.set_cons_zero, List.set_cons_succ, i64_w];rfl)
                       refine pure_ (i := 7) (N := some 105) (v := ?_) (a' := ?_) #[false,true,false,true,false,false,true,true,false,false] rfl rfl (any_of HT_.out (by kernel_rfl)) (fun _ _ _ h => h) (Or.inl ⟨by rfl, ?_⟩) ?_ ?_
                       rotate_left;focus(intro w';go_simp;with_reducible rfl)
                       rotate_left;focus(simp only [Act.put, List.setIfInBounds_toArray, List.set_cons_zero, List.set_cons_succ, i64_w];rfl)
                       refine take_ (i := 0) (N := some 98) (v := ?_) (a' := ?_) #[true,true,false,true,false,false,true,true,false,false] rfl rfl (take_ofW HT_.out HW_.out (by kernel_rfl)) (fun _ _ _ h => h) (Or.inl ⟨by rfl, ?_⟩) hHeld ?_ ?_
                       rotate_left;focus(rintro w' ⟨s0, s1, s2, s3, s4, s5, s6, s7, s8, s9⟩;go_simp;with_reducible rfl)
                       rotate_left;focus(simp only [Act.put, List.setIfInBounds_toArray, List.set_cons_zero, List.set_cons_succ, i64_w];rfl)
                       refine take_ (i := 2) (N := some 100) (v := ?_) (a' := ?_) #[true,true,true,true,false,false,true,true,false,false] rfl rfl (take_ofW HT_.out HW_.out (by kernel_rfl)) (fun _ _ _ h => h) (Or.inl ⟨by rfl, ?_⟩) hHeld ?_ ?_
                       rotate_left;focus(rintro w' ⟨s0, s1, s2, s3, s4, s5, s6, s7, s8, s9⟩;go_simp;with_reducible rfl)
                       rotate_left;focus(simp only [Act.put, List.setIfInBounds_toArray, List.set_cons_zero, List.set_cons_succ, i64_w];rfl)
                       refine pure_ (i := 4) (N := some 102) (v := ?_) (a' := ?_) #[true,true,true,true,true,false,true,true,false,false] rfl rfl (any_of HT_.out (by kernel_rfl)) (fun _ _ _ h => h) (Or.inl ⟨by rfl, ?_⟩) ?_ ?_
                       rotate_left;focus(intro w';go_simp;with_reducible rfl)
                       rotate_left;focus(simp only [Act.put, List.setIfInBounds_toArray, List.set_cons_zero, List.set_cons_succ, i64_w];rfl)
                       refine take_ (i := 5) (N := some 103) (v := ?_) (a' := ?_) #[true,true,true,true,true,true,true,true,false,false] rfl rfl (take_ofW HT_.out HW_.out (by kernel_rfl)) (fun _ _ _ h => h) (Or.inl ⟨by rfl, ?_⟩) hHeld ?_ ?_
                       rotate_left;focus(rintro w' ⟨s0, s1, s2, s3, s4, s5, s6, s7, s8, s9⟩;go_simp;with_reducible rfl)
                       rotate_left;focus(simp only [Act.put, List.setIfInBounds_toArray, List.set_cons_zero, List.set_cons_succ, i64_w];rfl)
                       refine one_ (i := 8) (N := some 106) #[true,true,true,true,true,true,true,true,true,false] rfl rfl (one_of HT_.out (by kernel_rfl)) (by decide) (fun K hK => ?_)
                       refine goes_ Tryd.func34 (by kernel_rfl) rfl #[.agg #[.slice (some ad146) l0_0.length c0_0, .map (some b1)], .slice (some ad167) y169.length c146_3, .agg #[.string ((rd_T37 ((rd_T32 l0_0 a1).f3) x93_4).f0), .bool ((rd_T37 ((rd_T32 l0_0 a1).f3) x93_4).f1), .slice A167_2 ((rd_T37 ((rd_T32 l0_0 a1).f3) x93_4).f2).length c167_2, .string ((rd_T37 ((rd_T32 l0_0 a1).f3) x93_4).f3)], .slice A95 y173.length c95] (by rfl) rfl rfl (by (try simp only [List.map_toArray, List.map_cons, List.map_nil]); first | done | rfl) ?_
                       with_reducible refine (hier_checker_method.calls k4 _ _ l0_0 a0_1 _ _ y169 ((rd_T37 ((rd_T32 l0_0 a1).f3) x93_4).f0) ((rd_T37 ((rd_T32 l0_0 a1).f3) x93_4).f1) _ _ ((rd_T37 ((rd_T32 l0_0 a1).f3) x93_4).f2) ((rd_T37 ((rd_T32 l0_0 a1).f3) x93_4).f3) _ _ y173 t177 _ ?side1 ?side2 ?side3 ?side4 ?side5 ?side6 ?side7 ?side8 ?sideM A76.out ?sideT).mono ?_
                       (case sideT => first | exact HTB_.out | exact HTB_.out.below (by repeat with_reducible first | exact HB.out | apply below_alloc | apply pw_below_drewN | apply below_drew1 | refine below_set ?_ GE145.out | refine below_set ?_ GE147.out | refine below_set ?_ GE157.out | refine below_set ?_ GE168.out))
                       (case sideM => exact (MapSI.Is.below HM1.out (by repeat with_reducible first | exact HB.out | apply below_alloc | apply pw_below_drewN | apply below_drew1 | refine below_set ?_ GE145.out | refine below_set ?_ GE147.out | refine below_set ?_ GE157.out | refine below_set ?_ GE168.out)))
                       (case side1 => repeat (first | exact (Kd.C_below HR0_0.out HB.out) | (with_reducible refine Kd.C_alloc ?_ _) | (with_reducible refine Kd.C_drewN ?_ _) | (with_reducible refine Kd.C_drew ?_)))
                       (case side2 => exact HC0_0.out)
                       (case side3 => repeat (first | exact (Kd.C_below HR172.out HB.out) | (with_reducible refine Kd.C_alloc ?_ _) | (with_reducible refine Kd.C_drewN ?_ _) | (with_reducible refine Kd.C_drew ?_)))
                       (case side4 => exact HC172.out)
                       (case side5 => repeat (first | exact (Kd.C_below HR167_2.out HB.out) | (with_reducible refine Kd.C_alloc ?_ _) | (with_reducible refine Kd.C_drewN ?_ _) | (with_reducible refine Kd.C_drew ?_)))
                       (case side6 => exact HC167_2.out)
                       (case side7 => repeat (first | exact (by repeat (first | (with_reducible exact HR176.out) | (with_reducible refine Kd.C_alloc ?_ _) | (with_reducible refine Kd.C_drewN ?_ _) | (with_reducible refine Kd.C_drew ?_) | exact HR176.out)) | (with_reducible refine Kd.C_alloc ?_ _) | (with_reducible refine Kd.C_drewN ?_ _) | (with_reducible refine Kd.C_drew ?_)))
                       (case side8 => exact HC176.out)
                       rintro e w97 ⟨rfl, hb⟩
                       refine ⟨_, rfl, ?_⟩
                       have n0_ := Aside0.mk (Kd.R_below (by (with_reducible repeat first | apply Kd.R_alloc | apply Kd.R_drewN | apply Kd.R_drew); exact HO_8.out) hb)
                       have n1_ := Aside0.mk (blk_below (g := gb145) (o := .cells #[.slice (some ad146) l0_0.length c0_0, .map (some b1)] 52 (0, 0)) (by (with_reducible repeat first | apply bn | apply bd | apply ba); exact BK145.out) hb)
                       have n2_ := Aside0.mk (blk_below (g := gb147) (o := .cells #[.string ((rd_T32 l0_0 a1).f0), .string ((rd_T32 l0_0 a1).f1), .slice A146_2 ((rd_T32 l0_0 a1).f2).length c146_2, .slice (some ad167) ((rd_T32 l0_0 a1).f3).length c146_3] 32 (0, 0)) (by (with_reducible repeat first | apply bn | apply bd | apply ba); exact BK147.out) hb)
                       have n3_ := Aside0.mk (blk_below (g := gb168) (o := .cells #[.string ((rd_T37 ((rd_T32 l0_0 a1).f3) x93_4).f0), .bool ((rd_T37 ((rd_T32 l0_0 a1).f3) x93_4).f1), .slice A167_2 ((rd_T37 ((rd_T32 l0_0 a1).f3) x93_4).f2).length c167_2, .string ((rd_T37 ((rd_T32 l0_0 a1).f3) x93_4).f3)] 37 (0, 0)) (by (with_reducible repeat first | apply bn | apply bd | apply ba); exact BK168.out) hb)
                       have n4_ := Aside0.mk (Kd.C_below (by repeat (first | (with_reducible exact HR176.out) | (with_reducible refine Kd.C_alloc ?_ _) | (with_reducible refine Kd.C_drewN ?_ _) | (with_reducible refine Kd.C_drew ?_) | exact HR176.out)) hb)
                       have n5_ := Aside0.mk (below_step (by repeat with_reducible first | exact HB.out | apply below_alloc | apply pw_below_drewN | apply below_drew1 | refine below_set ?_ GE145.out | refine below_set ?_ GE147.out | refine below_set ?_ GE168.out) hb)
                       clear HO_8
                       clear BK145
                       clear BK147
                       clear BK168
                       clear HR176
                       clear HB
                       have HO_8 := n0_
                       have BK145 := n1_
                       have BK147 := n2_
                       have BK168 := n3_
                       have HR176 := n4_
                       have HB := n5_
                       clear n0_ n1_ n2_ n3_ n4_ n5_
                       (try clear hb)
                       (try clear hb2)
                       (try clear hk)
                       (try clear hi)
                       refine hK.out _ _ ⟨(blk_cell BK145.out 0).trans rfl, (blk_cell BK145.out 1).trans rfl, (blk_cell BK147.out 0).trans rfl, (blk_cell BK147.out 1).trans rfl, (blk_cell BK147.out 2).trans rfl, (blk_cell BK147.out 3).trans rfl, (blk_cell BK168.out 0).trans rfl, (blk_cell BK168.out 1).trans rfl, (blk_cell BK168.out 2).trans rfl, (blk_cell BK168.out 3).trans rfl⟩ (fun hHeld => ?_)
                       clear hK K
                       refine norm_ (a' := ?_) ?_ ?_
                       rotate_left;focus(show Act.put _ (some 106) _ = _;simp only [Act.put, List.setIfInBounds_toArray, List.set_cons_zero, List.set_cons_succ, i64_w];rfl)
                       refine pure_ (i := 9) (N := some 15) (v := ?_) (a' := ?_) #[true,true,true,true,true,true,true,true,true,true] rfl rfl (any_of HT_.out (by kernel_rfl)) (fun _ _ _ h => h) (Or.inl ⟨by rfl, ?_⟩) ?_ ?_
                       rotate_left;focus(intro w';go_simp;with_reducible rfl)
                       rotate_left;focus(simp only [Act.put, List.setIfInBounds_toArray, List.set_cons_zero, List.set_cons_succ, i64_w];rfl)
                       refine done_ (done_of HT_.out (by kernel_rfl)) ?_
                       try go_wp2
                       go_ret
                       exact ⟨by first | rfl | (simp [errW_none, errW_some] <;> rfl) | (simp [*, errW_none, errW_some] <;> rfl), by repeat with_reducible first | exact HB.out | apply below_alloc | apply pw_below_drewN | apply below_drew1 | refine below_set ?_ GE145.out | refine below_set ?_ GE147.out | refine below_set ?_ GE168.out⟩
                     ·rw [if_neg c75] at H
                      exact absurd H (by simp)
                    ·rw [if_neg c74] at H
                     exact absurd H (by simp)
                   ·rw [if_neg c72] at H
                    exact absurd H (by simp)
                  ·rw [if_neg c71] at H
                   exact absurd H (by simp)
                 ·rw [if_neg c70] at H
                  have c70b0 : decide (x93_4 < (((rd_T32 l0_0 a1).f3).length : Int)) = false := decide_eq_false c70
                  clear c70
                  obtain rfl := Option.some.inj H
                  go_wp2
                  go_ret
                  exact ⟨by first | rfl | (simp [errW_none, errW_some] <;> rfl) | (simp [*, errW_none, errW_some] <;> rfl), by repeat with_reducible first | exact HB.out | apply below_alloc | apply pw_below_drewN | apply below_drew1 | refine below_set ?_ GE145.out | refine below_set ?_ GE147.out⟩
    ·rw [if_neg c8] at H
     have c8b0 : (t149 == a1) = false := beq_eq_false_iff_ne.mpr c8
     have c8b1 : (t149 != a1) = true := bne_iff_ne.mpr c8
     obtain rfl := Option.some.inj H
     go_enter Tryd.func21, Tryd.ntmps21
     go_wp2_with (first | ((with_reducible refine gate_dst (N := 2) rfl ?_); (try (refine gate_guard (by rfl) ?_; dsimp only)); refine box_event ?hg (N := 2) ?hd (cs := #[.slice A0_0 l0_0.length c0_0, .map (some b1)]) (t := 52) ?hr ?_; (case hd => rfl); (case hg => rfl); (case hr => first | (go_simp; done) | (go_simp; rfl)); intro gb145 hg w98 hbox hb; have n0_ := Aside0.mk (below_step (by repeat with_reducible first | exact HB.out | apply below_alloc | apply pw_below_drewN | apply below_drew1) hb); have n1_ := Aside0.mk (hbox); have n2_ := Aside0.mk ((by rw [hg]; exact (below_size (by repeat with_reducible first | exact HB.out | apply below_alloc | apply pw_below_drewN | apply below_drew1)) : w.heap.size ≤ gb145)); have n3_ := Aside0.mk ((by rw [hg]; exact (below_size (by repeat with_reducible first | exact HB.out | apply below_alloc | apply pw_below_drewN | apply below_drew1)) : w.heap.size ≤ gb145)); clear HB; have HB := n0_; have BK145 := n1_; have GW145 := n2_; have GE145 := n3_; clear n0_ n1_ n2_ n3_; clear hb hbox hg; have hcz99_0 : w98.cell? ⟨gb145, 0, none⟩ = some (.slice A0_0 l0_0.length c0_0) := (blk_cell BK145.out 0).trans rfl; have hcz99_1 : w98.cell? ⟨gb145, 1, none⟩ = some (.map (some b1)) := (blk_cell BK145.out 1).trans rfl; have hfz99_0 := blk_frozen BK145.out 0; have hfz99_1 := blk_frozen BK145.out 1; have p146 : 0 ≤ (a1 : Int) := of_decide_eq_true (by first | (with_reducible assumption) | assumption); have q146 : a1 < (l0_0.length : Int) := of_decide_eq_true (by first | (with_reducible assumption) | assumption); obtain ⟨ad146, A146_2, c146_2, A146_3, c146_3, e146, hx146_0, hx146_1, hx146_2, hx146_3, hl146_2, hi146_2, hl146_3, hi146_3⟩ := at_T32 HR0_0.out a1 p146 q146; cases e146; replace hx146_0 := (HB.out.cell (World.block_lt_of_cell? w _ hx146_0)).trans hx146_0; replace hx146_1 := (HB.out.cell (World.block_lt_of_cell? w _ hx146_1)).trans hx146_1; replace hx146_2 := (HB.out.cell (World.block_lt_of_cell? w _ hx146_2)).trans hx146_2; replace hx146_3 := (HB.out.cell (World.block_lt_of_cell? w _ hx146_3)).trans hx146_3; have HR146_2 := Aside0.mk hi146_2; have HC146_2 := Aside0.mk hl146_2; clear hi146_2 hl146_2; have HR146_3 := Aside0.mk hi146_3; have HC146_3 := Aside0.mk hl146_3; clear hi146_3 hl146_3; replace p146 := eq_true p146; replace q146 := eq_true q146) | ((with_reducible refine gate_dst (N := 5) rfl ?_); (try (refine gate_guard (by rfl) ?_; dsimp only)); refine box_event ?hg (N := 5) ?hd (cs := #[.string (⟨#[]⟩ : ByteArray), .string (⟨#[]⟩ : ByteArray), .slice none 0 0, .slice none 0 0]) (t := 32) ?hr ?_; (case hd => rfl); (case hg => rfl); (case hr => first | (go_simp; done) | (go_simp; rfl)); intro gb147 hg w100 hbox hb; have n0_ := Aside0.mk (blk_below (g := gb145) (o := .cells #[.slice (some ad146) l0_0.length c0_0, .map (some b1)] 52 (0, 0)) (by (with_reducible repeat first | apply bn | apply bd | apply ba); exact BK145.out) hb); have n1_ := Aside0.mk (below_step (by repeat with_reducible first | exact HB.out | apply below_alloc | apply pw_below_drewN | apply below_drew1 | refine below_set ?_ GE145.out) hb); have n2_ := Aside0.mk (hbox); have n3_ := Aside0.mk ((by rw [hg]; exact (below_size (by repeat with_reducible first | exact HB.out | apply below_alloc | apply pw_below_drewN | apply below_drew1 | refine below_set ?_ GE145.out)) : w.heap.size ≤ gb147)); have n4_ := Aside0.mk ((by rw [hg]; exact (below_size (by repeat with_reducible first | exact HB.out | apply below_alloc | apply pw_below_drewN | apply below_drew1 | refine below_set ?_ GE145.out)) : w.heap.size ≤ gb147)); have n5_ := Aside0.mk ((by rw [hg]; exact Nat.ne_of_lt (blk_lt (g := gb145) (o := .cells #[.slice (some ad146) l0_0.length c0_0, .map (some b1)] 52 (0, 0)) (by (with_reducible repeat first | apply bn | apply bd | apply ba); exact BK145.out)) : gb145 ≠ gb147)); have n6_ := Aside0.mk ((by rw [hg]; exact Nat.ne_of_gt (blk_lt (g := gb145) (o := .cells #[.slice (some ad146) l0_0.length c0_0, .map (some b1)] 52 (0, 0)) (by (with_reducible repeat first | apply bn | apply bd | apply ba); exact BK145.out)) : gb147 ≠ gb145)); clear BK145; clear HB; have BK145 := n0_; have HB := n1_; have BK147 := n2_; have GW147 := n3_; have GE147 := n4_; have NB145_147 := n5_; have NB147_145 := n6_; clear n0_ n1_ n2_ n3_ n4_ n5_ n6_; clear hb hbox hg; have hnb101 := NB147_145.out; have hnc101 := NB145_147.out; have hcz102_0 : w100.cell? ⟨gb147, 0, none⟩ = some (.string (⟨#[]⟩ : ByteArray)) := (blk_cell BK147.out 0).trans rfl; have hcz102_1 : w100.cell? ⟨gb147, 1, none⟩ = some (.string (⟨#[]⟩ : ByteArray)) := (blk_cell BK147.out 1).trans rfl; have hcz102_2 : w100.cell? ⟨gb147, 2, none⟩ = some (.slice none 0 0) := (blk_cell BK147.out 2).trans rfl; have hcz102_3 : w100.cell? ⟨gb147, 3, none⟩ = some (.slice none 0 0) := (blk_cell BK147.out 3).trans rfl; have hfz102_0 := blk_frozen BK147.out 0; have hfz102_1 := blk_frozen BK147.out 1; have hfz102_2 := blk_frozen BK147.out 2; have hfz102_3 := blk_frozen BK147.out 3) | ((with_reducible refine gate_callee (f := 32) rfl ?_); refine goesL_ (some 24) rfl rfl Tryd.func32 (by kernel_rfl) rfl #[.string ((rd_T32 l0_0 a1).f0)] rfl (by (try simp only [List.map_toArray, List.map_cons, List.map_nil]); first | done | rfl) ?_; (with_reducible refine (lex_Ident.calls k ((rd_T32 l0_0 a1).f0) true _ A5.out ?sideT).mono ?_); (case sideT => first | exact HTB_.out | exact HTB_.out.below (by repeat with_reducible first | exact HB.out | apply below_alloc | apply pw_below_drewN | apply below_drew1 | refine below_set ?_ GE145.out | refine below_set ?_ GE147.out | refine below_set ?_ GE157.out | refine below_set ?_ GE168.out)); rintro e w' ⟨rfl, ⟨nd, rfl⟩⟩; refine ⟨_, rfl, ?_⟩; have hcz103_0 : w100.cell? ⟨gb145, 0, none⟩ = some (.slice (some ad146) l0_0.length c0_0) := (blk_cell BK145.out 0).trans rfl; have hcz103_1 : w100.cell? ⟨gb145, 1, none⟩ = some (.map (some b1)) := (blk_cell BK145.out 1).trans rfl; have hfz103_0 := blk_frozen BK145.out 0; have hfz103_1 := blk_frozen BK145.out 1) | ((with_reducible refine gate_dst (N := 30) rfl ?_); at_lookup; refine wp_look1 rfl _ _ rfl Tryd.underlying9 Tryd.underlying49 (zero3_run _) b1 a0_1 ((rd_T32 l0_0 a1).f0) rfl rfl t149 A7.out (MapSI.Is.below HM1.out (by repeat with_reducible first | exact HB.out | apply below_alloc | apply pw_below_drewN | apply below_drew1 | refine below_set ?_ GE145.out | refine below_set ?_ GE147.out | refine below_set ?_ GE157.out | refine below_set ?_ GE168.out)) ?_))
     go_ret
     exact ⟨by first | rfl | (simp [errW_none, errW_some] <;> rfl) | (simp [*, errW_none, errW_some] <;> rfl), by repeat with_reducible first | exact HB.out | apply below_alloc | apply pw_below_drewN | apply below_drew1 | refine below_set ?_ GE145.out | refine below_set ?_ GE147.out⟩
   ·replace c6 := Bool.eq_false_iff.mpr c6
    subst c6
    have H1 : (some 5) = some r := by rw [if_neg (show ¬ (false = true) by decide)] at H; exact H
    clear H
    have H := H1
    clear H1
    obtain rfl := Option.some.inj H
    go_enter Tryd.func21, Tryd.ntmps21
    go_wp2_with (first | ((with_reducible refine gate_dst (N := 2) rfl ?_); (try (refine gate_guard (by rfl) ?_; dsimp only)); refine box_event ?hg (N := 2) ?hd (cs := #[.slice A0_0 l0_0.length c0_0, .map (some b1)]) (t := 52) ?hr ?_; (case hd => rfl); (case hg => rfl); (case hr => first | (go_simp; done) | (go_simp; rfl)); intro gb145 hg w104 hbox hb; have n0_ := Aside0.mk (below_step (by repeat with_reducible first | exact HB.out | apply below_alloc | apply pw_below_drewN | apply below_drew1) hb); have n1_ := Aside0.mk (hbox); have n2_ := Aside0.mk ((by rw [hg]; exact (below_size (by repeat with_reducible first | exact HB.out | apply below_alloc | apply pw_below_drewN | apply below_drew1)) : w.heap.size ≤ gb145)); have n3_ := Aside0.mk ((by rw [hg]; exact (below_size (by repeat with_reducible first | exact HB.out | apply below_alloc | apply pw_below_drewN | apply below_drew1)) : w.heap.size ≤ gb145)); clear HB; have HB := n0_; have BK145 := n1_; have GW145 := n2_; have GE145 := n3_; clear n0_ n1_ n2_ n3_; clear hb hbox hg; have hcz105_0 : w104.cell? ⟨gb145, 0, none⟩ = some (.slice A0_0 l0_0.length c0_0) := (blk_cell BK145.out 0).trans rfl; have hcz105_1 : w104.cell? ⟨gb145, 1, none⟩ = some (.map (some b1)) := (blk_cell BK145.out 1).trans rfl; have hfz105_0 := blk_frozen BK145.out 0; have hfz105_1 := blk_frozen BK145.out 1; have p146 : 0 ≤ (a1 : Int) := of_decide_eq_true (by first | (with_reducible assumption) | assumption); have q146 : a1 < (l0_0.length : Int) := of_decide_eq_true (by first | (with_reducible assumption) | assumption); obtain ⟨ad146, A146_2, c146_2, A146_3, c146_3, e146, hx146_0, hx146_1, hx146_2, hx146_3, hl146_2, hi146_2, hl146_3, hi146_3⟩ := at_T32 HR0_0.out a1 p146 q146; cases e146; replace hx146_0 := (HB.out.cell (World.block_lt_of_cell? w _ hx146_0)).trans hx146_0; replace hx146_1 := (HB.out.cell (World.block_lt_of_cell? w _ hx146_1)).trans hx146_1; replace hx146_2 := (HB.out.cell (World.block_lt_of_cell? w _ hx146_2)).trans hx146_2; replace hx146_3 := (HB.out.cell (World.block_lt_of_cell? w _ hx146_3)).trans hx146_3; have HR146_2 := Aside0.mk hi146_2; have HC146_2 := Aside0.mk hl146_2; clear hi146_2 hl146_2; have HR146_3 := Aside0.mk hi146_3; have HC146_3 := Aside0.mk hl146_3; clear hi146_3 hl146_3; replace p146 := eq_true p146; replace q146 := eq_true q146) | ((with_reducible refine gate_dst (N := 5) rfl ?_); (try (refine gate_guard (by rfl) ?_; dsimp only)); refine box_event ?hg (N := 5) ?hd (cs := #[.string (⟨#[]⟩ : ByteArray), .string (⟨#[]⟩ : ByteArray), .slice none 0 0, .slice none 0 0]) (t := 32) ?hr ?_; (case hd => rfl); (case hg => rfl); (case hr => first | (go_simp; done) | (go_simp; rfl)); intro gb147 hg w106 hbox hb; have n0_ := Aside0.mk (blk_below (g := gb145) (o := .cells #[.slice (some ad146) l0_0.length c0_0, .map (some b1)] 52 (0, 0)) (by (with_reducible repeat first | apply bn | apply bd | apply ba); exact BK145.out) hb); have n1_ := Aside0.mk (below_step (by repeat with_reducible first | exact HB.out | apply below_alloc | apply pw_below_drewN | apply below_drew1 | refine below_set ?_ GE145.out) hb); have n2_ := Aside0.mk (hbox); have n3_ := Aside0.mk ((by rw [hg]; exact (below_size (by repeat with_reducible first | exact HB.out | apply below_alloc | apply pw_below_drewN | apply below_drew1 | refine below_set ?_ GE145.out)) : w.heap.size ≤ gb147)); have n4_ := Aside0.mk ((by rw [hg]; exact (below_size (by repeat with_reducible first | exact HB.out | apply below_alloc | apply pw_below_drewN | apply below_drew1 | refine below_set ?_ GE145.out)) : w.heap.size ≤ gb147)); have n5_ := Aside0.mk ((by rw [hg]; exact Nat.ne_of_lt (blk_lt (g := gb145) (o := .cells #[.slice (some ad146) l0_0.length c0_0, .map (some b1)] 52 (0, 0)) (by (with_reducible repeat first | apply bn | apply bd | apply ba); exact BK145.out)) : gb145 ≠ gb147)); have n6_ := Aside0.mk ((by rw [hg]; exact Nat.ne_of_gt (blk_lt (g := gb145) (o := .cells #[.slice (some ad146) l0_0.length c0_0, .map (some b1)] 52 (0, 0)) (by (with_reducible repeat first | apply bn | apply bd | apply ba); exact BK145.out)) : gb147 ≠ gb145)); clear BK145; clear HB; have BK145 := n0_; have HB := n1_; have BK147 := n2_; have GW147 := n3_; have GE147 := n4_; have NB145_147 := n5_; have NB147_145 := n6_; clear n0_ n1_ n2_ n3_ n4_ n5_ n6_; clear hb hbox hg; have hnb107 := NB147_145.out; have hnc107 := NB145_147.out; have hcz108_0 : w106.cell? ⟨gb147, 0, none⟩ = some (.string (⟨#[]⟩ : ByteArray)) := (blk_cell BK147.out 0).trans rfl; have hcz108_1 : w106.cell? ⟨gb147, 1, none⟩ = some (.string (⟨#[]⟩ : ByteArray)) := (blk_cell BK147.out 1).trans rfl; have hcz108_2 : w106.cell? ⟨gb147, 2, none⟩ = some (.slice none 0 0) := (blk_cell BK147.out 2).trans rfl; have hcz108_3 : w106.cell? ⟨gb147, 3, none⟩ = some (.slice none 0 0) := (blk_cell BK147.out 3).trans rfl; have hfz108_0 := blk_frozen BK147.out 0; have hfz108_1 := blk_frozen BK147.out 1; have hfz108_2 := blk_frozen BK147.out 2; have hfz108_3 := blk_frozen BK147.out 3) | ((with_reducible refine gate_callee (f := 32) rfl ?_); refine goesL_ (some 24) rfl rfl Tryd.func32 (by kernel_rfl) rfl #[.string ((rd_T32 l0_0 a1).f0)] rfl (by (try simp only [List.map_toArray, List.map_cons, List.map_nil]); first | done | rfl) ?_; (with_reducible refine (lex_Ident.calls k ((rd_T32 l0_0 a1).f0) false _ A5.out ?sideT).mono ?_); (case sideT => first | exact HTB_.out | exact HTB_.out.below (by repeat with_reducible first | exact HB.out | apply below_alloc | apply pw_below_drewN | apply below_drew1 | refine below_set ?_ GE145.out | refine below_set ?_ GE147.out | refine below_set ?_ GE157.out | refine below_set ?_ GE168.out)); rintro e w' ⟨rfl, ⟨nd, rfl⟩⟩; refine ⟨_, rfl, ?_⟩))
    go_ret
    exact ⟨by first | rfl | (simp [errW_none, errW_some] <;> rfl) | (simp [*, errW_none, errW_some] <;> rfl), by repeat with_reducible first | exact HB.out | apply below_alloc | apply pw_below_drewN | apply below_drew1 | refine below_set ?_ GE145.out | refine below_set ?_ GE147.out⟩
  ·rw [if_neg c4] at H
   exact absurd H (by simp)
 ·rw [if_neg c3] at H
  exact absurd H (by simp)

end Go.Proofs.YtkbclcecmcdlfaaDoor.PD
