/- Printed by a program of this session out of the translation: plain functions with the answers of the Go functions, and the proofs that they have them. -/
import Derived.Test.YtbmhpnegigccnaaS2
import Derived.Test.YtbmhpnegigccnaaS4
import Derived.Test.YtbmhpnegigccnaaS5
import Derived.Test.YtbmhpnegigccnaaS6
namespace Go.Proofs.Ytbmhpnegigccnaa.PS
open Go.RowKit Go.Proofs.YtbmhpnegigccnaaW.PrintWords Go.Proofs.YtbmhpnegigccnaaW.PrintLast Go.Proofs.YtbmhpnegigccnaaW.PrintMore
attribute [local go_sem] max2_int min2_int max_two min_two max_three min_three max_four min_four   -- for this text's walks alone
set_option linter.unusedVariables false
set_option linter.unusedSimpArgs false

def dataflowref27_fits.f (k : Nat) (l0_0 : List (S36)) (l0_1 : List (S33)) (a0_2 : Int) (a1_0 : Int) (a1_1 : Int) (a1_2 : Int) (a1_3 : Int) : Option (Bool) := if a1_2 = 1 then fitsA.f k l0_0 l0_1 a0_2 a1_0 a1_1 a1_2 a1_3 else (if a1_2 = 5 then fitsA.f k l0_0 l0_1 a0_2 a1_0 a1_1 a1_2 a1_3 else (if a1_2 = 2 then fitsB.f k l0_0 l0_1 a0_2 a1_0 a1_1 a1_2 a1_3 else fitsC.f k l0_0 l0_1 a0_2 a1_0 a1_1 a1_2 a1_3))
theorem dataflowref27_fits.mono : ∀ a0 a1 a2 a3 a4 a5 a6 k, LeO (dataflowref27_fits.f k a0 a1 a2 a3 a4 a5 a6) (dataflowref27_fits.f (k + 1) a0 a1 a2 a3 a4 a5 a6) := by
  intro a0 a1 a2 a3 a4 a5 a6 k
  unfold dataflowref27_fits.f
  exact LeO.ite (fitsA.mono _ _ _ _ _ _ _ _) (LeO.ite (fitsA.mono _ _ _ _ _ _ _ _) (LeO.ite (fitsB.mono _ _ _ _ _ _ _ _) (fitsC.mono _ _ _ _ _ _ _ _)))
theorem dataflowref27_fits.calls (k : Nat) (A0_0 : Option Addr) (c0_0 : Nat) (l0_0 : List (S36)) (A0_1 : Option Addr) (c0_1 : Nat) (l0_1 : List (S33)) (a0_2 : Int) (a1_0 : Int) (a1_1 : Int) (a1_2 : Int) (a1_3 : Int) (r : Bool) (w : World) (hr0_0 : Kd.C k36 w A0_0 l0_0.length l0_0) (hc0_0 : l0_0.length ≤ c0_0) (hr0_1 : Kd.C k33 w A0_1 l0_1.length l0_1) (hc0_1 : l0_1.length ≤ c0_1) (h : dataflowref27_fits.f k l0_0 l0_1 a0_2 a1_0 a1_1 a1_2 a1_3 = some r) :
    Calls Try.prog 13 #[.agg #[.slice A0_0 l0_0.length c0_0, .slice A0_1 l0_1.length c0_1, .int .i64 a0_2], .agg #[.int .i64 a1_0, .int .i64 a1_1, .int .i64 a1_2, .int .i64 a1_3]] w fun e w' => e = .returned (.bool r) ∧ Below w.heap.size w w' := by
  unfold dataflowref27_fits.f at h
  by_cases c1 : a1_2 = 1
  · rw [if_pos c1] at h
    exact fitsA.calls k A0_0 c0_0 l0_0 A0_1 c0_1 l0_1 a0_2 a1_0 a1_1 a1_2 a1_3 r w hr0_0 hc0_0 hr0_1 hc0_1 h
  · rw [if_neg c1] at h
    by_cases c5 : a1_2 = 5
    · rw [if_pos c5] at h
      exact fitsA.calls k A0_0 c0_0 l0_0 A0_1 c0_1 l0_1 a0_2 a1_0 a1_1 a1_2 a1_3 r w hr0_0 hc0_0 hr0_1 hc0_1 h
    · rw [if_neg c5] at h
      by_cases c2 : a1_2 = 2
      · rw [if_pos c2] at h
        exact fitsB.calls k A0_0 c0_0 l0_0 A0_1 c0_1 l0_1 a0_2 a1_0 a1_1 a1_2 a1_3 r w hr0_0 hc0_0 hr0_1 hc0_1 h
      · rw [if_neg c2] at h
        exact fitsC.calls k A0_0 c0_0 l0_0 A0_1 c0_1 l0_1 a0_2 a1_0 a1_1 a1_2 a1_3 r w hr0_0 hc0_0 hr0_1 hc0_1 h

/-! ### dataflowref27_Check: function 4 -/
mutual
def dataflowref27_Check.j0 : Nat → Bool → List (S36) → List (S33) → Int → Option (Int)
 | 0, _, _, _, _ => none
 | k + 1, x16, x137000, x137001, x137002 => if x16 = true then (some 3) else ((dataflowref27_nodes.f k x137000 x137001 x137002).bind fun t137 => (if t137 = 0 then (dataflowref27_Check.l0 k 0 x137000 x137001 x137002) else (some t137)))
def dataflowref27_Check.l0 : Nat → Int → List (S36) → List (S33) → Int → Option (Int)
 | 0, _, _, _, _ => none
 | k + 1, x4, x137000, x137001, x137002 => if x4 < (x137001.length : Int) then (if 0 ≤ x4 then (if ((rd_T33 x137001 x4).f2) = 1 then (dataflowref27_Check.j2 k x4 true x137000 x137001 x137002 ((rd_T33 x137001 x4).f0) ((rd_T33 x137001 x4).f1) ((rd_T33 x137001 x4).f2) ((rd_T33 x137001 x4).f3)) else (dataflowref27_Check.j2 k x4 (((rd_T33 x137001 x4).f2) == 5) x137000 x137001 x137002 ((rd_T33 x137001 x4).f0) ((rd_T33 x137001 x4).f1) ((rd_T33 x137001 x4).f2) ((rd_T33 x137001 x4).f3))) else (none)) else (some 0)
def dataflowref27_Check.j2 : Nat → Int → Bool → List (S36) → List (S33) → Int → Int → Int → Int → Int → Option (Int)
 | 0, _, _, _, _, _, _, _, _, _ => none
 | k + 1, x4, x6, x137000, x137001, x137002, x140000, x140001, x140002, x140003 => if x140000 < 0 then (dataflowref27_Check.j3 k x4 x6 true x137000 x137001 x137002 x140000 x140001 x140002 x140003) else (if x140000 ≥ (x137000.length : Int) then (dataflowref27_Check.j3 k x4 x6 true x137000 x137001 x137002 x140000 x140001 x140002 x140003) else (if x140001 < 0 then (dataflowref27_Check.j3 k x4 x6 true x137000 x137001 x137002 x140000 x140001 x140002 x140003) else (dataflowref27_Check.j3 k x4 x6 (decide (x140001 ≥ (x137000.length : Int))) x137000 x137001 x137002 x140000 x140001 x140002 x140003)))
def dataflowref27_Check.j3 : Nat → Int → Bool → Bool → List (S36) → List (S33) → Int → Int → Int → Int → Int → Option (Int)
 | 0, _, _, _, _, _, _, _, _, _, _ => none
 | k + 1, x4, x6, x42, x137000, x137001, x137002, x140000, x140001, x140002, x140003 => if x42 = true then (some 4) else (if x140002 < 1 then (dataflowref27_Check.j4 k x4 x6 true x137000 x137001 x137002 x140000 x140001 x140002 x140003) else (dataflowref27_Check.j4 k x4 x6 (decide (x140002 > 5)) x137000 x137001 x137002 x140000 x140001 x140002 x140003))
def dataflowref27_Check.j4 : Nat → Int → Bool → Bool → List (S36) → List (S33) → Int → Int → Int → Int → Int → Option (Int)
 | 0, _, _, _, _, _, _, _, _, _, _ => none
 | k + 1, x4, x6, x67, x137000, x137001, x137002, x140000, x140001, x140002, x140003 => if x67 = true then (some 12) else (if x6 = true then (if x140003 = (-1) then (dataflowref27_Check.j5 k x4 false x137000 x137001 x137002 x140000 x140001 x140002 x140003) else (dataflowref27_Check.j5 k x4 true x137000 x137001 x137002 x140000 x140001 x140002 x140003)) else (if x140003 < 0 then (dataflowref27_Check.j5 k x4 true x137000 x137001 x137002 x140000 x140001 x140002 x140003) else (dataflowref27_Check.j5 k x4 (decide (x140003 ≥ (x137000.length : Int))) x137000 x137001 x137002 x140000 x140001 x140002 x140003)))
def dataflowref27_Check.j5 : Nat → Int → Bool → List (S36) → List (S33) → Int → Int → Int → Int → Int → Option (Int)
 | 0, _, _, _, _, _, _, _, _, _ => none
 | k + 1, x4, x76, x137000, x137001, x137002, x140000, x140001, x140002, x140003 => if x76 = true then (some 4) else (if x4 > 0 then (if 0 ≤ (wrap64 (x4 - 1)) then (if (wrap64 (x4 - 1)) < (x137001.length : Int) then ((dataflowref27_lessEdge.f ((rd_T33 x137001 (wrap64 (x4 - 1))).f0) ((rd_T33 x137001 (wrap64 (x4 - 1))).f1) ((rd_T33 x137001 (wrap64 (x4 - 1))).f2) ((rd_T33 x137001 (wrap64 (x4 - 1))).f3) x140000 x140001 x140002 x140003).bind fun t141 => (dataflowref27_Check.j6 k x4 (!t141) x137000 x137001 x137002 x140000 x140001 x140002 x140003)) else (none)) else (none)) else (dataflowref27_Check.j6 k x4 false x137000 x137001 x137002 x140000 x140001 x140002 x140003))
def dataflowref27_Check.j6 : Nat → Int → Bool → List (S36) → List (S33) → Int → Int → Int → Int → Int → Option (Int)
 | 0, _, _, _, _, _, _, _, _, _ => none
 | k + 1, x4, x100, x137000, x137001, x137002, x140000, x140001, x140002, x140003 => if x100 = true then (some 13) else ((dataflowref27_fits.f k x137000 x137001 x137002 x140000 x140001 x140002 x140003).bind fun t142 => (if t142 = true then (dataflowref27_Check.l0 k (wrap64 (x4 + 1)) x137000 x137001 x137002) else (some 20)))
end
def dataflowref27_Check.f (k : Nat) (l0_0 : List (S36)) (l0_1 : List (S33)) (a0_2 : Int) : Option (Int) := if (l0_0.length : Int) > 8192 then (dataflowref27_Check.j0 k true l0_0 l0_1 a0_2) else (dataflowref27_Check.j0 k (decide ((l0_1.length : Int) > 32768)) l0_0 l0_1 a0_2)
theorem dataflowref27_Check.mono_l : ∀ k, (∀ y0 y1 y2 y3, LeO (dataflowref27_Check.j0 k y0 y1 y2 y3) (dataflowref27_Check.j0 (k + 1) y0 y1 y2 y3)) ∧ (∀ y0 y1 y2 y3, LeO (dataflowref27_Check.l0 k y0 y1 y2 y3) (dataflowref27_Check.l0 (k + 1) y0 y1 y2 y3)) ∧ (∀ y0 y1 y2 y3 y4 y5 y6 y7 y8, LeO (dataflowref27_Check.j2 k y0 y1 y2 y3 y4 y5 y6 y7 y8) (dataflowref27_Check.j2 (k + 1) y0 y1 y2 y3 y4 y5 y6 y7 y8)) ∧ (∀ y0 y1 y2 y3 y4 y5 y6 y7 y8 y9, LeO (dataflowref27_Check.j3 k y0 y1 y2 y3 y4 y5 y6 y7 y8 y9) (dataflowref27_Check.j3 (k + 1) y0 y1 y2 y3 y4 y5 y6 y7 y8 y9)) ∧ (∀ y0 y1 y2 y3 y4 y5 y6 y7 y8 y9, LeO (dataflowref27_Check.j4 k y0 y1 y2 y3 y4 y5 y6 y7 y8 y9) (dataflowref27_Check.j4 (k + 1) y0 y1 y2 y3 y4 y5 y6 y7 y8 y9)) ∧ (∀ y0 y1 y2 y3 y4 y5 y6 y7 y8, LeO (dataflowref27_Check.j5 k y0 y1 y2 y3 y4 y5 y6 y7 y8) (dataflowref27_Check.j5 (k + 1) y0 y1 y2 y3 y4 y5 y6 y7 y8)) ∧ (∀ y0 y1 y2 y3 y4 y5 y6 y7 y8, LeO (dataflowref27_Check.j6 k y0 y1 y2 y3 y4 y5 y6 y7 y8) (dataflowref27_Check.j6 (k + 1) y0 y1 y2 y3 y4 y5 y6 y7 y8))
 | 0 => ⟨fun _ _ _ _ r h => by simp [dataflowref27_Check.j0] at h, fun _ _ _ _ r h => by simp [dataflowref27_Check.l0] at h, fun _ _ _ _ _ _ _ _ _ r h => by simp [dataflowref27_Check.j2] at h, fun _ _ _ _ _ _ _ _ _ _ r h => by simp [dataflowref27_Check.j3] at h, fun _ _ _ _ _ _ _ _ _ _ r h => by simp [dataflowref27_Check.j4] at h, fun _ _ _ _ _ _ _ _ _ r h => by simp [dataflowref27_Check.j5] at h, fun _ _ _ _ _ _ _ _ _ r h => by simp [dataflowref27_Check.j6] at h⟩
 | k + 1 => by
  obtain ⟨ih0, ih1, ih2, ih3, ih4, ih5, ih6⟩ := dataflowref27_Check.mono_l k
  refine ⟨?_, ?_, ?_, ?_, ?_, ?_, ?_⟩
  ·intro y0 y1 y2 y3
   unfold dataflowref27_Check.j0
   repeat' first
   | (with_reducible exact ih0 _ _ _ _)
   | (with_reducible exact ih1 _ _ _ _)
   | (with_reducible exact ih2 _ _ _ _ _ _ _ _ _)
   | (with_reducible exact ih3 _ _ _ _ _ _ _ _ _ _)
   | (with_reducible exact ih4 _ _ _ _ _ _ _ _ _ _)
   | (with_reducible exact ih5 _ _ _ _ _ _ _ _ _)
   | (with_reducible exact ih6 _ _ _ _ _ _ _ _ _)
   | (with_reducible exact dataflowref27_fits.mono _ _ _ _ _ _ _ _)
   | (with_reducible exact dataflowref27_nodes.mono _ _ _ _)
   | (with_reducible exact LeO.refl _)
   | (with_reducible exact LeO.none _)
   | (with_reducible refine LeO.ite ?_ ?_)
   | (with_reducible refine LeO.bind ?_ (fun _ => ?_))
   | exact ih0 _ _ _ _
   | exact ih1 _ _ _ _
   | exact ih2 _ _ _ _ _ _ _ _ _
   | exact ih3 _ _ _ _ _ _ _ _ _ _
   | exact ih4 _ _ _ _ _ _ _ _ _ _
   | exact ih5 _ _ _ _ _ _ _ _ _
   | exact ih6 _ _ _ _ _ _ _ _ _
   | exact dataflowref27_fits.mono _ _ _ _ _ _ _ _
   | exact dataflowref27_nodes.mono _ _ _ _
   | exact LeO.none _
   | refine LeO.ite ?_ ?_
   | refine LeO.bind ?_ (fun _ => ?_)
  ·intro y0 y1 y2 y3
   unfold dataflowref27_Check.l0
   repeat' first
   | (with_reducible exact ih0 _ _ _ _)
   | (with_reducible exact ih1 _ _ _ _)
   | (with_reducible exact ih2 _ _ _ _ _ _ _ _ _)
   | (with_reducible exact ih3 _ _ _ _ _ _ _ _ _ _)
   | (with_reducible exact ih4 _ _ _ _ _ _ _ _ _ _)
   | (with_reducible exact ih5 _ _ _ _ _ _ _ _ _)
   | (with_reducible exact ih6 _ _ _ _ _ _ _ _ _)
   | (with_reducible exact dataflowref27_fits.mono _ _ _ _ _ _ _ _)
   | (with_reducible exact dataflowref27_nodes.mono _ _ _ _)
   | (with_reducible exact LeO.refl _)
   | (with_reducible exact LeO.none _)
   | (with_reducible refine LeO.ite ?_ ?_)
   | (with_reducible refine LeO.bind ?_ (fun _ => ?_))
   | exact ih0 _ _ _ _
   | exact ih1 _ _ _ _
   | exact ih2 _ _ _ _ _ _ _ _ _
   | exact ih3 _ _ _ _ _ _ _ _ _ _
   | exact ih4 _ _ _ _ _ _ _ _ _ _
   | exact ih5 _ _ _ _ _ _ _ _ _
   | exact ih6 _ _ _ _ _ _ _ _ _
   | exact dataflowref27_fits.mono _ _ _ _ _ _ _ _
   | exact dataflowref27_nodes.mono _ _ _ _
   | exact LeO.none _
   | refine LeO.ite ?_ ?_
   | refine LeO.bind ?_ (fun _ => ?_)
  ·intro y0 y1 y2 y3 y4 y5 y6 y7 y8
   unfold dataflowref27_Check.j2
   repeat' first
   | (with_reducible exact ih0 _ _ _ _)
   | (with_reducible exact ih1 _ _ _ _)
   | (with_reducible exact ih2 _ _ _ _ _ _ _ _ _)
   | (with_reducible exact ih3 _ _ _ _ _ _ _ _ _ _)
   | (with_reducible exact ih4 _ _ _ _ _ _ _ _ _ _)
   | (with_reducible exact ih5 _ _ _ _ _ _ _ _ _)
   | (with_reducible exact ih6 _ _ _ _ _ _ _ _ _)
   | (with_reducible exact dataflowref27_fits.mono _ _ _ _ _ _ _ _)
   | (with_reducible exact dataflowref27_nodes.mono _ _ _ _)
   | (with_reducible exact LeO.refl _)
   | (with_reducible exact LeO.none _)
   | (with_reducible refine LeO.ite ?_ ?_)
   | (with_reducible refine LeO.bind ?_ (fun _ => ?_))
   | exact ih0 _ _ _ _
   | exact ih1 _ _ _ _
   | exact ih2 _ _ _ _ _ _ _ _ _
   | exact ih3 _ _ _ _ _ _ _ _ _ _
   | exact ih4 _ _ _ _ _ _ _ _ _ _
   | exact ih5 _ _ _ _ _ _ _ _ _
   | exact ih6 _ _ _ _ _ _ _ _ _
   | exact dataflowref27_fits.mono _ _ _ _ _ _ _ _
   | exact dataflowref27_nodes.mono _ _ _ _
   | exact LeO.none _
   | refine LeO.ite ?_ ?_
   | refine LeO.bind ?_ (fun _ => ?_)
  ·intro y0 y1 y2 y3 y4 y5 y6 y7 y8 y9
   unfold dataflowref27_Check.j3
   repeat' first
   | (with_reducible exact ih0 _ _ _ _)
   | (with_reducible exact ih1 _ _ _ _)
   | (with_reducible exact ih2 _ _ _ _ _ _ _ _ _)
   | (with_reducible exact ih3 _ _ _ _ _ _ _ _ _ _)
   | (with_reducible exact ih4 _ _ _ _ _ _ _ _ _ _)
   | (with_reducible exact ih5 _ _ _ _ _ _ _ _ _)
   | (with_reducible exact ih6 _ _ _ _ _ _ _ _ _)
   | (with_reducible exact dataflowref27_fits.mono _ _ _ _ _ _ _ _)
   | (with_reducible exact dataflowref27_nodes.mono _ _ _ _)
   | (with_reducible exact LeO.refl _)
   | (with_reducible exact LeO.none _)
   | (with_reducible refine LeO.ite ?_ ?_)
   | (with_reducible refine LeO.bind ?_ (fun _ => ?_))
   | exact ih0 _ _ _ _
   | exact ih1 _ _ _ _
   | exact ih2 _ _ _ _ _ _ _ _ _
   | exact ih3 _ _ _ _ _ _ _ _ _ _
   | exact ih4 _ _ _ _ _ _ _ _ _ _
   | exact ih5 _ _ _ _ _ _ _ _ _
   | exact ih6 _ _ _ _ _ _ _ _ _
   | exact dataflowref27_fits.mono _ _ _ _ _ _ _ _
   | exact dataflowref27_nodes.mono _ _ _ _
   | exact LeO.none _
   | refine LeO.ite ?_ ?_
   | refine LeO.bind ?_ (fun _ => ?_)
  ·intro y0 y1 y2 y3 y4 y5 y6 y7 y8 y9
   unfold dataflowref27_Check.j4
   repeat' first
   | (with_reducible exact ih0 _ _ _ _)
   | (with_reducible exact ih1 _ _ _ _)
   | (with_reducible exact ih2 _ _ _ _ _ _ _ _ _)
   | (with_reducible exact ih3 _ _ _ _ _ _ _ _ _ _)
   | (with_reducible exact ih4 _ _ _ _ _ _ _ _ _ _)
   | (with_reducible exact ih5 _ _ _ _ _ _ _ _ _)
   | (with_reducible exact ih6 _ _ _ _ _ _ _ _ _)
   | (with_reducible exact dataflowref27_fits.mono _ _ _ _ _ _ _ _)
   | (with_reducible exact dataflowref27_nodes.mono _ _ _ _)
   | (with_reducible exact LeO.refl _)
   | (with_reducible exact LeO.none _)
   | (with_reducible refine LeO.ite ?_ ?_)
   | (with_reducible refine LeO.bind ?_ (fun _ => ?_))
   | exact ih0 _ _ _ _
   | exact ih1 _ _ _ _
   | exact ih2 _ _ _ _ _ _ _ _ _
   | exact ih3 _ _ _ _ _ _ _ _ _ _
   | exact ih4 _ _ _ _ _ _ _ _ _ _
   | exact ih5 _ _ _ _ _ _ _ _ _
   | exact ih6 _ _ _ _ _ _ _ _ _
   | exact dataflowref27_fits.mono _ _ _ _ _ _ _ _
   | exact dataflowref27_nodes.mono _ _ _ _
   | exact LeO.none _
   | refine LeO.ite ?_ ?_
   | refine LeO.bind ?_ (fun _ => ?_)
  ·intro y0 y1 y2 y3 y4 y5 y6 y7 y8
   unfold dataflowref27_Check.j5
   repeat' first
   | (with_reducible exact ih0 _ _ _ _)
   | (with_reducible exact ih1 _ _ _ _)
   | (with_reducible exact ih2 _ _ _ _ _ _ _ _ _)
   | (with_reducible exact ih3 _ _ _ _ _ _ _ _ _ _)
   | (with_reducible exact ih4 _ _ _ _ _ _ _ _ _ _)
   | (with_reducible exact ih5 _ _ _ _ _ _ _ _ _)
   | (with_reducible exact ih6 _ _ _ _ _ _ _ _ _)
   | (with_reducible exact dataflowref27_fits.mono _ _ _ _ _ _ _ _)
   | (with_reducible exact dataflowref27_nodes.mono _ _ _ _)
   | (with_reducible exact LeO.refl _)
   | (with_reducible exact LeO.none _)
   | (with_reducible refine LeO.ite ?_ ?_)
   | (with_reducible refine LeO.bind ?_ (fun _ => ?_))
   | exact ih0 _ _ _ _
   | exact ih1 _ _ _ _
   | exact ih2 _ _ _ _ _ _ _ _ _
   | exact ih3 _ _ _ _ _ _ _ _ _ _
   | exact ih4 _ _ _ _ _ _ _ _ _ _
   | exact ih5 _ _ _ _ _ _ _ _ _
   | exact ih6 _ _ _ _ _ _ _ _ _
   | exact dataflowref27_fits.mono _ _ _ _ _ _ _ _
   | exact dataflowref27_nodes.mono _ _ _ _
   | exact LeO.none _
   | refine LeO.ite ?_ ?_
   | refine LeO.bind ?_ (fun _ => ?_)
  ·intro y0 y1 y2 y3 y4 y5 y6 y7 y8
   unfold dataflowref27_Check.j6
   repeat' first
   | (with_reducible exact ih0 _ _ _ _)
   | (with_reducible exact ih1 _ _ _ _)
   | (with_reducible exact ih2 _ _ _ _ _ _ _ _ _)
   | (with_reducible exact ih3 _ _ _ _ _ _ _ _ _ _)
   | (with_reducible exact ih4 _ _ _ _ _ _ _ _ _ _)
   | (with_reducible exact ih5 _ _ _ _ _ _ _ _ _)
   | (with_reducible exact ih6 _ _ _ _ _ _ _ _ _)
   | (with_reducible exact dataflowref27_fits.mono _ _ _ _ _ _ _ _)
   | (with_reducible exact dataflowref27_nodes.mono _ _ _ _)
   | (with_reducible exact LeO.refl _)
   | (with_reducible exact LeO.none _)
   | (with_reducible refine LeO.ite ?_ ?_)
   | (with_reducible refine LeO.bind ?_ (fun _ => ?_))
   | exact ih0 _ _ _ _
   | exact ih1 _ _ _ _
   | exact ih2 _ _ _ _ _ _ _ _ _
   | exact ih3 _ _ _ _ _ _ _ _ _ _
   | exact ih4 _ _ _ _ _ _ _ _ _ _
   | exact ih5 _ _ _ _ _ _ _ _ _
   | exact ih6 _ _ _ _ _ _ _ _ _
   | exact dataflowref27_fits.mono _ _ _ _ _ _ _ _
   | exact dataflowref27_nodes.mono _ _ _ _
   | exact LeO.none _
   | refine LeO.ite ?_ ?_
   | refine LeO.bind ?_ (fun _ => ?_)
theorem dataflowref27_Check.mono : ∀ a0 a1 a2 k, LeO (dataflowref27_Check.f k a0 a1 a2) (dataflowref27_Check.f (k + 1) a0 a1 a2) := by
 intro a0 a1 a2 k
 obtain ⟨ih0, ih1, ih2, ih3, ih4, ih5, ih6⟩ := dataflowref27_Check.mono_l k
 unfold dataflowref27_Check.f
 repeat' first
   | (with_reducible exact ih0 _ _ _ _)
   | (with_reducible exact ih1 _ _ _ _)
   | (with_reducible exact ih2 _ _ _ _ _ _ _ _ _)
   | (with_reducible exact ih3 _ _ _ _ _ _ _ _ _ _)
   | (with_reducible exact ih4 _ _ _ _ _ _ _ _ _ _)
   | (with_reducible exact ih5 _ _ _ _ _ _ _ _ _)
   | (with_reducible exact ih6 _ _ _ _ _ _ _ _ _)
   | (with_reducible exact dataflowref27_fits.mono _ _ _ _ _ _ _ _)
   | (with_reducible exact dataflowref27_nodes.mono _ _ _ _)
   | (with_reducible exact LeO.refl _)
   | (with_reducible exact LeO.none _)
   | (with_reducible refine LeO.ite ?_ ?_)
   | (with_reducible refine LeO.bind ?_ (fun _ => ?_))
   | exact ih0 _ _ _ _
   | exact ih1 _ _ _ _
   | exact ih2 _ _ _ _ _ _ _ _ _
   | exact ih3 _ _ _ _ _ _ _ _ _ _
   | exact ih4 _ _ _ _ _ _ _ _ _ _
   | exact ih5 _ _ _ _ _ _ _ _ _
   | exact ih6 _ _ _ _ _ _ _ _ _
   | exact dataflowref27_fits.mono _ _ _ _ _ _ _ _
   | exact dataflowref27_nodes.mono _ _ _ _
   | exact LeO.none _
   | refine LeO.ite ?_ ?_
   | refine LeO.bind ?_ (fun _ => ?_)
def dataflowref27_Check.T17 : Bool × List (List Nat × List Nat) := (true, [([], []), ([0], [0]), ([1], [1]), ([2], [2]), ([3, 2], [2, 3]), ([2], [2]), ([5, 2], [2, 5]), ([4, 6, 2], [2, 4, 6]), ([7, 2], [2, 7]), ([2], [2]), ([8, 9, 2, 2], [2, 8, 9]), ([10, 2], [2, 10]), ([2, 11], [2, 11]), ([12, 10], [12])])
def dataflowref27_Check.B17 : List Nat := [0, 1, 3, 7, 15, 7, 39, 127, 255, 7, 1023, 2047, 4095, 8191]
theorem dataflowref27_Check.tab17 : rtab .any (opsOf Try.f4 17) = dataflowref27_Check.T17 := by kernel_rfl
theorem dataflowref27_Check.bits17 : waitsOk dataflowref27_Check.T17.2 dataflowref27_Check.B17 = true := by kernel_rfl
set_option maxHeartbeats 8000000 in
set_option maxRecDepth 100000 in
theorem dataflowref27_Check.calls (k : Nat) (A0_0 : Option Addr) (c0_0 : Nat) (l0_0 : List (S36)) (A0_1 : Option Addr) (c0_1 : Nat) (l0_1 : List (S33)) (a0_2 : Int) (r : Int) (w : World) (hr0_0 : Kd.C k36 w A0_0 l0_0.length l0_0) (hc0_0 : l0_0.length ≤ c0_0) (hr0_1 : Kd.C k33 w A0_1 l0_1.length l0_1) (hc0_1 : l0_1.length ≤ c0_1) (h : dataflowref27_Check.f k l0_0 l0_1 a0_2 = some r) :
  Calls Try.prog 4 #[.agg #[.slice A0_0 l0_0.length c0_0, .slice A0_1 l0_1.length c0_1, .int .i64 a0_2]] w fun e w' => e = .returned (.int .i64 r) ∧ Below w.heap.size w w' := by
 have hu25 := Try.underlying25
 have hu33 := Try.underlying33
 have HR0_0 := Aside0.mk hr0_0
 have HC0_0 := Aside0.mk hc0_0
 clear hr0_0 hc0_0
 have HR0_1 := Aside0.mk hr0_1
 have HC0_1 := Aside0.mk hc0_1
 clear hr0_1 hc0_1
 have HB := Aside0.mk (Below.refl w.heap.size w)
 have H : (if (l0_0.length : Int) > 8192 then (dataflowref27_Check.j0 k true l0_0 l0_1 a0_2) else (dataflowref27_Check.j0 k (decide ((l0_1.length : Int) > 32768)) l0_0 l0_1 a0_2)) = some r := h
 clear h
 have HC2 := Aside0.mk H
 clear H
 go_enter Try.func4, Try.ntmps4
 go_upto_region 1 with (first | ((with_reducible refine gate_dst (N := 1) rfl ?_); (try (refine gate_guard (by rfl) ?_; dsimp only)); refine box_event ?hg (N := 1) ?hd (cs := #[.slice A0_0 l0_0.length c0_0, .slice A0_1 l0_1.length c0_1, .int .i64 a0_2]) (t := 25) ?hr ?_; (case hd => rfl); (case hg => rfl); (case hr => first | (go_simp; done) | (go_simp; rfl)); intro gb136 hg w3 hbox hb; have n0_ := Aside0.mk (below_step (by repeat with_reducible first | exact HB.out | apply below_alloc | apply pw_below_drewN | apply below_drew1) hb); have n1_ := Aside0.mk (hbox); have n2_ := Aside0.mk ((by rw [hg]; exact (below_size (by repeat with_reducible first | exact HB.out | apply below_alloc | apply pw_below_drewN | apply below_drew1)) : w.heap.size ≤ gb136)); have n3_ := Aside0.mk ((by rw [hg]; exact (below_size (by repeat with_reducible first | exact HB.out | apply below_alloc | apply pw_below_drewN | apply below_drew1)) : w.heap.size ≤ gb136)); clear HB; have HB := n0_; have BK136 := n1_; have GW136 := n2_; have GE136 := n3_; clear n0_ n1_ n2_ n3_; clear hb hbox hg))
 (try simp only [Act.put, List.setIfInBounds_toArray, List.set_cons_zero, List.set_cons_succ])
 go_cut [16] (fun v16 wc => ∃ (kq : Nat) (x16_1 : Bool), v16 = .bool x16_1 ∧ Aside0 (dataflowref27_Check.j0 kq x16_1 l0_0 l0_1 a0_2 = some r) ∧ Aside0 (kq ≤ k) ∧ Aside0 (wc.heap[gb136]? = some (.cells #[(.slice A0_0 l0_0.length c0_0), (.slice A0_1 l0_1.length c0_1), .int .i64 a0_2] 25 (0, 0))) ∧ Aside0 (Below w.heap.size w wc))
 case first =>
  have H := HC2.out
  clear HC2
  by_cases c4 : (l0_0.length : Int) > 8192
  ·rw [if_pos c4] at H
   have c4b0 : decide (8192 < (l0_0.length : Int)) = true := decide_eq_true c4
   have c4b1 : decide (8192 < l0_0.length) = true := decide_eq_true (by omega)
   clear c4
   (first | rw [c4b0] | (simp only [i64_w, i32_w]; rw [c4b0]) | skip)
   have H' := Aside0.mk H
   clear H
   have hcz5_0 : w3.cell? ⟨gb136, 0, none⟩ = some (.slice A0_0 l0_0.length c0_0) := (blk_cell BK136.out 0).trans rfl
   have hcz5_1 : w3.cell? ⟨gb136, 1, none⟩ = some (.slice A0_1 l0_1.length c0_1) := (blk_cell BK136.out 1).trans rfl
   have hcz5_2 : w3.cell? ⟨gb136, 2, none⟩ = some (.int .i64 a0_2) := (blk_cell BK136.out 2).trans rfl
   have hfz5_0 := blk_frozen BK136.out 0
   have hfz5_1 := blk_frozen BK136.out 1
   have hfz5_2 := blk_frozen BK136.out 2
   go_wp2
   go_meet
   case rel => exact ⟨_, (true), (by first | rfl | (simp; done) | (simp [*]; done)), H', ⟨by first | omega | exact Nat.le_refl _⟩, ⟨by (with_reducible repeat first | apply bn | apply bd | apply ba); exact BK136.out⟩, ⟨by repeat with_reducible first | exact HB.out | apply below_alloc | apply pw_below_drewN | apply below_drew1 | refine below_set ?_ GE136.out⟩⟩
  ·rw [if_neg c4] at H
   have c4b0 : decide (8192 < (l0_0.length : Int)) = false := decide_eq_false c4
   have c4b1 : decide (8192 < l0_0.length) = false := decide_eq_false (by omega)
   clear c4
   (first | rw [c4b0] | (simp only [i64_w, i32_w]; rw [c4b0]) | skip)
   have H' := Aside0.mk H
   clear H
   have hcz6_0 : w3.cell? ⟨gb136, 0, none⟩ = some (.slice A0_0 l0_0.length c0_0) := (blk_cell BK136.out 0).trans rfl
   have hcz6_1 : w3.cell? ⟨gb136, 1, none⟩ = some (.slice A0_1 l0_1.length c0_1) := (blk_cell BK136.out 1).trans rfl
   have hcz6_2 : w3.cell? ⟨gb136, 2, none⟩ = some (.int .i64 a0_2) := (blk_cell BK136.out 2).trans rfl
   have hfz6_0 := blk_frozen BK136.out 0
   have hfz6_1 := blk_frozen BK136.out 1
   have hfz6_2 := blk_frozen BK136.out 2
   go_wp2
   go_meet
   case rel => exact ⟨_, (decide ((l0_1.length : Int) > 32768)), (by first | rfl | (simp; done) | (simp [*]; done)), H', ⟨by first | omega | exact Nat.le_refl _⟩, ⟨by (with_reducible repeat first | apply bn | apply bd | apply ba); exact BK136.out⟩, ⟨by repeat with_reducible first | exact HB.out | apply below_alloc | apply pw_below_drewN | apply below_drew1 | refine below_set ?_ GE136.out⟩⟩
 case rest =>
  clear HC2
  (try clear p2);(try clear c4);(try clear c4b0);(try clear c4b1);(try clear hcz5_0);(try clear hcz5_1);(try clear hcz5_2);(try clear hcz6_0);(try clear hcz6_1);(try clear hcz6_2);(try clear hfz5_0);(try clear hfz5_1);(try clear hfz5_2);(try clear hfz6_0);(try clear hfz6_1);(try clear hfz6_2)
  obtain ⟨kq, x16_1, rfl, HA, HJ1, BK136, HB⟩ := hcut
  cases kq with
  | zero => exact absurd HA.out (by simp [dataflowref27_Check.j0])
  | succ kj1 =>
   have H := HA.out
   clear HA
   simp only [dataflowref27_Check.j0] at H
   by_cases c7 : x16_1 = true
   ·subst c7
    have H1 : (some 3) = some r := by rw [if_pos rfl] at H; exact H
    clear H
    have H := H1
    clear H1
    obtain rfl := Option.some.inj H
    go_wp2
    go_ret
    exact ⟨by first | rfl | (simp [errW_none, errW_some] <;> rfl) | (simp [*, errW_none, errW_some] <;> rfl), by repeat with_reducible first | exact HB.out | apply below_alloc | apply pw_below_drewN | apply below_drew1 | refine below_set ?_ GE136.out⟩
   ·replace c7 := Bool.eq_false_iff.mpr c7
    subst c7
    have H1 : ((dataflowref27_nodes.f kj1 l0_0 l0_1 a0_2).bind fun t137 => (if t137 = 0 then (dataflowref27_Check.l0 kj1 0 l0_0 l0_1 a0_2) else (some t137))) = some r := by rw [if_neg (show ¬ (false = true) by decide)] at H; exact H
    clear H
    have H := H1
    clear H1
    replace H := Option.bind_eq_some_iff.mp H
    obtain ⟨t137, A80, H⟩ := H
    replace H : (if t137 = 0 then (dataflowref27_Check.l0 kj1 0 l0_0 l0_1 a0_2) else (some t137)) = some r := H
    have A8 := Aside0.mk A80
    clear A80
    by_cases c9 : t137 = 0
    ·rw [if_pos c9] at H
     have c9b0 : (t137 == 0) = true := beq_iff_eq.mpr c9
     have c9b1 : (t137 != 0) = false := bne_eq_false_iff_eq.mpr c9
     clear c9
     have H' := Aside0.mk H
     clear H
     have hcz10_0 : wc.cell? ⟨gb136, 0, none⟩ = some (.slice A0_0 l0_0.length c0_0) := (blk_cell BK136.out 0).trans rfl
     have hcz10_1 : wc.cell? ⟨gb136, 1, none⟩ = some (.slice A0_1 l0_1.length c0_1) := (blk_cell BK136.out 1).trans rfl
     have hcz10_2 : wc.cell? ⟨gb136, 2, none⟩ = some (.int .i64 a0_2) := (blk_cell BK136.out 2).trans rfl
     have hfz10_0 := blk_frozen BK136.out 0
     have hfz10_1 := blk_frozen BK136.out 1
     have hfz10_2 := blk_frozen BK136.out 2
     go_wp2_with (first | ((with_reducible refine gate_callee (f := 11) rfl ?_); refine goesL_ (some 18) rfl rfl Try.func11 (by kernel_rfl) rfl #[.agg #[.slice A0_0 l0_0.length c0_0, .slice A0_1 l0_1.length c0_1, .int .i64 a0_2]] rfl (by (try simp only [List.map_toArray, List.map_cons, List.map_nil]); first | done | rfl) ?_; (with_reducible refine (dataflowref27_nodes.calls kj1 _ _ l0_0 _ _ l0_1 a0_2 t137 _ ?side1 ?side2 ?side3 ?side4 A8.out).mono ?_); (case side1 => repeat (first | exact (Kd.C_below HR0_0.out HB.out) | (with_reducible refine Kd.C_alloc ?_ _) | (with_reducible refine Kd.C_drewN ?_ _) | (with_reducible refine Kd.C_drew ?_))); (case side2 => exact HC0_0.out); (case side3 => repeat (first | exact (Kd.C_below HR0_1.out HB.out) | (with_reducible refine Kd.C_alloc ?_ _) | (with_reducible refine Kd.C_drewN ?_ _) | (with_reducible refine Kd.C_drew ?_))); (case side4 => exact HC0_1.out); rintro e w11 ⟨rfl, hb⟩; refine ⟨_, rfl, ?_⟩; have n0_ := Aside0.mk (blk_below (g := gb136) (o := .cells #[.slice A0_0 l0_0.length c0_0, .slice A0_1 l0_1.length c0_1, .int .i64 a0_2] 25 (0, 0)) (by (with_reducible repeat first | apply bn | apply bd | apply ba); exact BK136.out) hb); have n1_ := Aside0.mk (below_step (by repeat with_reducible first | exact HB.out | apply below_alloc | apply pw_below_drewN | apply below_drew1 | refine below_set ?_ GE136.out) hb); clear BK136; clear HB; have BK136 := n0_; have HB := n1_; clear n0_ n1_; (try clear hb); (try clear hb2); (try clear hk); (try clear hi)))
     go_loopg [4] kj1 (fun kq v4 w' => ∃ (x4_2 : Int), v4 = .int .i64 x4_2 ∧ Aside0 (dataflowref27_Check.l0 kq x4_2 l0_0 l0_1 a0_2 = some r) ∧ Aside0 (kq ≤ kj1) ∧ Aside0 (w'.heap[gb136]? = some (.cells #[(.slice A0_0 l0_0.length c0_0), (.slice A0_1 l0_1.length c0_1), .int .i64 a0_2] 25 (0, 0))) ∧ Aside0 (Below w.heap.size w w'))
     case atStart => exact ⟨(0), (by first | rfl | (simp; done) | (simp [*]; done)), H', ⟨Nat.le_refl _⟩, ⟨by (with_reducible repeat first | apply bn | apply bd | apply ba); exact BK136.out⟩, ⟨by repeat with_reducible first | exact HB.out | apply below_alloc | apply pw_below_drewN | apply below_drew1 | refine below_set ?_ GE136.out⟩⟩
     case round =>
      clear H'
      (try clear c1);(try clear p2);(try clear c4);(try clear c4b0);(try clear c4b1);(try clear c7);(try clear c9);(try clear c9b0);(try clear c9b1);(try clear c11);(try clear hcz10_0);(try clear hcz10_1);(try clear hcz10_2);(try clear hcz5_0);(try clear hcz5_1);(try clear hcz5_2);(try clear hcz6_0);(try clear hcz6_1);(try clear hcz6_2);(try clear hfz10_0);(try clear hfz10_1);(try clear hfz10_2);(try clear hfz5_0);(try clear hfz5_1);(try clear hfz5_2);(try clear hfz6_0);(try clear hfz6_1);(try clear hfz6_2);(try clear p2)
      obtain ⟨x4_2, rfl, HA, HK2, BK136, HB⟩ := hrel
      cases gk with
      | zero => exact absurd HA.out (by simp [dataflowref27_Check.l0])
      | succ k2 =>
       have H := HA.out
       clear HA
       simp only [dataflowref27_Check.l0] at H
       by_cases c12 : x4_2 < (l0_1.length : Int)
       ·rw [if_pos c12] at H
        have c12b0 : decide (x4_2 < (l0_1.length : Int)) = true := decide_eq_true c12
        clear c12
        by_cases c13 : 0 ≤ x4_2
        ·rw [if_pos c13] at H
         have c13b0 : decide (0 ≤ x4_2) = true := decide_eq_true c13
         clear c13
         have HC14 := Aside0.mk H
         clear H
         have hcz15_0 : wr.cell? ⟨gb136, 0, none⟩ = some (.slice A0_0 l0_0.length c0_0) := (blk_cell BK136.out 0).trans rfl
         have hcz15_1 : wr.cell? ⟨gb136, 1, none⟩ = some (.slice A0_1 l0_1.length c0_1) := (blk_cell BK136.out 1).trans rfl
         have hcz15_2 : wr.cell? ⟨gb136, 2, none⟩ = some (.int .i64 a0_2) := (blk_cell BK136.out 2).trans rfl
         have hfz15_0 := blk_frozen BK136.out 0
         have hfz15_1 := blk_frozen BK136.out 1
         have hfz15_2 := blk_frozen BK136.out 2
         have p138 : 0 ≤ (x4_2 : Int) := of_decide_eq_true (by first | (with_reducible assumption) | assumption)
         have q138 : x4_2 < (l0_1.length : Int) := of_decide_eq_true (by first | (with_reducible assumption) | assumption)
         obtain ⟨ad138, e138, hx138_0, hx138_1, hx138_2, hx138_3⟩ := at_T33 HR0_1.out x4_2 p138 q138
         cases e138
         replace hx138_0 := (HB.out.cell (World.block_lt_of_cell? w _ hx138_0)).trans hx138_0
         replace hx138_1 := (HB.out.cell (World.block_lt_of_cell? w _ hx138_1)).trans hx138_1
         replace hx138_2 := (HB.out.cell (World.block_lt_of_cell? w _ hx138_2)).trans hx138_2
         replace hx138_3 := (HB.out.cell (World.block_lt_of_cell? w _ hx138_3)).trans hx138_3
         replace p138 := eq_true p138
         replace q138 := eq_true q138
         go_upto_region 10 with (first | ((with_reducible refine gate_dst (N := 5) rfl ?_); (try (refine gate_guard (by rfl) ?_; dsimp only)); refine box_event ?hg (N := 5) ?hd (cs := #[.int .i64 0, .int .i64 0, .int .i64 0, .int .i64 0]) (t := 33) ?hr ?_; (case hd => rfl); (case hg => rfl); (case hr => first | (go_simp; done) | (go_simp; rfl)); intro gb139 hg w16 hbox hb; have n0_ := Aside0.mk (blk_below (g := gb136) (o := .cells #[.slice A0_0 l0_0.length c0_0, .slice (some ad138) l0_1.length c0_1, .int .i64 a0_2] 25 (0, 0)) (by (with_reducible repeat first | apply bn | apply bd | apply ba); exact BK136.out) hb); have n1_ := Aside0.mk (below_step (by repeat with_reducible first | exact HB.out | apply below_alloc | apply pw_below_drewN | apply below_drew1 | refine below_set ?_ GE136.out) hb); have n2_ := Aside0.mk (hbox); have n3_ := Aside0.mk ((by rw [hg]; exact (below_size (by repeat with_reducible first | exact HB.out | apply below_alloc | apply pw_below_drewN | apply below_drew1 | refine below_set ?_ GE136.out)) : w.heap.size ≤ gb139)); have n4_ := Aside0.mk ((by rw [hg]; exact (below_size (by repeat with_reducible first | exact HB.out | apply below_alloc | apply pw_below_drewN | apply below_drew1 | refine below_set ?_ GE136.out)) : w.heap.size ≤ gb139)); have n5_ := Aside0.mk ((by rw [hg]; exact Nat.ne_of_lt (blk_lt (g := gb136) (o := .cells #[.slice A0_0 l0_0.length c0_0, .slice (some ad138) l0_1.length c0_1, .int .i64 a0_2] 25 (0, 0)) (by (with_reducible repeat first | apply bn | apply bd | apply ba); exact BK136.out)) : gb136 ≠ gb139)); have n6_ := Aside0.mk ((by rw [hg]; exact Nat.ne_of_gt (blk_lt (g := gb136) (o := .cells #[.slice A0_0 l0_0.length c0_0, .slice (some ad138) l0_1.length c0_1, .int .i64 a0_2] 25 (0, 0)) (by (with_reducible repeat first | apply bn | apply bd | apply ba); exact BK136.out)) : gb139 ≠ gb136)); clear BK136; clear HB; have BK136 := n0_; have HB := n1_; have BK139 := n2_; have GW139 := n3_; have GE139 := n4_; have NB136_139 := n5_; have NB139_136 := n6_; clear n0_ n1_ n2_ n3_ n4_ n5_ n6_; clear hb hbox hg; have hnb17 := NB139_136.out; have hnc17 := NB136_139.out; have hcz18_0 : w16.cell? ⟨gb139, 0, none⟩ = some (.int .i64 0) := (blk_cell BK139.out 0).trans rfl; have hcz18_1 : w16.cell? ⟨gb139, 1, none⟩ = some (.int .i64 0) := (blk_cell BK139.out 1).trans rfl; have hcz18_2 : w16.cell? ⟨gb139, 2, none⟩ = some (.int .i64 0) := (blk_cell BK139.out 2).trans rfl; have hcz18_3 : w16.cell? ⟨gb139, 3, none⟩ = some (.int .i64 0) := (blk_cell BK139.out 3).trans rfl; have hfz18_0 := blk_frozen BK139.out 0; have hfz18_1 := blk_frozen BK139.out 1; have hfz18_2 := blk_frozen BK139.out 2; have hfz18_3 := blk_frozen BK139.out 3))
         (try simp only [Act.put, List.setIfInBounds_toArray, List.set_cons_zero, List.set_cons_succ])
         go_cut [6] (fun v6 wc => ∃ (kq : Nat) (x6_13 : Bool), v6 = .bool x6_13 ∧ Aside0 (dataflowref27_Check.j2 kq x4_2 x6_13 l0_0 l0_1 a0_2 ((rd_T33 l0_1 x4_2).f0) ((rd_T33 l0_1 x4_2).f1) ((rd_T33 l0_1 x4_2).f2) ((rd_T33 l0_1 x4_2).f3) = some r) ∧ Aside0 (kq ≤ k2) ∧ Aside0 (wc.heap[gb136]? = some (.cells #[(.slice A0_0 l0_0.length c0_0), (.slice (some ad138) l0_1.length c0_1), .int .i64 a0_2] 25 (0, 0))) ∧ Aside0 (wc.heap[gb139]? = some (.cells #[.int .i64 ((rd_T33 l0_1 x4_2).f0), .int .i64 ((rd_T33 l0_1 x4_2).f1), .int .i64 ((rd_T33 l0_1 x4_2).f2), .int .i64 ((rd_T33 l0_1 x4_2).f3)] 33 (0, 0))) ∧ Aside0 (Below w.heap.size w wc))
         case first =>
          have H := HC14.out
          clear HC14
          by_cases c19 : ((rd_T33 l0_1 x4_2).f2) = 1
          ·rw [if_pos c19] at H
           have c19b0 : (((rd_T33 l0_1 x4_2).f2) == 1) = true := beq_iff_eq.mpr c19
           have c19b1 : (((rd_T33 l0_1 x4_2).f2) != 1) = false := bne_eq_false_iff_eq.mpr c19
           clear c19
           (first | rw [c19b0] | (simp only [i64_w, i32_w]; rw [c19b0]) | skip)
           have H' := Aside0.mk H
           clear H
           have hnb20 := NB139_136.out
           have hnc20 := NB136_139.out
           have hcz21_0 : w16.cell? ⟨gb139, 0, none⟩ = some (.int .i64 0) := (blk_cell BK139.out 0).trans rfl
           have hcz21_1 : w16.cell? ⟨gb139, 1, none⟩ = some (.int .i64 0) := (blk_cell BK139.out 1).trans rfl
           have hcz21_2 : w16.cell? ⟨gb139, 2, none⟩ = some (.int .i64 0) := (blk_cell BK139.out 2).trans rfl
           have hcz21_3 : w16.cell? ⟨gb139, 3, none⟩ = some (.int .i64 0) := (blk_cell BK139.out 3).trans rfl
           have hfz21_0 := blk_frozen BK139.out 0
           have hfz21_1 := blk_frozen BK139.out 1
           have hfz21_2 := blk_frozen BK139.out 2
           have hfz21_3 := blk_frozen BK139.out 3
           go_wp2
           go_meet
           case rel => exact ⟨_, (true), (by first | rfl | (simp; done) | (simp [*]; done)), H', ⟨by have := HJ1.out; have := HK2.out; first | omega | exact Nat.le_refl _⟩, ⟨by (with_reducible repeat first | apply bn | apply bd | apply ba); refine blk_far ?_ NB136_139.out _; refine blk_far ?_ NB136_139.out _; refine blk_far ?_ NB136_139.out _; refine blk_far ?_ NB136_139.out _; (with_reducible repeat first | apply bn | apply bd | apply ba); exact BK136.out⟩, ⟨by (with_reducible repeat first | apply bn | apply bd | apply ba); refine blk_put (cs := #[.int .i64 ((rd_T33 l0_1 x4_2).f0), .int .i64 ((rd_T33 l0_1 x4_2).f1), .int .i64 ((rd_T33 l0_1 x4_2).f2), .int .i64 0]) ?_ 3 _ rfl; refine blk_put (cs := #[.int .i64 ((rd_T33 l0_1 x4_2).f0), .int .i64 ((rd_T33 l0_1 x4_2).f1), .int .i64 0, .int .i64 0]) ?_ 2 _ rfl; refine blk_put (cs := #[.int .i64 ((rd_T33 l0_1 x4_2).f0), .int .i64 0, .int .i64 0, .int .i64 0]) ?_ 1 _ rfl; refine blk_put (cs := #[.int .i64 0, .int .i64 0, .int .i64 0, .int .i64 0]) ?_ 0 _ rfl; (with_reducible repeat first | apply bn | apply bd | apply ba); exact BK139.out⟩, ⟨by repeat with_reducible first | exact HB.out | apply below_alloc | apply pw_below_drewN | apply below_drew1 | refine below_set ?_ GE136.out | refine below_set ?_ GE139.out⟩⟩
          ·rw [if_neg c19] at H
           have c19b0 : (((rd_T33 l0_1 x4_2).f2) == 1) = false := beq_eq_false_iff_ne.mpr c19
           have c19b1 : (((rd_T33 l0_1 x4_2).f2) != 1) = true := bne_iff_ne.mpr c19
           (first | rw [c19b0] | (simp only [i64_w, i32_w]; rw [c19b0]) | skip)
           have H' := Aside0.mk H
           clear H
           have hnb22 := NB139_136.out
           have hnc22 := NB136_139.out
           have hcz23_0 : w16.cell? ⟨gb139, 0, none⟩ = some (.int .i64 0) := (blk_cell BK139.out 0).trans rfl
           have hcz23_1 : w16.cell? ⟨gb139, 1, none⟩ = some (.int .i64 0) := (blk_cell BK139.out 1).trans rfl
           have hcz23_2 : w16.cell? ⟨gb139, 2, none⟩ = some (.int .i64 0) := (blk_cell BK139.out 2).trans rfl
           have hcz23_3 : w16.cell? ⟨gb139, 3, none⟩ = some (.int .i64 0) := (blk_cell BK139.out 3).trans rfl
           have hfz23_0 := blk_frozen BK139.out 0
           have hfz23_1 := blk_frozen BK139.out 1
           have hfz23_2 := blk_frozen BK139.out 2
           have hfz23_3 := blk_frozen BK139.out 3
           go_wp2
           go_meet
           case rel => exact ⟨_, ((((rd_T33 l0_1 x4_2).f2) == 5)), (by first | rfl | (simp; done) | (simp [*]; done)), H', ⟨by have := HJ1.out; have := HK2.out; first | omega | exact Nat.le_refl _⟩, ⟨by (with_reducible repeat first | apply bn | apply bd | apply ba); refine blk_far ?_ NB136_139.out _; refine blk_far ?_ NB136_139.out _; refine blk_far ?_ NB136_139.out _; refine blk_far ?_ NB136_139.out _; (with_reducible repeat first | apply bn | apply bd | apply ba); exact BK136.out⟩, ⟨by (with_reducible repeat first | apply bn | apply bd | apply ba); refine blk_put (cs := #[.int .i64 ((rd_T33 l0_1 x4_2).f0), .int .i64 ((rd_T33 l0_1 x4_2).f1), .int .i64 ((rd_T33 l0_1 x4_2).f2), .int .i64 0]) ?_ 3 _ rfl; refine blk_put (cs := #[.int .i64 ((rd_T33 l0_1 x4_2).f0), .int .i64 ((rd_T33 l0_1 x4_2).f1), .int .i64 0, .int .i64 0]) ?_ 2 _ rfl; refine blk_put (cs := #[.int .i64 ((rd_T33 l0_1 x4_2).f0), .int .i64 0, .int .i64 0, .int .i64 0]) ?_ 1 _ rfl; refine blk_put (cs := #[.int .i64 0, .int .i64 0, .int .i64 0, .int .i64 0]) ?_ 0 _ rfl; (with_reducible repeat first | apply bn | apply bd | apply ba); exact BK139.out⟩, ⟨by repeat with_reducible first | exact HB.out | apply below_alloc | apply pw_below_drewN | apply below_drew1 | refine below_set ?_ GE136.out | refine below_set ?_ GE139.out⟩⟩
         case rest =>
          clear HC14
          (try clear c1);(try clear p1);(try clear q1);(try clear hx1);(try clear c2);(try clear p2);(try clear c4);(try clear c4b0);(try clear c4b1);(try clear c7);(try clear c9);(try clear c9b0);(try clear c9b1);(try clear c11);(try clear c12);(try clear c12b0);(try clear c13);(try clear c13b0);(try clear p13);(try clear q13);(try clear hx13);(try clear c17);(try clear c19);(try clear c19b0);(try clear c19b1);(try clear c20);(try clear c22);(try clear hcz10_0);(try clear hcz10_1);(try clear hcz10_2);(try clear hcz15_0);(try clear hcz15_1);(try clear hcz15_2);(try clear hcz18_0);(try clear hcz18_1);(try clear hcz18_2);(try clear hcz18_3);(try clear hcz21_0);(try clear hcz21_1);(try clear hcz21_2);(try clear hcz21_3);(try clear hcz23_0);(try clear hcz23_1);(try clear hcz23_2);(try clear hcz23_3);(try clear hcz5_0);(try clear hcz5_1);(try clear hcz5_2);(try clear hcz6_0);(try clear hcz6_1);(try clear hcz6_2);(try clear hfz10_0);(try clear hfz10_1);(try clear hfz10_2);(try clear hfz15_0);(try clear hfz15_1);(try clear hfz15_2);(try clear hfz18_0);(try clear hfz18_1);(try clear hfz18_2);(try clear hfz18_3);(try clear hfz21_0);(try clear hfz21_1);(try clear hfz21_2);(try clear hfz21_3);(try clear hfz23_0);(try clear hfz23_1);(try clear hfz23_2);(try clear hfz23_3);(try clear hfz5_0);(try clear hfz5_1);(try clear hfz5_2);(try clear hfz6_0);(try clear hfz6_1);(try clear hfz6_2);(try clear hx138_0);(try clear hx138_1);(try clear hx138_2);(try clear hx138_3);(try clear p138);(try clear p2);(try clear q138)
          obtain ⟨kq, x6_13, rfl, HA, HJ13, BK136, BK139, HB⟩ := hcut
          cases kq with
          | zero => exact absurd HA.out (by simp [dataflowref27_Check.j2])
          | succ kj13 =>
           have H := HA.out
           clear HA
           simp only [dataflowref27_Check.j2] at H
           have HC24 := Aside0.mk H
           clear H
           go_upto_region 11 with (fail)
           go_cut [42] (fun v42 wc => ∃ (kq : Nat) (x42_23 : Bool), v42 = .bool x42_23 ∧ Aside0 (dataflowref27_Check.j3 kq x4_2 x6_13 x42_23 l0_0 l0_1 a0_2 ((rd_T33 l0_1 x4_2).f0) ((rd_T33 l0_1 x4_2).f1) ((rd_T33 l0_1 x4_2).f2) ((rd_T33 l0_1 x4_2).f3) = some r) ∧ Aside0 (kq ≤ kj13) ∧ Aside0 (wc.heap[gb136]? = some (.cells #[(.slice A0_0 l0_0.length c0_0), (.slice (some ad138) l0_1.length c0_1), .int .i64 a0_2] 25 (0, 0))) ∧ Aside0 (wc.heap[gb139]? = some (.cells #[.int .i64 ((rd_T33 l0_1 x4_2).f0), .int .i64 ((rd_T33 l0_1 x4_2).f1), .int .i64 ((rd_T33 l0_1 x4_2).f2), .int .i64 ((rd_T33 l0_1 x4_2).f3)] 33 (0, 0))) ∧ Aside0 (Below w.heap.size w wc))
           case first =>
            have H := HC24.out
            clear HC24
            by_cases c25 : ((rd_T33 l0_1 x4_2).f0) < 0
            ·rw [if_pos c25] at H
             have c25b0 : decide (((rd_T33 l0_1 x4_2).f0) < 0) = true := decide_eq_true c25
             clear c25
             (first | rw [c25b0] | (simp only [i64_w, i32_w]; rw [c25b0]) | skip)
             have H' := Aside0.mk H
             clear H
             have hnb26 := NB139_136.out
             have hnc26 := NB136_139.out
             have hcz27_0 : wc.cell? ⟨gb139, 0, none⟩ = some (.int .i64 ((rd_T33 l0_1 x4_2).f0)) := (blk_cell BK139.out 0).trans rfl
             have hcz27_1 : wc.cell? ⟨gb139, 1, none⟩ = some (.int .i64 ((rd_T33 l0_1 x4_2).f1)) := (blk_cell BK139.out 1).trans rfl
             have hcz27_2 : wc.cell? ⟨gb139, 2, none⟩ = some (.int .i64 ((rd_T33 l0_1 x4_2).f2)) := (blk_cell BK139.out 2).trans rfl
             have hcz27_3 : wc.cell? ⟨gb139, 3, none⟩ = some (.int .i64 ((rd_T33 l0_1 x4_2).f3)) := (blk_cell BK139.out 3).trans rfl
             have hfz27_0 := blk_frozen BK139.out 0
             have hfz27_1 := blk_frozen BK139.out 1
             have hfz27_2 := blk_frozen BK139.out 2
             have hfz27_3 := blk_frozen BK139.out 3
             go_wp2
             go_meet
             case rel => exact ⟨_, (true), (by first | rfl | (simp; done) | (simp [*]; done)), H', ⟨by have := HJ1.out; have := HK2.out; have := HJ13.out; first | omega | exact Nat.le_refl _⟩, ⟨by (with_reducible repeat first | apply bn | apply bd | apply ba); exact BK136.out⟩, ⟨by (with_reducible repeat first | apply bn | apply bd | apply ba); exact BK139.out⟩, ⟨by repeat with_reducible first | exact HB.out | apply below_alloc | apply pw_below_drewN | apply below_drew1 | refine below_set ?_ GE136.out | refine below_set ?_ GE139.out⟩⟩
            ·rw [if_neg c25] at H
             have c25b0 : decide (((rd_T33 l0_1 x4_2).f0) < 0) = false := decide_eq_false c25
             clear c25
             (first | rw [c25b0] | (simp only [i64_w, i32_w]; rw [c25b0]) | skip)
             by_cases c28 : ((rd_T33 l0_1 x4_2).f0) ≥ (l0_0.length : Int)
             ·rw [if_pos c28] at H
              have c28b0 : decide ((l0_0.length : Int) ≤ ((rd_T33 l0_1 x4_2).f0)) = true := decide_eq_true c28
              clear c28
              have H' := Aside0.mk H
              clear H
              have hnb29 := NB139_136.out
              have hnc29 := NB136_139.out
              have hcz30_0 : wc.cell? ⟨gb139, 0, none⟩ = some (.int .i64 ((rd_T33 l0_1 x4_2).f0)) := (blk_cell BK139.out 0).trans rfl
              have hcz30_1 : wc.cell? ⟨gb139, 1, none⟩ = some (.int .i64 ((rd_T33 l0_1 x4_2).f1)) := (blk_cell BK139.out 1).trans rfl
              have hcz30_2 : wc.cell? ⟨gb139, 2, none⟩ = some (.int .i64 ((rd_T33 l0_1 x4_2).f2)) := (blk_cell BK139.out 2).trans rfl
              have hcz30_3 : wc.cell? ⟨gb139, 3, none⟩ = some (.int .i64 ((rd_T33 l0_1 x4_2).f3)) := (blk_cell BK139.out 3).trans rfl
              have hfz30_0 := blk_frozen BK139.out 0
              have hfz30_1 := blk_frozen BK139.out 1
              have hfz30_2 := blk_frozen BK139.out 2
              have hfz30_3 := blk_frozen BK139.out 3
              have hcz31_0 : wc.cell? ⟨gb136, 0, none⟩ = some (.slice A0_0 l0_0.length c0_0) := (blk_cell BK136.out 0).trans rfl
              have hcz31_1 : wc.cell? ⟨gb136, 1, none⟩ = some (.slice (some ad138) l0_1.length c0_1) := (blk_cell BK136.out 1).trans rfl
              have hcz31_2 : wc.cell? ⟨gb136, 2, none⟩ = some (.int .i64 a0_2) := (blk_cell BK136.out 2).trans rfl
              have hfz31_0 := blk_frozen BK136.out 0
              have hfz31_1 := blk_frozen BK136.out 1
              have hfz31_2 := blk_frozen BK136.out 2
              go_wp2
              go_meet
              case rel => exact ⟨_, (true), (by first | rfl | (simp; done) | (simp [*]; done)), H', ⟨by have := HJ1.out; have := HK2.out; have := HJ13.out; first | omega | exact Nat.le_refl _⟩, ⟨by (with_reducible repeat first | apply bn | apply bd | apply ba); exact BK136.out⟩, ⟨by (with_reducible repeat first | apply bn | apply bd | apply ba); exact BK139.out⟩, ⟨by repeat with_reducible first | exact HB.out | apply below_alloc | apply pw_below_drewN | apply below_drew1 | refine below_set ?_ GE136.out | refine below_set ?_ GE139.out⟩⟩
             ·rw [if_neg c28] at H
              have c28b0 : decide ((l0_0.length : Int) ≤ ((rd_T33 l0_1 x4_2).f0)) = false := decide_eq_false c28
              clear c28
              by_cases c32 : ((rd_T33 l0_1 x4_2).f1) < 0
              ·rw [if_pos c32] at H
               have c32b0 : decide (((rd_T33 l0_1 x4_2).f1) < 0) = true := decide_eq_true c32
               clear c32
               have H' := Aside0.mk H
               clear H
               have hnb33 := NB139_136.out
               have hnc33 := NB136_139.out
               have hcz34_0 : wc.cell? ⟨gb139, 0, none⟩ = some (.int .i64 ((rd_T33 l0_1 x4_2).f0)) := (blk_cell BK139.out 0).trans rfl
               have hcz34_1 : wc.cell? ⟨gb139, 1, none⟩ = some (.int .i64 ((rd_T33 l0_1 x4_2).f1)) := (blk_cell BK139.out 1).trans rfl
               have hcz34_2 : wc.cell? ⟨gb139, 2, none⟩ = some (.int .i64 ((rd_T33 l0_1 x4_2).f2)) := (blk_cell BK139.out 2).trans rfl
               have hcz34_3 : wc.cell? ⟨gb139, 3, none⟩ = some (.int .i64 ((rd_T33 l0_1 x4_2).f3)) := (blk_cell BK139.out 3).trans rfl
               have hfz34_0 := blk_frozen BK139.out 0
               have hfz34_1 := blk_frozen BK139.out 1
               have hfz34_2 := blk_frozen BK139.out 2
               have hfz34_3 := blk_frozen BK139.out 3
               have hcz35_0 : wc.cell? ⟨gb136, 0, none⟩ = some (.slice A0_0 l0_0.length c0_0) := (blk_cell BK136.out 0).trans rfl
               have hcz35_1 : wc.cell? ⟨gb136, 1, none⟩ = some (.slice (some ad138) l0_1.length c0_1) := (blk_cell BK136.out 1).trans rfl
               have hcz35_2 : wc.cell? ⟨gb136, 2, none⟩ = some (.int .i64 a0_2) := (blk_cell BK136.out 2).trans rfl
               have hfz35_0 := blk_frozen BK136.out 0
               have hfz35_1 := blk_frozen BK136.out 1
               have hfz35_2 := blk_frozen BK136.out 2
               go_wp2
               go_meet
               case rel => exact ⟨_, (true), (by first | rfl | (simp; done) | (simp [*]; done)), H', ⟨by have := HJ1.out; have := HK2.out; have := HJ13.out; first | omega | exact Nat.le_refl _⟩, ⟨by (with_reducible repeat first | apply bn | apply bd | apply ba); exact BK136.out⟩, ⟨by (with_reducible repeat first | apply bn | apply bd | apply ba); exact BK139.out⟩, ⟨by repeat with_reducible first | exact HB.out | apply below_alloc | apply pw_below_drewN | apply below_drew1 | refine below_set ?_ GE136.out | refine below_set ?_ GE139.out⟩⟩
              ·rw [if_neg c32] at H
               have c32b0 : decide (((rd_T33 l0_1 x4_2).f1) < 0) = false := decide_eq_false c32
               clear c32
               have H' := Aside0.mk H
               clear H
               have hnb36 := NB139_136.out
               have hnc36 := NB136_139.out
               have hcz37_0 : wc.cell? ⟨gb139, 0, none⟩ = some (.int .i64 ((rd_T33 l0_1 x4_2).f0)) := (blk_cell BK139.out 0).trans rfl
               have hcz37_1 : wc.cell? ⟨gb139, 1, none⟩ = some (.int .i64 ((rd_T33 l0_1 x4_2).f1)) := (blk_cell BK139.out 1).trans rfl
               have hcz37_2 : wc.cell? ⟨gb139, 2, none⟩ = some (.int .i64 ((rd_T33 l0_1 x4_2).f2)) := (blk_cell BK139.out 2).trans rfl
               have hcz37_3 : wc.cell? ⟨gb139, 3, none⟩ = some (.int .i64 ((rd_T33 l0_1 x4_2).f3)) := (blk_cell BK139.out 3).trans rfl
               have hfz37_0 := blk_frozen BK139.out 0
               have hfz37_1 := blk_frozen BK139.out 1
               have hfz37_2 := blk_frozen BK139.out 2
               have hfz37_3 := blk_frozen BK139.out 3
               have hcz38_0 : wc.cell? ⟨gb136, 0, none⟩ = some (.slice A0_0 l0_0.length c0_0) := (blk_cell BK136.out 0).trans rfl
               have hcz38_1 : wc.cell? ⟨gb136, 1, none⟩ = some (.slice (some ad138) l0_1.length c0_1) := (blk_cell BK136.out 1).trans rfl
               have hcz38_2 : wc.cell? ⟨gb136, 2, none⟩ = some (.int .i64 a0_2) := (blk_cell BK136.out 2).trans rfl
               have hfz38_0 := blk_frozen BK136.out 0
               have hfz38_1 := blk_frozen BK136.out 1
               have hfz38_2 := blk_frozen BK136.out 2
               go_wp2
               go_meet
               case rel => exact ⟨_, (decide (((rd_T33 l0_1 x4_2).f1) ≥ (l0_0.length : Int))), (by first | rfl | (simp; done) | (simp [*]; done)), H', ⟨by have := HJ1.out; have := HK2.out; have := HJ13.out; first | omega | exact Nat.le_refl _⟩, ⟨by (with_reducible repeat first | apply bn | apply bd | apply ba); exact BK136.out⟩, ⟨by (with_reducible repeat first | apply bn | apply bd | apply ba); exact BK139.out⟩, ⟨by repeat with_reducible first | exact HB.out | apply below_alloc | apply pw_below_drewN | apply below_drew1 | refine below_set ?_ GE136.out | refine below_set ?_ GE139.out⟩⟩
           case rest =>
            clear HC24
            (try clear c1);(try clear p1);(try clear q1);(try clear hx1);(try clear c2);(try clear p2);(try clear c3);(try clear c4);(try clear c4b0);(try clear c4b1);(try clear c7);(try clear c9);(try clear c9b0);(try clear c9b1);(try clear c11);(try clear c12);(try clear c12b0);(try clear c13);(try clear c13b0);(try clear p13);(try clear q13);(try clear hx13);(try clear c17);(try clear c19);(try clear c19b0);(try clear c19b1);(try clear c20);(try clear c22);(try clear c25);(try clear c25b0);(try clear c26);(try clear c28);(try clear c28b0);(try clear c29);(try clear c32);(try clear c32b0);(try clear c33);(try clear c36);(try clear hcz10_0);(try clear hcz10_1);(try clear hcz10_2);(try clear hcz15_0);(try clear hcz15_1);(try clear hcz15_2);(try clear hcz18_0);(try clear hcz18_1);(try clear hcz18_2);(try clear hcz18_3);(try clear hcz21_0);(try clear hcz21_1);(try clear hcz21_2);(try clear hcz21_3);(try clear hcz23_0);(try clear hcz23_1);(try clear hcz23_2);(try clear hcz23_3);(try clear hcz27_0);(try clear hcz27_1);(try clear hcz27_2);(try clear hcz27_3);(try clear hcz30_0);(try clear hcz30_1);(try clear hcz30_2);(try clear hcz30_3);(try clear hcz31_0);(try clear hcz31_1);(try clear hcz31_2);(try clear hcz34_0);(try clear hcz34_1);(try clear hcz34_2);(try clear hcz34_3);(try clear hcz35_0);(try clear hcz35_1);(try clear hcz35_2);(try clear hcz37_0);(try clear hcz37_1);(try clear hcz37_2);(try clear hcz37_3);(try clear hcz38_0);(try clear hcz38_1);(try clear hcz38_2);(try clear hcz5_0);(try clear hcz5_1);(try clear hcz5_2);(try clear hcz6_0);(try clear hcz6_1);(try clear hcz6_2);(try clear hfz10_0);(try clear hfz10_1);(try clear hfz10_2);(try clear hfz15_0);(try clear hfz15_1);(try clear hfz15_2);(try clear hfz18_0);(try clear hfz18_1);(try clear hfz18_2);(try clear hfz18_3);(try clear hfz21_0);(try clear hfz21_1);(try clear hfz21_2);(try clear hfz21_3);(try clear hfz23_0);(try clear hfz23_1);(try clear hfz23_2);(try clear hfz23_3);(try clear hfz27_0);(try clear hfz27_1);(try clear hfz27_2);(try clear hfz27_3);(try clear hfz30_0);(try clear hfz30_1);(try clear hfz30_2);(try clear hfz30_3);(try clear hfz31_0);(try clear hfz31_1);(try clear hfz31_2);(try clear hfz34_0);(try clear hfz34_1);(try clear hfz34_2);(try clear hfz34_3);(try clear hfz35_0);(try clear hfz35_1);(try clear hfz35_2);(try clear hfz37_0);(try clear hfz37_1);(try clear hfz37_2);(try clear hfz37_3);(try clear hfz38_0);(try clear hfz38_1);(try clear hfz38_2);(try clear hfz5_0);(try clear hfz5_1);(try clear hfz5_2);(try clear hfz6_0);(try clear hfz6_1);(try clear hfz6_2);(try clear hx138_0);(try clear hx138_1);(try clear hx138_2);(try clear hx138_3);(try clear p1);(try clear p13);(try clear p138);(try clear p2);(try clear q1);(try clear q13);(try clear q138)
            obtain ⟨kq, x42_23, rfl, HA, HJ23, BK136, BK139, HB⟩ := hcut
            cases kq with
            | zero => exact absurd HA.out (by simp [dataflowref27_Check.j3])
            | succ kj23 =>
             have H := HA.out
             clear HA
             simp only [dataflowref27_Check.j3] at H
             by_cases c39 : x42_23 = true
             ·subst c39
              have H1 : (some 4) = some r := by rw [if_pos rfl] at H; exact H
              clear H
              have H := H1
              clear H1
              obtain rfl := Option.some.inj H
              go_wp2
              go_ret
              exact ⟨by first | rfl | (simp [errW_none, errW_some] <;> rfl) | (simp [*, errW_none, errW_some] <;> rfl), by repeat with_reducible first | exact HB.out | apply below_alloc | apply pw_below_drewN | apply below_drew1 | refine below_set ?_ GE136.out | refine below_set ?_ GE139.out⟩
             ·replace c39 := Bool.eq_false_iff.mpr c39
              subst c39
              have H1 : (if ((rd_T33 l0_1 x4_2).f2) < 1 then (dataflowref27_Check.j4 kj23 x4_2 x6_13 true l0_0 l0_1 a0_2 ((rd_T33 l0_1 x4_2).f0) ((rd_T33 l0_1 x4_2).f1) ((rd_T33 l0_1 x4_2).f2) ((rd_T33 l0_1 x4_2).f3)) else (dataflowref27_Check.j4 kj23 x4_2 x6_13 (decide (((rd_T33 l0_1 x4_2).f2) > 5)) l0_0 l0_1 a0_2 ((rd_T33 l0_1 x4_2).f0) ((rd_T33 l0_1 x4_2).f1) ((rd_T33 l0_1 x4_2).f2) ((rd_T33 l0_1 x4_2).f3))) = some r := by rw [if_neg (show ¬ (false = true) by decide)] at H; exact H
              clear H
              have H := H1
              clear H1
              have HC40 := Aside0.mk H
              clear H
              go_upto_region 13 with (fail)
              go_cut [67] (fun v67 wc => ∃ (kq : Nat) (x67_39 : Bool), v67 = .bool x67_39 ∧ Aside0 (dataflowref27_Check.j4 kq x4_2 x6_13 x67_39 l0_0 l0_1 a0_2 ((rd_T33 l0_1 x4_2).f0) ((rd_T33 l0_1 x4_2).f1) ((rd_T33 l0_1 x4_2).f2) ((rd_T33 l0_1 x4_2).f3) = some r) ∧ Aside0 (kq ≤ kj23) ∧ Aside0 (wc.heap[gb136]? = some (.cells #[(.slice A0_0 l0_0.length c0_0), (.slice (some ad138) l0_1.length c0_1), .int .i64 a0_2] 25 (0, 0))) ∧ Aside0 (wc.heap[gb139]? = some (.cells #[.int .i64 ((rd_T33 l0_1 x4_2).f0), .int .i64 ((rd_T33 l0_1 x4_2).f1), .int .i64 ((rd_T33 l0_1 x4_2).f2), .int .i64 ((rd_T33 l0_1 x4_2).f3)] 33 (0, 0))) ∧ Aside0 (Below w.heap.size w wc))
              case first =>
               have H := HC40.out
               clear HC40
               by_cases c41 : ((rd_T33 l0_1 x4_2).f2) < 1
               ·rw [if_pos c41] at H
                have c41b0 : decide (((rd_T33 l0_1 x4_2).f2) < 1) = true := decide_eq_true c41
                clear c41
                (first | rw [c41b0] | (simp only [i64_w, i32_w]; rw [c41b0]) | skip)
                have H' := Aside0.mk H
                clear H
                have hnb42 := NB139_136.out
                have hnc42 := NB136_139.out
                have hcz43_0 : wc.cell? ⟨gb139, 0, none⟩ = some (.int .i64 ((rd_T33 l0_1 x4_2).f0)) := (blk_cell BK139.out 0).trans rfl
                have hcz43_1 : wc.cell? ⟨gb139, 1, none⟩ = some (.int .i64 ((rd_T33 l0_1 x4_2).f1)) := (blk_cell BK139.out 1).trans rfl
                have hcz43_2 : wc.cell? ⟨gb139, 2, none⟩ = some (.int .i64 ((rd_T33 l0_1 x4_2).f2)) := (blk_cell BK139.out 2).trans rfl
                have hcz43_3 : wc.cell? ⟨gb139, 3, none⟩ = some (.int .i64 ((rd_T33 l0_1 x4_2).f3)) := (blk_cell BK139.out 3).trans rfl
                have hfz43_0 := blk_frozen BK139.out 0
                have hfz43_1 := blk_frozen BK139.out 1
                have hfz43_2 := blk_frozen BK139.out 2
                have hfz43_3 := blk_frozen BK139.out 3
                go_wp2
                go_meet
                case rel => exact ⟨_, (true), (by first | rfl | (simp; done) | (simp [*]; done)), H', ⟨by have := HJ1.out; have := HK2.out; have := HJ13.out; have := HJ23.out; first | omega | exact Nat.le_refl _⟩, ⟨by (with_reducible repeat first | apply bn | apply bd | apply ba); exact BK136.out⟩, ⟨by (with_reducible repeat first | apply bn | apply bd | apply ba); exact BK139.out⟩, ⟨by repeat with_reducible first | exact HB.out | apply below_alloc | apply pw_below_drewN | apply below_drew1 | refine below_set ?_ GE136.out | refine below_set ?_ GE139.out⟩⟩
               ·rw [if_neg c41] at H
                have c41b0 : decide (((rd_T33 l0_1 x4_2).f2) < 1) = false := decide_eq_false c41
                clear c41
                (first | rw [c41b0] | (simp only [i64_w, i32_w]; rw [c41b0]) | skip)
                have H' := Aside0.mk H
                clear H
                have hnb44 := NB139_136.out
                have hnc44 := NB136_139.out
                have hcz45_0 : wc.cell? ⟨gb139, 0, none⟩ = some (.int .i64 ((rd_T33 l0_1 x4_2).f0)) := (blk_cell BK139.out 0).trans rfl
                have hcz45_1 : wc.cell? ⟨gb139, 1, none⟩ = some (.int .i64 ((rd_T33 l0_1 x4_2).f1)) := (blk_cell BK139.out 1).trans rfl
                have hcz45_2 : wc.cell? ⟨gb139, 2, none⟩ = some (.int .i64 ((rd_T33 l0_1 x4_2).f2)) := (blk_cell BK139.out 2).trans rfl
                have hcz45_3 : wc.cell? ⟨gb139, 3, none⟩ = some (.int .i64 ((rd_T33 l0_1 x4_2).f3)) := (blk_cell BK139.out 3).trans rfl
                have hfz45_0 := blk_frozen BK139.out 0
                have hfz45_1 := blk_frozen BK139.out 1
                have hfz45_2 := blk_frozen BK139.out 2
                have hfz45_3 := blk_frozen BK139.out 3
                go_wp2
                go_meet
                case rel => exact ⟨_, (decide (((rd_T33 l0_1 x4_2).f2) > 5)), (by first | rfl | (simp; done) | (simp [*]; done)), H', ⟨by have := HJ1.out; have := HK2.out; have := HJ13.out; have := HJ23.out; first | omega | exact Nat.le_refl _⟩, ⟨by (with_reducible repeat first | apply bn | apply bd | apply ba); exact BK136.out⟩, ⟨by (with_reducible repeat first | apply bn | apply bd | apply ba); exact BK139.out⟩, ⟨by repeat with_reducible first | exact HB.out | apply below_alloc | apply pw_below_drewN | apply below_drew1 | refine below_set ?_ GE136.out | refine below_set ?_ GE139.out⟩⟩
              case rest =>
               clear HC40
               (try clear c1);(try clear p1);(try clear q1);(try clear hx1);(try clear c2);(try clear p2);(try clear c3);(try clear c4);(try clear c4b0);(try clear c4b1);(try clear c7);(try clear c9);(try clear c9b0);(try clear c9b1);(try clear c11);(try clear c12);(try clear c12b0);(try clear c13);(try clear c13b0);(try clear p13);(try clear q13);(try clear hx13);(try clear c17);(try clear c19);(try clear c19b0);(try clear c19b1);(try clear c20);(try clear c22);(try clear c25);(try clear c25b0);(try clear c26);(try clear c28);(try clear c28b0);(try clear c29);(try clear c32);(try clear c32b0);(try clear c33);(try clear c36);(try clear c39);(try clear c41);(try clear c41b0);(try clear c42);(try clear c44);(try clear hcz10_0);(try clear hcz10_1);(try clear hcz10_2);(try clear hcz15_0);(try clear hcz15_1);(try clear hcz15_2);(try clear hcz18_0);(try clear hcz18_1);(try clear hcz18_2);(try clear hcz18_3);(try clear hcz21_0);(try clear hcz21_1);(try clear hcz21_2);(try clear hcz21_3);(try clear hcz23_0);(try clear hcz23_1);(try clear hcz23_2);(try clear hcz23_3);(try clear hcz27_0);(try clear hcz27_1);(try clear hcz27_2);(try clear hcz27_3);(try clear hcz30_0);(try clear hcz30_1);(try clear hcz30_2);(try clear hcz30_3);(try clear hcz31_0);(try clear hcz31_1);(try clear hcz31_2);(try clear hcz34_0);(try clear hcz34_1);(try clear hcz34_2);(try clear hcz34_3);(try clear hcz35_0);(try clear hcz35_1);(try clear hcz35_2);(try clear hcz37_0);(try clear hcz37_1);(try clear hcz37_2);(try clear hcz37_3);(try clear hcz38_0);(try clear hcz38_1);(try clear hcz38_2);(try clear hcz43_0);(try clear hcz43_1);(try clear hcz43_2);(try clear hcz43_3);(try clear hcz45_0);(try clear hcz45_1);(try clear hcz45_2);(try clear hcz45_3);(try clear hcz5_0);(try clear hcz5_1);(try clear hcz5_2);(try clear hcz6_0);(try clear hcz6_1);(try clear hcz6_2);(try clear hfz10_0);(try clear hfz10_1);(try clear hfz10_2);(try clear hfz15_0);(try clear hfz15_1);(try clear hfz15_2);(try clear hfz18_0);(try clear hfz18_1);(try clear hfz18_2);(try clear hfz18_3);(try clear hfz21_0);(try clear hfz21_1);(try clear hfz21_2);(try clear hfz21_3);(try clear hfz23_0);(try clear hfz23_1);(try clear hfz23_2);(try clear hfz23_3);(try clear hfz27_0);(try clear hfz27_1);(try clear hfz27_2);(try clear hfz27_3);(try clear hfz30_0);(try clear hfz30_1);(try clear hfz30_2);(try clear hfz30_3);(try clear hfz31_0);(try clear hfz31_1);(try clear hfz31_2);(try clear hfz34_0);(try clear hfz34_1);(try clear hfz34_2);(try clear hfz34_3);(try clear hfz35_0);(try clear hfz35_1);(try clear hfz35_2);(try clear hfz37_0);(try clear hfz37_1);(try clear hfz37_2);(try clear hfz37_3);(try clear hfz38_0);(try clear hfz38_1);(try clear hfz38_2);(try clear hfz43_0);(try clear hfz43_1);(try clear hfz43_2);(try clear hfz43_3);(try clear hfz45_0);(try clear hfz45_1);(try clear hfz45_2);(try clear hfz45_3);(try clear hfz5_0);(try clear hfz5_1);(try clear hfz5_2);(try clear hfz6_0);(try clear hfz6_1);(try clear hfz6_2);(try clear hx138_0);(try clear hx138_1);(try clear hx138_2);(try clear hx138_3);(try clear p1);(try clear p13);(try clear p138);(try clear p2);(try clear q1);(try clear q13);(try clear q138)
               obtain ⟨kq, x67_39, rfl, HA, HJ39, BK136, BK139, HB⟩ := hcut
               cases kq with
               | zero => exact absurd HA.out (by simp [dataflowref27_Check.j4])
               | succ kj39 =>
                have H := HA.out
                clear HA
                simp only [dataflowref27_Check.j4] at H
                by_cases c46 : x67_39 = true
                ·subst c46
                 have H1 : (some 12) = some r := by rw [if_pos rfl] at H; exact H
                 clear H
                 have H := H1
                 clear H1
                 obtain rfl := Option.some.inj H
                 go_wp2
                 go_ret
                 exact ⟨by first | rfl | (simp [errW_none, errW_some] <;> rfl) | (simp [*, errW_none, errW_some] <;> rfl), by repeat with_reducible first | exact HB.out | apply below_alloc | apply pw_below_drewN | apply below_drew1 | refine below_set ?_ GE136.out | refine below_set ?_ GE139.out⟩
                ·replace c46 := Bool.eq_false_iff.mpr c46
                 subst c46
                 have H1 : (if x6_13 = true then (if ((rd_T33 l0_1 x4_2).f3) = (-1) then (dataflowref27_Check.j5 kj39 x4_2 false l0_0 l0_1 a0_2 ((rd_T33 l0_1 x4_2).f0) ((rd_T33 l0_1 x4_2).f1) ((rd_T33 l0_1 x4_2).f2) ((rd_T33 l0_1 x4_2).f3)) else (dataflowref27_Check.j5 kj39 x4_2 true l0_0 l0_1 a0_2 ((rd_T33 l0_1 x4_2).f0) ((rd_T33 l0_1 x4_2).f1) ((rd_T33 l0_1 x4_2).f2) ((rd_T33 l0_1 x4_2).f3))) else (if ((rd_T33 l0_1 x4_2).f3) < 0 then (dataflowref27_Check.j5 kj39 x4_2 true l0_0 l0_1 a0_2 ((rd_T33 l0_1 x4_2).f0) ((rd_T33 l0_1 x4_2).f1) ((rd_T33 l0_1 x4_2).f2) ((rd_T33 l0_1 x4_2).f3)) else (dataflowref27_Check.j5 kj39 x4_2 (decide (((rd_T33 l0_1 x4_2).f3) ≥ (l0_0.length : Int))) l0_0 l0_1 a0_2 ((rd_T33 l0_1 x4_2).f0) ((rd_T33 l0_1 x4_2).f1) ((rd_T33 l0_1 x4_2).f2) ((rd_T33 l0_1 x4_2).f3)))) = some r := by rw [if_neg (show ¬ (false = true) by decide)] at H; exact H
                 clear H
                 have H := H1
                 clear H1
                 have HC47 := Aside0.mk H
                 clear H
                 go_upto_region 15 with (fail)
                 go_cut [76] (fun v76 wc => ∃ (kq : Nat) (x76_46 : Bool), v76 = .bool x76_46 ∧ Aside0 (dataflowref27_Check.j5 kq x4_2 x76_46 l0_0 l0_1 a0_2 ((rd_T33 l0_1 x4_2).f0) ((rd_T33 l0_1 x4_2).f1) ((rd_T33 l0_1 x4_2).f2) ((rd_T33 l0_1 x4_2).f3) = some r) ∧ Aside0 (kq ≤ kj39) ∧ Aside0 (wc.heap[gb136]? = some (.cells #[(.slice A0_0 l0_0.length c0_0), (.slice (some ad138) l0_1.length c0_1), .int .i64 a0_2] 25 (0, 0))) ∧ Aside0 (wc.heap[gb139]? = some (.cells #[.int .i64 ((rd_T33 l0_1 x4_2).f0), .int .i64 ((rd_T33 l0_1 x4_2).f1), .int .i64 ((rd_T33 l0_1 x4_2).f2), .int .i64 ((rd_T33 l0_1 x4_2).f3)] 33 (0, 0))) ∧ Aside0 (Below w.heap.size w wc))
                 case first =>
                  have H := HC47.out
                  clear HC47
                  by_cases c48 : x6_13 = true
                  ·subst c48
                   have H1 : (if ((rd_T33 l0_1 x4_2).f3) = (-1) then (dataflowref27_Check.j5 kj39 x4_2 false l0_0 l0_1 a0_2 ((rd_T33 l0_1 x4_2).f0) ((rd_T33 l0_1 x4_2).f1) ((rd_T33 l0_1 x4_2).f2) ((rd_T33 l0_1 x4_2).f3)) else (dataflowref27_Check.j5 kj39 x4_2 true l0_0 l0_1 a0_2 ((rd_T33 l0_1 x4_2).f0) ((rd_T33 l0_1 x4_2).f1) ((rd_T33 l0_1 x4_2).f2) ((rd_T33 l0_1 x4_2).f3))) = some r := by rw [if_pos rfl] at H; exact H
                   clear H
                   have H := H1
                   clear H1
                   by_cases c49 : ((rd_T33 l0_1 x4_2).f3) = (-1)
                   ·rw [if_pos c49] at H
                    have c49b0 : (((rd_T33 l0_1 x4_2).f3) == (-1)) = true := beq_iff_eq.mpr c49
                    have c49b1 : (((rd_T33 l0_1 x4_2).f3) != (-1)) = false := bne_eq_false_iff_eq.mpr c49
                    clear c49
                    (first | rw [c49b0] | (simp only [i64_w, i32_w]; rw [c49b0]) | skip)
                    have H' := Aside0.mk H
                    clear H
                    have hnb50 := NB139_136.out
                    have hnc50 := NB136_139.out
                    have hcz51_0 : wc.cell? ⟨gb139, 0, none⟩ = some (.int .i64 ((rd_T33 l0_1 x4_2).f0)) := (blk_cell BK139.out 0).trans rfl
                    have hcz51_1 : wc.cell? ⟨gb139, 1, none⟩ = some (.int .i64 ((rd_T33 l0_1 x4_2).f1)) := (blk_cell BK139.out 1).trans rfl
                    have hcz51_2 : wc.cell? ⟨gb139, 2, none⟩ = some (.int .i64 ((rd_T33 l0_1 x4_2).f2)) := (blk_cell BK139.out 2).trans rfl
                    have hcz51_3 : wc.cell? ⟨gb139, 3, none⟩ = some (.int .i64 ((rd_T33 l0_1 x4_2).f3)) := (blk_cell BK139.out 3).trans rfl
                    have hfz51_0 := blk_frozen BK139.out 0
                    have hfz51_1 := blk_frozen BK139.out 1
                    have hfz51_2 := blk_frozen BK139.out 2
                    have hfz51_3 := blk_frozen BK139.out 3
                    go_wp2
                    go_meet
                    case rel => exact ⟨_, (false), (by first | rfl | (simp; done) | (simp [*]; done)), H', ⟨by have := HJ1.out; have := HK2.out; have := HJ13.out; have := HJ23.out; have := HJ39.out; first | omega | exact Nat.le_refl _⟩, ⟨by (with_reducible repeat first | apply bn | apply bd | apply ba); exact BK136.out⟩, ⟨by (with_reducible repeat first | apply bn | apply bd | apply ba); exact BK139.out⟩, ⟨by repeat with_reducible first | exact HB.out | apply below_alloc | apply pw_below_drewN | apply below_drew1 | refine below_set ?_ GE136.out | refine below_set ?_ GE139.out⟩⟩
                   ·rw [if_neg c49] at H
                    have c49b0 : (((rd_T33 l0_1 x4_2).f3) == (-1)) = false := beq_eq_false_iff_ne.mpr c49
                    have c49b1 : (((rd_T33 l0_1 x4_2).f3) != (-1)) = true := bne_iff_ne.mpr c49
                    (first | rw [c49b0] | (simp only [i64_w, i32_w]; rw [c49b0]) | skip)
                    have H' := Aside0.mk H
                    clear H
                    have hnb52 := NB139_136.out
                    have hnc52 := NB136_139.out
                    have hcz53_0 : wc.cell? ⟨gb139, 0, none⟩ = some (.int .i64 ((rd_T33 l0_1 x4_2).f0)) := (blk_cell BK139.out 0).trans rfl
                    have hcz53_1 : wc.cell? ⟨gb139, 1, none⟩ = some (.int .i64 ((rd_T33 l0_1 x4_2).f1)) := (blk_cell BK139.out 1).trans rfl
                    have hcz53_2 : wc.cell? ⟨gb139, 2, none⟩ = some (.int .i64 ((rd_T33 l0_1 x4_2).f2)) := (blk_cell BK139.out 2).trans rfl
                    have hcz53_3 : wc.cell? ⟨gb139, 3, none⟩ = some (.int .i64 ((rd_T33 l0_1 x4_2).f3)) := (blk_cell BK139.out 3).trans rfl
                    have hfz53_0 := blk_frozen BK139.out 0
                    have hfz53_1 := blk_frozen BK139.out 1
                    have hfz53_2 := blk_frozen BK139.out 2
                    have hfz53_3 := blk_frozen BK139.out 3
                    go_wp2
                    go_meet
                    case rel => exact ⟨_, (true), (by first | rfl | (simp; done) | (simp [*]; done)), H', ⟨by have := HJ1.out; have := HK2.out; have := HJ13.out; have := HJ23.out; have := HJ39.out; first | omega | exact Nat.le_refl _⟩, ⟨by (with_reducible repeat first | apply bn | apply bd | apply ba); exact BK136.out⟩, ⟨by (with_reducible repeat first | apply bn | apply bd | apply ba); exact BK139.out⟩, ⟨by repeat with_reducible first | exact HB.out | apply below_alloc | apply pw_below_drewN | apply below_drew1 | refine below_set ?_ GE136.out | refine below_set ?_ GE139.out⟩⟩
                  ·replace c48 := Bool.eq_false_iff.mpr c48
                   subst c48
                   have H1 : (if ((rd_T33 l0_1 x4_2).f3) < 0 then (dataflowref27_Check.j5 kj39 x4_2 true l0_0 l0_1 a0_2 ((rd_T33 l0_1 x4_2).f0) ((rd_T33 l0_1 x4_2).f1) ((rd_T33 l0_1 x4_2).f2) ((rd_T33 l0_1 x4_2).f3)) else (dataflowref27_Check.j5 kj39 x4_2 (decide (((rd_T33 l0_1 x4_2).f3) ≥ (l0_0.length : Int))) l0_0 l0_1 a0_2 ((rd_T33 l0_1 x4_2).f0) ((rd_T33 l0_1 x4_2).f1) ((rd_T33 l0_1 x4_2).f2) ((rd_T33 l0_1 x4_2).f3))) = some r := by rw [if_neg (show ¬ (false = true) by decide)] at H; exact H
                   clear H
                   have H := H1
                   clear H1
                   by_cases c54 : ((rd_T33 l0_1 x4_2).f3) < 0
                   ·rw [if_pos c54] at H
                    have c54b0 : decide (((rd_T33 l0_1 x4_2).f3) < 0) = true := decide_eq_true c54
                    clear c54
                    have H' := Aside0.mk H
                    clear H
                    have hnb55 := NB139_136.out
                    have hnc55 := NB136_139.out
                    have hcz56_0 : wc.cell? ⟨gb139, 0, none⟩ = some (.int .i64 ((rd_T33 l0_1 x4_2).f0)) := (blk_cell BK139.out 0).trans rfl
                    have hcz56_1 : wc.cell? ⟨gb139, 1, none⟩ = some (.int .i64 ((rd_T33 l0_1 x4_2).f1)) := (blk_cell BK139.out 1).trans rfl
                    have hcz56_2 : wc.cell? ⟨gb139, 2, none⟩ = some (.int .i64 ((rd_T33 l0_1 x4_2).f2)) := (blk_cell BK139.out 2).trans rfl
                    have hcz56_3 : wc.cell? ⟨gb139, 3, none⟩ = some (.int .i64 ((rd_T33 l0_1 x4_2).f3)) := (blk_cell BK139.out 3).trans rfl
                    have hfz56_0 := blk_frozen BK139.out 0
                    have hfz56_1 := blk_frozen BK139.out 1
                    have hfz56_2 := blk_frozen BK139.out 2
                    have hfz56_3 := blk_frozen BK139.out 3
                    go_wp2
                    go_meet
                    case rel => exact ⟨_, (true), (by first | rfl | (simp; done) | (simp [*]; done)), H', ⟨by have := HJ1.out; have := HK2.out; have := HJ13.out; have := HJ23.out; have := HJ39.out; first | omega | exact Nat.le_refl _⟩, ⟨by (with_reducible repeat first | apply bn | apply bd | apply ba); exact BK136.out⟩, ⟨by (with_reducible repeat first | apply bn | apply bd | apply ba); exact BK139.out⟩, ⟨by repeat with_reducible first | exact HB.out | apply below_alloc | apply pw_below_drewN | apply below_drew1 | refine below_set ?_ GE136.out | refine below_set ?_ GE139.out⟩⟩
                   ·rw [if_neg c54] at H
                    have c54b0 : decide (((rd_T33 l0_1 x4_2).f3) < 0) = false := decide_eq_false c54
                    clear c54
                    have H' := Aside0.mk H
                    clear H
                    have hnb57 := NB139_136.out
                    have hnc57 := NB136_139.out
                    have hcz58_0 : wc.cell? ⟨gb139, 0, none⟩ = some (.int .i64 ((rd_T33 l0_1 x4_2).f0)) := (blk_cell BK139.out 0).trans rfl
                    have hcz58_1 : wc.cell? ⟨gb139, 1, none⟩ = some (.int .i64 ((rd_T33 l0_1 x4_2).f1)) := (blk_cell BK139.out 1).trans rfl
                    have hcz58_2 : wc.cell? ⟨gb139, 2, none⟩ = some (.int .i64 ((rd_T33 l0_1 x4_2).f2)) := (blk_cell BK139.out 2).trans rfl
                    have hcz58_3 : wc.cell? ⟨gb139, 3, none⟩ = some (.int .i64 ((rd_T33 l0_1 x4_2).f3)) := (blk_cell BK139.out 3).trans rfl
                    have hfz58_0 := blk_frozen BK139.out 0
                    have hfz58_1 := blk_frozen BK139.out 1
                    have hfz58_2 := blk_frozen BK139.out 2
                    have hfz58_3 := blk_frozen BK139.out 3
                    have hcz59_0 : wc.cell? ⟨gb136, 0, none⟩ = some (.slice A0_0 l0_0.length c0_0) := (blk_cell BK136.out 0).trans rfl
                    have hcz59_1 : wc.cell? ⟨gb136, 1, none⟩ = some (.slice (some ad138) l0_1.length c0_1) := (blk_cell BK136.out 1).trans rfl
                    have hcz59_2 : wc.cell? ⟨gb136, 2, none⟩ = some (.int .i64 a0_2) := (blk_cell BK136.out 2).trans rfl
                    have hfz59_0 := blk_frozen BK136.out 0
                    have hfz59_1 := blk_frozen BK136.out 1
                    have hfz59_2 := blk_frozen BK136.out 2
                    go_wp2
                    go_meet
                    case rel => exact ⟨_, (decide (((rd_T33 l0_1 x4_2).f3) ≥ (l0_0.length : Int))), (by first | rfl | (simp; done) | (simp [*]; done)), H', ⟨by have := HJ1.out; have := HK2.out; have := HJ13.out; have := HJ23.out; have := HJ39.out; first | omega | exact Nat.le_refl _⟩, ⟨by (with_reducible repeat first | apply bn | apply bd | apply ba); exact BK136.out⟩, ⟨by (with_reducible repeat first | apply bn | apply bd | apply ba); exact BK139.out⟩, ⟨by repeat with_reducible first | exact HB.out | apply below_alloc | apply pw_below_drewN | apply below_drew1 | refine below_set ?_ GE136.out | refine below_set ?_ GE139.out⟩⟩
                 case rest =>
                  clear HC47
                  (try clear c1);(try clear p1);(try clear q1);(try clear hx1);(try clear c2);(try clear p2);(try clear c3);(try clear c4);(try clear c4b0);(try clear c4b1);(try clear c5);(try clear c7);(try clear c9);(try clear c9b0);(try clear c9b1);(try clear c11);(try clear c12);(try clear c12b0);(try clear c13);(try clear c13b0);(try clear p13);(try clear q13);(try clear hx13);(try clear c17);(try clear c19);(try clear c19b0);(try clear c19b1);(try clear c20);(try clear c22);(try clear c25);(try clear c25b0);(try clear c26);(try clear c28);(try clear c28b0);(try clear c29);(try clear c32);(try clear c32b0);(try clear c33);(try clear c36);(try clear c39);(try clear c41);(try clear c41b0);(try clear c42);(try clear c44);(try clear c46);(try clear c48);(try clear c49);(try clear c49b0);(try clear c49b1);(try clear c50);(try clear c52);(try clear c54);(try clear c54b0);(try clear c55);(try clear c57);(try clear hcz10_0);(try clear hcz10_1);(try clear hcz10_2);(try clear hcz15_0);(try clear hcz15_1);(try clear hcz15_2);(try clear hcz18_0);(try clear hcz18_1);(try clear hcz18_2);(try clear hcz18_3);(try clear hcz21_0);(try clear hcz21_1);(try clear hcz21_2);(try clear hcz21_3);(try clear hcz23_0);(try clear hcz23_1);(try clear hcz23_2);(try clear hcz23_3);(try clear hcz27_0);(try clear hcz27_1);(try clear hcz27_2);(try clear hcz27_3);(try clear hcz30_0);(try clear hcz30_1);(try clear hcz30_2);(try clear hcz30_3);(try clear hcz31_0);(try clear hcz31_1);(try clear hcz31_2);(try clear hcz34_0);(try clear hcz34_1);(try clear hcz34_2);(try clear hcz34_3);(try clear hcz35_0);(try clear hcz35_1);(try clear hcz35_2);(try clear hcz37_0);(try clear hcz37_1);(try clear hcz37_2);(try clear hcz37_3);(try clear hcz38_0);(try clear hcz38_1);(try clear hcz38_2);(try clear hcz43_0);(try clear hcz43_1);(try clear hcz43_2);(try clear hcz43_3);(try clear hcz45_0);(try clear hcz45_1);(try clear hcz45_2);(try clear hcz45_3);(try clear hcz51_0);(try clear hcz51_1);(try clear hcz51_2);(try clear hcz51_3);(try clear hcz53_0);(try clear hcz53_1);(try clear hcz53_2);(try clear hcz53_3);(try clear hcz56_0);(try clear hcz56_1);(try clear hcz56_2);(try clear hcz56_3);(try clear hcz58_0);(try clear hcz58_1);(try clear hcz58_2);(try clear hcz58_3);(try clear hcz59_0);(try clear hcz59_1);(try clear hcz59_2);(try clear hcz5_0);(try clear hcz5_1);(try clear hcz5_2);(try clear hcz6_0);(try clear hcz6_1);(try clear hcz6_2);(try clear hfz10_0);(try clear hfz10_1);(try clear hfz10_2);(try clear hfz15_0);(try clear hfz15_1);(try clear hfz15_2);(try clear hfz18_0);(try clear hfz18_1);(try clear hfz18_2);(try clear hfz18_3);(try clear hfz21_0);(try clear hfz21_1);(try clear hfz21_2);(try clear hfz21_3);(try clear hfz23_0);(try clear hfz23_1);(try clear hfz23_2);(try clear hfz23_3);(try clear hfz27_0);(try clear hfz27_1);(try clear hfz27_2);(try clear hfz27_3);(try clear hfz30_0);(try clear hfz30_1);(try clear hfz30_2);(try clear hfz30_3);(try clear hfz31_0);(try clear hfz31_1);(try clear hfz31_2);(try clear hfz34_0);(try clear hfz34_1);(try clear hfz34_2);(try clear hfz34_3);(try clear hfz35_0);(try clear hfz35_1);(try clear hfz35_2);(try clear hfz37_0);(try clear hfz37_1);(try clear hfz37_2);(try clear hfz37_3);(try clear hfz38_0);(try clear hfz38_1);(try clear hfz38_2);(try clear hfz43_0);(try clear hfz43_1);(try clear hfz43_2);(try clear hfz43_3);(try clear hfz45_0);(try clear hfz45_1);(try clear hfz45_2);(try clear hfz45_3);(try clear hfz51_0);(try clear hfz51_1);(try clear hfz51_2);(try clear hfz51_3);(try clear hfz53_0);(try clear hfz53_1);(try clear hfz53_2);(try clear hfz53_3);(try clear hfz56_0);(try clear hfz56_1);(try clear hfz56_2);(try clear hfz56_3);(try clear hfz58_0);(try clear hfz58_1);(try clear hfz58_2);(try clear hfz58_3);(try clear hfz59_0);(try clear hfz59_1);(try clear hfz59_2);(try clear hfz5_0);(try clear hfz5_1);(try clear hfz5_2);(try clear hfz6_0);(try clear hfz6_1);(try clear hfz6_2);(try clear hx138_0);(try clear hx138_1);(try clear hx138_2);(try clear hx138_3);(try clear p1);(try clear p13);(try clear p138);(try clear p2);(try clear q1);(try clear q13);(try clear q138)
                  obtain ⟨kq, x76_46, rfl, HA, HJ46, BK136, BK139, HB⟩ := hcut
                  cases kq with
                  | zero => exact absurd HA.out (by simp [dataflowref27_Check.j5])
                  | succ kj46 =>
                   have H := HA.out
                   clear HA
                   simp only [dataflowref27_Check.j5] at H
                   by_cases c60 : x76_46 = true
                   ·subst c60
                    have H1 : (some 4) = some r := by rw [if_pos rfl] at H; exact H
                    clear H
                    have H := H1
                    clear H1
                    obtain rfl := Option.some.inj H
                    go_wp2
                    go_ret
                    exact ⟨by first | rfl | (simp [errW_none, errW_some] <;> rfl) | (simp [*, errW_none, errW_some] <;> rfl), by repeat with_reducible first | exact HB.out | apply below_alloc | apply pw_below_drewN | apply below_drew1 | refine below_set ?_ GE136.out | refine below_set ?_ GE139.out⟩
                   ·replace c60 := Bool.eq_false_iff.mpr c60
                    subst c60
                    have H1 : (if x4_2 > 0 then (if 0 ≤ (wrap64 (x4_2 - 1)) then (if (wrap64 (x4_2 - 1)) < (l0_1.length : Int) then ((dataflowref27_lessEdge.f ((rd_T33 l0_1 (wrap64 (x4_2 - 1))).f0) ((rd_T33 l0_1 (wrap64 (x4_2 - 1))).f1) ((rd_T33 l0_1 (wrap64 (x4_2 - 1))).f2) ((rd_T33 l0_1 (wrap64 (x4_2 - 1))).f3) ((rd_T33 l0_1 x4_2).f0) ((rd_T33 l0_1 x4_2).f1) ((rd_T33 l0_1 x4_2).f2) ((rd_T33 l0_1 x4_2).f3)).bind fun t141 => (dataflowref27_Check.j6 kj46 x4_2 (!t141) l0_0 l0_1 a0_2 ((rd_T33 l0_1 x4_2).f0) ((rd_T33 l0_1 x4_2).f1) ((rd_T33 l0_1 x4_2).f2) ((rd_T33 l0_1 x4_2).f3))) else (none)) else (none)) else (dataflowref27_Check.j6 kj46 x4_2 false l0_0 l0_1 a0_2 ((rd_T33 l0_1 x4_2).f0) ((rd_T33 l0_1 x4_2).f1) ((rd_T33 l0_1 x4_2).f2) ((rd_T33 l0_1 x4_2).f3))) = some r := by rw [if_neg (show ¬ (false = true) by decide)] at H; exact H
                    clear H
                    have H := H1
                    clear H1
                    have HC61 := Aside0.mk H
                    clear H
                    go_upto_region 17 with (fail)
                    go_cut [100] (fun v100 wc => ∃ (kq : Nat) (x100_60 : Bool), v100 = .bool x100_60 ∧ Aside0 (dataflowref27_Check.j6 kq x4_2 x100_60 l0_0 l0_1 a0_2 ((rd_T33 l0_1 x4_2).f0) ((rd_T33 l0_1 x4_2).f1) ((rd_T33 l0_1 x4_2).f2) ((rd_T33 l0_1 x4_2).f3) = some r) ∧ Aside0 (kq ≤ kj46) ∧ Aside0 (wc.heap[gb136]? = some (.cells #[(.slice A0_0 l0_0.length c0_0), (.slice (some ad138) l0_1.length c0_1), .int .i64 a0_2] 25 (0, 0))) ∧ Aside0 (wc.heap[gb139]? = some (.cells #[.int .i64 ((rd_T33 l0_1 x4_2).f0), .int .i64 ((rd_T33 l0_1 x4_2).f1), .int .i64 ((rd_T33 l0_1 x4_2).f2), .int .i64 ((rd_T33 l0_1 x4_2).f3)] 33 (0, 0))) ∧ Aside0 (Below w.heap.size w wc))
                    case first =>
                     have H := HC61.out
                     clear HC61
                     by_cases c62 : x4_2 > 0
                     ·rw [if_pos c62] at H
                      have c62b0 : decide (0 < x4_2) = true := decide_eq_true c62
                      clear c62
                      (first | rw [c62b0] | (simp only [i64_w, i32_w]; rw [c62b0]) | skip)
                      obtain ⟨ji63, hji63⟩ : ∃ j_ : Int, (wrap64 (x4_2 - 1)) = j_ := ⟨_, rfl⟩
                      replace H : (if 0 ≤ (ji63) then (if (ji63) < (l0_1.length : Int) then ((dataflowref27_lessEdge.f ((rd_T33 l0_1 (ji63)).f0) ((rd_T33 l0_1 (ji63)).f1) ((rd_T33 l0_1 (ji63)).f2) ((rd_T33 l0_1 (ji63)).f3) ((rd_T33 l0_1 x4_2).f0) ((rd_T33 l0_1 x4_2).f1) ((rd_T33 l0_1 x4_2).f2) ((rd_T33 l0_1 x4_2).f3)).bind fun t141 => (dataflowref27_Check.j6 kj46 x4_2 (!t141) l0_0 l0_1 a0_2 ((rd_T33 l0_1 x4_2).f0) ((rd_T33 l0_1 x4_2).f1) ((rd_T33 l0_1 x4_2).f2) ((rd_T33 l0_1 x4_2).f3))) else (none)) else (none)) = some r := by first | (rw [hji63] at H; exact H) | (simp only [hji63] at H ⊢; exact H)
                      have hji63w : (IntKind.i64.wrap (x4_2 - 1)) = ji63 := (i64_w _).trans hji63
                      by_cases c64 : 0 ≤ (ji63)
                      ·rw [if_pos c64] at H
                       have c64b0 : decide (0 ≤ (ji63)) = true := decide_eq_true c64
                       clear c64
                       by_cases c65 : (ji63) < (l0_1.length : Int)
                       ·rw [if_pos c65] at H
                        have c65b0 : decide ((ji63) < (l0_1.length : Int)) = true := decide_eq_true c65
                        clear c65
                        replace H := Option.bind_eq_some_iff.mp H
                        obtain ⟨t141, A660, H⟩ := H
                        replace H : (dataflowref27_Check.j6 kj46 x4_2 (!t141) l0_0 l0_1 a0_2 ((rd_T33 l0_1 x4_2).f0) ((rd_T33 l0_1 x4_2).f1) ((rd_T33 l0_1 x4_2).f2) ((rd_T33 l0_1 x4_2).f3)) = some r := H
                        have A66 := Aside0.mk A660
                        clear A660
                        have H' := Aside0.mk H
                        clear H
                        try go_wp2
                        have n0_ := Aside0.mk (blk_drew BK136.out)
                        have n1_ := Aside0.mk (blk_drew BK139.out)
                        have n2_ := Aside0.mk (below_drew1 HB.out)
                        clear BK136
                        clear BK139
                        clear HB
                        have BK136 := n0_
                        have BK139 := n1_
                        have HB := n2_
                        clear n0_ n1_ n2_
                        have p140 : 0 ≤ ((ji63) : Int) := of_decide_eq_true (by first | (with_reducible assumption) | assumption)
                        have q140 : (ji63) < (l0_1.length : Int) := of_decide_eq_true (by first | (with_reducible assumption) | assumption)
                        obtain ⟨ad140, e140, hx140_0, hx140_1, hx140_2, hx140_3⟩ := at_T33 HR0_1.out (ji63) p140 q140
                        have hw140_3 := hx140_3
                        have hw140_2 := hx140_2
                        have hw140_1 := hx140_1
                        have hw140_0 := hx140_0
                        obtain rfl : ad138 = ad140 := (by injection e140)
                        replace hx140_0 := (HB.out.cell (World.block_lt_of_cell? w _ hx140_0)).trans hx140_0
                        replace hx140_1 := (HB.out.cell (World.block_lt_of_cell? w _ hx140_1)).trans hx140_1
                        replace hx140_2 := (HB.out.cell (World.block_lt_of_cell? w _ hx140_2)).trans hx140_2
                        replace hx140_3 := (HB.out.cell (World.block_lt_of_cell? w _ hx140_3)).trans hx140_3
                        replace p140 := eq_true p140
                        replace q140 := eq_true q140
                        refine start_ (n := 14) (S := fun w' => w'.cell? ⟨gb136, 0, none⟩ = some (.slice A0_0 l0_0.length c0_0) ∧ w'.cell? ⟨gb136, 1, none⟩ = some (.slice (some ad138) l0_1.length c0_1) ∧ w'.cell? ⟨gb136, 2, none⟩ = some (.int .i64 a0_2) ∧ w'.cell? ⟨gb139, 0, none⟩ = some (.int .i64 ((rd_T33 l0_1 x4_2).f0)) ∧ w'.cell? ⟨gb139, 1, none⟩ = some (.int .i64 ((rd_T33 l0_1 x4_2).f1)) ∧ w'.cell? ⟨gb139, 2, none⟩ = some (.int .i64 ((rd_T33 l0_1 x4_2).f2)) ∧ w'.cell? ⟨gb139, 3, none⟩ = some (.int .i64 ((rd_T33 l0_1 x4_2).f3)) ∧ w'.cell? (ad138.add (((ji63)).toNat * 4)) = some (.int .i64 ((rd_T33 l0_1 (ji63)).f0)) ∧ w'.cell? ⟨(ad138.add (((ji63)).toNat * 4)).block, (ad138.add (((ji63)).toNat * 4)).off + 1, none⟩ = some (.int .i64 ((rd_T33 l0_1 (ji63)).f1)) ∧ w'.cell? ⟨(ad138.add (((ji63)).toNat * 4)).block, (ad138.add (((ji63)).toNat * 4)).off + 2, none⟩ = some (.int .i64 ((rd_T33 l0_1 (ji63)).f2)) ∧ w'.cell? ⟨(ad138.add (((ji63)).toNat * 4)).block, (ad138.add (((ji63)).toNat * 4)).off + 3, none⟩ = some (.int .i64 ((rd_T33 l0_1 (ji63)).f3))) (ds := []) #[false, false, false, false, false, false, false, false, false, false, false, false, false, false] (by kernel_rfl) rfl rfl ⟨(blk_cell BK136.out 0).trans rfl, (blk_cell BK136.out 1).trans rfl, (blk_cell BK136.out 2).trans rfl, (blk_cell BK139.out 0).trans rfl, (blk_cell BK139.out 1).trans rfl, (blk_cell BK139.out 2).trans rfl, (blk_cell BK139.out 3).trans rfl, ((HB.out.cell (World.block_lt_of_cell? w _ hw140_0)).trans hw140_0), ((HB.out.cell (World.block_lt_of_cell? w _ hw140_1)).trans hw140_1), ((HB.out.cell (World.block_lt_of_cell? w _ hw140_2)).trans hw140_2), ((HB.out.cell (World.block_lt_of_cell? w _ hw140_3)).trans hw140_3)⟩ (fun hHeld => ?_); refine with_tabW dataflowref27_Check.tab17 dataflowref27_Check.bits17 (fun HT_ HW_ => ?_)
                        generalize wc.drew = w67 at BK136 BK139 HB hx140_0 hx140_1 hx140_2 hx140_3 hHeld ⊢
                        refine pure_ (i := 0) (N := some 101) (v := ?_) (a' := ?_) #[true, false, false, false, false, false, false, false, false, false, false, false, false, false] rfl rfl (any_of HT_.out (by kernel_rfl)) (fun _ _ _ h => h) (Or.inl ⟨by rfl, ?_⟩) ?_ ?_
                        rotate_left;focus(intro w';go_simp;with_reducible rfl)
                        rotate_left;focus(simp only [Act.put, List.setIfInBounds_toArray, List.set_cons_zero, List.set_cons_succ, i64_w];rfl)
                        refine pure_ (i := 1) (N := some 102) (v := ?_) (a' := ?_) #[true, true, false, false, false, false, false, false, false, false, false, false, false, false] rfl rfl (any_of HT_.out (by kernel_rfl)) (fun _ _ _ h => h) (Or.inl ⟨by rfl, ?_⟩) ?_ ?_
                        rotate_left;focus(intro w';go_simp;with_reducible rfl)
                        rotate_left;focus(simp only [Act.put, List.setIfInBounds_toArray, List.set_cons_zero, List.set_cons_succ, i64_w];rfl)
                        refine pure_ (i := 2) (N := some 103) (v := ?_) (a' := ?_) #[true, true, true, false, false, false, false, false, false, false, false, false, false, false] rfl rfl (any_of HT_.out (by kernel_rfl)) (fun _ _ _ h => h) (Or.inl ⟨by rfl, ?_⟩) ?_ ?_
                        rotate_left;focus(intro w';go_simp;with_reducible rfl)
                        rotate_left;focus(simp only [Act.put, List.setIfInBounds_toArray, List.set_cons_zero, List.set_cons_succ, i64_w];rfl)
                        refine pure_ (i := 3) (N := some 104) (v := ?_) (a' := ?_) #[true, true, true, true, false, false, false, false, false, false, false, false, false, false] rfl rfl (any_of HT_.out (by kernel_rfl)) (fun _ _ _ h => h) (Or.inl ⟨by rfl, ?_⟩) ?_ ?_
                        rotate_left;focus(intro w';go_simp;with_reducible rfl)
                        rotate_left;focus(simp only [Act.put, List.setIfInBounds_toArray, List.set_cons_zero, List.set_cons_succ, i64_w];rfl)
                        refine pure_ (i := 5) (N := some 106) (v := ?_) (a' := ?_) #[true, true, true, true, false, true, false, false, false, false, false, false, false, false] rfl rfl (any_of HT_.out (by kernel_rfl)) (fun _ _ _ h => h) (Or.inl ⟨by rfl, ?_⟩) ?_ ?_
                        rotate_left;focus(intro w';go_simp;with_reducible rfl)
                        rotate_left;focus(simp only [Act.put, List.setIfInBounds_toArray, List.set_cons_zero, List.set_cons_succ, i64_w];rfl)
                        refine pure_ (i := 6) (N := some 107) (v := ?_) (a' := ?_) #[true, true, true, true, false, true, true, false, false, false, false, false, false, false] rfl rfl (any_of HT_.out (by kernel_rfl)) (fun _ _ _ h => h) (Or.inl ⟨by rfl, ?_⟩) ?_ ?_
                        rotate_left;focus(intro w';go_simp;with_reducible rfl)
                        rotate_left;focus(simp only [Act.put, List.setIfInBounds_toArray, List.set_cons_zero, List.set_cons_succ, i64_w];rfl)
                        refine take_ (i := 4) (N := some 105) (v := ?_) (a' := ?_) #[true, true, true, true, true, true, true, false, false, false, false, false, false, false] rfl rfl (take_ofW HT_.out HW_.out (by kernel_rfl)) (fun _ _ _ h => h) (Or.inl ⟨by rfl, ?_⟩) hHeld ?_ ?_
                        rotate_left;focus(rintro w' ⟨s0, s1, s2, s3, s4, s5, s6, s7, s8, s9, s10⟩;go_simp;with_reducible rfl)
                        rotate_left;focus(simp only [Act.put, List.setIfInBounds_toArray, List.set_cons_zero, List.set_cons_succ, i64_w];rfl)
                        refine pure_ (i := 7) (N := some 108) (v := ?_) (a' := ?_) #[true, true, true, true, true, true, true, true, false, false, false, false, false, false] rfl rfl (any_of HT_.out (by kernel_rfl)) (fun _ _ _ h => h) (Or.inl ⟨by rfl, ?_⟩) ?_ ?_
                        rotate_left;focus(intro w';go_simp;with_reducible rfl)
                        rotate_left;focus(simp only [Act.put, List.setIfInBounds_toArray, List.set_cons_zero, List.set_cons_succ, i64_w];rfl)
                        refine take_ (i := 8) (N := some 109) (v := ?_) (a' := ?_) #[true, true, true, true, true, true, true, true, true, false, false, false, false, false] rfl rfl (take_ofW HT_.out HW_.out (by kernel_rfl)) (fun _ _ _ h => h) (Or.inl ⟨by rfl, ?_⟩) hHeld ?_ ?_
                        rotate_left;focus(rintro w' ⟨s0, s1, s2, s3, s4, s5, s6, s7, s8, s9, s10⟩;go_simp;with_reducible rfl)
                        rotate_left;focus(simp only [Act.put, List.setIfInBounds_toArray, List.set_cons_zero, List.set_cons_succ, i64_w];rfl)
                        refine take_ (i := 9) (N := some 110) (v := ?_) (a' := ?_) #[true, true, true, true, true, true, true, true, true, true, false, false, false, false] rfl rfl (take_ofW HT_.out HW_.out (by kernel_rfl)) (fun _ _ _ h => h) (Or.inl ⟨by rfl, ?_⟩) hHeld ?_ ?_
                        rotate_left;focus(rintro w' ⟨s0, s1, s2, s3, s4, s5, s6, s7, s8, s9, s10⟩;go_simp;with_reducible rfl)
                        rotate_left;focus(simp only [Act.put, List.setIfInBounds_toArray, List.set_cons_zero, List.set_cons_succ, i64_w];rfl)
                        refine one_ (i := 10) (N := some 111) #[true, true, true, true, true, true, true, true, true, true, true, false, false, false] rfl rfl (one_of HT_.out (by kernel_rfl)) (by decide) (fun K hK => ?_)
                        refine goes_ Try.func12 (by kernel_rfl) rfl #[.agg #[.int .i64 ((rd_T33 l0_1 (ji63)).f0), .int .i64 ((rd_T33 l0_1 (ji63)).f1), .int .i64 ((rd_T33 l0_1 (ji63)).f2), .int .i64 ((rd_T33 l0_1 (ji63)).f3)], .agg #[.int .i64 ((rd_T33 l0_1 x4_2).f0), .int .i64 ((rd_T33 l0_1 x4_2).f1), .int .i64 ((rd_T33 l0_1 x4_2).f2), .int .i64 ((rd_T33 l0_1 x4_2).f3)]] (by rfl) rfl rfl (by (try simp only [List.map_toArray, List.map_cons, List.map_nil]); first | done | (simp only [hji63]; rfl) | rfl | (simp only [List.length_drop, List.length_take]; rfl)) ?_
                        with_reducible refine (dataflowref27_lessEdge.calls ((rd_T33 l0_1 (ji63)).f0) ((rd_T33 l0_1 (ji63)).f1) ((rd_T33 l0_1 (ji63)).f2) ((rd_T33 l0_1 (ji63)).f3) ((rd_T33 l0_1 x4_2).f0) ((rd_T33 l0_1 x4_2).f1) ((rd_T33 l0_1 x4_2).f2) ((rd_T33 l0_1 x4_2).f3) t141 _ A66.out).mono ?_
                        rintro e w68 ⟨rfl, hb⟩
                        refine ⟨_, rfl, ?_⟩
                        have n0_ := Aside0.mk (blk_below (g := gb136) (o := .cells #[.slice A0_0 l0_0.length c0_0, .slice (some ad138) l0_1.length c0_1, .int .i64 a0_2] 25 (0, 0)) (by (with_reducible repeat first | apply bn | apply bd | apply ba); exact BK136.out) hb)
                        have n1_ := Aside0.mk (blk_below (g := gb139) (o := .cells #[.int .i64 ((rd_T33 l0_1 x4_2).f0), .int .i64 ((rd_T33 l0_1 x4_2).f1), .int .i64 ((rd_T33 l0_1 x4_2).f2), .int .i64 ((rd_T33 l0_1 x4_2).f3)] 33 (0, 0)) (by (with_reducible repeat first | apply bn | apply bd | apply ba); exact BK139.out) hb)
                        have n2_ := Aside0.mk (below_step (by repeat with_reducible first | exact HB.out | apply below_alloc | apply pw_below_drewN | apply below_drew1 | refine below_set ?_ GE136.out | refine below_set ?_ GE139.out) hb)
                        clear BK136
                        clear BK139
                        clear HB
                        have BK136 := n0_
                        have BK139 := n1_
                        have HB := n2_
                        clear n0_ n1_ n2_
                        (try clear hb)
                        (try clear hb2)
                        (try clear hk)
                        (try clear hi)
                        refine hK.out _ _ ⟨(blk_cell BK136.out 0).trans rfl, (blk_cell BK136.out 1).trans rfl, (blk_cell BK136.out 2).trans rfl, (blk_cell BK139.out 0).trans rfl, (blk_cell BK139.out 1).trans rfl, (blk_cell BK139.out 2).trans rfl, (blk_cell BK139.out 3).trans rfl, ((HB.out.cell (World.block_lt_of_cell? w _ hw140_0)).trans hw140_0), ((HB.out.cell (World.block_lt_of_cell? w _ hw140_1)).trans hw140_1), ((HB.out.cell (World.block_lt_of_cell? w _ hw140_2)).trans hw140_2), ((HB.out.cell (World.block_lt_of_cell? w _ hw140_3)).trans hw140_3)⟩ (fun hHeld => ?_)
                        clear hK K
                        refine norm_ (a' := ?_) ?_ ?_
                        rotate_left;focus(show Act.put _ (some 111) _ = _;simp only [Act.put, List.setIfInBounds_toArray, List.set_cons_zero, List.set_cons_succ, i64_w];rfl)
                        refine pure_ (i := 11) (N := some 112) (v := ?_) (a' := ?_) #[true, true, true, true, true, true, true, true, true, true, true, true, false, false] rfl rfl (any_of HT_.out (by kernel_rfl)) (fun _ _ _ h => h) (Or.inl ⟨by rfl, ?_⟩) ?_ ?_
                        rotate_left;focus(intro w';go_simp;with_reducible rfl)
                        rotate_left;focus(simp only [Act.put, List.setIfInBounds_toArray, List.set_cons_zero, List.set_cons_succ, i64_w];rfl)
                        refine pure_ (i := 12) (N := some 113) (v := ?_) (a' := ?_) #[true, true, true, true, true, true, true, true, true, true, true, true, true, false] rfl rfl (any_of HT_.out (by kernel_rfl)) (fun _ _ _ h => h) (Or.inl ⟨by rfl, ?_⟩) ?_ ?_
                        rotate_left;focus(intro w';go_simp;with_reducible rfl)
                        rotate_left;focus(simp only [Act.put, List.setIfInBounds_toArray, List.set_cons_zero, List.set_cons_succ, i64_w];rfl)
                        refine pure_ (i := 13) (N := some 100) (v := ?_) (a' := ?_) #[true, true, true, true, true, true, true, true, true, true, true, true, true, true] rfl rfl (any_of HT_.out (by kernel_rfl)) (fun _ _ _ h => h) (Or.inl ⟨by rfl, ?_⟩) ?_ ?_
                        rotate_left;focus(intro w';go_simp;with_reducible rfl)
                        rotate_left;focus(simp only [Act.put, List.setIfInBounds_toArray, List.set_cons_zero, List.set_cons_succ, i64_w];rfl)
                        refine done_ (done_of HT_.out (by kernel_rfl)) ?_
                        try go_wp2
                        go_meet
                        case rel => exact ⟨_, (!t141), (by first | rfl | (simp; done) | (simp [*]; done)), H', ⟨by have := HJ1.out; have := HK2.out; have := HJ13.out; have := HJ23.out; have := HJ39.out; have := HJ46.out; first | omega | exact Nat.le_refl _⟩, ⟨by (with_reducible repeat first | apply bn | apply bd | apply ba); exact BK136.out⟩, ⟨by (with_reducible repeat first | apply bn | apply bd | apply ba); exact BK139.out⟩, ⟨by repeat with_reducible first | exact HB.out | apply below_alloc | apply pw_below_drewN | apply below_drew1 | refine below_set ?_ GE136.out | refine below_set ?_ GE139.out⟩⟩
                       ·rw [if_neg c65] at H
                        exact absurd H (by simp)
                      ·rw [if_neg c64] at H
                       exact absurd H (by simp)
                     ·rw [if_neg c62] at H
                      have c62b0 : decide (0 < x4_2) = false := decide_eq_false c62
                      clear c62
                      (first | rw [c62b0] | (simp only [i64_w, i32_w]; rw [c62b0]) | skip)
                      have H' := Aside0.mk H
                      clear H
                      try go_wp2
                      have n0_ := Aside0.mk (blk_drew BK136.out)
                      have n1_ := Aside0.mk (blk_drew BK139.out)
                      have n2_ := Aside0.mk (below_drew1 HB.out)
                      clear BK136
                      clear BK139
                      clear HB
                      have BK136 := n0_
                      have BK139 := n1_
                      have HB := n2_
                      clear n0_ n1_ n2_
                      refine start_ (n := 14) (S := fun w' => True) (ds := []) #[false, false, false, false, false, false, false, false, false, false, false, false, false, false] (by kernel_rfl) rfl rfl trivial (fun hHeld => ?_); refine with_tabW dataflowref27_Check.tab17 dataflowref27_Check.bits17 (fun HT_ HW_ => ?_)
                      generalize wc.drew = w69 at BK136 BK139 HB hHeld ⊢
                      refine pure_ (i := 0) (N := some 101) (v := ?_) (a' := ?_) #[true, false, false, false, false, false, false, false, false, false, false, false, false, false] rfl rfl (any_of HT_.out (by kernel_rfl)) (fun _ _ _ h => h) (Or.inl ⟨by rfl, ?_⟩) ?_ ?_
                      rotate_left;focus(intro w';go_simp;with_reducible rfl)
                      rotate_left;focus(simp only [Act.put, List.setIfInBounds_toArray, List.set_cons_zero, List.set_cons_succ, i64_w];rfl)
                      refine pure_ (i := 1) (N := some 102) (v := ?_) (a' := ?_) #[true, true, false, false, false, false, false, false, false, false, false, false, false, false] rfl rfl (any_of HT_.out (by kernel_rfl)) (fun _ _ _ h => h) (Or.inl ⟨by rfl, ?_⟩) ?_ ?_
                      rotate_left;focus(intro w';go_simp;with_reducible rfl)
                      rotate_left;focus(simp only [Act.put, List.setIfInBounds_toArray, List.set_cons_zero, List.set_cons_succ, i64_w];rfl)
                      refine pure_ (i := 2) (N := some 103) (v := ?_) (a' := ?_) #[true, true, true, false, false, false, false, false, false, false, false, false, false, false] rfl rfl (any_of HT_.out (by kernel_rfl)) (fun _ _ _ h => h) (Or.inl ⟨by rfl, ?_⟩) ?_ ?_
                      rotate_left;focus(intro w';go_simp;with_reducible rfl)
                      rotate_left;focus(simp only [Act.put, List.setIfInBounds_toArray, List.set_cons_zero, List.set_cons_succ, i64_w];rfl)
                      refine pure_ (i := 3) (N := some 104) (v := undef) (a' := ?_) #[true, true, true, true, false, false, false, false, false, false, false, false, false, false] rfl rfl (any_of HT_.out (by kernel_rfl)) (fun _ _ _ h => h) (Or.inr ⟨by rfl, rfl⟩) ?_ ?_
                      rotate_left;focus(simp only [Act.put, List.setIfInBounds_toArray, List.set_cons_zero, List.set_cons_succ, i64_w];rfl)
                      refine pure_ (i := 4) (N := some 105) (v := undef) (a' := ?_) #[true, true, true, true, true, false, false, false, false, false, false, false, false, false] rfl rfl (any_of HT_.out (by kernel_rfl)) (fun _ _ _ h => h) (Or.inr ⟨by rfl, rfl⟩) ?_ ?_
                      rotate_left;focus(simp only [Act.put, List.setIfInBounds_toArray, List.set_cons_zero, List.set_cons_succ, i64_w];rfl)
                      refine pure_ (i := 5) (N := some 106) (v := undef) (a' := ?_) #[true, true, true, true, true, true, false, false, false, false, false, false, false, false] rfl rfl (any_of HT_.out (by kernel_rfl)) (fun _ _ _ h => h) (Or.inr ⟨by rfl, rfl⟩) ?_ ?_
                      rotate_left;focus(simp only [Act.put, List.setIfInBounds_toArray, List.set_cons_zero, List.set_cons_succ, i64_w];rfl)
                      refine pure_ (i := 6) (N := some 107) (v := undef) (a' := ?_) #[true, true, true, true, true, true, true, false, false, false, false, false, false, false] rfl rfl (any_of HT_.out (by kernel_rfl)) (fun _ _ _ h => h) (Or.inr ⟨by rfl, rfl⟩) ?_ ?_
                      rotate_left;focus(simp only [Act.put, List.setIfInBounds_toArray, List.set_cons_zero, List.set_cons_succ, i64_w];rfl)
                      refine pure_ (i := 7) (N := some 108) (v := undef) (a' := ?_) #[true, true, true, true, true, true, true, true, false, false, false, false, false, false] rfl rfl (any_of HT_.out (by kernel_rfl)) (fun _ _ _ h => h) (Or.inr ⟨by rfl, rfl⟩) ?_ ?_
                      rotate_left;focus(simp only [Act.put, List.setIfInBounds_toArray, List.set_cons_zero, List.set_cons_succ, i64_w];rfl)
                      refine pure_ (i := 8) (N := some 109) (v := undef) (a' := ?_) #[true, true, true, true, true, true, true, true, true, false, false, false, false, false] rfl rfl (any_of HT_.out (by kernel_rfl)) (fun _ _ _ h => h) (Or.inr ⟨by rfl, rfl⟩) ?_ ?_
                      rotate_left;focus(simp only [Act.put, List.setIfInBounds_toArray, List.set_cons_zero, List.set_cons_succ, i64_w];rfl)
                      refine pure_ (i := 9) (N := some 110) (v := undef) (a' := ?_) #[true, true, true, true, true, true, true, true, true, true, false, false, false, false] rfl rfl (any_of HT_.out (by kernel_rfl)) (fun _ _ _ h => h) (Or.inr ⟨by rfl, rfl⟩) ?_ ?_
                      rotate_left;focus(simp only [Act.put, List.setIfInBounds_toArray, List.set_cons_zero, List.set_cons_succ, i64_w];rfl)
                      refine pure_ (i := 10) (N := some 111) (v := undef) (a' := ?_) #[true, true, true, true, true, true, true, true, true, true, true, false, false, false] rfl rfl (any_of HT_.out (by kernel_rfl)) (fun _ _ _ h => h) (Or.inr ⟨by rfl, rfl⟩) ?_ ?_
                      rotate_left;focus(simp only [Act.put, List.setIfInBounds_toArray, List.set_cons_zero, List.set_cons_succ, i64_w];rfl)
                      refine pure_ (i := 11) (N := some 112) (v := undef) (a' := ?_) #[true, true, true, true, true, true, true, true, true, true, true, true, false, false] rfl rfl (any_of HT_.out (by kernel_rfl)) (fun _ _ _ h => h) (Or.inr ⟨by rfl, rfl⟩) ?_ ?_
                      rotate_left;focus(simp only [Act.put, List.setIfInBounds_toArray, List.set_cons_zero, List.set_cons_succ, i64_w];rfl)
                      refine pure_ (i := 12) (N := some 113) (v := ?_) (a' := ?_) #[true, true, true, true, true, true, true, true, true, true, true, true, true, false] rfl rfl (any_of HT_.out (by kernel_rfl)) (fun _ _ _ h => h) (Or.inl ⟨by rfl, ?_⟩) ?_ ?_
                      rotate_left;focus(intro w';go_simp;with_reducible rfl)
                      rotate_left;focus(simp only [Act.put, List.setIfInBounds_toArray, List.set_cons_zero, List.set_cons_succ, i64_w];rfl)
                      refine pure_ (i := 13) (N := some 100) (v := ?_) (a' := ?_) #[true, true, true, true, true, true, true, true, true, true, true, true, true, true] rfl rfl (any_of HT_.out (by kernel_rfl)) (fun _ _ _ h => h) (Or.inl ⟨by rfl, ?_⟩) ?_ ?_
                      rotate_left;focus(intro w';go_simp;with_reducible rfl)
                      rotate_left;focus(simp only [Act.put, List.setIfInBounds_toArray, List.set_cons_zero, List.set_cons_succ, i64_w];rfl)
                      refine done_ (done_of HT_.out (by kernel_rfl)) ?_
                      try go_wp2
                      go_meet
                      case rel => exact ⟨_, (false), (by first | rfl | (simp; done) | (simp [*]; done)), H', ⟨by have := HJ1.out; have := HK2.out; have := HJ13.out; have := HJ23.out; have := HJ39.out; have := HJ46.out; first | omega | exact Nat.le_refl _⟩, ⟨by (with_reducible repeat first | apply bn | apply bd | apply ba); exact BK136.out⟩, ⟨by (with_reducible repeat first | apply bn | apply bd | apply ba); exact BK139.out⟩, ⟨by repeat with_reducible first | exact HB.out | apply below_alloc | apply pw_below_drewN | apply below_drew1 | refine below_set ?_ GE136.out | refine below_set ?_ GE139.out⟩⟩
                    case rest =>
                     clear HC61
                     (try clear c1);(try clear p1);(try clear q1);(try clear hx1);(try clear c2);(try clear p2);(try clear c3);(try clear c4);(try clear c4b0);(try clear c4b1);(try clear c5);(try clear c6);(try clear p6);(try clear c7);(try clear c9);(try clear c9b0);(try clear c9b1);(try clear c11);(try clear c12);(try clear c12b0);(try clear c13);(try clear c13b0);(try clear p13);(try clear q13);(try clear hx13);(try clear p14);(try clear q14);(try clear hx14);(try clear c17);(try clear c19);(try clear c19b0);(try clear c19b1);(try clear c20);(try clear c22);(try clear c25);(try clear c25b0);(try clear c26);(try clear c28);(try clear c28b0);(try clear c29);(try clear c32);(try clear c32b0);(try clear c33);(try clear c36);(try clear c39);(try clear c41);(try clear c41b0);(try clear c42);(try clear c44);(try clear c46);(try clear c48);(try clear c49);(try clear c49b0);(try clear c49b1);(try clear c50);(try clear c52);(try clear c54);(try clear c54b0);(try clear c55);(try clear c57);(try clear c60);(try clear c62);(try clear c62b0);(try clear c64);(try clear c64b0);(try clear p64);(try clear c65);(try clear c65b0);(try clear hcz10_0);(try clear hcz10_1);(try clear hcz10_2);(try clear hcz15_0);(try clear hcz15_1);(try clear hcz15_2);(try clear hcz18_0);(try clear hcz18_1);(try clear hcz18_2);(try clear hcz18_3);(try clear hcz21_0);(try clear hcz21_1);(try clear hcz21_2);(try clear hcz21_3);(try clear hcz23_0);(try clear hcz23_1);(try clear hcz23_2);(try clear hcz23_3);(try clear hcz27_0);(try clear hcz27_1);(try clear hcz27_2);(try clear hcz27_3);(try clear hcz30_0);(try clear hcz30_1);(try clear hcz30_2);(try clear hcz30_3);(try clear hcz31_0);(try clear hcz31_1);(try clear hcz31_2);(try clear hcz34_0);(try clear hcz34_1);(try clear hcz34_2);(try clear hcz34_3);(try clear hcz35_0);(try clear hcz35_1);(try clear hcz35_2);(try clear hcz37_0);(try clear hcz37_1);(try clear hcz37_2);(try clear hcz37_3);(try clear hcz38_0);(try clear hcz38_1);(try clear hcz38_2);(try clear hcz43_0);(try clear hcz43_1);(try clear hcz43_2);(try clear hcz43_3);(try clear hcz45_0);(try clear hcz45_1);(try clear hcz45_2);(try clear hcz45_3);(try clear hcz51_0);(try clear hcz51_1);(try clear hcz51_2);(try clear hcz51_3);(try clear hcz53_0);(try clear hcz53_1);(try clear hcz53_2);(try clear hcz53_3);(try clear hcz56_0);(try clear hcz56_1);(try clear hcz56_2);(try clear hcz56_3);(try clear hcz58_0);(try clear hcz58_1);(try clear hcz58_2);(try clear hcz58_3);(try clear hcz59_0);(try clear hcz59_1);(try clear hcz59_2);(try clear hcz5_0);(try clear hcz5_1);(try clear hcz5_2);(try clear hcz6_0);(try clear hcz6_1);(try clear hcz6_2);(try clear hfz10_0);(try clear hfz10_1);(try clear hfz10_2);(try clear hfz15_0);(try clear hfz15_1);(try clear hfz15_2);(try clear hfz18_0);(try clear hfz18_1);(try clear hfz18_2);(try clear hfz18_3);(try clear hfz21_0);(try clear hfz21_1);(try clear hfz21_2);(try clear hfz21_3);(try clear hfz23_0);(try clear hfz23_1);(try clear hfz23_2);(try clear hfz23_3);(try clear hfz27_0);(try clear hfz27_1);(try clear hfz27_2);(try clear hfz27_3);(try clear hfz30_0);(try clear hfz30_1);(try clear hfz30_2);(try clear hfz30_3);(try clear hfz31_0);(try clear hfz31_1);(try clear hfz31_2);(try clear hfz34_0);(try clear hfz34_1);(try clear hfz34_2);(try clear hfz34_3);(try clear hfz35_0);(try clear hfz35_1);(try clear hfz35_2);(try clear hfz37_0);(try clear hfz37_1);(try clear hfz37_2);(try clear hfz37_3);(try clear hfz38_0);(try clear hfz38_1);(try clear hfz38_2);(try clear hfz43_0);(try clear hfz43_1);(try clear hfz43_2);(try clear hfz43_3);(try clear hfz45_0);(try clear hfz45_1);(try clear hfz45_2);(try clear hfz45_3);(try clear hfz51_0);(try clear hfz51_1);(try clear hfz51_2);(try clear hfz51_3);(try clear hfz53_0);(try clear hfz53_1);(try clear hfz53_2);(try clear hfz53_3);(try clear hfz56_0);(try clear hfz56_1);(try clear hfz56_2);(try clear hfz56_3);(try clear hfz58_0);(try clear hfz58_1);(try clear hfz58_2);(try clear hfz58_3);(try clear hfz59_0);(try clear hfz59_1);(try clear hfz59_2);(try clear hfz5_0);(try clear hfz5_1);(try clear hfz5_2);(try clear hfz6_0);(try clear hfz6_1);(try clear hfz6_2);(try clear hx138_0);(try clear hx138_1);(try clear hx138_2);(try clear hx138_3);(try clear hx140_0);(try clear hx140_1);(try clear hx140_2);(try clear hx140_3);(try clear p1);(try clear p13);(try clear p138);(try clear p140);(try clear p2);(try clear q1);(try clear q13);(try clear q138);(try clear q140)
                     obtain ⟨kq, x100_60, rfl, HA, HJ60, BK136, BK139, HB⟩ := hcut
                     cases kq with
                     | zero => exact absurd HA.out (by simp [dataflowref27_Check.j6])
                     | succ kj60 =>
                      have H := HA.out
                      clear HA
                      simp only [dataflowref27_Check.j6] at H
                      by_cases c70 : x100_60 = true
                      ·subst c70
                       have H1 : (some 13) = some r := by rw [if_pos rfl] at H; exact H
                       clear H
                       have H := H1
                       clear H1
                       obtain rfl := Option.some.inj H
                       go_wp2
                       go_ret
                       exact ⟨by first | rfl | (simp [errW_none, errW_some] <;> rfl) | (simp [*, errW_none, errW_some] <;> rfl), by repeat with_reducible first | exact HB.out | apply below_alloc | apply pw_below_drewN | apply below_drew1 | refine below_set ?_ GE136.out | refine below_set ?_ GE139.out⟩
                      ·replace c70 := Bool.eq_false_iff.mpr c70
                       subst c70
                       have H1 : ((dataflowref27_fits.f kj60 l0_0 l0_1 a0_2 ((rd_T33 l0_1 x4_2).f0) ((rd_T33 l0_1 x4_2).f1) ((rd_T33 l0_1 x4_2).f2) ((rd_T33 l0_1 x4_2).f3)).bind fun t142 => (if t142 = true then (dataflowref27_Check.l0 kj60 (wrap64 (x4_2 + 1)) l0_0 l0_1 a0_2) else (some 20))) = some r := by rw [if_neg (show ¬ (false = true) by decide)] at H; exact H
                       clear H
                       have H := H1
                       clear H1
                       replace H := Option.bind_eq_some_iff.mp H
                       obtain ⟨t142, A710, H⟩ := H
                       replace H : (if t142 = true then (dataflowref27_Check.l0 kj60 (wrap64 (x4_2 + 1)) l0_0 l0_1 a0_2) else (some 20)) = some r := H
                       have A71 := Aside0.mk A710
                       clear A710
                       by_cases c72 : t142 = true
                       ·subst c72
                        have H1 : (dataflowref27_Check.l0 kj60 (wrap64 (x4_2 + 1)) l0_0 l0_1 a0_2) = some r := by rw [if_pos rfl] at H; exact H
                        clear H
                        have H := H1
                        clear H1
                        have H' := Aside0.mk H
                        clear H
                        have hnb73 := NB136_139.out
                        have hnc73 := NB139_136.out
                        have hcz74_0 : wc.cell? ⟨gb136, 0, none⟩ = some (.slice A0_0 l0_0.length c0_0) := (blk_cell BK136.out 0).trans rfl
                        have hcz74_1 : wc.cell? ⟨gb136, 1, none⟩ = some (.slice (some ad138) l0_1.length c0_1) := (blk_cell BK136.out 1).trans rfl
                        have hcz74_2 : wc.cell? ⟨gb136, 2, none⟩ = some (.int .i64 a0_2) := (blk_cell BK136.out 2).trans rfl
                        have hfz74_0 := blk_frozen BK136.out 0
                        have hfz74_1 := blk_frozen BK136.out 1
                        have hfz74_2 := blk_frozen BK136.out 2
                        have hcz75_0 : wc.cell? ⟨gb139, 0, none⟩ = some (.int .i64 ((rd_T33 l0_1 x4_2).f0)) := (blk_cell BK139.out 0).trans rfl
                        have hcz75_1 : wc.cell? ⟨gb139, 1, none⟩ = some (.int .i64 ((rd_T33 l0_1 x4_2).f1)) := (blk_cell BK139.out 1).trans rfl
                        have hcz75_2 : wc.cell? ⟨gb139, 2, none⟩ = some (.int .i64 ((rd_T33 l0_1 x4_2).f2)) := (blk_cell BK139.out 2).trans rfl
                        have hcz75_3 : wc.cell? ⟨gb139, 3, none⟩ = some (.int .i64 ((rd_T33 l0_1 x4_2).f3)) := (blk_cell BK139.out 3).trans rfl
                        have hfz75_0 := blk_frozen BK139.out 0
                        have hfz75_1 := blk_frozen BK139.out 1
                        have hfz75_2 := blk_frozen BK139.out 2
                        have hfz75_3 := blk_frozen BK139.out 3
                        go_wp2_with (first | ((with_reducible refine gate_callee (f := 13) rfl ?_); refine goesL_ (some 117) rfl rfl Try.func13 (by kernel_rfl) rfl #[.agg #[.slice A0_0 l0_0.length c0_0, .slice (some ad138) l0_1.length c0_1, .int .i64 a0_2], .agg #[.int .i64 ((rd_T33 l0_1 x4_2).f0), .int .i64 ((rd_T33 l0_1 x4_2).f1), .int .i64 ((rd_T33 l0_1 x4_2).f2), .int .i64 ((rd_T33 l0_1 x4_2).f3)]] rfl (by (try simp only [List.map_toArray, List.map_cons, List.map_nil]); first | done | rfl) ?_; (with_reducible refine (dataflowref27_fits.calls kj60 _ _ l0_0 _ _ l0_1 a0_2 ((rd_T33 l0_1 x4_2).f0) ((rd_T33 l0_1 x4_2).f1) ((rd_T33 l0_1 x4_2).f2) ((rd_T33 l0_1 x4_2).f3) true _ ?side1 ?side2 ?side3 ?side4 A71.out).mono ?_); (case side1 => repeat (first | exact (Kd.C_below HR0_0.out HB.out) | (with_reducible refine Kd.C_alloc ?_ _) | (with_reducible refine Kd.C_drewN ?_ _) | (with_reducible refine Kd.C_drew ?_))); (case side2 => exact HC0_0.out); (case side3 => repeat (first | exact (Kd.C_below HR0_1.out HB.out) | (with_reducible refine Kd.C_alloc ?_ _) | (with_reducible refine Kd.C_drewN ?_ _) | (with_reducible refine Kd.C_drew ?_))); (case side4 => exact HC0_1.out); rintro e w76 ⟨rfl, hb⟩; refine ⟨_, rfl, ?_⟩; have n0_ := Aside0.mk (blk_below (g := gb136) (o := .cells #[.slice A0_0 l0_0.length c0_0, .slice (some ad138) l0_1.length c0_1, .int .i64 a0_2] 25 (0, 0)) (by (with_reducible repeat first | apply bn | apply bd | apply ba); exact BK136.out) hb); have n1_ := Aside0.mk (blk_below (g := gb139) (o := .cells #[.int .i64 ((rd_T33 l0_1 x4_2).f0), .int .i64 ((rd_T33 l0_1 x4_2).f1), .int .i64 ((rd_T33 l0_1 x4_2).f2), .int .i64 ((rd_T33 l0_1 x4_2).f3)] 33 (0, 0)) (by (with_reducible repeat first | apply bn | apply bd | apply ba); exact BK139.out) hb); have n2_ := Aside0.mk (below_step (by repeat with_reducible first | exact HB.out | apply below_alloc | apply pw_below_drewN | apply below_drew1 | refine below_set ?_ GE136.out | refine below_set ?_ GE139.out) hb); clear BK136; clear BK139; clear HB; have BK136 := n0_; have BK139 := n1_; have HB := n2_; clear n0_ n1_ n2_; (try clear hb); (try clear hb2); (try clear hk); (try clear hi)))
                        go_roundg kj60
                        case measure => have := HJ1.out; have := HK2.out; have := HJ13.out; have := HJ23.out; have := HJ39.out; have := HJ46.out; have := HJ60.out; omega
                        case rel => exact ⟨(wrap64 (x4_2 + 1)), (by first | rfl | (simp; done) | (simp [*]; done)), H', ⟨by have := HJ1.out; have := HK2.out; have := HJ13.out; have := HJ23.out; have := HJ39.out; have := HJ46.out; have := HJ60.out; omega⟩, ⟨by (with_reducible repeat first | apply bn | apply bd | apply ba); exact BK136.out⟩, ⟨by repeat with_reducible first | exact HB.out | apply below_alloc | apply pw_below_drewN | apply below_drew1 | refine below_set ?_ GE136.out | refine below_set ?_ GE139.out⟩⟩
                       ·replace c72 := Bool.eq_false_iff.mpr c72
                        subst c72
                        have H1 : (some 20) = some r := by rw [if_neg (show ¬ (false = true) by decide)] at H; exact H
                        clear H
                        have H := H1
                        clear H1
                        obtain rfl := Option.some.inj H
                        have hnb77 := NB136_139.out
                        have hnc77 := NB139_136.out
                        have hcz78_0 : wc.cell? ⟨gb136, 0, none⟩ = some (.slice A0_0 l0_0.length c0_0) := (blk_cell BK136.out 0).trans rfl
                        have hcz78_1 : wc.cell? ⟨gb136, 1, none⟩ = some (.slice (some ad138) l0_1.length c0_1) := (blk_cell BK136.out 1).trans rfl
                        have hcz78_2 : wc.cell? ⟨gb136, 2, none⟩ = some (.int .i64 a0_2) := (blk_cell BK136.out 2).trans rfl
                        have hfz78_0 := blk_frozen BK136.out 0
                        have hfz78_1 := blk_frozen BK136.out 1
                        have hfz78_2 := blk_frozen BK136.out 2
                        have hcz79_0 : wc.cell? ⟨gb139, 0, none⟩ = some (.int .i64 ((rd_T33 l0_1 x4_2).f0)) := (blk_cell BK139.out 0).trans rfl
                        have hcz79_1 : wc.cell? ⟨gb139, 1, none⟩ = some (.int .i64 ((rd_T33 l0_1 x4_2).f1)) := (blk_cell BK139.out 1).trans rfl
                        have hcz79_2 : wc.cell? ⟨gb139, 2, none⟩ = some (.int .i64 ((rd_T33 l0_1 x4_2).f2)) := (blk_cell BK139.out 2).trans rfl
                        have hcz79_3 : wc.cell? ⟨gb139, 3, none⟩ = some (.int .i64 ((rd_T33 l0_1 x4_2).f3)) := (blk_cell BK139.out 3).trans rfl
                        have hfz79_0 := blk_frozen BK139.out 0
                        have hfz79_1 := blk_frozen BK139.out 1
                        have hfz79_2 := blk_frozen BK139.out 2
                        have hfz79_3 := blk_frozen BK139.out 3
                        go_wp2_with (first | ((with_reducible refine gate_callee (f := 13) rfl ?_); refine goesL_ (some 117) rfl rfl Try.func13 (by kernel_rfl) rfl #[.agg #[.slice A0_0 l0_0.length c0_0, .slice (some ad138) l0_1.length c0_1, .int .i64 a0_2], .agg #[.int .i64 ((rd_T33 l0_1 x4_2).f0), .int .i64 ((rd_T33 l0_1 x4_2).f1), .int .i64 ((rd_T33 l0_1 x4_2).f2), .int .i64 ((rd_T33 l0_1 x4_2).f3)]] rfl (by (try simp only [List.map_toArray, List.map_cons, List.map_nil]); first | done | rfl) ?_; (with_reducible refine (dataflowref27_fits.calls kj60 _ _ l0_0 _ _ l0_1 a0_2 ((rd_T33 l0_1 x4_2).f0) ((rd_T33 l0_1 x4_2).f1) ((rd_T33 l0_1 x4_2).f2) ((rd_T33 l0_1 x4_2).f3) false _ ?side1 ?side2 ?side3 ?side4 A71.out).mono ?_); (case side1 => repeat (first | exact (Kd.C_below HR0_0.out HB.out) | (with_reducible refine Kd.C_alloc ?_ _) | (with_reducible refine Kd.C_drewN ?_ _) | (with_reducible refine Kd.C_drew ?_))); (case side2 => exact HC0_0.out); (case side3 => repeat (first | exact (Kd.C_below HR0_1.out HB.out) | (with_reducible refine Kd.C_alloc ?_ _) | (with_reducible refine Kd.C_drewN ?_ _) | (with_reducible refine Kd.C_drew ?_))); (case side4 => exact HC0_1.out); rintro e w80 ⟨rfl, hb⟩; refine ⟨_, rfl, ?_⟩; have n0_ := Aside0.mk (blk_below (g := gb136) (o := .cells #[.slice A0_0 l0_0.length c0_0, .slice (some ad138) l0_1.length c0_1, .int .i64 a0_2] 25 (0, 0)) (by (with_reducible repeat first | apply bn | apply bd | apply ba); exact BK136.out) hb); have n1_ := Aside0.mk (blk_below (g := gb139) (o := .cells #[.int .i64 ((rd_T33 l0_1 x4_2).f0), .int .i64 ((rd_T33 l0_1 x4_2).f1), .int .i64 ((rd_T33 l0_1 x4_2).f2), .int .i64 ((rd_T33 l0_1 x4_2).f3)] 33 (0, 0)) (by (with_reducible repeat first | apply bn | apply bd | apply ba); exact BK139.out) hb); have n2_ := Aside0.mk (below_step (by repeat with_reducible first | exact HB.out | apply below_alloc | apply pw_below_drewN | apply below_drew1 | refine below_set ?_ GE136.out | refine below_set ?_ GE139.out) hb); clear BK136; clear BK139; clear HB; have BK136 := n0_; have BK139 := n1_; have HB := n2_; clear n0_ n1_ n2_; (try clear hb); (try clear hb2); (try clear hk); (try clear hi)))
                        go_ret
                        exact ⟨by first | rfl | (simp [errW_none, errW_some] <;> rfl) | (simp [*, errW_none, errW_some] <;> rfl), by repeat with_reducible first | exact HB.out | apply below_alloc | apply pw_below_drewN | apply below_drew1 | refine below_set ?_ GE136.out | refine below_set ?_ GE139.out⟩
        ·rw [if_neg c13] at H
         exact absurd H (by simp)
       ·rw [if_neg c12] at H
        have c12b0 : decide (x4_2 < (l0_1.length : Int)) = false := decide_eq_false c12
        clear c12
        obtain rfl := Option.some.inj H
        have hcz81_0 : wr.cell? ⟨gb136, 0, none⟩ = some (.slice A0_0 l0_0.length c0_0) := (blk_cell BK136.out 0).trans rfl
        have hcz81_1 : wr.cell? ⟨gb136, 1, none⟩ = some (.slice A0_1 l0_1.length c0_1) := (blk_cell BK136.out 1).trans rfl
        have hcz81_2 : wr.cell? ⟨gb136, 2, none⟩ = some (.int .i64 a0_2) := (blk_cell BK136.out 2).trans rfl
        have hfz81_0 := blk_frozen BK136.out 0
        have hfz81_1 := blk_frozen BK136.out 1
        have hfz81_2 := blk_frozen BK136.out 2
        go_wp2
        go_ret
        exact ⟨by first | rfl | (simp [errW_none, errW_some] <;> rfl) | (simp [*, errW_none, errW_some] <;> rfl), by repeat with_reducible first | exact HB.out | apply below_alloc | apply pw_below_drewN | apply below_drew1 | refine below_set ?_ GE136.out⟩
    ·rw [if_neg c9] at H
     have c9b0 : (t137 == 0) = false := beq_eq_false_iff_ne.mpr c9
     have c9b1 : (t137 != 0) = true := bne_iff_ne.mpr c9
     obtain rfl := Option.some.inj H
     have hcz82_0 : wc.cell? ⟨gb136, 0, none⟩ = some (.slice A0_0 l0_0.length c0_0) := (blk_cell BK136.out 0).trans rfl
     have hcz82_1 : wc.cell? ⟨gb136, 1, none⟩ = some (.slice A0_1 l0_1.length c0_1) := (blk_cell BK136.out 1).trans rfl
     have hcz82_2 : wc.cell? ⟨gb136, 2, none⟩ = some (.int .i64 a0_2) := (blk_cell BK136.out 2).trans rfl
     have hfz82_0 := blk_frozen BK136.out 0
     have hfz82_1 := blk_frozen BK136.out 1
     have hfz82_2 := blk_frozen BK136.out 2
     go_wp2_with (first | ((with_reducible refine gate_callee (f := 11) rfl ?_); refine goesL_ (some 18) rfl rfl Try.func11 (by kernel_rfl) rfl #[.agg #[.slice A0_0 l0_0.length c0_0, .slice A0_1 l0_1.length c0_1, .int .i64 a0_2]] rfl (by (try simp only [List.map_toArray, List.map_cons, List.map_nil]); first | done | rfl) ?_; (with_reducible refine (dataflowref27_nodes.calls kj1 _ _ l0_0 _ _ l0_1 a0_2 t137 _ ?side1 ?side2 ?side3 ?side4 A8.out).mono ?_); (case side1 => repeat (first | exact (Kd.C_below HR0_0.out HB.out) | (with_reducible refine Kd.C_alloc ?_ _) | (with_reducible refine Kd.C_drewN ?_ _) | (with_reducible refine Kd.C_drew ?_))); (case side2 => exact HC0_0.out); (case side3 => repeat (first | exact (Kd.C_below HR0_1.out HB.out) | (with_reducible refine Kd.C_alloc ?_ _) | (with_reducible refine Kd.C_drewN ?_ _) | (with_reducible refine Kd.C_drew ?_))); (case side4 => exact HC0_1.out); rintro e w83 ⟨rfl, hb⟩; refine ⟨_, rfl, ?_⟩; have n0_ := Aside0.mk (blk_below (g := gb136) (o := .cells #[.slice A0_0 l0_0.length c0_0, .slice A0_1 l0_1.length c0_1, .int .i64 a0_2] 25 (0, 0)) (by (with_reducible repeat first | apply bn | apply bd | apply ba); exact BK136.out) hb); have n1_ := Aside0.mk (below_step (by repeat with_reducible first | exact HB.out | apply below_alloc | apply pw_below_drewN | apply below_drew1 | refine below_set ?_ GE136.out) hb); clear BK136; clear HB; have BK136 := n0_; have HB := n1_; clear n0_ n1_; (try clear hb); (try clear hb2); (try clear hk); (try clear hi)))
     go_ret
     exact ⟨by first | rfl | (simp [errW_none, errW_some] <;> rfl) | (simp [*, errW_none, errW_some] <;> rfl), by repeat with_reducible first | exact HB.out | apply below_alloc | apply pw_below_drewN | apply below_drew1 | refine below_set ?_ GE136.out⟩

end Go.Proofs.Ytbmhpnegigccnaa.PS
