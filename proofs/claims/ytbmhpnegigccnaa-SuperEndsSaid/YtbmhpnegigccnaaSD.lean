/- Printed by a program of this session out of the translation: plain functions with the answers of the Go functions, and the proofs that they have them. -/
import Derived.Test.YtbmhpnegigccnaaSC
import Derived.Test.YtbmhpnegigccnaaSI
import Derived.Test.YtbmhpnegigccnaaSN
import Derived.Test.YtbmhpnegigccnaaS9
namespace Go.Proofs.Ytbmhpnegigccnaa.PS
open Go.RowKit Go.Proofs.YtbmhpnegigccnaaW.PrintWords Go.Proofs.YtbmhpnegigccnaaW.PrintLast Go.Proofs.YtbmhpnegigccnaaW.PrintMore
attribute [local go_sem] max2_int min2_int max_two min_two max_three min_three max_four min_four   -- for this text's walks alone
set_option linter.unusedVariables false
set_option linter.unusedSimpArgs false

/-! ### super_Check: function 16 -/
mutual
def super_Check.j0 : Nat → Int → List (S36) → Bool → List (S36) → List (S33) → Int → Option (Int)
 | 0, _, _, _, _, _, _ => none
 | k + 1, x2, x8, x16, x224000, x224001, x224002 => if x16 = true then (if 0 ≤ (-1) then (if (-1) < (x8.length : Int) then (some x2) else (none)) else (none)) else ((super_checkNodes.f k x224000).bind fun t225 => (if t225 = 0 then (if x224002 < 0 then (super_Check.j1 k x2 x8 true x224000 x224001 x224002) else (if x224002 ≥ (x224000.length : Int) then (super_Check.j1 k x2 x8 true x224000 x224001 x224002) else (if 0 ≤ x224002 then (if x224002 < (x224000.length : Int) then (super_Check.j1 k x2 x8 (((rd_T36 x224000 x224002).f1) != 1) x224000 x224001 x224002) else (none)) else (none)))) else (if 0 ≤ (-1) then (if (-1) < (x8.length : Int) then (some x2) else (none)) else (none))))
def super_Check.j1 : Nat → Int → List (S36) → Bool → List (S36) → List (S33) → Int → Option (Int)
 | 0, _, _, _, _, _, _ => none
 | k + 1, x2, x8, x43, x224000, x224001, x224002 => if x43 = true then (some 14) else ((api_SEdge_24.f k x224001).bind fun t228 => (if t228 = true then (super_Check.l0 k x2 x8 (x224001.length : Int) 0 x224000 x224001 x224002) else (if 0 ≤ (-1) then (if (-1) < (x224001.length : Int) then (some x2) else (none)) else (none))))
def super_Check.l0 : Nat → Int → List (S36) → Int → Int → List (S36) → List (S33) → Int → Option (Int)
 | 0, _, _, _, _, _, _, _ => none
 | k + 1, x2, x8, x53, x54, x224000, x224001, x224002 => if x54 < x53 then ((super_checkEdge.f k x224000 x224001 x224002 x54).bind fun t230 => (if t230 = 0 then (super_Check.l0 k x2 x8 x53 (wrap64 (x54 + 1)) x224000 x224001 x224002) else (if 0 ≤ (-1) then (if (-1) < (x8.length : Int) then (some x2) else (none)) else (none)))) else (some 0)
end
def super_Check.f (k : Nat) (l0_0 : List (S36)) (l0_1 : List (S33)) (a0_2 : Int) : Option (Int) := if (l0_0.length : Int) > 8192 then (super_Check.j0 k 0 l0_0 true l0_0 l0_1 a0_2) else (super_Check.j0 k 0 l0_0 (decide ((l0_1.length : Int) > 32768)) l0_0 l0_1 a0_2)
theorem super_Check.mono_l : ∀ k, (∀ y0 y1 y2 y3 y4 y5, LeO (super_Check.j0 k y0 y1 y2 y3 y4 y5) (super_Check.j0 (k + 1) y0 y1 y2 y3 y4 y5)) ∧ (∀ y0 y1 y2 y3 y4 y5, LeO (super_Check.j1 k y0 y1 y2 y3 y4 y5) (super_Check.j1 (k + 1) y0 y1 y2 y3 y4 y5)) ∧ (∀ y0 y1 y2 y3 y4 y5 y6, LeO (super_Check.l0 k y0 y1 y2 y3 y4 y5 y6) (super_Check.l0 (k + 1) y0 y1 y2 y3 y4 y5 y6))
 | 0 => ⟨fun _ _ _ _ _ _ r h => by simp [super_Check.j0] at h, fun _ _ _ _ _ _ r h => by simp [super_Check.j1] at h, fun _ _ _ _ _ _ _ r h => by simp [super_Check.l0] at h⟩
 | k + 1 => by
  obtain ⟨ih0, ih1, ih2⟩ := super_Check.mono_l k
  refine ⟨?_, ?_, ?_⟩
  ·intro y0 y1 y2 y3 y4 y5
   unfold super_Check.j0
   repeat' first
   | (with_reducible exact ih0 _ _ _ _ _ _)
   | (with_reducible exact ih1 _ _ _ _ _ _)
   | (with_reducible exact ih2 _ _ _ _ _ _ _)
   | (with_reducible exact api_SEdge_24.mono _ _)
   | (with_reducible exact super_checkEdge.mono _ _ _ _ _)
   | (with_reducible exact super_checkNodes.mono _ _)
   | (with_reducible exact LeO.refl _)
   | (with_reducible exact LeO.none _)
   | (with_reducible refine LeO.ite ?_ ?_)
   | (with_reducible refine LeO.bind ?_ (fun _ => ?_))
   | exact ih0 _ _ _ _ _ _
   | exact ih1 _ _ _ _ _ _
   | exact ih2 _ _ _ _ _ _ _
   | exact api_SEdge_24.mono _ _
   | exact super_checkEdge.mono _ _ _ _ _
   | exact super_checkNodes.mono _ _
   | exact LeO.none _
   | refine LeO.ite ?_ ?_
   | refine LeO.bind ?_ (fun _ => ?_)
  ·intro y0 y1 y2 y3 y4 y5
   unfold super_Check.j1
   repeat' first
   | (with_reducible exact ih0 _ _ _ _ _ _)
   | (with_reducible exact ih1 _ _ _ _ _ _)
   | (with_reducible exact ih2 _ _ _ _ _ _ _)
   | (with_reducible exact api_SEdge_24.mono _ _)
   | (with_reducible exact super_checkEdge.mono _ _ _ _ _)
   | (with_reducible exact super_checkNodes.mono _ _)
   | (with_reducible exact LeO.refl _)
   | (with_reducible exact LeO.none _)
   | (with_reducible refine LeO.ite ?_ ?_)
   | (with_reducible refine LeO.bind ?_ (fun _ => ?_))
   | exact ih0 _ _ _ _ _ _
   | exact ih1 _ _ _ _ _ _
   | exact ih2 _ _ _ _ _ _ _
   | exact api_SEdge_24.mono _ _
   | exact super_checkEdge.mono _ _ _ _ _
   | exact super_checkNodes.mono _ _
   | exact LeO.none _
   | refine LeO.ite ?_ ?_
   | refine LeO.bind ?_ (fun _ => ?_)
  ·intro y0 y1 y2 y3 y4 y5 y6
   unfold super_Check.l0
   repeat' first
   | (with_reducible exact ih0 _ _ _ _ _ _)
   | (with_reducible exact ih1 _ _ _ _ _ _)
   | (with_reducible exact ih2 _ _ _ _ _ _ _)
   | (with_reducible exact api_SEdge_24.mono _ _)
   | (with_reducible exact super_checkEdge.mono _ _ _ _ _)
   | (with_reducible exact super_checkNodes.mono _ _)
   | (with_reducible exact LeO.refl _)
   | (with_reducible exact LeO.none _)
   | (with_reducible refine LeO.ite ?_ ?_)
   | (with_reducible refine LeO.bind ?_ (fun _ => ?_))
   | exact ih0 _ _ _ _ _ _
   | exact ih1 _ _ _ _ _ _
   | exact ih2 _ _ _ _ _ _ _
   | exact api_SEdge_24.mono _ _
   | exact super_checkEdge.mono _ _ _ _ _
   | exact super_checkNodes.mono _ _
   | exact LeO.none _
   | refine LeO.ite ?_ ?_
   | refine LeO.bind ?_ (fun _ => ?_)
theorem super_Check.mono : ∀ a0 a1 a2 k, LeO (super_Check.f k a0 a1 a2) (super_Check.f (k + 1) a0 a1 a2) := by
 intro a0 a1 a2 k
 obtain ⟨ih0, ih1, ih2⟩ := super_Check.mono_l k
 unfold super_Check.f
 repeat' first
   | (with_reducible exact ih0 _ _ _ _ _ _)
   | (with_reducible exact ih1 _ _ _ _ _ _)
   | (with_reducible exact ih2 _ _ _ _ _ _ _)
   | (with_reducible exact api_SEdge_24.mono _ _)
   | (with_reducible exact super_checkEdge.mono _ _ _ _ _)
   | (with_reducible exact super_checkNodes.mono _ _)
   | (with_reducible exact LeO.refl _)
   | (with_reducible exact LeO.none _)
   | (with_reducible refine LeO.ite ?_ ?_)
   | (with_reducible refine LeO.bind ?_ (fun _ => ?_))
   | exact ih0 _ _ _ _ _ _
   | exact ih1 _ _ _ _ _ _
   | exact ih2 _ _ _ _ _ _ _
   | exact api_SEdge_24.mono _ _
   | exact super_checkEdge.mono _ _ _ _ _
   | exact super_checkNodes.mono _ _
   | exact LeO.none _
   | refine LeO.ite ?_ ?_
   | refine LeO.bind ?_ (fun _ => ?_)
set_option maxHeartbeats 8000000 in
set_option maxRecDepth 100000 in
theorem super_Check.calls (k : Nat) (A0_0 : Option Addr) (c0_0 : Nat) (l0_0 : List (S36)) (A0_1 : Option Addr) (c0_1 : Nat) (l0_1 : List (S33)) (a0_2 : Int) (r : Int) (w : World) (hr0_0 : Kd.C k36 w A0_0 l0_0.length l0_0) (hc0_0 : l0_0.length ≤ c0_0) (hr0_1 : Kd.C k33 w A0_1 l0_1.length l0_1) (hc0_1 : l0_1.length ≤ c0_1) (h : super_Check.f k l0_0 l0_1 a0_2 = some r) :
  Calls Try.prog 16 #[.agg #[.slice A0_0 l0_0.length c0_0, .slice A0_1 l0_1.length c0_1, .int .i64 a0_2]] w fun e w' => e = .returned (.int .i64 r) ∧ Below w.heap.size w w' := by
 have hu25 := Try.underlying25
 have hu36 := Try.underlying36
 have hu33 := Try.underlying33
 have HR0_0 := Aside0.mk hr0_0
 have HC0_0 := Aside0.mk hc0_0
 clear hr0_0 hc0_0
 have HR0_1 := Aside0.mk hr0_1
 have HC0_1 := Aside0.mk hc0_1
 clear hr0_1 hc0_1
 have HB := Aside0.mk (Below.refl w.heap.size w)
 have H : (if (l0_0.length : Int) > 8192 then (super_Check.j0 k 0 l0_0 true l0_0 l0_1 a0_2) else (super_Check.j0 k 0 l0_0 (decide ((l0_1.length : Int) > 32768)) l0_0 l0_1 a0_2)) = some r := h
 clear h
 have HC2 := Aside0.mk H
 clear H
 go_enter Try.func16, Try.ntmps16
 go_upto_region 1 with (first | ((with_reducible refine gate_dst (N := 1) rfl ?_); (try (refine gate_guard (by rfl) ?_; dsimp only)); refine box_event ?hg (N := 1) ?hd (cs := #[.slice A0_0 l0_0.length c0_0, .slice A0_1 l0_1.length c0_1, .int .i64 a0_2]) (t := 25) ?hr ?_; (case hd => rfl); (case hg => rfl); (case hr => first | (go_simp; done) | (go_simp; rfl)); intro gb223 hg w3 hbox hb; have n0_ := Aside0.mk (below_step (by repeat with_reducible first | exact HB.out | apply below_alloc | apply pw_below_drewN | apply below_drew1) hb); have n1_ := Aside0.mk (hbox); have n2_ := Aside0.mk ((by rw [hg]; exact (below_size (by repeat with_reducible first | exact HB.out | apply below_alloc | apply pw_below_drewN | apply below_drew1)) : w.heap.size ≤ gb223)); have n3_ := Aside0.mk ((by rw [hg]; exact (below_size (by repeat with_reducible first | exact HB.out | apply below_alloc | apply pw_below_drewN | apply below_drew1)) : w.heap.size ≤ gb223)); clear HB; have HB := n0_; have BK223 := n1_; have GW223 := n2_; have GE223 := n3_; clear n0_ n1_ n2_ n3_; clear hb hbox hg))
 (try simp only [Act.put, List.setIfInBounds_toArray, List.set_cons_zero, List.set_cons_succ])
 go_cut [8, 16] (fun v8 v16 wc => ∃ (kq : Nat) (x8_1 : List (S36)) (x16_1 : Bool), v16 = .bool x16_1 ∧ Aside0 (super_Check.j0 kq 0 x8_1 x16_1 l0_0 l0_1 a0_2 = some r) ∧ Aside0 (kq ≤ k) ∧ Aside0 (wc.heap[gb223]? = some (.cells #[(.slice A0_0 l0_0.length c0_0), (.slice A0_1 l0_1.length c0_1), .int .i64 a0_2] 25 (0, 0))) ∧ Aside0 (Below w.heap.size w wc))
 case first =>
  have H := HC2.out
  clear HC2
  by_cases c4 : (l0_0.length : Int) > 8192
  ·rw [if_pos c4] at H
   have c4b0 : decide (8192 < (l0_0.length : Int)) = true := decide_eq_true c4
   have c4b1 : decide (8192 < l0_0.length) = true := decide_eq_true (by omega)
   clear c4
   (first | rw [c4b0] | (simp only [i64_w, i32_w]; rw [c4b0]) | skip)
   have H' := Aside0.mk H
   clear H
   have hcz5_0 : w3.cell? ⟨gb223, 0, none⟩ = some (.slice A0_0 l0_0.length c0_0) := (blk_cell BK223.out 0).trans rfl
   have hcz5_1 : w3.cell? ⟨gb223, 1, none⟩ = some (.slice A0_1 l0_1.length c0_1) := (blk_cell BK223.out 1).trans rfl
   have hcz5_2 : w3.cell? ⟨gb223, 2, none⟩ = some (.int .i64 a0_2) := (blk_cell BK223.out 2).trans rfl
   have hfz5_0 := blk_frozen BK223.out 0
   have hfz5_1 := blk_frozen BK223.out 1
   have hfz5_2 := blk_frozen BK223.out 2
   go_wp2
   go_meet
   case rel => exact ⟨_, (l0_0), (true), (by first | rfl | (simp; done) | (simp [*]; done)), H', ⟨by first | omega | exact Nat.le_refl _⟩, ⟨by (with_reducible repeat first | apply bn | apply bd | apply ba); exact BK223.out⟩, ⟨by repeat with_reducible first | exact HB.out | apply below_alloc | apply pw_below_drewN | apply below_drew1 | refine below_set ?_ GE223.out⟩⟩
  ·rw [if_neg c4] at H
   have c4b0 : decide (8192 < (l0_0.length : Int)) = false := decide_eq_false c4
   have c4b1 : decide (8192 < l0_0.length) = false := decide_eq_false (by omega)
   clear c4
   (first | rw [c4b0] | (simp only [i64_w, i32_w]; rw [c4b0]) | skip)
   have H' := Aside0.mk H
   clear H
   have hcz6_0 : w3.cell? ⟨gb223, 0, none⟩ = some (.slice A0_0 l0_0.length c0_0) := (blk_cell BK223.out 0).trans rfl
   have hcz6_1 : w3.cell? ⟨gb223, 1, none⟩ = some (.slice A0_1 l0_1.length c0_1) := (blk_cell BK223.out 1).trans rfl
   have hcz6_2 : w3.cell? ⟨gb223, 2, none⟩ = some (.int .i64 a0_2) := (blk_cell BK223.out 2).trans rfl
   have hfz6_0 := blk_frozen BK223.out 0
   have hfz6_1 := blk_frozen BK223.out 1
   have hfz6_2 := blk_frozen BK223.out 2
   go_wp2
   go_meet
   case rel => exact ⟨_, (l0_0), (decide ((l0_1.length : Int) > 32768)), (by first | rfl | (simp; done) | (simp [*]; done)), H', ⟨by first | omega | exact Nat.le_refl _⟩, ⟨by (with_reducible repeat first | apply bn | apply bd | apply ba); exact BK223.out⟩, ⟨by repeat with_reducible first | exact HB.out | apply below_alloc | apply pw_below_drewN | apply below_drew1 | refine below_set ?_ GE223.out⟩⟩
 case rest =>
  clear HC2
  (try clear c1);(try clear p2);(try clear c4);(try clear c4b0);(try clear c4b1);(try clear hcz5_0);(try clear hcz5_1);(try clear hcz5_2);(try clear hcz6_0);(try clear hcz6_1);(try clear hcz6_2);(try clear hfz5_0);(try clear hfz5_1);(try clear hfz5_2);(try clear hfz6_0);(try clear hfz6_1);(try clear hfz6_2)
  obtain ⟨kq, x8_1, x16_1, rfl, HA, HJ1, BK223, HB⟩ := hcut
  cases kq with
  | zero => exact absurd HA.out (by simp [super_Check.j0])
  | succ kj1 =>
   have H := HA.out
   clear HA
   simp only [super_Check.j0] at H
   by_cases c7 : x16_1 = true
   ·subst c7
    have H1 : (if 0 ≤ (-1) then (if (-1) < (x8_1.length : Int) then (some 0) else (none)) else (none)) = some r := by rw [if_pos rfl] at H; exact H
    clear H
    have H := H1
    clear H1
    by_cases c8 : 0 ≤ (-1)
    ·exact absurd c8 (by decide)
    ·rw [if_neg c8] at H
     exact absurd H (by simp)
   ·replace c7 := Bool.eq_false_iff.mpr c7
    subst c7
    have H1 : ((super_checkNodes.f kj1 l0_0).bind fun t225 => (if t225 = 0 then (if a0_2 < 0 then (super_Check.j1 kj1 0 x8_1 true l0_0 l0_1 a0_2) else (if a0_2 ≥ (l0_0.length : Int) then (super_Check.j1 kj1 0 x8_1 true l0_0 l0_1 a0_2) else (if 0 ≤ a0_2 then (if a0_2 < (l0_0.length : Int) then (super_Check.j1 kj1 0 x8_1 (((rd_T36 l0_0 a0_2).f1) != 1) l0_0 l0_1 a0_2) else (none)) else (none)))) else (if 0 ≤ (-1) then (if (-1) < (x8_1.length : Int) then (some 0) else (none)) else (none)))) = some r := by rw [if_neg (show ¬ (false = true) by decide)] at H; exact H
    clear H
    have H := H1
    clear H1
    replace H := Option.bind_eq_some_iff.mp H
    obtain ⟨t225, A100, H⟩ := H
    replace H : (if t225 = 0 then (if a0_2 < 0 then (super_Check.j1 kj1 0 x8_1 true l0_0 l0_1 a0_2) else (if a0_2 ≥ (l0_0.length : Int) then (super_Check.j1 kj1 0 x8_1 true l0_0 l0_1 a0_2) else (if 0 ≤ a0_2 then (if a0_2 < (l0_0.length : Int) then (super_Check.j1 kj1 0 x8_1 (((rd_T36 l0_0 a0_2).f1) != 1) l0_0 l0_1 a0_2) else (none)) else (none)))) else (if 0 ≤ (-1) then (if (-1) < (x8_1.length : Int) then (some 0) else (none)) else (none))) = some r := H
    have A10 := Aside0.mk A100
    clear A100
    by_cases c11 : t225 = 0
    ·rw [if_pos c11] at H
     have c11b0 : (t225 == 0) = true := beq_iff_eq.mpr c11
     have c11b1 : (t225 != 0) = false := bne_eq_false_iff_eq.mpr c11
     clear c11
     have HC12 := Aside0.mk H
     clear H
     have hcz13_0 : wc.cell? ⟨gb223, 0, none⟩ = some (.slice A0_0 l0_0.length c0_0) := (blk_cell BK223.out 0).trans rfl
     have hcz13_1 : wc.cell? ⟨gb223, 1, none⟩ = some (.slice A0_1 l0_1.length c0_1) := (blk_cell BK223.out 1).trans rfl
     have hcz13_2 : wc.cell? ⟨gb223, 2, none⟩ = some (.int .i64 a0_2) := (blk_cell BK223.out 2).trans rfl
     have hfz13_0 := blk_frozen BK223.out 0
     have hfz13_1 := blk_frozen BK223.out 1
     have hfz13_2 := blk_frozen BK223.out 2
     go_upto_region 6 with (first | ((with_reducible refine gate_callee (f := 23) rfl ?_); refine goesL_ (some 19) rfl rfl Try.func23 (by kernel_rfl) rfl #[.slice A0_0 l0_0.length c0_0] rfl (by (try simp only [List.map_toArray, List.map_cons, List.map_nil]); first | done | rfl) ?_; (with_reducible refine (super_checkNodes.calls kj1 _ _ l0_0 t225 _ ?side1 ?side2 A10.out).mono ?_); (case side1 => repeat (first | exact (Kd.C_below HR0_0.out HB.out) | (with_reducible refine Kd.C_alloc ?_ _) | (with_reducible refine Kd.C_drewN ?_ _) | (with_reducible refine Kd.C_drew ?_))); (case side2 => exact HC0_0.out); rintro e w14 ⟨rfl, hb⟩; refine ⟨_, rfl, ?_⟩; have n0_ := Aside0.mk (blk_below (g := gb223) (o := .cells #[.slice A0_0 l0_0.length c0_0, .slice A0_1 l0_1.length c0_1, .int .i64 a0_2] 25 (0, 0)) (by (with_reducible repeat first | apply bn | apply bd | apply ba); exact BK223.out) hb); have n1_ := Aside0.mk (below_step (by repeat with_reducible first | exact HB.out | apply below_alloc | apply pw_below_drewN | apply below_drew1 | refine below_set ?_ GE223.out) hb); clear BK223; clear HB; have BK223 := n0_; have HB := n1_; clear n0_ n1_; (try clear hb); (try clear hb2); (try clear hk); (try clear hi)))
     (try simp only [Act.put, List.setIfInBounds_toArray, List.set_cons_zero, List.set_cons_succ])
     go_cut [43] (fun v43 wc => ∃ (kq : Nat) (x43_11 : Bool), v43 = .bool x43_11 ∧ Aside0 (super_Check.j1 kq 0 x8_1 x43_11 l0_0 l0_1 a0_2 = some r) ∧ Aside0 (kq ≤ kj1) ∧ Aside0 (wc.heap[gb223]? = some (.cells #[(.slice A0_0 l0_0.length c0_0), (.slice A0_1 l0_1.length c0_1), .int .i64 a0_2] 25 (0, 0))) ∧ Aside0 (Below w.heap.size w wc))
     case first =>
      have H := HC12.out
      clear HC12
      by_cases c15 : a0_2 < 0
      ·rw [if_pos c15] at H
       have c15b0 : decide (a0_2 < 0) = true := decide_eq_true c15
       clear c15
       (first | rw [c15b0] | (simp only [i64_w, i32_w]; rw [c15b0]) | skip)
       have H' := Aside0.mk H
       clear H
       have hcz16_0 : w14.cell? ⟨gb223, 0, none⟩ = some (.slice A0_0 l0_0.length c0_0) := (blk_cell BK223.out 0).trans rfl
       have hcz16_1 : w14.cell? ⟨gb223, 1, none⟩ = some (.slice A0_1 l0_1.length c0_1) := (blk_cell BK223.out 1).trans rfl
       have hcz16_2 : w14.cell? ⟨gb223, 2, none⟩ = some (.int .i64 a0_2) := (blk_cell BK223.out 2).trans rfl
       have hfz16_0 := blk_frozen BK223.out 0
       have hfz16_1 := blk_frozen BK223.out 1
       have hfz16_2 := blk_frozen BK223.out 2
       go_wp2
       go_meet
       case rel => exact ⟨_, (true), (by first | rfl | (simp; done) | (simp [*]; done)), H', ⟨by have := HJ1.out; first | omega | exact Nat.le_refl _⟩, ⟨by (with_reducible repeat first | apply bn | apply bd | apply ba); exact BK223.out⟩, ⟨by repeat with_reducible first | exact HB.out | apply below_alloc | apply pw_below_drewN | apply below_drew1 | refine below_set ?_ GE223.out⟩⟩
      ·rw [if_neg c15] at H
       have c15b0 : decide (a0_2 < 0) = false := decide_eq_false c15
       clear c15
       (first | rw [c15b0] | (simp only [i64_w, i32_w]; rw [c15b0]) | skip)
       by_cases c17 : a0_2 ≥ (l0_0.length : Int)
       ·rw [if_pos c17] at H
        have c17b0 : decide ((l0_0.length : Int) ≤ a0_2) = true := decide_eq_true c17
        clear c17
        have H' := Aside0.mk H
        clear H
        have hcz18_0 : w14.cell? ⟨gb223, 0, none⟩ = some (.slice A0_0 l0_0.length c0_0) := (blk_cell BK223.out 0).trans rfl
        have hcz18_1 : w14.cell? ⟨gb223, 1, none⟩ = some (.slice A0_1 l0_1.length c0_1) := (blk_cell BK223.out 1).trans rfl
        have hcz18_2 : w14.cell? ⟨gb223, 2, none⟩ = some (.int .i64 a0_2) := (blk_cell BK223.out 2).trans rfl
        have hfz18_0 := blk_frozen BK223.out 0
        have hfz18_1 := blk_frozen BK223.out 1
        have hfz18_2 := blk_frozen BK223.out 2
        go_wp2
        go_meet
        case rel => exact ⟨_, (true), (by first | rfl | (simp; done) | (simp [*]; done)), H', ⟨by have := HJ1.out; first | omega | exact Nat.le_refl _⟩, ⟨by (with_reducible repeat first | apply bn | apply bd | apply ba); exact BK223.out⟩, ⟨by repeat with_reducible first | exact HB.out | apply below_alloc | apply pw_below_drewN | apply below_drew1 | refine below_set ?_ GE223.out⟩⟩
       ·rw [if_neg c17] at H
        have c17b0 : decide ((l0_0.length : Int) ≤ a0_2) = false := decide_eq_false c17
        clear c17
        by_cases c19 : 0 ≤ a0_2
        ·rw [if_pos c19] at H
         have c19b0 : decide (0 ≤ a0_2) = true := decide_eq_true c19
         clear c19
         by_cases c20 : a0_2 < (l0_0.length : Int)
         ·rw [if_pos c20] at H
          have c20b0 : decide (a0_2 < (l0_0.length : Int)) = true := decide_eq_true c20
          clear c20
          have H' := Aside0.mk H
          clear H
          have hcz21_0 : w14.cell? ⟨gb223, 0, none⟩ = some (.slice A0_0 l0_0.length c0_0) := (blk_cell BK223.out 0).trans rfl
          have hcz21_1 : w14.cell? ⟨gb223, 1, none⟩ = some (.slice A0_1 l0_1.length c0_1) := (blk_cell BK223.out 1).trans rfl
          have hcz21_2 : w14.cell? ⟨gb223, 2, none⟩ = some (.int .i64 a0_2) := (blk_cell BK223.out 2).trans rfl
          have hfz21_0 := blk_frozen BK223.out 0
          have hfz21_1 := blk_frozen BK223.out 1
          have hfz21_2 := blk_frozen BK223.out 2
          have p227 : 0 ≤ (a0_2 : Int) := of_decide_eq_true (by first | (with_reducible assumption) | assumption)
          have q227 : a0_2 < (l0_0.length : Int) := of_decide_eq_true (by first | (with_reducible assumption) | assumption)
          obtain ⟨ad227, e227, hx227_0, hx227_1, hx227_2⟩ := at_T36 HR0_0.out a0_2 p227 q227
          cases e227
          replace hx227_0 := (HB.out.cell (World.block_lt_of_cell? w _ hx227_0)).trans hx227_0
          replace hx227_1 := (HB.out.cell (World.block_lt_of_cell? w _ hx227_1)).trans hx227_1
          replace hx227_2 := (HB.out.cell (World.block_lt_of_cell? w _ hx227_2)).trans hx227_2
          replace p227 := eq_true p227
          replace q227 := eq_true q227
          go_wp2
          go_meet
          case rel => exact ⟨_, ((((rd_T36 l0_0 a0_2).f1) != 1)), (by first | rfl | (simp; done) | (simp [*]; done)), H', ⟨by have := HJ1.out; first | omega | exact Nat.le_refl _⟩, ⟨by (with_reducible repeat first | apply bn | apply bd | apply ba); exact BK223.out⟩, ⟨by repeat with_reducible first | exact HB.out | apply below_alloc | apply pw_below_drewN | apply below_drew1 | refine below_set ?_ GE223.out⟩⟩
         ·rw [if_neg c20] at H
          exact absurd H (by simp)
        ·rw [if_neg c19] at H
         exact absurd H (by simp)
     case rest =>
      clear HC12
      (try clear c1);(try clear c2);(try clear p2);(try clear q2);(try clear hx2);(try clear c4);(try clear c4b0);(try clear c4b1);(try clear c7);(try clear c8);(try clear c8b0);(try clear c9);(try clear c9b0);(try clear c11);(try clear c11b0);(try clear c11b1);(try clear c15);(try clear c15b0);(try clear c16);(try clear c17);(try clear c17b0);(try clear c19);(try clear c19b0);(try clear c20);(try clear c20b0);(try clear hcz13_0);(try clear hcz13_1);(try clear hcz13_2);(try clear hcz16_0);(try clear hcz16_1);(try clear hcz16_2);(try clear hcz18_0);(try clear hcz18_1);(try clear hcz18_2);(try clear hcz21_0);(try clear hcz21_1);(try clear hcz21_2);(try clear hcz5_0);(try clear hcz5_1);(try clear hcz5_2);(try clear hcz6_0);(try clear hcz6_1);(try clear hcz6_2);(try clear hfz13_0);(try clear hfz13_1);(try clear hfz13_2);(try clear hfz16_0);(try clear hfz16_1);(try clear hfz16_2);(try clear hfz18_0);(try clear hfz18_1);(try clear hfz18_2);(try clear hfz21_0);(try clear hfz21_1);(try clear hfz21_2);(try clear hfz5_0);(try clear hfz5_1);(try clear hfz5_2);(try clear hfz6_0);(try clear hfz6_1);(try clear hfz6_2);(try clear hx224_0);(try clear hx224_1);(try clear hx224_2);(try clear hx227_0);(try clear hx227_1);(try clear hx227_2);(try clear p2);(try clear p224);(try clear p227);(try clear q224);(try clear q227)
      obtain ⟨kq, x43_11, rfl, HA, HJ11, BK223, HB⟩ := hcut
      cases kq with
      | zero => exact absurd HA.out (by simp [super_Check.j1])
      | succ kj11 =>
       have H := HA.out
       clear HA
       simp only [super_Check.j1] at H
       by_cases c22 : x43_11 = true
       ·subst c22
        have H1 : (some 14) = some r := by rw [if_pos rfl] at H; exact H
        clear H
        have H := H1
        clear H1
        obtain rfl := Option.some.inj H
        go_wp2
        go_ret
        exact ⟨by first | rfl | (simp [errW_none, errW_some] <;> rfl) | (simp [*, errW_none, errW_some] <;> rfl), by repeat with_reducible first | exact HB.out | apply below_alloc | apply pw_below_drewN | apply below_drew1 | refine below_set ?_ GE223.out⟩
       ·replace c22 := Bool.eq_false_iff.mpr c22
        subst c22
        have H1 : ((api_SEdge_24.f kj11 l0_1).bind fun t228 => (if t228 = true then (super_Check.l0 kj11 0 x8_1 (l0_1.length : Int) 0 l0_0 l0_1 a0_2) else (if 0 ≤ (-1) then (if (-1) < (l0_1.length : Int) then (some 0) else (none)) else (none)))) = some r := by rw [if_neg (show ¬ (false = true) by decide)] at H; exact H
        clear H
        have H := H1
        clear H1
        replace H := Option.bind_eq_some_iff.mp H
        obtain ⟨t228, A230, H⟩ := H
        replace H : (if t228 = true then (super_Check.l0 kj11 0 x8_1 (l0_1.length : Int) 0 l0_0 l0_1 a0_2) else (if 0 ≤ (-1) then (if (-1) < (l0_1.length : Int) then (some 0) else (none)) else (none))) = some r := H
        have A23 := Aside0.mk A230
        clear A230
        by_cases c24 : t228 = true
        ·subst c24
         have H1 : (super_Check.l0 kj11 0 x8_1 (l0_1.length : Int) 0 l0_0 l0_1 a0_2) = some r := by rw [if_pos rfl] at H; exact H
         clear H
         have H := H1
         clear H1
         have H' := Aside0.mk H
         clear H
         have hcz25_0 : wc.cell? ⟨gb223, 0, none⟩ = some (.slice A0_0 l0_0.length c0_0) := (blk_cell BK223.out 0).trans rfl
         have hcz25_1 : wc.cell? ⟨gb223, 1, none⟩ = some (.slice A0_1 l0_1.length c0_1) := (blk_cell BK223.out 1).trans rfl
         have hcz25_2 : wc.cell? ⟨gb223, 2, none⟩ = some (.int .i64 a0_2) := (blk_cell BK223.out 2).trans rfl
         have hfz25_0 := blk_frozen BK223.out 0
         have hfz25_1 := blk_frozen BK223.out 1
         have hfz25_2 := blk_frozen BK223.out 2
         go_wp2_with (first | ((with_reducible refine gate_callee (f := 24) rfl ?_); refine goesL_ (some 46) rfl rfl Try.func24 (by kernel_rfl) rfl #[.slice A0_1 l0_1.length c0_1, .func (.func 25) #[] #[]] rfl (by (try simp only [List.map_toArray, List.map_cons, List.map_nil]); first | done | rfl) ?_; (with_reducible refine (api_SEdge_24.calls kj11 _ _ l0_1 true _ ?side1 ?side2 A23.out).mono ?_); (case side1 => repeat (first | exact (Kd.C_below HR0_1.out HB.out) | (with_reducible refine Kd.C_alloc ?_ _) | (with_reducible refine Kd.C_drewN ?_ _) | (with_reducible refine Kd.C_drew ?_))); (case side2 => exact HC0_1.out); rintro e w26 ⟨rfl, hb⟩; refine ⟨_, rfl, ?_⟩; have n0_ := Aside0.mk (blk_below (g := gb223) (o := .cells #[.slice A0_0 l0_0.length c0_0, .slice A0_1 l0_1.length c0_1, .int .i64 a0_2] 25 (0, 0)) (by (with_reducible repeat first | apply bn | apply bd | apply ba); exact BK223.out) hb); have n1_ := Aside0.mk (below_step (by repeat with_reducible first | exact HB.out | apply below_alloc | apply pw_below_drewN | apply below_drew1 | refine below_set ?_ GE223.out) hb); clear BK223; clear HB; have BK223 := n0_; have HB := n1_; clear n0_ n1_; (try clear hb); (try clear hb2); (try clear hk); (try clear hi); have hcz27_0 : w26.cell? ⟨gb223, 0, none⟩ = some (.slice A0_0 l0_0.length c0_0) := (blk_cell BK223.out 0).trans rfl; have hcz27_1 : w26.cell? ⟨gb223, 1, none⟩ = some (.slice A0_1 l0_1.length c0_1) := (blk_cell BK223.out 1).trans rfl; have hcz27_2 : w26.cell? ⟨gb223, 2, none⟩ = some (.int .i64 a0_2) := (blk_cell BK223.out 2).trans rfl; have hfz27_0 := blk_frozen BK223.out 0; have hfz27_1 := blk_frozen BK223.out 1; have hfz27_2 := blk_frozen BK223.out 2))
         go_loopg [54] kj11 (fun kq v54 w' => ∃ (x54_3 : Int), v54 = .int .i64 x54_3 ∧ Aside0 (super_Check.l0 kq 0 x8_1 (l0_1.length : Int) x54_3 l0_0 l0_1 a0_2 = some r) ∧ Aside0 (kq ≤ kj11) ∧ Aside0 (w'.heap[gb223]? = some (.cells #[(.slice A0_0 l0_0.length c0_0), (.slice A0_1 l0_1.length c0_1), .int .i64 a0_2] 25 (0, 0))) ∧ Aside0 (Below w.heap.size w w'))
         case atStart => exact ⟨(0), (by first | rfl | (simp; done) | (simp [*]; done)), H', ⟨Nat.le_refl _⟩, ⟨by (with_reducible repeat first | apply bn | apply bd | apply ba); exact BK223.out⟩, ⟨by repeat with_reducible first | exact HB.out | apply below_alloc | apply pw_below_drewN | apply below_drew1 | refine below_set ?_ GE223.out⟩⟩
         case round =>
          clear H'
          (try clear c1);(try clear c2);(try clear p2);(try clear q2);(try clear hx2);(try clear c4);(try clear c4b0);(try clear c4b1);(try clear c7);(try clear c8);(try clear c8b0);(try clear c9);(try clear c9b0);(try clear c11);(try clear c11b0);(try clear c11b1);(try clear c15);(try clear c15b0);(try clear c16);(try clear c17);(try clear c17b0);(try clear c19);(try clear c19b0);(try clear c20);(try clear c20b0);(try clear c22);(try clear p22);(try clear q22);(try clear hx22);(try clear c23);(try clear c24);(try clear hcz13_0);(try clear hcz13_1);(try clear hcz13_2);(try clear hcz16_0);(try clear hcz16_1);(try clear hcz16_2);(try clear hcz18_0);(try clear hcz18_1);(try clear hcz18_2);(try clear hcz21_0);(try clear hcz21_1);(try clear hcz21_2);(try clear hcz25_0);(try clear hcz25_1);(try clear hcz25_2);(try clear hcz27_0);(try clear hcz27_1);(try clear hcz27_2);(try clear hcz5_0);(try clear hcz5_1);(try clear hcz5_2);(try clear hcz6_0);(try clear hcz6_1);(try clear hcz6_2);(try clear hfz13_0);(try clear hfz13_1);(try clear hfz13_2);(try clear hfz16_0);(try clear hfz16_1);(try clear hfz16_2);(try clear hfz18_0);(try clear hfz18_1);(try clear hfz18_2);(try clear hfz21_0);(try clear hfz21_1);(try clear hfz21_2);(try clear hfz25_0);(try clear hfz25_1);(try clear hfz25_2);(try clear hfz27_0);(try clear hfz27_1);(try clear hfz27_2);(try clear hfz5_0);(try clear hfz5_1);(try clear hfz5_2);(try clear hfz6_0);(try clear hfz6_1);(try clear hfz6_2);(try clear hx224_0);(try clear hx224_1);(try clear hx224_2);(try clear hx227_0);(try clear hx227_1);(try clear hx227_2);(try clear p2);(try clear p224);(try clear p227);(try clear q2);(try clear q224);(try clear q227)
          obtain ⟨x54_3, rfl, HA, HK3, BK223, HB⟩ := hrel
          cases gk with
          | zero => exact absurd HA.out (by simp [super_Check.l0])
          | succ k3 =>
           have H := HA.out
           clear HA
           simp only [super_Check.l0] at H
           by_cases c28 : x54_3 < (l0_1.length : Int)
           ·rw [if_pos c28] at H
            have c28b0 : decide (x54_3 < (l0_1.length : Int)) = true := decide_eq_true c28
            clear c28
            replace H := Option.bind_eq_some_iff.mp H
            obtain ⟨t230, A290, H⟩ := H
            replace H : (if t230 = 0 then (super_Check.l0 k3 0 x8_1 (l0_1.length : Int) (wrap64 (x54_3 + 1)) l0_0 l0_1 a0_2) else (if 0 ≤ (-1) then (if (-1) < (x8_1.length : Int) then (some 0) else (none)) else (none))) = some r := H
            have A29 := Aside0.mk A290
            clear A290
            by_cases c30 : t230 = 0
            ·rw [if_pos c30] at H
             have c30b0 : (t230 == 0) = true := beq_iff_eq.mpr c30
             have c30b1 : (t230 != 0) = false := bne_eq_false_iff_eq.mpr c30
             clear c30
             have H' := Aside0.mk H
             clear H
             have hcz31_0 : wr.cell? ⟨gb223, 0, none⟩ = some (.slice A0_0 l0_0.length c0_0) := (blk_cell BK223.out 0).trans rfl
             have hcz31_1 : wr.cell? ⟨gb223, 1, none⟩ = some (.slice A0_1 l0_1.length c0_1) := (blk_cell BK223.out 1).trans rfl
             have hcz31_2 : wr.cell? ⟨gb223, 2, none⟩ = some (.int .i64 a0_2) := (blk_cell BK223.out 2).trans rfl
             have hfz31_0 := blk_frozen BK223.out 0
             have hfz31_1 := blk_frozen BK223.out 1
             have hfz31_2 := blk_frozen BK223.out 2
             go_wp2_with (first | ((with_reducible refine gate_callee (f := 28) rfl ?_); refine goesL_ (some 59) rfl rfl Try.func28 (by kernel_rfl) rfl #[.agg #[.slice A0_0 l0_0.length c0_0, .slice A0_1 l0_1.length c0_1, .int .i64 a0_2], .int .i64 x54_3] rfl (by (try simp only [List.map_toArray, List.map_cons, List.map_nil]); first | done | rfl) ?_; (with_reducible refine (super_checkEdge.calls k3 _ _ l0_0 _ _ l0_1 a0_2 x54_3 t230 _ ?side1 ?side2 ?side3 ?side4 A29.out).mono ?_); (case side1 => repeat (first | exact (Kd.C_below HR0_0.out HB.out) | (with_reducible refine Kd.C_alloc ?_ _) | (with_reducible refine Kd.C_drewN ?_ _) | (with_reducible refine Kd.C_drew ?_))); (case side2 => exact HC0_0.out); (case side3 => repeat (first | exact (Kd.C_below HR0_1.out HB.out) | (with_reducible refine Kd.C_alloc ?_ _) | (with_reducible refine Kd.C_drewN ?_ _) | (with_reducible refine Kd.C_drew ?_))); (case side4 => exact HC0_1.out); rintro e w32 ⟨rfl, hb⟩; refine ⟨_, rfl, ?_⟩; have n0_ := Aside0.mk (blk_below (g := gb223) (o := .cells #[.slice A0_0 l0_0.length c0_0, .slice A0_1 l0_1.length c0_1, .int .i64 a0_2] 25 (0, 0)) (by (with_reducible repeat first | apply bn | apply bd | apply ba); exact BK223.out) hb); have n1_ := Aside0.mk (below_step (by repeat with_reducible first | exact HB.out | apply below_alloc | apply pw_below_drewN | apply below_drew1 | refine below_set ?_ GE223.out) hb); clear BK223; clear HB; have BK223 := n0_; have HB := n1_; clear n0_ n1_; (try clear hb); (try clear hb2); (try clear hk); (try clear hi)))
             go_roundg k3
             case measure => have := HJ1.out; have := HJ11.out; have := HK3.out; omega
             case rel => exact ⟨(wrap64 (x54_3 + 1)), (by first | rfl | (simp; done) | (simp [*]; done)), H', ⟨by have := HJ1.out; have := HJ11.out; have := HK3.out; omega⟩, ⟨by (with_reducible repeat first | apply bn | apply bd | apply ba); exact BK223.out⟩, ⟨by repeat with_reducible first | exact HB.out | apply below_alloc | apply pw_below_drewN | apply below_drew1 | refine below_set ?_ GE223.out⟩⟩
            ·rw [if_neg c30] at H
             have c30b0 : (t230 == 0) = false := beq_eq_false_iff_ne.mpr c30
             have c30b1 : (t230 != 0) = true := bne_iff_ne.mpr c30
             by_cases c33 : 0 ≤ (-1)
             ·exact absurd c33 (by decide)
             ·rw [if_neg c33] at H
              exact absurd H (by simp)
           ·rw [if_neg c28] at H
            have c28b0 : decide (x54_3 < (l0_1.length : Int)) = false := decide_eq_false c28
            clear c28
            obtain rfl := Option.some.inj H
            go_wp2
            go_ret
            exact ⟨by first | rfl | (simp [errW_none, errW_some] <;> rfl) | (simp [*, errW_none, errW_some] <;> rfl), by repeat with_reducible first | exact HB.out | apply below_alloc | apply pw_below_drewN | apply below_drew1 | refine below_set ?_ GE223.out⟩
        ·replace c24 := Bool.eq_false_iff.mpr c24
         subst c24
         have H1 : (if 0 ≤ (-1) then (if (-1) < (l0_1.length : Int) then (some 0) else (none)) else (none)) = some r := by rw [if_neg (show ¬ (false = true) by decide)] at H; exact H
         clear H
         have H := H1
         clear H1
         by_cases c37 : 0 ≤ (-1)
         ·exact absurd c37 (by decide)
         ·rw [if_neg c37] at H
          exact absurd H (by simp)
    ·rw [if_neg c11] at H
     have c11b0 : (t225 == 0) = false := beq_eq_false_iff_ne.mpr c11
     have c11b1 : (t225 != 0) = true := bne_iff_ne.mpr c11
     by_cases c41 : 0 ≤ (-1)
     ·exact absurd c41 (by decide)
     ·rw [if_neg c41] at H
      exact absurd H (by simp)

/-! ### dataflowlaw27_awake: function 5 -/
def dataflowlaw27_awake.f (k : Nat)  : Option (Bool) := (dataflowlaw27_tiny.f).bind fun bt232 => ((super_Exit.f k bt232.1 bt232.2.1 bt232.2.2 0).bind fun bt240 => ((dataflowlaw27_tiny.f).bind fun bt242 => ((super_Check.f k bt242.1 bt242.2.1 bt242.2.2).bind fun t249 => (if t249 = 0 then ((super_Check.f k bt232.1 bt232.2.1 1).bind fun t250 => (if t250 = 14 then ((super_Start.f k bt232.1 bt232.2.1 1 0).bind fun t251 => (if t251 = 0 then (if bt240.1 = 2 then (if bt240.2 = 3 then ((super_Out.f k bt232.1 bt232.2.1 1 0).bind fun t252 => (if (t252.length : Int) = 1 then ((super_Node.f k bt232.1 bt232.2.1 1 0 2 0).bind fun t255 => (some (t255 == 1))) else (none))) else (none)) else (none)) else (none))) else (none))) else (none)))))
theorem dataflowlaw27_awake.mono : ∀ k, LeO (dataflowlaw27_awake.f k ) (dataflowlaw27_awake.f (k + 1) ) := by
 intro  k
 unfold dataflowlaw27_awake.f
 repeat' first
   | (with_reducible exact super_Check.mono _ _ _ _)
   | (with_reducible exact super_Exit.mono _ _ _ _ _)
   | (with_reducible exact super_Node.mono _ _ _ _ _ _ _)
   | (with_reducible exact super_Out.mono _ _ _ _ _)
   | (with_reducible exact super_Start.mono _ _ _ _ _)
   | (with_reducible exact LeO.refl _)
   | (with_reducible exact LeO.none _)
   | (with_reducible refine LeO.ite ?_ ?_)
   | (with_reducible refine LeO.bind ?_ (fun _ => ?_))
   | exact super_Check.mono _ _ _ _
   | exact super_Exit.mono _ _ _ _ _
   | exact super_Node.mono _ _ _ _ _ _ _
   | exact super_Out.mono _ _ _ _ _
   | exact super_Start.mono _ _ _ _ _
   | exact LeO.none _
   | refine LeO.ite ?_ ?_
   | refine LeO.bind ?_ (fun _ => ?_)
set_option maxHeartbeats 8000000 in
set_option maxRecDepth 100000 in
theorem dataflowlaw27_awake.calls (k : Nat)  (r : Bool) (w : World) (h : dataflowlaw27_awake.f k  = some r) :
  Calls Try.prog 5 #[] w fun e w' => e = .returned (.bool r) ∧ Below w.heap.size w w' := by
 have hu25 := Try.underlying25
 have hu36 := Try.underlying36
 have HB := Aside0.mk (Below.refl w.heap.size w)
 have H : ((dataflowlaw27_tiny.f).bind fun bt232 => ((super_Exit.f k bt232.1 bt232.2.1 bt232.2.2 0).bind fun bt240 => ((dataflowlaw27_tiny.f).bind fun bt242 => ((super_Check.f k bt242.1 bt242.2.1 bt242.2.2).bind fun t249 => (if t249 = 0 then ((super_Check.f k bt232.1 bt232.2.1 1).bind fun t250 => (if t250 = 14 then ((super_Start.f k bt232.1 bt232.2.1 1 0).bind fun t251 => (if t251 = 0 then (if bt240.1 = 2 then (if bt240.2 = 3 then ((super_Out.f k bt232.1 bt232.2.1 1 0).bind fun t252 => (if (t252.length : Int) = 1 then ((super_Node.f k bt232.1 bt232.2.1 1 0 2 0).bind fun t255 => (some (t255 == 1))) else (none))) else (none)) else (none)) else (none))) else (none))) else (none)))))) = some r := h
 clear h
 replace H := Option.bind_eq_some_iff.mp H
 obtain ⟨⟨t232, t235, t238⟩, A10, H⟩ := H
 replace H : ((super_Exit.f k t232 t235 t238 0).bind fun bt240 => ((dataflowlaw27_tiny.f).bind fun bt242 => ((super_Check.f k bt242.1 bt242.2.1 bt242.2.2).bind fun t249 => (if t249 = 0 then ((super_Check.f k t232 t235 1).bind fun t250 => (if t250 = 14 then ((super_Start.f k t232 t235 1 0).bind fun t251 => (if t251 = 0 then (if bt240.1 = 2 then (if bt240.2 = 3 then ((super_Out.f k t232 t235 1 0).bind fun t252 => (if (t252.length : Int) = 1 then ((super_Node.f k t232 t235 1 0 2 0).bind fun t255 => (some (t255 == 1))) else (none))) else (none)) else (none)) else (none))) else (none))) else (none))))) = some r := H
 have A1 := Aside0.mk A10
 clear A10
 replace H := Option.bind_eq_some_iff.mp H
 obtain ⟨⟨t240, t241⟩, A20, H⟩ := H
 replace H : ((dataflowlaw27_tiny.f).bind fun bt242 => ((super_Check.f k bt242.1 bt242.2.1 bt242.2.2).bind fun t249 => (if t249 = 0 then ((super_Check.f k t232 t235 1).bind fun t250 => (if t250 = 14 then ((super_Start.f k t232 t235 1 0).bind fun t251 => (if t251 = 0 then (if t240 = 2 then (if t241 = 3 then ((super_Out.f k t232 t235 1 0).bind fun t252 => (if (t252.length : Int) = 1 then ((super_Node.f k t232 t235 1 0 2 0).bind fun t255 => (some (t255 == 1))) else (none))) else (none)) else (none)) else (none))) else (none))) else (none)))) = some r := H
 have A2 := Aside0.mk A20
 clear A20
 replace H := Option.bind_eq_some_iff.mp H
 obtain ⟨⟨t242, t245, t248⟩, A30, H⟩ := H
 replace H : ((super_Check.f k t242 t245 t248).bind fun t249 => (if t249 = 0 then ((super_Check.f k t232 t235 1).bind fun t250 => (if t250 = 14 then ((super_Start.f k t232 t235 1 0).bind fun t251 => (if t251 = 0 then (if t240 = 2 then (if t241 = 3 then ((super_Out.f k t232 t235 1 0).bind fun t252 => (if (t252.length : Int) = 1 then ((super_Node.f k t232 t235 1 0 2 0).bind fun t255 => (some (t255 == 1))) else (none))) else (none)) else (none)) else (none))) else (none))) else (none))) = some r := H
 have A3 := Aside0.mk A30
 clear A30
 replace H := Option.bind_eq_some_iff.mp H
 obtain ⟨t249, A40, H⟩ := H
 replace H : (if t249 = 0 then ((super_Check.f k t232 t235 1).bind fun t250 => (if t250 = 14 then ((super_Start.f k t232 t235 1 0).bind fun t251 => (if t251 = 0 then (if t240 = 2 then (if t241 = 3 then ((super_Out.f k t232 t235 1 0).bind fun t252 => (if (t252.length : Int) = 1 then ((super_Node.f k t232 t235 1 0 2 0).bind fun t255 => (some (t255 == 1))) else (none))) else (none)) else (none)) else (none))) else (none))) else (none)) = some r := H
 have A4 := Aside0.mk A40
 clear A40
 by_cases c5 : t249 = 0
 ·rw [if_pos c5] at H
  have c5b0 : (t249 == 0) = true := beq_iff_eq.mpr c5
  have c5b1 : (t249 != 0) = false := bne_eq_false_iff_eq.mpr c5
  clear c5
  replace H := Option.bind_eq_some_iff.mp H
  obtain ⟨t250, A60, H⟩ := H
  replace H : (if t250 = 14 then ((super_Start.f k t232 t235 1 0).bind fun t251 => (if t251 = 0 then (if t240 = 2 then (if t241 = 3 then ((super_Out.f k t232 t235 1 0).bind fun t252 => (if (t252.length : Int) = 1 then ((super_Node.f k t232 t235 1 0 2 0).bind fun t255 => (some (t255 == 1))) else (none))) else (none)) else (none)) else (none))) else (none)) = some r := H
  have A6 := Aside0.mk A60
  clear A60
  by_cases c7 : t250 = 14
  ·rw [if_pos c7] at H
   have c7b0 : (t250 == 14) = true := beq_iff_eq.mpr c7
   have c7b1 : (t250 != 14) = false := bne_eq_false_iff_eq.mpr c7
   clear c7
   replace H := Option.bind_eq_some_iff.mp H
   obtain ⟨t251, A80, H⟩ := H
   replace H : (if t251 = 0 then (if t240 = 2 then (if t241 = 3 then ((super_Out.f k t232 t235 1 0).bind fun t252 => (if (t252.length : Int) = 1 then ((super_Node.f k t232 t235 1 0 2 0).bind fun t255 => (some (t255 == 1))) else (none))) else (none)) else (none)) else (none)) = some r := H
   have A8 := Aside0.mk A80
   clear A80
   by_cases c9 : t251 = 0
   ·rw [if_pos c9] at H
    have c9b0 : (t251 == 0) = true := beq_iff_eq.mpr c9
    have c9b1 : (t251 != 0) = false := bne_eq_false_iff_eq.mpr c9
    clear c9
    by_cases c10 : t240 = 2
    ·rw [if_pos c10] at H
     have c10b0 : (t240 == 2) = true := beq_iff_eq.mpr c10
     have c10b1 : (t240 != 2) = false := bne_eq_false_iff_eq.mpr c10
     clear c10
     by_cases c11 : t241 = 3
     ·rw [if_pos c11] at H
      have c11b0 : (t241 == 3) = true := beq_iff_eq.mpr c11
      have c11b1 : (t241 != 3) = false := bne_eq_false_iff_eq.mpr c11
      clear c11
      replace H := Option.bind_eq_some_iff.mp H
      obtain ⟨t252, A120, H⟩ := H
      replace H : (if (t252.length : Int) = 1 then ((super_Node.f k t232 t235 1 0 2 0).bind fun t255 => (some (t255 == 1))) else (none)) = some r := H
      have A12 := Aside0.mk A120
      clear A120
      by_cases c13 : (t252.length : Int) = 1
      ·rw [if_pos c13] at H
       have c13b0 : ((t252.length : Int) == 1) = true := beq_iff_eq.mpr c13
       have c13b1 : ((t252.length : Int) != 1) = false := bne_eq_false_iff_eq.mpr c13
       clear c13
       replace H := Option.bind_eq_some_iff.mp H
       obtain ⟨t255, A140, H⟩ := H
       replace H : (some (t255 == 1)) = some r := H
       have A14 := Aside0.mk A140
       clear A140
       obtain rfl := Option.some.inj H
       go_enter Try.func5, Try.ntmps5
       go_wp2_with (first | ((with_reducible refine gate_callee (f := 14) rfl ?_); refine goesL_ (some 4) rfl rfl Try.func14 (by kernel_rfl) rfl #[] rfl (by (try simp only [List.map_toArray, List.map_cons, List.map_nil]); first | done | rfl) ?_; (with_reducible refine (dataflowlaw27_tiny.calls  t232 t235 t238 _ A1.out).mono ?_); rintro e w15 ⟨v233, v236, rfl, ho0, ho1, hb⟩; refine ⟨_, rfl, ?_⟩; have n0_ := Aside0.mk (Kd.R_lower ho0 (below_size (by repeat with_reducible first | exact HB.out | apply below_alloc | apply pw_below_drewN | apply below_drew1))); have n1_ := Aside0.mk (Kd.R_lower ho1 (below_size (by repeat with_reducible first | exact HB.out | apply below_alloc | apply pw_below_drewN | apply below_drew1))); have n2_ := Aside0.mk (below_step (by repeat with_reducible first | exact HB.out | apply below_alloc | apply pw_below_drewN | apply below_drew1) hb); clear HB; have HO234 := n0_; have HO237 := n1_; have HB := n2_; clear n0_ n1_ n2_; (try clear hb); (try clear hb2); (try clear hk); (try clear hi); (try clear ho0); (try clear ho1)) | ((with_reducible refine gate_dst (N := 1) rfl ?_); (try (refine gate_guard (by rfl) ?_; dsimp only)); refine box_event ?hg (N := 1) ?hd (cs := #[.slice none 0 0, .slice none 0 0, .int .i64 0]) (t := 25) ?hr ?_; (case hd => rfl); (case hg => rfl); (case hr => first | (go_simp; done) | (go_simp; rfl)); intro gb239 hg w16 hbox hb; have n0_ := Aside0.mk (Kd.R_below (by (with_reducible repeat first | apply Kd.R_alloc | apply Kd.R_drewN | apply Kd.R_drew); exact HO234.out) hb); have n1_ := Aside0.mk (Kd.R_below (by (with_reducible repeat first | apply Kd.R_alloc | apply Kd.R_drewN | apply Kd.R_drew); exact HO237.out) hb); have n2_ := Aside0.mk (below_step (by repeat with_reducible first | exact HB.out | apply below_alloc | apply pw_below_drewN | apply below_drew1) hb); have n3_ := Aside0.mk (hbox); have n4_ := Aside0.mk ((by rw [hg]; exact (below_size (by repeat with_reducible first | exact HB.out | apply below_alloc | apply pw_below_drewN | apply below_drew1)) : w.heap.size ≤ gb239)); have n5_ := Aside0.mk ((by rw [hg]; exact (below_size (by repeat with_reducible first | exact HB.out | apply below_alloc | apply pw_below_drewN | apply below_drew1)) : w.heap.size ≤ gb239)); clear HO234; clear HO237; clear HB; have HO234 := n0_; have HO237 := n1_; have HB := n2_; have BK239 := n3_; have GW239 := n4_; have GE239 := n5_; clear n0_ n1_ n2_ n3_ n4_ n5_; clear hb hbox hg; obtain ⟨Ao17, co17, eo17⟩ := Kd.R_slice HO234.out; subst eo17; have hcz18_0 : w16.cell? ⟨gb239, 0, none⟩ = some (.slice none 0 0) := (blk_cell BK239.out 0).trans rfl; have hcz18_1 : w16.cell? ⟨gb239, 1, none⟩ = some (.slice none 0 0) := (blk_cell BK239.out 1).trans rfl; have hcz18_2 : w16.cell? ⟨gb239, 2, none⟩ = some (.int .i64 0) := (blk_cell BK239.out 2).trans rfl; have hfz18_0 := blk_frozen BK239.out 0; have hfz18_1 := blk_frozen BK239.out 1; have hfz18_2 := blk_frozen BK239.out 2; obtain ⟨Ao19, co19, eo19⟩ := Kd.R_slice HO237.out; subst eo19) | ((with_reducible refine gate_callee (f := 15) rfl ?_); refine goesL_ (some 7) rfl rfl Try.func15 (by kernel_rfl) rfl #[.agg #[.slice Ao17 t232.length co17, .slice Ao19 t235.length co19, .int .i64 t238], .int .i64 0] rfl (by (try simp only [List.map_toArray, List.map_cons, List.map_nil]); first | done | rfl) ?_; (with_reducible refine (super_Exit.calls k _ _ t232 _ _ t235 t238 0 t240 t241 _ ?side1 ?side2 ?side3 ?side4 A2.out).mono ?_); (case side1 => refine (Kd.R_reads' (e := 36) (base := w.heap.size) (ok := fun k_ => True) (n := t232.length) (c := co17) ?_).2.2; exact (by (with_reducible repeat first | apply Kd.R_alloc | apply Kd.R_drewN | apply Kd.R_drew); exact (Kd.R_mono (Kd.R_far (p := ⟨gb239, 2, none⟩) (Kd.R_far (p := ⟨gb239, 1, none⟩) (Kd.R_far (p := ⟨gb239, 0, none⟩) (Kd.R_types HO234.out BK239.out (by decide)) (fun _ hk => hk.2) (.slice Ao17 t232.length co17)) (fun _ hk => hk.2) (.slice Ao19 t235.length co19)) (fun _ hk => hk.2) (.int .i64 t238)) (fun _ h_ => h_.1)))); (case side2 => exact (Kd.R_reads' HO234.out).2.1); (case side3 => refine (Kd.R_reads' (e := 33) (base := w.heap.size) (ok := fun k_ => True) (n := t235.length) (c := co19) ?_).2.2; exact (by (with_reducible repeat first | apply Kd.R_alloc | apply Kd.R_drewN | apply Kd.R_drew); exact (Kd.R_mono (Kd.R_far (p := ⟨gb239, 2, none⟩) (Kd.R_far (p := ⟨gb239, 1, none⟩) (Kd.R_far (p := ⟨gb239, 0, none⟩) (Kd.R_types HO237.out BK239.out (by decide)) (fun _ hk => hk.2) (.slice Ao17 t232.length co17)) (fun _ hk => hk.2) (.slice Ao19 t235.length co19)) (fun _ hk => hk.2) (.int .i64 t238)) (fun _ h_ => h_.1)))); (case side4 => exact (Kd.R_reads' HO237.out).2.1); rintro e w20 ⟨rfl, hb⟩; refine ⟨_, rfl, ?_⟩; have n0_ := Aside0.mk (Kd.R_below (by (with_reducible repeat first | apply Kd.R_alloc | apply Kd.R_drewN | apply Kd.R_drew); exact (Kd.R_mono (Kd.R_far (p := ⟨gb239, 2, none⟩) (Kd.R_far (p := ⟨gb239, 1, none⟩) (Kd.R_far (p := ⟨gb239, 0, none⟩) (Kd.R_types HO234.out BK239.out (by decide)) (fun _ hk => hk.2) (.slice Ao17 t232.length co17)) (fun _ hk => hk.2) (.slice Ao19 t235.length co19)) (fun _ hk => hk.2) (.int .i64 t238)) (fun _ h_ => h_.1))) hb); have n1_ := Aside0.mk (Kd.R_below (by (with_reducible repeat first | apply Kd.R_alloc | apply Kd.R_drewN | apply Kd.R_drew); exact (Kd.R_mono (Kd.R_far (p := ⟨gb239, 2, none⟩) (Kd.R_far (p := ⟨gb239, 1, none⟩) (Kd.R_far (p := ⟨gb239, 0, none⟩) (Kd.R_types HO237.out BK239.out (by decide)) (fun _ hk => hk.2) (.slice Ao17 t232.length co17)) (fun _ hk => hk.2) (.slice Ao19 t235.length co19)) (fun _ hk => hk.2) (.int .i64 t238)) (fun _ h_ => h_.1))) hb); have n2_ := Aside0.mk (blk_below (g := gb239) (o := .cells #[.slice Ao17 t232.length co17, .slice Ao19 t235.length co19, .int .i64 t238] 25 (0, 0)) (by (with_reducible repeat first | apply bn | apply bd | apply ba); refine blk_put (cs := #[.slice Ao17 t232.length co17, .slice Ao19 t235.length co19, .int .i64 0]) ?_ 2 _ rfl; refine blk_put (cs := #[.slice Ao17 t232.length co17, .slice none 0 0, .int .i64 0]) ?_ 1 _ rfl; refine blk_put (cs := #[.slice none 0 0, .slice none 0 0, .int .i64 0]) ?_ 0 _ rfl; (with_reducible repeat first | apply bn | apply bd | apply ba); exact BK239.out) hb); have n3_ := Aside0.mk (below_step (by repeat with_reducible first | exact HB.out | apply below_alloc | apply pw_below_drewN | apply below_drew1 | refine below_set ?_ GE239.out) hb); clear HO234; clear HO237; clear BK239; clear HB; have HO234 := n0_; have HO237 := n1_; have BK239 := n2_; have HB := n3_; clear n0_ n1_ n2_ n3_; (try clear hb); (try clear hb2); (try clear hk); (try clear hi); have hcz21_0 : w20.cell? ⟨gb239, 0, none⟩ = some (.slice Ao17 t232.length co17) := (blk_cell BK239.out 0).trans rfl; have hcz21_1 : w20.cell? ⟨gb239, 1, none⟩ = some (.slice Ao19 t235.length co19) := (blk_cell BK239.out 1).trans rfl; have hcz21_2 : w20.cell? ⟨gb239, 2, none⟩ = some (.int .i64 t238) := (blk_cell BK239.out 2).trans rfl; have hfz21_0 := blk_frozen BK239.out 0; have hfz21_1 := blk_frozen BK239.out 1; have hfz21_2 := blk_frozen BK239.out 2) | ((with_reducible refine gate_callee (f := 14) rfl ?_); refine goesL_ (some 11) rfl rfl Try.func14 (by kernel_rfl) rfl #[] rfl (by (try simp only [List.map_toArray, List.map_cons, List.map_nil]); first | done | rfl) ?_; (with_reducible refine (dataflowlaw27_tiny.calls  t242 t245 t248 _ A3.out).mono ?_); rintro e w22 ⟨v243, v246, rfl, ho0, ho1, hb⟩; refine ⟨_, rfl, ?_⟩; have n0_ := Aside0.mk (Kd.R_elder' (by (with_reducible repeat first | apply Kd.R_alloc | apply Kd.R_drewN | apply Kd.R_drew); exact (Kd.R_mono (Kd.R_far (p := ⟨gb239, 2, none⟩) (Kd.R_types HO234.out BK239.out (by decide)) (fun _ hk => hk.2) (.int .i64 1)) (fun _ h_ => h_.1))) (Kd.R_base ho0) hb); have n1_ := Aside0.mk (Kd.R_elder' (by (with_reducible repeat first | apply Kd.R_alloc | apply Kd.R_drewN | apply Kd.R_drew); exact (Kd.R_mono (Kd.R_far (p := ⟨gb239, 2, none⟩) (Kd.R_types HO237.out BK239.out (by decide)) (fun _ hk => hk.2) (.int .i64 1)) (fun _ h_ => h_.1))) (Kd.R_base ho1) hb); have n2_ := Aside0.mk (Kd.R_lower (Kd.R_new' ho0 (Kd.R_lt (by (with_reducible repeat first | apply Kd.R_alloc | apply Kd.R_drewN | apply Kd.R_drew); exact (Kd.R_mono (Kd.R_far (p := ⟨gb239, 2, none⟩) (Kd.R_types HO234.out BK239.out (by decide)) (fun _ hk => hk.2) (.int .i64 1)) (fun _ h_ => h_.1))))) (below_size (by repeat with_reducible first | exact HB.out | apply below_alloc | apply pw_below_drewN | apply below_drew1 | refine below_set ?_ GE239.out))); have n3_ := Aside0.mk (Kd.R_lower (Kd.R_new' ho1 (Kd.R_lt (by (with_reducible repeat first | apply Kd.R_alloc | apply Kd.R_drewN | apply Kd.R_drew); exact (Kd.R_mono (Kd.R_far (p := ⟨gb239, 2, none⟩) (Kd.R_types HO237.out BK239.out (by decide)) (fun _ hk => hk.2) (.int .i64 1)) (fun _ h_ => h_.1))))) (below_size (by repeat with_reducible first | exact HB.out | apply below_alloc | apply pw_below_drewN | apply below_drew1 | refine below_set ?_ GE239.out))); have n4_ := Aside0.mk (blk_below (g := gb239) (o := .cells #[.slice Ao17 t232.length co17, .slice Ao19 t235.length co19, .int .i64 1] 25 (0, 0)) (by (with_reducible repeat first | apply bn | apply bd | apply ba); refine blk_put (cs := #[.slice Ao17 t232.length co17, .slice Ao19 t235.length co19, .int .i64 t238]) ?_ 2 _ rfl; (with_reducible repeat first | apply bn | apply bd | apply ba); exact BK239.out) hb); have n5_ := Aside0.mk (below_step (by repeat with_reducible first | exact HB.out | apply below_alloc | apply pw_below_drewN | apply below_drew1 | refine below_set ?_ GE239.out) hb); clear HO234; clear HO237; clear BK239; clear HB; have HO234 := n0_; have HO237 := n1_; have HO244 := n2_; have HO247 := n3_; have BK239 := n4_; have HB := n5_; clear n0_ n1_ n2_ n3_ n4_ n5_; (try clear hb); (try clear hb2); (try clear hk); (try clear hi); (try clear ho0); (try clear ho1); obtain ⟨Ao23, co23, eo23⟩ := Kd.R_slice HO244.out; subst eo23; obtain ⟨Ao24, co24, eo24⟩ := Kd.R_slice HO247.out; subst eo24) | ((with_reducible refine gate_callee (f := 16) rfl ?_); refine goesL_ (some 12) rfl rfl Try.func16 (by kernel_rfl) rfl #[.agg #[.slice Ao23 t242.length co23, .slice Ao24 t245.length co24, .int .i64 t248]] rfl (by (try simp only [List.map_toArray, List.map_cons, List.map_nil]); first | done | rfl) ?_; (with_reducible refine (super_Check.calls k _ _ t242 _ _ t245 t248 t249 _ ?side1 ?side2 ?side3 ?side4 A4.out).mono ?_); (case side1 => repeat (first | exact (Kd.R_reads' HO244.out).2.2 | (with_reducible refine Kd.C_alloc ?_ _) | (with_reducible refine Kd.C_drewN ?_ _) | (with_reducible refine Kd.C_drew ?_))); (case side2 => exact (Kd.R_reads' HO244.out).2.1); (case side3 => repeat (first | exact (Kd.R_reads' HO247.out).2.2 | (with_reducible refine Kd.C_alloc ?_ _) | (with_reducible refine Kd.C_drewN ?_ _) | (with_reducible refine Kd.C_drew ?_))); (case side4 => exact (Kd.R_reads' HO247.out).2.1); rintro e w25 ⟨rfl, hb⟩; refine ⟨_, rfl, ?_⟩; have n0_ := Aside0.mk (Kd.R_below (by (with_reducible repeat first | apply Kd.R_alloc | apply Kd.R_drewN | apply Kd.R_drew); exact HO234.out) hb); have n1_ := Aside0.mk (Kd.R_below (by (with_reducible repeat first | apply Kd.R_alloc | apply Kd.R_drewN | apply Kd.R_drew); exact HO237.out) hb); have n2_ := Aside0.mk (Kd.R_below (by (with_reducible repeat first | apply Kd.R_alloc | apply Kd.R_drewN | apply Kd.R_drew); exact HO244.out) hb); have n3_ := Aside0.mk (Kd.R_below (by (with_reducible repeat first | apply Kd.R_alloc | apply Kd.R_drewN | apply Kd.R_drew); exact HO247.out) hb); have n4_ := Aside0.mk (blk_below (g := gb239) (o := .cells #[.slice Ao17 t232.length co17, .slice Ao19 t235.length co19, .int .i64 1] 25 (0, 0)) (by (with_reducible repeat first | apply bn | apply bd | apply ba); exact BK239.out) hb); have n5_ := Aside0.mk (below_step (by repeat with_reducible first | exact HB.out | apply below_alloc | apply pw_below_drewN | apply below_drew1 | refine below_set ?_ GE239.out) hb); clear HO234; clear HO237; clear HO244; clear HO247; clear BK239; clear HB; have HO234 := n0_; have HO237 := n1_; have HO244 := n2_; have HO247 := n3_; have BK239 := n4_; have HB := n5_; clear n0_ n1_ n2_ n3_ n4_ n5_; (try clear hb); (try clear hb2); (try clear hk); (try clear hi); have hcz26_0 : w25.cell? ⟨gb239, 0, none⟩ = some (.slice Ao17 t232.length co17) := (blk_cell BK239.out 0).trans rfl; have hcz26_1 : w25.cell? ⟨gb239, 1, none⟩ = some (.slice Ao19 t235.length co19) := (blk_cell BK239.out 1).trans rfl; have hcz26_2 : w25.cell? ⟨gb239, 2, none⟩ = some (.int .i64 1) := (blk_cell BK239.out 2).trans rfl; have hfz26_0 := blk_frozen BK239.out 0; have hfz26_1 := blk_frozen BK239.out 1; have hfz26_2 := blk_frozen BK239.out 2) | (go_at_call 16; (with_reducible refine (super_Check.calls k _ _ t232 _ _ t235 1 t250 _ ?side1 ?side2 ?side3 ?side4 A6.out).mono ?_); (case side1 => repeat (first | exact (Kd.R_reads' HO234.out).2.2 | (with_reducible refine Kd.C_alloc ?_ _) | (with_reducible refine Kd.C_drewN ?_ _) | (with_reducible refine Kd.C_drew ?_))); (case side2 => exact (Kd.R_reads' HO234.out).2.1); (case side3 => repeat (first | exact (Kd.R_reads' HO237.out).2.2 | (with_reducible refine Kd.C_alloc ?_ _) | (with_reducible refine Kd.C_drewN ?_ _) | (with_reducible refine Kd.C_drew ?_))); (case side4 => exact (Kd.R_reads' HO237.out).2.1); rintro e w27 ⟨rfl, hb⟩; have n0_ := Aside0.mk (Kd.R_below (by (with_reducible repeat first | apply Kd.R_alloc | apply Kd.R_drewN | apply Kd.R_drew); exact HO234.out) hb); have n1_ := Aside0.mk (Kd.R_below (by (with_reducible repeat first | apply Kd.R_alloc | apply Kd.R_drewN | apply Kd.R_drew); exact HO237.out) hb); have n2_ := Aside0.mk (Kd.R_below (by (with_reducible repeat first | apply Kd.R_alloc | apply Kd.R_drewN | apply Kd.R_drew); exact HO244.out) hb); have n3_ := Aside0.mk (Kd.R_below (by (with_reducible repeat first | apply Kd.R_alloc | apply Kd.R_drewN | apply Kd.R_drew); exact HO247.out) hb); have n4_ := Aside0.mk (blk_below (g := gb239) (o := .cells #[.slice Ao17 t232.length co17, .slice Ao19 t235.length co19, .int .i64 1] 25 (0, 0)) (by (with_reducible repeat first | apply bn | apply bd | apply ba); exact BK239.out) hb); have n5_ := Aside0.mk (below_step (by repeat with_reducible first | exact HB.out | apply below_alloc | apply pw_below_drewN | apply below_drew1 | refine below_set ?_ GE239.out) hb); clear HO234; clear HO237; clear HO244; clear HO247; clear BK239; clear HB; have HO234 := n0_; have HO237 := n1_; have HO244 := n2_; have HO247 := n3_; have BK239 := n4_; have HB := n5_; clear n0_ n1_ n2_ n3_ n4_ n5_; (try clear hb); (try clear hb2); (try clear hk); (try clear hi); have hcz28_0 : w27.cell? ⟨gb239, 0, none⟩ = some (.slice Ao17 t232.length co17) := (blk_cell BK239.out 0).trans rfl; have hcz28_1 : w27.cell? ⟨gb239, 1, none⟩ = some (.slice Ao19 t235.length co19) := (blk_cell BK239.out 1).trans rfl; have hcz28_2 : w27.cell? ⟨gb239, 2, none⟩ = some (.int .i64 1) := (blk_cell BK239.out 2).trans rfl; have hfz28_0 := blk_frozen BK239.out 0; have hfz28_1 := blk_frozen BK239.out 1; have hfz28_2 := blk_frozen BK239.out 2) | (go_at_call 10; (with_reducible refine (super_Start.calls k _ _ t232 _ _ t235 1 0 t251 _ ?side1 ?side2 ?side3 ?side4 A8.out).mono ?_); (case side1 => repeat (first | exact (Kd.R_reads' HO234.out).2.2 | (with_reducible refine Kd.C_alloc ?_ _) | (with_reducible refine Kd.C_drewN ?_ _) | (with_reducible refine Kd.C_drew ?_))); (case side2 => exact (Kd.R_reads' HO234.out).2.1); (case side3 => repeat (first | exact (Kd.R_reads' HO237.out).2.2 | (with_reducible refine Kd.C_alloc ?_ _) | (with_reducible refine Kd.C_drewN ?_ _) | (with_reducible refine Kd.C_drew ?_))); (case side4 => exact (Kd.R_reads' HO237.out).2.1); rintro e w29 ⟨rfl, hb⟩; have n0_ := Aside0.mk (Kd.R_below (by (with_reducible repeat first | apply Kd.R_alloc | apply Kd.R_drewN | apply Kd.R_drew); exact HO234.out) hb); have n1_ := Aside0.mk (Kd.R_below (by (with_reducible repeat first | apply Kd.R_alloc | apply Kd.R_drewN | apply Kd.R_drew); exact HO237.out) hb); have n2_ := Aside0.mk (Kd.R_below (by (with_reducible repeat first | apply Kd.R_alloc | apply Kd.R_drewN | apply Kd.R_drew); exact HO244.out) hb); have n3_ := Aside0.mk (Kd.R_below (by (with_reducible repeat first | apply Kd.R_alloc | apply Kd.R_drewN | apply Kd.R_drew); exact HO247.out) hb); have n4_ := Aside0.mk (blk_below (g := gb239) (o := .cells #[.slice Ao17 t232.length co17, .slice Ao19 t235.length co19, .int .i64 1] 25 (0, 0)) (by (with_reducible repeat first | apply bn | apply bd | apply ba); exact BK239.out) hb); have n5_ := Aside0.mk (below_step (by repeat with_reducible first | exact HB.out | apply below_alloc | apply pw_below_drewN | apply below_drew1 | refine below_set ?_ GE239.out) hb); clear HO234; clear HO237; clear HO244; clear HO247; clear BK239; clear HB; have HO234 := n0_; have HO237 := n1_; have HO244 := n2_; have HO247 := n3_; have BK239 := n4_; have HB := n5_; clear n0_ n1_ n2_ n3_ n4_ n5_; (try clear hb); (try clear hb2); (try clear hk); (try clear hi); have hcz30_0 : w29.cell? ⟨gb239, 0, none⟩ = some (.slice Ao17 t232.length co17) := (blk_cell BK239.out 0).trans rfl; have hcz30_1 : w29.cell? ⟨gb239, 1, none⟩ = some (.slice Ao19 t235.length co19) := (blk_cell BK239.out 1).trans rfl; have hcz30_2 : w29.cell? ⟨gb239, 2, none⟩ = some (.int .i64 1) := (blk_cell BK239.out 2).trans rfl; have hfz30_0 := blk_frozen BK239.out 0; have hfz30_1 := blk_frozen BK239.out 1; have hfz30_2 := blk_frozen BK239.out 2) | (go_at_call 7; (with_reducible refine (super_Out.calls k _ _ t232 _ _ t235 1 0 t252 _ ?side1 ?side2 ?side3 ?side4 A12.out).mono ?_); (case side1 => repeat (first | exact (Kd.R_reads' HO234.out).2.2 | (with_reducible refine Kd.C_alloc ?_ _) | (with_reducible refine Kd.C_drewN ?_ _) | (with_reducible refine Kd.C_drew ?_))); (case side2 => exact (Kd.R_reads' HO234.out).2.1); (case side3 => repeat (first | exact (Kd.R_reads' HO237.out).2.2 | (with_reducible refine Kd.C_alloc ?_ _) | (with_reducible refine Kd.C_drewN ?_ _) | (with_reducible refine Kd.C_drew ?_))); (case side4 => exact (Kd.R_reads' HO237.out).2.1); rintro e w31 ⟨v253, rfl, ho0, hb⟩; have n0_ := Aside0.mk (Kd.R_below (by (with_reducible repeat first | apply Kd.R_alloc | apply Kd.R_drewN | apply Kd.R_drew); exact HO234.out) hb); have n1_ := Aside0.mk (Kd.R_below (by (with_reducible repeat first | apply Kd.R_alloc | apply Kd.R_drewN | apply Kd.R_drew); exact HO237.out) hb); have n2_ := Aside0.mk (Kd.R_below (by (with_reducible repeat first | apply Kd.R_alloc | apply Kd.R_drewN | apply Kd.R_drew); exact HO244.out) hb); have n3_ := Aside0.mk (Kd.R_below (by (with_reducible repeat first | apply Kd.R_alloc | apply Kd.R_drewN | apply Kd.R_drew); exact HO247.out) hb); have n4_ := Aside0.mk (Kd.R_lower ho0 (below_size (by repeat with_reducible first | exact HB.out | apply below_alloc | apply pw_below_drewN | apply below_drew1 | refine below_set ?_ GE239.out))); have n5_ := Aside0.mk (blk_below (g := gb239) (o := .cells #[.slice Ao17 t232.length co17, .slice Ao19 t235.length co19, .int .i64 1] 25 (0, 0)) (by (with_reducible repeat first | apply bn | apply bd | apply ba); exact BK239.out) hb); have n6_ := Aside0.mk (below_step (by repeat with_reducible first | exact HB.out | apply below_alloc | apply pw_below_drewN | apply below_drew1 | refine below_set ?_ GE239.out) hb); clear HO234; clear HO237; clear HO244; clear HO247; clear BK239; clear HB; have HO234 := n0_; have HO237 := n1_; have HO244 := n2_; have HO247 := n3_; have HO254 := n4_; have BK239 := n5_; have HB := n6_; clear n0_ n1_ n2_ n3_ n4_ n5_ n6_; (try clear hb); (try clear hb2); (try clear hk); (try clear hi); (try clear ho0); obtain ⟨Ao32, co32, eo32⟩ := Kd.R_slice HO254.out; subst eo32; have hcz33_0 : w31.cell? ⟨gb239, 0, none⟩ = some (.slice Ao17 t232.length co17) := (blk_cell BK239.out 0).trans rfl; have hcz33_1 : w31.cell? ⟨gb239, 1, none⟩ = some (.slice Ao19 t235.length co19) := (blk_cell BK239.out 1).trans rfl; have hcz33_2 : w31.cell? ⟨gb239, 2, none⟩ = some (.int .i64 1) := (blk_cell BK239.out 2).trans rfl; have hfz33_0 := blk_frozen BK239.out 0; have hfz33_1 := blk_frozen BK239.out 1; have hfz33_2 := blk_frozen BK239.out 2) | (go_at_call 9; (with_reducible refine (super_Node.calls k _ _ t232 _ _ t235 1 0 2 0 t255 _ ?side1 ?side2 ?side3 ?side4 A14.out).mono ?_); (case side1 => repeat (first | exact (Kd.R_reads' HO234.out).2.2 | (with_reducible refine Kd.C_alloc ?_ _) | (with_reducible refine Kd.C_drewN ?_ _) | (with_reducible refine Kd.C_drew ?_))); (case side2 => exact (Kd.R_reads' HO234.out).2.1); (case side3 => repeat (first | exact (Kd.R_reads' HO237.out).2.2 | (with_reducible refine Kd.C_alloc ?_ _) | (with_reducible refine Kd.C_drewN ?_ _) | (with_reducible refine Kd.C_drew ?_))); (case side4 => exact (Kd.R_reads' HO237.out).2.1); rintro e w34 ⟨rfl, hb⟩; have n0_ := Aside0.mk (Kd.R_below (by (with_reducible repeat first | apply Kd.R_alloc | apply Kd.R_drewN | apply Kd.R_drew); exact HO234.out) hb); have n1_ := Aside0.mk (Kd.R_below (by (with_reducible repeat first | apply Kd.R_alloc | apply Kd.R_drewN | apply Kd.R_drew); exact HO237.out) hb); have n2_ := Aside0.mk (Kd.R_below (by (with_reducible repeat first | apply Kd.R_alloc | apply Kd.R_drewN | apply Kd.R_drew); exact HO244.out) hb); have n3_ := Aside0.mk (Kd.R_below (by (with_reducible repeat first | apply Kd.R_alloc | apply Kd.R_drewN | apply Kd.R_drew); exact HO247.out) hb); have n4_ := Aside0.mk (Kd.R_below (by (with_reducible repeat first | apply Kd.R_alloc | apply Kd.R_drewN | apply Kd.R_drew); exact HO254.out) hb); have n5_ := Aside0.mk (blk_below (g := gb239) (o := .cells #[.slice Ao17 t232.length co17, .slice Ao19 t235.length co19, .int .i64 1] 25 (0, 0)) (by (with_reducible repeat first | apply bn | apply bd | apply ba); exact BK239.out) hb); have n6_ := Aside0.mk (below_step (by repeat with_reducible first | exact HB.out | apply below_alloc | apply pw_below_drewN | apply below_drew1 | refine below_set ?_ GE239.out) hb); clear HO234; clear HO237; clear HO244; clear HO247; clear HO254; clear BK239; clear HB; have HO234 := n0_; have HO237 := n1_; have HO244 := n2_; have HO247 := n3_; have HO254 := n4_; have BK239 := n5_; have HB := n6_; clear n0_ n1_ n2_ n3_ n4_ n5_ n6_; (try clear hb); (try clear hb2); (try clear hk); (try clear hi)))
       go_ret
       exact ⟨by first | rfl | (simp [errW_none, errW_some] <;> rfl) | (simp [*, errW_none, errW_some] <;> rfl), by repeat with_reducible first | exact HB.out | apply below_alloc | apply pw_below_drewN | apply below_drew1 | refine below_set ?_ GE239.out⟩
      ·rw [if_neg c13] at H
       exact absurd H (by simp)
     ·rw [if_neg c11] at H
      exact absurd H (by simp)
    ·rw [if_neg c10] at H
     exact absurd H (by simp)
   ·rw [if_neg c9] at H
    exact absurd H (by simp)
  ·rw [if_neg c7] at H
   exact absurd H (by simp)
 ·rw [if_neg c5] at H
  exact absurd H (by simp)
end Go.Proofs.Ytbmhpnegigccnaa.PS
