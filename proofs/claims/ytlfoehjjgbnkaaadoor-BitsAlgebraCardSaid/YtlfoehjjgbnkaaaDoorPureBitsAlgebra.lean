/- BitsAlgebra, the statement over lists alone: the laws of sets, the counts, and Within, Same and Minus tell the same. -/
import Derived.Test.YtlfoehjjgbnkaaaDoorPAx4
import Derived.Test.YtlfoehjjgbnkaaaDoorBA6
namespace Go.Proofs.YtlfoehjjgbnkaaaDoor.Pure
set_option linter.unusedVariables false
set_option linter.unusedSimpArgs false
open Go.RowKit Go.Proofs.YtlfoehjjgbnkaaaDoor.Pu Go.Proofs.YtlfoehjjgbnkaaaDoor.PA Go.Proofs.YtlfoehjjgbnkaaaDoorW.PrintWords Go.Proofs.YtlfoehjjgbnkaaaDoorW.PrintLast
def U (A B : List Nat) : List Nat := cut (uni A B)
def I (A B : List Nat) : List Nat := cut (int A B)
def D (A B : List Nat) : List Nat := cut (dif A B)
/-- A row of words that is short enough for every step of this law. -/
def Ok (n : Nat) (A : List Nat) : Prop := WW A ∧ A.length ≤ n
theorem cut_le (L : List Nat) : (cut L).length ≤ L.length := by unfold cut; rw [List.length_take]; omega
theorem U_ok {n m : Nat} {A B : List Nat} (hA : Ok n A) (hB : Ok m B) : Ok (n + m) (U A B) :=
  ⟨cut_WW (uni_WW hA.1 hB.1), by have := cut_le (uni A B); have := hA.2; have := hB.2; unfold U; unfold uni at *; rw [List.length_map, List.length_range] at *; omega⟩
theorem I_ok {n m : Nat} {A B : List Nat} (hA : Ok n A) (hB : Ok m B) : Ok (n + m) (I A B) :=
  ⟨cut_WW (int_WW hA.1), by have := cut_le (int A B); have := hA.2; have := hB.2; unfold I; unfold int at *; rw [List.length_map, List.length_range] at *; omega⟩
theorem D_ok {n m : Nat} {A B : List Nat} (hA : Ok n A) (hB : Ok m B) : Ok (n + m) (D A B) :=
  ⟨cut_WW (dif_WW hA.1), by have := cut_le (dif A B); have := hA.2; have := hB.2; unfold D; unfold dif at *; rw [List.length_map, List.length_range] at *; omega⟩
theorem U_mem (A B : List Nat) (z : Nat) : mem (U A B) z = (mem A z || mem B z) := by unfold U; rw [cut_mem, uni_mem]
theorem I_mem (A B : List Nat) (z : Nat) : mem (I A B) z = (mem A z && mem B z) := by unfold I; rw [cut_mem, int_mem]
theorem D_mem {A B : List Nat} (hB : WW B) (z : Nat) : mem (D A B) z = (mem A z && !mem B z) := by unfold D; rw [cut_mem, dif_mem hB]
theorem U_ev {n m : Nat} {A B : List Nat} (hA : Ok n A) (hB : Ok m B) (hn : n ≤ 100000 := by omega) (hm : m ≤ 100000 := by omega) : Ev (fun k => bits_Union.f k (ints A) (ints B)) (ints (U A B)) :=
  union A B hA.1 hB.1 (by have := hA.2; omega) (by have := hB.2; omega)
theorem I_ev {n m : Nat} {A B : List Nat} (hA : Ok n A) (hB : Ok m B) (hn : n ≤ 100000 := by omega) (hm : m ≤ 100000 := by omega) : Ev (fun k => bits_Both.f k (ints A) (ints B)) (ints (I A B)) :=
  both A B hA.1 hB.1 (by have := hA.2; omega) (by have := hB.2; omega)
theorem D_ev {n m : Nat} {A B : List Nat} (hA : Ok n A) (hB : Ok m B) (hn : n ≤ 100000 := by omega) : Ev (fun k => bits_Minus.f k (ints A) (ints B)) (ints (D A B)) :=
  minus A B hA.1 hB.1 (by have := hA.2; omega)
theorem same_ev {n : Nat} {L M : List Nat} (hn : Ok n L) (h : L = M) (hm : n ≤ 100000 := by omega) : Ev (fun k => dataflowref01_Equal.f k (ints L) (ints M)) true := by
  subst h; exact equal _ (by rw [ints_length]; have := hn.2; omega)
theorem cut_ext {X Y : List Nat} (hX : WW X) (hY : WW Y) (h : ∀ z, mem (cut X) z = mem (cut Y) z) : cut X = cut Y :=
  set_ext (cut_WW hX) (cut_WW hY) (cut_norm _) (cut_norm _) h
theorem c_add (f g : Nat → Bool) : ∀ n, ((List.range n).filter fun z => f z || g z).length + ((List.range n).filter fun z => f z && g z).length = ((List.range n).filter f).length + ((List.range n).filter g).length
  | 0 => rfl
  | n + 1 => by
    have ih := c_add f g n
    rw [List.range_succ, List.filter_append, List.filter_append, List.filter_append, List.filter_append, List.length_append, List.length_append, List.length_append, List.length_append]
    cases hf : f n <;> cases hg : g n <;> simp [hf, hg] <;> omega
theorem cnt_range (L : List Nat) (n : Nat) (h : 64 * L.length ≤ n) : cnt L = ((List.range n).filter (mem L)).length := by
  unfold cnt
  rw [asc_ext (asc_elems L) (b := (List.range n).filter (mem L)) (List.Pairwise.filter _ List.pairwise_lt_range) (fun x => ?_)]
  rw [mem_elems, List.mem_filter, List.mem_range]
  exact ⟨fun hx => ⟨by have := mem_lt hx; omega, hx⟩, fun hx => hx.2⟩
theorem cnt_U_I {n m : Nat} {A B : List Nat} (hA : Ok n A) (hB : Ok m B) : cnt (U A B) + cnt (I A B) = cnt A + cnt B := by
  have h1 := (U_ok hA hB).2
  have h2 := (I_ok hA hB).2
  have h3 := hA.2
  have h4 := hB.2
  rw [cnt_range (U A B) (64 * (n + m)) (by omega), cnt_range (I A B) (64 * (n + m)) (by omega), cnt_range A (64 * (n + m)) (by omega), cnt_range B (64 * (n + m)) (by omega), funext (U_mem A B), funext (I_mem A B)]
  exact c_add (mem A) (mem B) _
theorem sub_D {n m : Nat} {A B : List Nat} (hA : Ok n A) (hB : Ok m B) : (sub A B == (((cnt (D A B) : Nat) : Int) == 0)) = true := by
  have h : sub A B = (((cnt (D A B) : Nat) : Int) == 0) := by
    rw [Bool.eq_iff_iff]
    unfold sub
    rw [decide_eq_true_iff, beq_iff_eq]
    unfold cnt
    constructor
    · intro h
      have : elems (D A B) = [] := by
        rw [List.eq_nil_iff_forall_not_mem]
        intro y hy
        rw [mem_elems, D_mem hB.1, Bool.and_eq_true] at hy
        have := h y ((mem_elems A y).2 hy.1)
        rw [mem_elems] at this
        simp [this] at hy
      rw [this]; rfl
    · intro h y hy
      have h0 : elems (D A B) = [] := List.eq_nil_of_length_eq_zero (by omega)
      rw [mem_elems] at hy ⊢
      cases hb : mem B y with
      | true => rfl
      | false =>
        have : y ∈ elems (D A B) := by rw [mem_elems, D_mem hB.1, hy, hb]; rfl
        rw [h0] at this; cases this
  rw [h]; exact beq_self_eq_true _
theorem algebra_awake (A B C : List Int) : Ev (fun k => dataflowlaw01_BitsAlgebra.j0 k A B C true) true :=
  Ev.step (fun k => by rw [dataflowlaw01_BitsAlgebra.j0]) (Ev_pos rfl (Ev.bind awake (Ev.now _)))
theorem count_ev {n : Nat} {A : List Nat} (hA : Ok n A) (hn : n ≤ 100000 := by omega) : Ev (fun k => bits_Count.f k (ints A)) ((cnt A : Nat) : Int) := count A hA.1 (by have := hA.2; omega)
theorem within_ev {n : Nat} {A B : List Nat} (hA : Ok n A) (hB : Ok n B) (hn : n ≤ 100000 := by omega) : Ev (fun k => bits_Within.f k (ints A) (ints B)) (sub A B) := within A B hA.1 hB.1 (by have := hA.2; omega)
theorem algebra_end {A B : List Nat} (hA : Ok 1100 A) (hB : Ok 1100 B) : Ev (fun k => (bits_Within.f k (ints A) (ints B)).bind fun t261 => ((bits_Minus.f k (ints A) (ints B)).bind fun t262 => ((bits_Count.f k t262).bind fun t265 => (if (t261 == (t265 == 0)) = true then ((dataflowlaw01_awake.f k).bind fun t266 => (some t266)) else (some false))))) true :=
  Ev.bind (within_ev hA hB) (Ev.bind (D_ev hA hB) (Ev.bind (count_ev (D_ok hA hB)) (Ev_pos (sub_D hA hB) (Ev.bind awake (Ev.now _)))))
theorem algebra_main {A B C : List Nat} (hA : Ok 1100 A) (hB : Ok 1100 B) (hC : Ok 1100 C) : Ev (fun k => dataflowlaw01_BitsAlgebra.j0 k (ints A) (ints B) (ints C) false) true := by
  refine Ev.step (fun k => by rw [dataflowlaw01_BitsAlgebra.j0]) (Ev_neg (by simp) ?_)
  refine Ev.bind (U_ev hA hB) (Ev.bind (U_ev hB hA) (Ev.bind (same_ev (U_ok hA hB) (cut_ext (uni_WW hA.1 hB.1) (uni_WW hB.1 hA.1) fun z => ?_)) (Ev_pos rfl ?_)))
  · rw [cut_mem, cut_mem, uni_mem, uni_mem, Bool.or_comm]
  refine Ev.bind (I_ev hA hB) (Ev.bind (I_ev hB hA) (Ev.bind (same_ev (I_ok hA hB) (cut_ext (int_WW hA.1) (int_WW hB.1) fun z => ?_)) ?_))
  · rw [cut_mem, cut_mem, int_mem, int_mem, Bool.and_comm]
  refine Ev.step (fun k => by rw [dataflowlaw01_BitsAlgebra.j1]) (Ev_neg (by simp) ?_)
  refine Ev.bind (U_ev hA hB) (Ev.bind (U_ev (U_ok hA hB) hC) (Ev.bind (U_ev hB hC) (Ev.bind (U_ev hA (U_ok hB hC)) (Ev.bind (same_ev (U_ok (U_ok hA hB) hC) (cut_ext (uni_WW (U_ok hA hB).1 hC.1) (uni_WW hA.1 (U_ok hB hC).1) fun z => ?_)) (Ev_pos rfl ?_)))))
  · rw [cut_mem, cut_mem, uni_mem, uni_mem, U_mem, U_mem, Bool.or_assoc]
  refine Ev.bind (I_ev hA hB) (Ev.bind (I_ev (I_ok hA hB) hC) (Ev.bind (I_ev hB hC) (Ev.bind (I_ev hA (I_ok hB hC)) (Ev.bind (same_ev (I_ok (I_ok hA hB) hC) (cut_ext (int_WW (I_ok hA hB).1) (int_WW hA.1) fun z => ?_)) ?_))))
  · rw [cut_mem, cut_mem, int_mem, int_mem, I_mem, I_mem, Bool.and_assoc]
  refine Ev.step (fun k => by rw [dataflowlaw01_BitsAlgebra.j2]) (Ev_neg (by simp) ?_)
  refine Ev.bind (U_ev hB hC) (Ev.bind (I_ev hA (U_ok hB hC)) (Ev.bind (I_ev hA hB) (Ev.bind (I_ev hA hC) (Ev.bind (U_ev (I_ok hA hB) (I_ok hA hC)) (Ev.bind (same_ev (I_ok hA (U_ok hB hC)) (cut_ext (int_WW hA.1) (uni_WW (I_ok hA hB).1 (I_ok hA hC).1) fun z => ?_)) (Ev_pos rfl ?_))))))
  · rw [cut_mem, cut_mem, uni_mem, int_mem, U_mem, I_mem, I_mem, Bool.and_or_distrib_left]
  refine Ev.bind (I_ev hB hC) (Ev.bind (U_ev hA (I_ok hB hC)) (Ev.bind (U_ev hA hB) (Ev.bind (U_ev hA hC) (Ev.bind (I_ev (U_ok hA hB) (U_ok hA hC)) (Ev.bind (same_ev (U_ok hA (I_ok hB hC)) (cut_ext (uni_WW hA.1 (I_ok hB hC).1) (int_WW (U_ok hA hB).1) fun z => ?_)) ?_)))))
  · rw [cut_mem, cut_mem, int_mem, uni_mem, I_mem, U_mem, U_mem, Bool.or_and_distrib_left]
  refine Ev.step (fun k => by rw [dataflowlaw01_BitsAlgebra.j3]) (Ev_neg (by simp) ?_)
  refine Ev.bind (U_ev hB hC) (Ev.bind (D_ev hA (U_ok hB hC)) (Ev.bind (D_ev hA hB) (Ev.bind (D_ev (D_ok hA hB) hC) (Ev.bind (same_ev (D_ok hA (U_ok hB hC)) (cut_ext (dif_WW hA.1) (dif_WW (D_ok hA hB).1) fun z => ?_)) (Ev_pos rfl ?_)))))
  · rw [cut_mem, cut_mem, dif_mem (U_ok hB hC).1, dif_mem hC.1, D_mem hB.1, U_mem]; cases mem A z <;> cases mem B z <;> cases mem C z <;> rfl
  refine Ev.bind (U_ev hA hB) (Ev.bind (count_ev (U_ok hA hB)) (Ev.bind (I_ev hA hB) (Ev.bind (count_ev (I_ok hA hB)) (Ev.bind (count_ev hA) (Ev.bind (count_ev hB) (Ev_pos ?_ ?_))))))
  · have := cnt_U_I hA hB; congr 1; omega
  refine Ev.bind (within_ev hA hB) ?_
  have hs := same_is A B
  have hq := same A B hA.1 hB.1 (by have := hA.2; omega) (by have := hB.2; omega)
  by_cases h : sub A B = true
  · refine Ev_pos h ?_
    refine Ev.bind (within_ev hB hA) (Ev.bind hq (Ev_pos ?_ (algebra_end hA hB)))
    rw [← hs, h, Bool.true_and]; exact beq_self_eq_true _
  · refine Ev_neg h ?_
    refine Ev.bind hq (Ev_pos ?_ (algebra_end hA hB))
    rw [← hs, Bool.eq_false_iff.2 h]; rfl
theorem BitsAlgebra : dataflowlaw01_BitsAlgebra.Pure := by
  intro l0 l1 l2 _ _ hwf0 _ _ hwf1 _ _ hwf2
  obtain ⟨A, rfl, hA⟩ := nats_of l0 hwf0
  obtain ⟨B, rfl, hB⟩ := nats_of l1 hwf1
  obtain ⟨C, rfl, hC⟩ := nats_of l2 hwf2
  apply Ev.rounds
  unfold dataflowlaw01_BitsAlgebra.f
  by_cases ha : ((ints A).length : Int) > 1100
  · exact Ev_pos ha (algebra_awake _ _ _)
  · refine Ev_neg ha ?_
    by_cases hb : ((ints B).length : Int) > 1100
    · exact Ev_pos hb (algebra_awake _ _ _)
    · refine Ev_neg hb ?_
      by_cases hc : ((ints C).length : Int) > 1100
      · rw [decide_eq_true hc]; exact algebra_awake _ _ _
      · rw [decide_eq_false hc]
        rw [ints_length] at ha hb hc
        exact algebra_main ⟨hA, by omega⟩ ⟨hB, by omega⟩ ⟨hC, by omega⟩
end Go.Proofs.YtlfoehjjgbnkaaaDoor.Pure
