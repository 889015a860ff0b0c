/- super.first: slices.IndexFunc over nodes with its closure: the first node of a function with a kind. -/
import Derived.Test.YtbmhpnegigccnaaPSx0
namespace Go.Proofs.Ytbmhpnegigccnaa.PS
open Go.RowKit Go.Proofs.YtbmhpnegigccnaaW.PrintWords Go.Proofs.YtbmhpnegigccnaaW.PrintLast Go.Proofs.YtbmhpnegigccnaaW.PrintMore
set_option linter.unusedVariables false
set_option linter.unusedSimpArgs false

set_option maxHeartbeats 8000000 in
set_option maxRecDepth 100000 in
theorem cl30 (b4 b5 : Nat) (f kd : Int) (x : S36) (w : World) (h4 : w.heap[b4]? = some (.cells #[.int .i64 f] 3 (0, 0))) (h5 : w.heap[b5]? = some (.cells #[.int .i64 kd] 3 (0, 0))) :
    Calls Try.prog 30 #[.agg #[.int .i64 x.f0, .int .i64 x.f1, .int .i64 x.f2], .pointer (some ⟨b4, 0, none⟩), .pointer (some ⟨b5, 0, none⟩)] w fun e w' => e = .returned (.bool (x.f0 == f && x.f1 == kd)) ∧ Below w.heap.size w w' := by
  have hu36 := Try.underlying36
  have HB := Aside0.mk (Below.refl w.heap.size w)
  have H4 := Aside0.mk h4
  have H5 := Aside0.mk h5
  clear h4 h5
  by_cases c1 : x.f0 = f
  · have c1b : (x.f0 == f) = true := beq_iff_eq.mpr c1
    rw [c1b, Bool.true_and]
    clear c1
    go_enter Try.func30, Try.ntmps30
    go_wp2_with (first | ((with_reducible refine gate_dst (N := 3) rfl ?_); refine box_event ?hg (N := 3) ?hd (cs := #[.int .i64 x.f0, .int .i64 x.f1, .int .i64 x.f2]) (t := 36) ?hr ?_; (case hd => rfl); (case hg => rfl); (case hr => first | (go_simp; done) | (go_simp; rfl)); intro gb hg w1 hbox hb; have n0_ := Aside0.mk (below_step HB.out hb); have n1_ := Aside0.mk hbox; have n2_ := Aside0.mk (blk_below H4.out hb); have n3_ := Aside0.mk (blk_below H5.out hb); clear HB H4 H5; have HB := n0_; have BK := n1_; have H4 := n2_; have H5 := n3_; clear n0_ n1_ n2_ n3_; clear hb hbox hg; have z0 : w1.cell? ⟨gb, 0, none⟩ = some (.int .i64 x.f0) := (blk_cell BK.out 0).trans rfl; have z1 : w1.cell? ⟨gb, 1, none⟩ = some (.int .i64 x.f1) := (blk_cell BK.out 1).trans rfl; have z4 : w1.cell? ⟨b4, 0, none⟩ = some (.int .i64 f) := (blk_cell H4.out 0).trans rfl; have z5 : w1.cell? ⟨b5, 0, none⟩ = some (.int .i64 kd) := (blk_cell H5.out 0).trans rfl))
    go_ret
    exact ⟨by first | rfl | (simp; done) | (simp [*]; done), HB.out⟩
  · have c1b : (x.f0 == f) = false := beq_eq_false_iff_ne.mpr c1
    rw [c1b, Bool.false_and]
    clear c1
    go_enter Try.func30, Try.ntmps30
    go_wp2_with (first | ((with_reducible refine gate_dst (N := 3) rfl ?_); refine box_event ?hg (N := 3) ?hd (cs := #[.int .i64 x.f0, .int .i64 x.f1, .int .i64 x.f2]) (t := 36) ?hr ?_; (case hd => rfl); (case hg => rfl); (case hr => first | (go_simp; done) | (go_simp; rfl)); intro gb hg w1 hbox hb; have n0_ := Aside0.mk (below_step HB.out hb); have n1_ := Aside0.mk hbox; have n2_ := Aside0.mk (blk_below H4.out hb); have n3_ := Aside0.mk (blk_below H5.out hb); clear HB H4 H5; have HB := n0_; have BK := n1_; have H4 := n2_; have H5 := n3_; clear n0_ n1_ n2_ n3_; clear hb hbox hg; have z0 : w1.cell? ⟨gb, 0, none⟩ = some (.int .i64 x.f0) := (blk_cell BK.out 0).trans rfl; have z1 : w1.cell? ⟨gb, 1, none⟩ = some (.int .i64 x.f1) := (blk_cell BK.out 1).trans rfl; have z4 : w1.cell? ⟨b4, 0, none⟩ = some (.int .i64 f) := (blk_cell H4.out 0).trans rfl; have z5 : w1.cell? ⟨b5, 0, none⟩ = some (.int .i64 kd) := (blk_cell H5.out 0).trans rfl))
    go_ret
    exact ⟨by first | rfl | (simp; done) | (simp [*]; done), HB.out⟩

/-- The first place from n on. -/
def firstN (l : List S36) (f kd : Int) : Nat → Nat → Int
  | 0, _ => -1
  | d + 1, n => if ((rd_T36 l (n : Int)).f0 == f && (rd_T36 l (n : Int)).f1 == kd) = true then (n : Int) else firstN l f kd d (n + 1)

set_option maxHeartbeats 8000000 in
set_option maxRecDepth 100000 in
theorem indexFunc29 (b4 b5 : Nat) (f kd : Int) (A0 : Option Addr) (c0 : Nat) (l : List S36) (w : World) (hr : Kd.C k36 w A0 l.length l) (hlen0 : l.length < 1759218604441)
    (h4 : w.heap[b4]? = some (.cells #[.int .i64 f] 3 (0, 0))) (h5 : w.heap[b5]? = some (.cells #[.int .i64 kd] 3 (0, 0))) :
    Calls Try.prog 29 #[.slice A0 l.length c0, .func (.func 30) #[] #[.pointer (some ⟨b4, 0, none⟩), .pointer (some ⟨b5, 0, none⟩)]] w fun e w' => e = .returned (.int .i64 (firstN l f kd l.length 0)) ∧ Below w.heap.size w w' := by
  have HR := Aside0.mk hr
  have H4 := Aside0.mk h4
  have H5 := Aside0.mk h5
  have hlen := Aside0.mk hlen0
  have HB0 := Aside0.mk (Below.refl w.heap.size w)
  clear hr h4 h5
  go_enter Try.func29, Try.ntmps29
  go_wp2
  go_loopg [8] (l.length + 1) (fun kq v8 w' => ∃ (n : Int), v8 = .int .i64 n ∧ Aside0 (0 ≤ n ∧ n.toNat ≤ l.length ∧ kq + n.toNat = l.length + 1) ∧ Aside0 (firstN l f kd (l.length - n.toNat) n.toNat = firstN l f kd l.length 0) ∧ Aside0 (Below w.heap.size w w'))
  case atStart => exact ⟨0, by first | rfl | (simp; done), ⟨by simp⟩, ⟨rfl⟩, HB0⟩
  case round =>
    obtain ⟨n, rfl, HK1, HA, HB⟩ := hrel
    cases gk with
    | zero =>
      obtain ⟨h0, h2, h1⟩ := HK1.out
      omega
    | succ k1 =>
      obtain ⟨p380, hle, hk⟩ := HK1.out
      by_cases q380 : n < (l.length : Int)
      · have c8b0 : decide (n < (l.length : Int)) = true := decide_eq_true q380
        have hwr : (wrap64 (n + 1)).toNat = n.toNat + 1 ∧ 0 ≤ wrap64 (n + 1) := by have := hlen.out; constructor <;> (unfold wrap64; omega)
        have HW := Aside0.mk hwr
        clear hwr
        have HQ := Aside0.mk q380
        have hA := HA.out
        have hnn : ((n.toNat : Nat) : Int) = n := Int.toNat_of_nonneg p380
        have hd : l.length - n.toNat = (l.length - (n.toNat + 1)) + 1 := by omega
        rw [hd] at hA
        simp only [firstN] at hA
        rw [hnn] at hA
        clear HA
        obtain ⟨ad188, e188, hx0, hx1, hx2⟩ := at_T36 HR.out n p380 q380
        cases e188
        replace hx0 := (HB.out.cell (World.block_lt_of_cell? w _ hx0)).trans hx0
        replace hx1 := (HB.out.cell (World.block_lt_of_cell? w _ hx1)).trans hx1
        replace hx2 := (HB.out.cell (World.block_lt_of_cell? w _ hx2)).trans hx2
        replace p380 := eq_true p380
        replace q380 := eq_true q380
        cases d2 : ((rd_T36 l n).f0 == f && (rd_T36 l n).f1 == kd) with
        | true =>
          rw [d2, if_pos rfl] at hA
          have D2 := Aside0.mk d2
          have HA := Aside0.mk hA
          clear d2 hk hle hnn hA hd
          go_wp2_with (first | (go_at_call 30; refine (cl30 b4 b5 f kd (rd_T36 l n) _ ?h4 ?h5).mono ?_; (case h4 => exact blk_below H4.out HB.out); (case h5 => exact blk_below H5.out HB.out); rintro e w1 ⟨rfl, hb⟩; rw [D2.out]; have n0_ := Aside0.mk (below_step HB.out hb); clear HB; have HB := n0_; clear n0_ hb) | go_in)
          go_ret
          exact ⟨by rw [← HA.out]; rfl, HB.out⟩
        | false =>
          rw [d2, if_neg (by decide)] at hA
          have D2 := Aside0.mk d2
          have HA := Aside0.mk hA
          clear d2 hk hle hnn hA hd
          go_wp2_with (first | (go_at_call 30; refine (cl30 b4 b5 f kd (rd_T36 l n) _ ?h4 ?h5).mono ?_; (case h4 => exact blk_below H4.out HB.out); (case h5 => exact blk_below H5.out HB.out); rintro e w1 ⟨rfl, hb⟩; rw [D2.out]; have n0_ := Aside0.mk (below_step HB.out hb); clear HB; have HB := n0_; clear n0_ hb) | go_in)
          go_roundg k1
          case measure => omega
          case rel => exact ⟨wrap64 (n + 1), by first | rfl | (simp; done) | (simp [*]; done), ⟨⟨HW.out.2, by have h1 := HW.out.1; have := HK1.out; have := HQ.out; omega, by have h1 := HW.out.1; have := HK1.out; omega⟩⟩, ⟨by rw [HW.out.1]; exact HA.out⟩, HB⟩
      · have c8b0 : decide (n < (l.length : Int)) = false := decide_eq_false q380
        have hA := HA.out
        have hnl : l.length - n.toNat = 0 := by omega
        rw [hnl] at hA
        simp only [firstN] at hA
        have HA := Aside0.mk hA
        clear hk hle p380 hnl q380 hA
        go_wp2
        go_ret
        exact ⟨by rw [← HA.out]; rfl, HB.out⟩

def super_first.f (_k : Nat) (l0_0 : List S36) (l0_1 : List S33) (a0_2 : Int) (a1 : Int) (a2 : Int) : Option Int := if l0_0.length < 1759218604441 then some (firstN l0_0 a1 a2 l0_0.length 0) else none
theorem super_first.mono : ∀ a0 a1 a2 a3 a4 k, LeO (super_first.f k a0 a1 a2 a3 a4) (super_first.f (k + 1) a0 a1 a2 a3 a4) := fun _ _ _ _ _ _ => LeO.refl _
set_option maxHeartbeats 8000000 in
set_option maxRecDepth 100000 in
theorem super_first.calls (k : Nat) (A0_0 : Option Addr) (c0_0 : Nat) (l0_0 : List (S36)) (A0_1 : Option Addr) (c0_1 : Nat) (l0_1 : List (S33)) (a0_2 : Int) (a1 : Int) (a2 : Int) (r : Int) (w : World) (hr0_0 : Kd.C k36 w A0_0 l0_0.length l0_0) (hc0_0 : l0_0.length ≤ c0_0) (hr0_1 : Kd.C k33 w A0_1 l0_1.length l0_1) (hc0_1 : l0_1.length ≤ c0_1) (h : super_first.f k l0_0 l0_1 a0_2 a1 a2 = some r) :
    Calls Try.prog 18 #[.agg #[.slice A0_0 l0_0.length c0_0, .slice A0_1 l0_1.length c0_1, .int .i64 a0_2], .int .i64 a1, .int .i64 a2] w fun e w' => e = .returned (.int .i64 r) ∧ Below w.heap.size w w' := by
  have hu25 := Try.underlying25
  have HB := Aside0.mk (Below.refl w.heap.size w)
  have HR := Aside0.mk hr0_0
  clear hr0_0 hr0_1 hc0_0 hc0_1
  unfold super_first.f at h
  have hlen0 : l0_0.length < 1759218604441 := by
    by_cases hq : l0_0.length < 1759218604441
    · exact hq
    · rw [if_neg hq] at h; cases h
  rw [if_pos hlen0] at h
  have hlen := Aside0.mk hlen0
  have hr := Aside0.mk (Option.some.inj h)
  clear h hlen0
  go_enter Try.func18, Try.ntmps18
  go_wp2_with (first | ((with_reducible refine gate_dst (N := 3) rfl ?_); refine box_event ?hg (N := 3) ?hd (cs := #[.slice A0_0 l0_0.length c0_0, .slice A0_1 l0_1.length c0_1, .int .i64 a0_2]) (t := 25) ?hr ?_; (case hd => rfl); (case hg => rfl); (case hr => first | (go_simp; done) | (go_simp; rfl)); intro gb3 hg w1 hbox hb; have n0_ := Aside0.mk (below_step HB.out hb); have n1_ := Aside0.mk hbox; clear HB; have HB := n0_; have B3 := n1_; clear n0_ n1_; clear hb hbox hg) | ((with_reducible refine gate_dst (N := 4) rfl ?_); refine box_event ?hg (N := 4) ?hd (cs := #[.int .i64 a1]) (t := 3) ?hr ?_; (case hd => rfl); (case hg => rfl); (case hr => first | (go_simp; done) | (go_simp; rfl)); intro gb4 hg w2 hbox hb; have n0_ := Aside0.mk (below_step HB.out hb); have n1_ := Aside0.mk hbox; have n2_ := Aside0.mk (blk_below B3.out hb); clear HB B3; have HB := n0_; have B4 := n1_; have B3 := n2_; clear n0_ n1_ n2_; clear hb hbox hg) | ((with_reducible refine gate_dst (N := 5) rfl ?_); refine box_event ?hg (N := 5) ?hd (cs := #[.int .i64 a2]) (t := 3) ?hr ?_; (case hd => rfl); (case hg => rfl); (case hr => first | (go_simp; done) | (go_simp; rfl)); intro gb5 hg w3 hbox hb; have n0_ := Aside0.mk (below_step HB.out hb); have n1_ := Aside0.mk hbox; have n2_ := Aside0.mk (blk_below B3.out hb); have n3_ := Aside0.mk (blk_below B4.out hb); clear HB B3 B4; have HB := n0_; have B5 := n1_; have B3 := n2_; have B4 := n3_; clear n0_ n1_ n2_ n3_; clear hb hbox hg; have z0 : w3.cell? ⟨gb3, 0, none⟩ = some (.slice A0_0 l0_0.length c0_0) := (blk_cell B3.out 0).trans rfl) | (go_at_call 29; refine (indexFunc29 gb4 gb5 a1 a2 A0_0 c0_0 l0_0 _ ?hc hlen.out B4.out B5.out).mono ?_; (case hc => exact Kd.C_below HR.out HB.out); rintro e w4 ⟨rfl, hb⟩; have n0_ := Aside0.mk (below_step HB.out hb); clear HB; have HB := n0_; clear n0_ hb))
  go_ret
  exact ⟨by rw [← hr.out]; rfl, HB.out⟩
end Go.Proofs.Ytbmhpnegigccnaa.PS
