/- slices.ContainsFunc over indices, with the closure of hier.Subs: whether one of these classes bears the name. -/
import Derived.Test.YtkbclcecmcdlfaaHI
namespace Go.Proofs.Ytkbclcecmcdlfaa.PH
open Go.RowKit Go.Proofs.YtkbclcecmcdlfaaW.PrintWords Go.Proofs.YtkbclcecmcdlfaaW.PrintLast Go.Proofs.YtkbclcecmcdlfaaW.PrintMore
attribute [local go_sem] max2_int min2_int max_two min_two max_three min_three max_four min_four
set_option linter.unusedVariables false
set_option linter.unusedSimpArgs false

set_option maxHeartbeats 8000000 in
set_option maxRecDepth 100000 in
theorem cl22 (b2 b3 : Nat) (A0_0 : Option Addr) (c0_0 : Nat) (l0_0 : List S35) (s : ByteArray) (w : World) (i : Int) (hr : Kd.C k35 w A0_0 l0_0.length l0_0)
    (h2 : w.heap[b2]? = some (.cells #[.slice A0_0 l0_0.length c0_0] 28 (0, 0))) (h3 : w.heap[b3]? = some (.cells #[.string s] 9 (0, 0))) (p0 : 0 ≤ i) (q0 : i < (l0_0.length : Int)) :
    Calls Try.prog 22 #[.int .i64 i, .pointer (some ⟨b2, 0, none⟩), .pointer (some ⟨b3, 0, none⟩)] w fun e w' => e = .returned (.bool ((rd_T35 l0_0 i).f0.toList == s.toList)) ∧ Drawn0 w w' := by
  have c8b0 : decide (i < (l0_0.length : Int)) = true := decide_eq_true q0
  have c9b0 : decide (0 ≤ i) = true := decide_eq_true p0
  obtain ⟨ad380, A380_2, c380_2, A380_3, c380_3, e380, hx380_0, hx380_1, hx380_2, hx380_3, hl380_2, hi380_2, hl380_3, hi380_3⟩ := at_T35 hr i p0 q0
  cases e380
  clear hi380_2 hl380_2 hi380_3 hl380_3
  have g2 : w.cell? ⟨b2, 0, none⟩ = some (.slice (some ad380) l0_0.length c0_0) := (blk_cell h2 0).trans rfl
  have g3 : w.cell? ⟨b3, 0, none⟩ = some (.string s) := (blk_cell h3 0).trans rfl
  have p1 := eq_true p0
  have q1 := eq_true q0
  clear h2 h3 hr p0 q0
  go_enter Try.func22, Try.ntmps22
  go_wp2
  repeat (go_quiet (fail); try go_wp2)
  go_ret
  exact ⟨by first | rfl | (simp; done) | (simp [*]; done), by repeat (first | exact Drawn0.refl _ | apply Drawn0.step)⟩

/-- Whether a class at one of these places bears the name. -/
def anyL (l0_0 : List S35) (s : ByteArray) : List Int → Option Bool
  | [] => some false
  | i :: r => if 0 ≤ i then (if i < (l0_0.length : Int) then (if ((rd_T35 l0_0 i).f0.toList == s.toList) = true then some true else anyL l0_0 s r) else none) else none
theorem drop_rd (l : List Int) (n : Nat) (h : n < l.length) : l.drop n = rd l (n : Int) :: l.drop (n + 1) := by
  rw [List.drop_eq_getElem_cons h]
  congr 1
  simp [rd, h]

set_option maxHeartbeats 8000000 in
set_option maxRecDepth 100000 in
theorem indexFunc28 (b2 b3 : Nat) (A0_0 : Option Addr) (c0_0 : Nat) (l0_0 : List S35) (s : ByteArray) (A1 : Option Addr) (c1 : Nat) (l : List Int) (r : Bool) (w : World) (hr : Kd.C k35 w A0_0 l0_0.length l0_0)
    (h2 : w.heap[b2]? = some (.cells #[.slice A0_0 l0_0.length c0_0] 28 (0, 0))) (h3 : w.heap[b3]? = some (.cells #[.string s] 9 (0, 0))) (hl : Kd.C (Kd.int .i64) w A1 l.length l) (hlen0 : l.length < 1759218604441) (h : anyL l0_0 s l = some r) :
    Calls Try.prog 28 #[.slice A1 l.length c1, .func (.func 22) #[] #[.pointer (some ⟨b2, 0, none⟩), .pointer (some ⟨b3, 0, none⟩)]] w fun e w' => ∃ j : Int, e = .returned (.int .i64 j) ∧ decide (j ≥ 0) = r ∧ Drawn0 w w' := by
  have HR := Aside0.mk hr
  have H2 := Aside0.mk h2
  have H3 := Aside0.mk h3
  have HL := Aside0.mk hl
  have hlen := Aside0.mk hlen0
  have H := Aside0.mk h
  clear hr h2 h3 hl h
  go_enter Try.func28, Try.ntmps28
  go_wp2
  go_loopg [8] (l.length + 1) (fun kq v8 w' => ∃ (n : Int), v8 = .int .i64 n ∧ Aside0 (0 ≤ n ∧ n.toNat ≤ l.length ∧ kq + n.toNat = l.length + 1) ∧ Aside0 (anyL l0_0 s (l.drop n.toNat) = some r) ∧ Drawn0 w w')
  case atStart => exact ⟨0, by first | rfl | (simp; done), ⟨by simp⟩, ⟨H.out⟩, Drawn0.refl _⟩
  case round =>
    obtain ⟨n, rfl, HK1, HA, ⟨m1, rfl⟩⟩ := hrel
    cases gk with
    | zero =>
      obtain ⟨h0, h2, h1⟩ := HK1.out
      omega
    | succ k1 =>
      obtain ⟨p380, hle, hk⟩ := HK1.out
      by_cases q380 : n < (l.length : Int)
      · have c8b0 : decide (n < (l.length : Int)) = true := decide_eq_true q380
        have hwr : (wrap64 (n + 1)).toNat = n.toNat + 1 ∧ 0 ≤ wrap64 (n + 1) := by have := hlen.out; constructor <;> (unfold wrap64; omega)
        have HW := Aside0.mk hwr
        clear hwr
        have HQ := Aside0.mk q380
        have hA := HA.out
        have PP := Aside0.mk p380
        have hnn : ((n.toNat : Nat) : Int) = n := Int.toNat_of_nonneg p380
        rw [drop_rd l n.toNat (by omega), hnn] at hA
        clear HA
        simp only [anyL] at hA
        obtain ⟨ad188, e188, hx188_0⟩ := Kd.at_int HL.out n p380 q380
        cases e188
        replace p380 := eq_true p380
        replace q380 := eq_true q380
        by_cases d0 : 0 ≤ rd l n
        · rw [if_pos d0] at hA
          by_cases d1 : rd l n < (l0_0.length : Int)
          · rw [if_pos d1] at hA
            cases d2 : ((rd_T35 l0_0 (rd l n)).f0.toList == s.toList) with
            | true =>
              rw [d2, if_pos rfl] at hA
              obtain rfl := Option.some.inj hA
              have D0 := Aside0.mk d0
              have D1 := Aside0.mk d1
              have D2 := Aside0.mk d2
              clear d0 d1 d2 hk hle hnn
              go_wp2_with (first | (go_at_call 22; refine (cl22 b2 b3 A0_0 c0_0 l0_0 s _ (rd l n) ?hr ?h2 ?h3 D0.out D1.out).mono ?_; (case hr => repeat (first | exact HR.out | (with_reducible refine Kd.C_alloc ?_ _) | (with_reducible refine Kd.C_drewN ?_ _) | (with_reducible refine Kd.C_drew ?_))); (case h2 => exact H2.out); (case h3 => exact H3.out); rintro e w' ⟨rfl, ⟨nd, rfl⟩⟩; rw [D2.out]) | go_in)
              go_ret
              exact ⟨n, by first | rfl | (simp; done), decide_eq_true PP.out, by repeat (first | exact Drawn0.refl _ | apply Drawn0.step)⟩
            | false =>
              rw [d2, if_neg (by decide)] at hA
              have D0 := Aside0.mk d0
              have D1 := Aside0.mk d1
              have HA := Aside0.mk hA
              have D2 := Aside0.mk d2
              clear d0 d1 d2 hk hle hnn hA
              go_wp2_with (first | (go_at_call 22; refine (cl22 b2 b3 A0_0 c0_0 l0_0 s _ (rd l n) ?hr ?h2 ?h3 D0.out D1.out).mono ?_; (case hr => repeat (first | exact HR.out | (with_reducible refine Kd.C_alloc ?_ _) | (with_reducible refine Kd.C_drewN ?_ _) | (with_reducible refine Kd.C_drew ?_))); (case h2 => exact H2.out); (case h3 => exact H3.out); rintro e w' ⟨rfl, ⟨nd, rfl⟩⟩; rw [D2.out]) | go_in)
              go_roundg k1
              case measure => omega
              case rel => exact ⟨wrap64 (n + 1), by first | rfl | (simp; done) | (simp [*]; done), ⟨⟨HW.out.2, by have h1 := HW.out.1; have := HK1.out; have := HQ.out; omega, by have h1 := HW.out.1; have := HK1.out; omega⟩⟩, ⟨by rw [HW.out.1]; exact HA.out⟩, by repeat (first | exact Drawn0.refl _ | apply Drawn0.step)⟩
          · rw [if_neg d1] at hA
            cases hA
        · rw [if_neg d0] at hA
          cases hA
      · have c8b0 : decide (n < (l.length : Int)) = false := decide_eq_false q380
        have hA := HA.out
        have hnl : n.toNat = l.length := by omega
        rw [hnl, List.drop_length] at hA
        simp only [anyL] at hA
        obtain rfl := Option.some.inj hA
        clear hk hle p380 hnl q380 hA
        go_wp2
        go_ret
        exact ⟨-1, by first | rfl | (simp; done), by decide, by repeat (first | exact Drawn0.refl _ | apply Drawn0.step)⟩

def any.f (_k : Nat) (l : List Int) (s : ByteArray) (l0_0 : List S35) : Option Bool := if l.length < 1759218604441 then anyL l0_0 s l else none
theorem any.mono : ∀ a0 a1 a2 k, LeO (any.f k a0 a1 a2) (any.f (k + 1) a0 a1 a2) := fun _ _ _ _ => LeO.refl _

set_option maxHeartbeats 8000000 in
set_option maxRecDepth 100000 in
theorem any.calls (k : Nat) (A1 : Option Addr) (c1 : Nat) (l : List Int) (s : ByteArray) (A0_0 : Option Addr) (c0_0 : Nat) (l0_0 : List S35) (r : Bool) (w : World) (b2 b3 : Nat) (hl : Kd.C (Kd.int .i64) w A1 l.length l) (hr : Kd.C k35 w A0_0 l0_0.length l0_0)
    (h2 : w.heap[b2]? = some (.cells #[.slice A0_0 l0_0.length c0_0] 28 (0, 0))) (h3 : w.heap[b3]? = some (.cells #[.string s] 9 (0, 0))) (h : any.f k l s l0_0 = some r) :
    Calls Try.prog 21 #[.slice A1 l.length c1, .func (.func 22) #[] #[.pointer (some ⟨b2, 0, none⟩), .pointer (some ⟨b3, 0, none⟩)]] w fun e w' => e = .returned (.bool r) ∧ Below w.heap.size w w' := by
  unfold any.f at h
  have hlen0 : l.length < 1759218604441 := by
    by_cases hq : l.length < 1759218604441
    · exact hq
    · rw [if_neg hq] at h; cases h
  rw [if_pos hlen0] at h
  have F := Aside0.mk (indexFunc28 b2 b3 A0_0 c0_0 l0_0 s A1 c1 l r w hr h2 h3 hl hlen0 h)
  clear hr h2 h3 hl h
  go_enter Try.func21, Try.ntmps21
  go_wp2_with (first | (go_at_call 28; refine F.out.mono ?_; rintro e w' ⟨j, rfl, hj, ⟨nd, rfl⟩⟩) | go_in)
  go_ret
  exact ⟨by first | rfl | (simp; done) | (simp [*]; done), by repeat (first | exact Below.refl _ _ | apply below_alloc | apply pw_below_drewN | apply below_drew1)⟩
end Go.Proofs.Ytkbclcecmcdlfaa.PH
