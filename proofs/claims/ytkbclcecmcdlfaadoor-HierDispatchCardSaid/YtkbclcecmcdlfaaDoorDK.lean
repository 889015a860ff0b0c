/- lex.Keyword: whether a word is one of the seventeen of its table. -/
import Derived.Test.YtkbclcecmcdlfaaDoorPDx0
namespace Go.Proofs.YtkbclcecmcdlfaaDoor.PD
open Go.RowKit Go.Proofs.YtkbclcecmcdlfaaDoorW.PrintWords Go.Proofs.YtkbclcecmcdlfaaDoorW.PrintLast Go.Proofs.YtkbclcecmcdlfaaDoorW.PrintMore
attribute [local go_sem] max2_int min2_int max_two min_two max_three min_three max_four min_four
set_option linter.unusedVariables false
set_option linter.unusedSimpArgs false

def lex_Keyword.f (s : ByteArray) : Option Bool := some (kws.any (fun x => s.toList == x.toList))
theorem kws_len : kws.length = 17 := rfl
def kwAt (n : Int) : ByteArray := kws.getD n.toNat ⟨#[]⟩
theorem run_index_kw (w : World) (n : Int) (h0 : 0 ≤ n) (h1 : n < 17) : (Instr.index 98 (.agg #[.string (⟨#[99, 108, 97, 115, 115]⟩ : ByteArray), .string (⟨#[101, 120, 116, 101, 110, 100, 115]⟩ : ByteArray), .string (⟨#[118, 97, 114]⟩ : ByteArray), .string (⟨#[100, 101, 102]⟩ : ByteArray), .string (⟨#[115, 116, 97, 116, 105, 99]⟩ : ByteArray), .string (⟨#[105, 102]⟩ : ByteArray), .string (⟨#[101, 108, 115, 101]⟩ : ByteArray), .string (⟨#[119, 104, 105, 108, 101]⟩ : ByteArray), .string (⟨#[116, 114, 121]⟩ : ByteArray), .string (⟨#[99, 97, 116, 99, 104]⟩ : ByteArray), .string (⟨#[116, 104, 114, 111, 119]⟩ : ByteArray), .string (⟨#[114, 101, 116, 117, 114, 110]⟩ : ByteArray), .string (⟨#[110, 101, 119]⟩ : ByteArray), .string (⟨#[110, 117, 108, 108]⟩ : ByteArray), .string (⟨#[116, 104, 105, 115]⟩ : ByteArray), .string (⟨#[105, 110, 112, 117, 116]⟩ : ByteArray), .string (⟨#[105, 110, 116]⟩ : ByteArray)]) (.int .i64 n)).run Tryd.prog w = .ok (.string (kwAt n)) w := by
  obtain ⟨m, rfl⟩ := Int.eq_ofNat_of_zero_le h0
  have : m < 17 := by omega
  match m, this with
  | 0, _ => clear h0 h1; show _ = _; kernel_rfl
  | 1, _ => clear h0 h1; show _ = _; kernel_rfl
  | 2, _ => clear h0 h1; show _ = _; kernel_rfl
  | 3, _ => clear h0 h1; show _ = _; kernel_rfl
  | 4, _ => clear h0 h1; show _ = _; kernel_rfl
  | 5, _ => clear h0 h1; show _ = _; kernel_rfl
  | 6, _ => clear h0 h1; show _ = _; kernel_rfl
  | 7, _ => clear h0 h1; show _ = _; kernel_rfl
  | 8, _ => clear h0 h1; show _ = _; kernel_rfl
  | 9, _ => clear h0 h1; show _ = _; kernel_rfl
  | 10, _ => clear h0 h1; show _ = _; kernel_rfl
  | 11, _ => clear h0 h1; show _ = _; kernel_rfl
  | 12, _ => clear h0 h1; show _ = _; kernel_rfl
  | 13, _ => clear h0 h1; show _ = _; kernel_rfl
  | 14, _ => clear h0 h1; show _ = _; kernel_rfl
  | 15, _ => clear h0 h1; show _ = _; kernel_rfl
  | 16, _ => clear h0 h1; show _ = _; kernel_rfl
theorem kw_drop (n : Nat) (h : n < 17) : kws.drop n = kws.getD n ⟨#[]⟩ :: kws.drop (n + 1) := by
  rw [List.drop_eq_getElem_cons (by rw [kws_len]; exact h)]
  congr 1
  simp [List.getD, List.getElem?_eq_getElem (show n < kws.length from by rw [kws_len]; exact h)]

set_option maxHeartbeats 8000000 in
set_option maxRecDepth 100000 in
theorem lex_Keyword.calls (s : ByteArray) (r : Bool) (w : World) (h : lex_Keyword.f s = some r) (hT : TabW w) :
    Calls Tryd.prog 44 #[.string s] w fun e w' => e = .returned (.bool r) ∧ Drawn0 w w' := by
  have hu98 := Tryd.underlying98
  have g0 : w.cell? ⟨0, 0, none⟩ = some (.string (⟨#[99, 108, 97, 115, 115]⟩ : ByteArray)) := hT 0 (by decide)
  have g1 : w.cell? ⟨0, 1, none⟩ = some (.string (⟨#[101, 120, 116, 101, 110, 100, 115]⟩ : ByteArray)) := hT 1 (by decide)
  have g2 : w.cell? ⟨0, 2, none⟩ = some (.string (⟨#[118, 97, 114]⟩ : ByteArray)) := hT 2 (by decide)
  have g3 : w.cell? ⟨0, 3, none⟩ = some (.string (⟨#[100, 101, 102]⟩ : ByteArray)) := hT 3 (by decide)
  have g4 : w.cell? ⟨0, 4, none⟩ = some (.string (⟨#[115, 116, 97, 116, 105, 99]⟩ : ByteArray)) := hT 4 (by decide)
  have g5 : w.cell? ⟨0, 5, none⟩ = some (.string (⟨#[105, 102]⟩ : ByteArray)) := hT 5 (by decide)
  have g6 : w.cell? ⟨0, 6, none⟩ = some (.string (⟨#[101, 108, 115, 101]⟩ : ByteArray)) := hT 6 (by decide)
  have g7 : w.cell? ⟨0, 7, none⟩ = some (.string (⟨#[119, 104, 105, 108, 101]⟩ : ByteArray)) := hT 7 (by decide)
  have g8 : w.cell? ⟨0, 8, none⟩ = some (.string (⟨#[116, 114, 121]⟩ : ByteArray)) := hT 8 (by decide)
  have g9 : w.cell? ⟨0, 9, none⟩ = some (.string (⟨#[99, 97, 116, 99, 104]⟩ : ByteArray)) := hT 9 (by decide)
  have g10 : w.cell? ⟨0, 10, none⟩ = some (.string (⟨#[116, 104, 114, 111, 119]⟩ : ByteArray)) := hT 10 (by decide)
  have g11 : w.cell? ⟨0, 11, none⟩ = some (.string (⟨#[114, 101, 116, 117, 114, 110]⟩ : ByteArray)) := hT 11 (by decide)
  have g12 : w.cell? ⟨0, 12, none⟩ = some (.string (⟨#[110, 101, 119]⟩ : ByteArray)) := hT 12 (by decide)
  have g13 : w.cell? ⟨0, 13, none⟩ = some (.string (⟨#[110, 117, 108, 108]⟩ : ByteArray)) := hT 13 (by decide)
  have g14 : w.cell? ⟨0, 14, none⟩ = some (.string (⟨#[116, 104, 105, 115]⟩ : ByteArray)) := hT 14 (by decide)
  have g15 : w.cell? ⟨0, 15, none⟩ = some (.string (⟨#[105, 110, 112, 117, 116]⟩ : ByteArray)) := hT 15 (by decide)
  have g16 : w.cell? ⟨0, 16, none⟩ = some (.string (⟨#[105, 110, 116]⟩ : ByteArray)) := hT 16 (by decide)
  clear hT
  have H0 := Aside0.mk (Option.some.inj h)
  clear h
  go_enter Tryd.func44, Tryd.ntmps44
  go_wp2
  clear g0 g1 g2 g3 g4 g5 g6 g7 g8 g9 g10 g11 g12 g13 g14 g15 g16 hu98
  go_loopg [6] 18 (fun kq v6 w' => ∃ (n : Int), v6 = .int .i64 n ∧ Aside0 (0 ≤ n ∧ n.toNat ≤ 17 ∧ kq + n.toNat = 18) ∧ Aside0 ((kws.drop n.toNat).any (fun x => s.toList == x.toList) = r) ∧ Drawn0 w w')
  case atStart => exact ⟨0, by first | rfl | (simp; done), ⟨by simp⟩, ⟨H0.out⟩, by repeat (first | exact Drawn0.refl _ | apply Drawn0.step)⟩
  case round =>
    clear H0
    obtain ⟨n, rfl, HK1, HA, ⟨m1, rfl⟩⟩ := hrel
    cases gk with
    | zero =>
      obtain ⟨h0, h2, h1⟩ := HK1.out
      omega
    | succ k1 =>
      obtain ⟨p0, hle, hk⟩ := HK1.out
      by_cases q0 : n < 17
      · have c8b0 : decide (n < 17) = true := decide_eq_true q0
        have hA := HA.out
        clear HA
        have hwr : (wrap64 (n + 1)).toNat = n.toNat + 1 ∧ 0 ≤ wrap64 (n + 1) := by constructor <;> (unfold wrap64; omega)
        have HW := Aside0.mk hwr
        have HQ := Aside0.mk q0
        rw [kw_drop n.toNat (by omega), List.any_cons] at hA
        have hix := fun W => run_index_kw W n p0 q0
        clear hwr q0 p0 hle hk
        change ((s.toList == (kwAt n).toList) || _) = r at hA
        cases d2 : (s.toList == (kwAt n).toList) with
        | true =>
          rw [d2, Bool.true_or] at hA
          subst hA
          go_wp2_with (simp only [hix])
          go_ret
          exact ⟨by first | rfl | (simp; done) | (simp [*]; done), by repeat (first | exact Drawn0.refl _ | apply Drawn0.step)⟩
        | false =>
          rw [d2, Bool.false_or] at hA
          have HA := Aside0.mk hA
          clear hA
          go_wp2_with (simp only [hix])
          go_roundg k1
          case measure => omega
          case rel => exact ⟨wrap64 (n + 1), by first | rfl | (simp; done) | (simp [*]; done), ⟨⟨HW.out.2, by have h1 := HW.out.1; have := HK1.out; have := HQ.out; omega, by have h1 := HW.out.1; have := HK1.out; omega⟩⟩, ⟨by rw [HW.out.1]; exact HA.out⟩, by repeat (first | exact Drawn0.refl _ | apply Drawn0.step)⟩
      · have c8b0 : decide (n < 17) = false := decide_eq_false q0
        have hA := HA.out
        have hnl : n.toNat = 17 := by omega
        rw [hnl] at hA
        have hr : false = r := hA
        subst hr
        clear hk hle p0 hnl q0 hA
        go_wp2
        go_ret
        exact ⟨by first | rfl | (simp; done), by repeat (first | exact Drawn0.refl _ | apply Drawn0.step)⟩
end Go.Proofs.YtkbclcecmcdlfaaDoor.PD
