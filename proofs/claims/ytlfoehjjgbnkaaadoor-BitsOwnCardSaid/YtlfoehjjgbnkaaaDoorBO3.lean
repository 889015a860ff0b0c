/- Sets made of lists, merged lists, and the unions, differences and intersections of the program. -/
import Derived.Test.YtlfoehjjgbnkaaaDoorBO2
namespace Go.Proofs.YtlfoehjjgbnkaaaDoor.Pu
set_option linter.unusedVariables false
set_option linter.unusedSimpArgs false
open Go.RowKit Go.Proofs.YtlfoehjjgbnkaaaDoor.PO Go.Proofs.YtlfoehjjgbnkaaaDoorW.PrintWords Go.Proofs.YtlfoehjjgbnkaaaDoorW.PrintLast Go.Proofs.YtlfoehjjgbnkaaaDoorW.PrintMore
/-! Equal lists -/
theorem equal_loop (l : List Int) (hl : l.length ≤ 1000000000) : ∀ d i, l.length - i = d → Ev (fun k => dataflowref01_Equal.l0 k l l (i : Int)) true
  | 0, i, hd => Ev.step (fun k => by rw [dataflowref01_Equal.l0]) (Ev_neg (by omega) (Ev.now _))
  | d + 1, i, hd => by
    have ih := equal_loop l hl d (i + 1) (by omega)
    refine Ev.step (fun k => by rw [dataflowref01_Equal.l0]) ?_
    refine Ev_pos (by omega) (Ev_pos (by omega) (Ev_pos (by omega) (Ev_pos rfl ?_)))
    rw [w64 (by omega) (by omega)]
    simpa using ih
theorem equal (l : List Int) (hl : l.length ≤ 1000000000) : Ev (fun k => dataflowref01_Equal.f k l l) true := by
  unfold dataflowref01_Equal.f
  exact Ev_pos rfl (equal_loop l hl _ 0 rfl)
/-! Zeros at the end -/
theorem trimLen_ints (L : List Nat) : ∀ n, trimLen (ints L) n = cutLen L n
  | 0 => rfl
  | n + 1 => by
    have h := rd_ints L n
    unfold rd at h
    rw [Int.toNat_natCast] at h
    rw [trimLen_succ, h, trimLen_ints L n]
    show _ = if L.getD n 0 = 0 then cutLen L n else n + 1
    by_cases e : L.getD n 0 = 0
    · rw [if_pos e, if_pos (by omega)]
    · rw [if_neg e, if_neg (by omega)]
theorem trim (L : List Nat) : bits_trim.f (ints L) = some (ints (cut L)) := by
  unfold bits_trim.f
  rw [trimLen_ints, ints_length]
  unfold cut ints
  rw [List.map_take]
/-! Make -/
theorem ints_set (L : List Nat) (i v : Nat) : (ints L).set i (v : Int) = ints (L.set i v) := by unfold ints; rw [List.map_set]
end Go.Proofs.YtlfoehjjgbnkaaaDoor.Pu
