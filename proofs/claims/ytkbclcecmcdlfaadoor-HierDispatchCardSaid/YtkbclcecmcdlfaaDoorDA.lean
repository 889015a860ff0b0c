/- The closures of hier.Subs and of hier.Check, and slices.IndexFunc and slices.ContainsFunc with them. -/
import Derived.Test.YtkbclcecmcdlfaaDoorDI
import Derived.Test.YtkbclcecmcdlfaaDoorD1
namespace Go.Proofs.YtkbclcecmcdlfaaDoor.PD
open Go.RowKit Go.Proofs.YtkbclcecmcdlfaaDoorW.PrintWords Go.Proofs.YtkbclcecmcdlfaaDoorW.PrintLast Go.Proofs.YtkbclcecmcdlfaaDoorW.PrintMore
attribute [local go_sem] max2_int min2_int max_two min_two max_three min_three max_four min_four
set_option linter.unusedVariables false
set_option linter.unusedSimpArgs false

/-- Whether one of a row is told so. -/
def anyO {α : Type} (p : α → Option Bool) : List α → Option Bool
  | [] => some false
  | x :: r => (p x).bind fun b => if b = true then some true else anyO p r
theorem drop_getD {α : Type} (z : α) (l : List α) (n : Nat) (h : n < l.length) : l.drop n = l.getD n z :: l.drop (n + 1) := by
  rw [List.drop_eq_getElem_cons h]
  congr 1
  simp [List.getD, List.getElem?_eq_getElem h]
def p25 (l0_0 : List S32) (s : ByteArray) (i : Int) : Option Bool := if 0 ≤ i then (if i < (l0_0.length : Int) then some ((rd_T32 l0_0 i).f0.toList == s.toList) else none) else none
def p45 (nm : ByteArray) (g : S67) : Option Bool := some (g.f0.toList == nm.toList)
def p50 (nm : ByteArray) (g : S37) : Option Bool := some (g.f0.toList == nm.toList)
def p52 (l0_0 : List S32) (L : MapSI.Ents) (t : ByteArray) : Option Bool := (hier_checker_isType.f l0_0 L t).bind fun b => some (!b)
def anyF.f (_k : Nat) (l : List S67) (nm : ByteArray) : Option Bool := if l.length < 4611686018427387904 then anyO (p45 nm) l else none
theorem anyF.mono : ∀ a0 a1 k, LeO (anyF.f k a0 a1) (anyF.f (k + 1) a0 a1) := fun _ _ _ => LeO.refl _
def p48 (l0_0 : List S32) (nm : ByteArray) (i : Int) : Option Bool := if 0 ≤ i then (if i < (l0_0.length : Int) then anyF.f 0 (rd_T32 l0_0 i).f2 nm else none) else none
def anyI.f (_k : Nat) (l : List Int) (l0_0 : List S32) (nm : ByteArray) : Option Bool := if l.length < 4611686018427387904 then anyO (p48 l0_0 nm) l else none
theorem anyI.mono : ∀ a0 a1 a2 k, LeO (anyI.f k a0 a1 a2) (anyI.f (k + 1) a0 a1 a2) := fun _ _ _ _ => LeO.refl _
def anyS.f (_k : Nat) (l : List S37) (nm : ByteArray) : Option Bool := if l.length < 4611686018427387904 then anyO (p50 nm) l else none
theorem anyS.mono : ∀ a0 a1 k, LeO (anyS.f k a0 a1) (anyS.f (k + 1) a0 a1) := fun _ _ _ => LeO.refl _
def anyT.f (_k : Nat) (l : List ByteArray) (l0_0 : List S32) (L : MapSI.Ents) : Option Bool := if l.length < 4611686018427387904 then anyO (p52 l0_0 L) l else none
theorem anyT.mono : ∀ a0 a1 a2 k, LeO (anyT.f k a0 a1 a2) (anyT.f (k + 1) a0 a1 a2) := fun _ _ _ _ => LeO.refl _
def any.f (_k : Nat) (l : List Int) (s : ByteArray) (l0_0 : List S32) : Option Bool := if l.length < 4611686018427387904 then anyO (p25 l0_0 s) l else none
theorem any.mono : ∀ a0 a1 a2 k, LeO (any.f k a0 a1 a2) (any.f (k + 1) a0 a1 a2) := fun _ _ _ _ => LeO.refl _

/-! ### What the closures hold -/
def Cap25 (w : World) (b2 b3 : Nat) (A0 : Option Addr) (c0 : Nat) (l0 : List S32) (s : ByteArray) : Prop := Kd.C k32 w A0 l0.length l0 ∧ w.heap[b2]? = some (.cells #[.slice A0 l0.length c0] 24 (0, 0)) ∧ w.heap[b3]? = some (.cells #[.string s] 9 (0, 0))
theorem Cap25.below {w W : World} {b2 b3 : Nat} {A0 : Option Addr} {c0 : Nat} {l0 : List S32} {s : ByteArray} (h : Cap25 w b2 b3 A0 c0 l0 s) (hb : Below w.heap.size w W) : Cap25 W b2 b3 A0 c0 l0 s := ⟨Kd.C_below h.1 hb, blk_below h.2.1 hb, blk_below h.2.2 hb⟩
def Cap45 (w : World) (b : Nat) (nm ty : ByteArray) : Prop := w.heap[b]? = some (.cells #[.string nm, .string ty] 67 (0, 0))
theorem Cap45.below {w W : World} {b : Nat} {nm ty : ByteArray} (h : Cap45 w b nm ty) (hb : Below w.heap.size w W) : Cap45 W b nm ty := blk_below h hb
def Cap50 (w : World) (b : Nat) (s0 : ByteArray) (s1 : Bool) (A : Option Addr) (n c : Nat) (s3 : ByteArray) : Prop := w.heap[b]? = some (.cells #[.string s0, .bool s1, .slice A n c, .string s3] 37 (0, 0))
theorem Cap50.below {w W : World} {b : Nat} {s0 : ByteArray} {s1 : Bool} {A : Option Addr} {n c : Nat} {s3 : ByteArray} (h : Cap50 w b s0 s1 A n c s3) (hb : Below w.heap.size w W) : Cap50 W b s0 s1 A n c s3 := blk_below h hb
def Cap52 (w : World) (b : Nat) (A0 : Option Addr) (c0 : Nat) (l0 : List S32) (bm : Nat) (L : MapSI.Ents) : Prop := Kd.C k32 w A0 l0.length l0 ∧ l0.length ≤ c0 ∧ w.heap[b]? = some (.cells #[.slice A0 l0.length c0, .map (some bm)] 52 (0, 0)) ∧ MapSI.Is w bm L
theorem Cap52.below {w W : World} {b : Nat} {A0 : Option Addr} {c0 : Nat} {l0 : List S32} {bm : Nat} {L : MapSI.Ents} (h : Cap52 w b A0 c0 l0 bm L) (hb : Below w.heap.size w W) : Cap52 W b A0 c0 l0 bm L := ⟨Kd.C_below h.1 hb, h.2.1, blk_below h.2.2.1 hb, MapSI.Is.below h.2.2.2 hb⟩
def Cap48 (w : World) (b1 b2 b3 : Nat) (A0 : Option Addr) (c0 : Nat) (l0 : List S32) (bm : Nat) (nm ty : ByteArray) : Prop := Kd.C k32 w A0 l0.length l0 ∧ l0.length ≤ c0 ∧ w.heap[b1]? = some (.cells #[.slice A0 l0.length c0, .map (some bm)] 52 (0, 0)) ∧ w.heap[b2]? = some (.cells #[.func (.func 45) #[] #[.pointer (some ⟨b3, 0, none⟩)]] 79 (0, 0)) ∧ Cap45 w b3 nm ty
theorem Cap48.below {w W : World} {b1 b2 b3 : Nat} {A0 : Option Addr} {c0 : Nat} {l0 : List S32} {bm : Nat} {nm ty : ByteArray} (h : Cap48 w b1 b2 b3 A0 c0 l0 bm nm ty) (hb : Below w.heap.size w W) : Cap48 W b1 b2 b3 A0 c0 l0 bm nm ty := ⟨Kd.C_below h.1 hb, h.2.1, blk_below h.2.2.1 hb, blk_below h.2.2.2.1 hb, Cap45.below h.2.2.2.2 hb⟩
/-! ### The closures -/
set_option maxHeartbeats 8000000 in
set_option maxRecDepth 100000 in
theorem cl25 (b2 b3 : Nat) (A0_0 : Option Addr) (c0_0 : Nat) (l0_0 : List S32) (s : ByteArray) (i : Int) (b : Bool) (w : World) (cap : Cap25 w b2 b3 A0_0 c0_0 l0_0 s) (hp : p25 l0_0 s i = some b) :
    Calls Tryd.prog 25 #[.int .i64 i, .pointer (some ⟨b2, 0, none⟩), .pointer (some ⟨b3, 0, none⟩)] w fun e w' => e = .returned (.bool b) ∧ Below w.heap.size w w' := by
  obtain ⟨hr, h2, h3⟩ := cap
  by_cases p0 : 0 ≤ i
  · by_cases q0 : i < (l0_0.length : Int)
    · obtain rfl : ((rd_T32 l0_0 i).f0.toList == s.toList) = b := by simpa [p25, p0, q0] using hp
      clear hp
      have c8b0 : decide (i < (l0_0.length : Int)) = true := decide_eq_true q0
      have c9b0 : decide (0 ≤ i) = true := decide_eq_true p0
      obtain ⟨ad380, A380_2, c380_2, A380_3, c380_3, e380, hx380_0, hx380_1, hx380_2, hx380_3, hl380_2, hi380_2, hl380_3, hi380_3⟩ := at_T32 hr i p0 q0
      cases e380
      clear hi380_2 hl380_2 hi380_3 hl380_3
      have g2 : w.cell? ⟨b2, 0, none⟩ = some (.slice (some ad380) l0_0.length c0_0) := (blk_cell h2 0).trans rfl
      have g3 : w.cell? ⟨b3, 0, none⟩ = some (.string s) := (blk_cell h3 0).trans rfl
      have p1 := eq_true p0
      have q1 := eq_true q0
      clear h2 h3 hr p0 q0
      go_enter Tryd.func25, Tryd.ntmps25
      go_wp2
      repeat (go_quiet (fail); try go_wp2)
      go_ret
      exact ⟨by first | rfl | (simp; done) | (simp [*]; done), by repeat (first | exact Below.refl _ _ | apply below_alloc | apply pw_below_drewN | apply below_drew1)⟩
    · simp [p25, p0, q0] at hp
  · simp [p25, p0] at hp

set_option maxHeartbeats 8000000 in
set_option maxRecDepth 100000 in
theorem cl45 (b : Nat) (nm ty g0 g1 : ByteArray) (w : World) (cap : Cap45 w b nm ty) :
    Calls Tryd.prog 45 #[.agg #[.string g0, .string g1], .pointer (some ⟨b, 0, none⟩)] w fun e w' => e = .returned (.bool (g0.toList == nm.toList)) ∧ Below w.heap.size w w' := by
  have hu67 := Tryd.underlying67
  have BKB := Aside0.mk (show w.heap[b]? = some (.cells #[.string nm, .string ty] 67 (0, 0)) from cap)
  clear cap
  have HB := Aside0.mk (Below.refl w.heap.size w)
  go_enter Tryd.func45, Tryd.ntmps45
  go_wp2_with (first | ((with_reducible refine gate_dst (N := 2) rfl ?_); refine box_event ?hg (N := 2) ?hd (cs := #[.string g0, .string g1]) (t := 67) ?hr ?_; (case hd => rfl); (case hg => rfl); (case hr => first | (go_simp; done) | (go_simp; rfl)); intro gb1 hg w5 hbox hb; have n0_ := Aside0.mk (below_step (by repeat (first | (with_reducible first | exact HB.out | apply below_alloc | apply pw_below_drewN | apply below_drew1) | exact HB.out)) hb); have n1_ := Aside0.mk (hbox); have n2_ := Aside0.mk (blk_below BKB.out hb); clear HB; have HB := n0_; have BKC := n1_; have BKD := n2_; clear n0_ n1_ n2_; clear hb hbox hg; have hz0 : w5.cell? ⟨gb1, 0, none⟩ = some (.string g0) := (blk_cell BKC.out 0).trans rfl; have hz1 : w5.cell? ⟨b, 0, none⟩ = some (.string nm) := (blk_cell BKD.out 0).trans rfl))
  go_ret
  exact ⟨by first | rfl | (simp; done) | (simp [*]; done), by repeat (first | (with_reducible first | exact HB.out | apply below_alloc | apply pw_below_drewN | apply below_drew1) | exact HB.out)⟩

set_option maxHeartbeats 8000000 in
set_option maxRecDepth 100000 in
theorem cl50 (b : Nat) (s0 : ByteArray) (s1 : Bool) (A : Option Addr) (n c : Nat) (s3 : ByteArray) (g0 : ByteArray) (g1 : Bool) (B : Option Addr) (m d : Nat) (g3 : ByteArray) (w : World) (cap : Cap50 w b s0 s1 A n c s3) :
    Calls Tryd.prog 50 #[.agg #[.string g0, .bool g1, .slice B m d, .string g3], .pointer (some ⟨b, 0, none⟩)] w fun e w' => e = .returned (.bool (g0.toList == s0.toList)) ∧ Below w.heap.size w w' := by
  have hu37 := Tryd.underlying37
  have BKB := Aside0.mk (show w.heap[b]? = some (.cells #[.string s0, .bool s1, .slice A n c, .string s3] 37 (0, 0)) from cap)
  clear cap
  have HB := Aside0.mk (Below.refl w.heap.size w)
  go_enter Tryd.func50, Tryd.ntmps50
  go_wp2_with (first | ((with_reducible refine gate_dst (N := 2) rfl ?_); refine box_event ?hg (N := 2) ?hd (cs := #[.string g0, .bool g1, .slice B m d, .string g3]) (t := 37) ?hr ?_; (case hd => rfl); (case hg => rfl); (case hr => first | (go_simp; done) | (go_simp; rfl)); intro gb1 hg w5 hbox hb; have n0_ := Aside0.mk (below_step (by repeat (first | (with_reducible first | exact HB.out | apply below_alloc | apply pw_below_drewN | apply below_drew1) | exact HB.out)) hb); have n1_ := Aside0.mk (hbox); have n2_ := Aside0.mk (blk_below BKB.out hb); clear HB; have HB := n0_; have BKC := n1_; have BKD := n2_; clear n0_ n1_ n2_; clear hb hbox hg; have hz0 : w5.cell? ⟨gb1, 0, none⟩ = some (.string g0) := (blk_cell BKC.out 0).trans rfl; have hz1 : w5.cell? ⟨b, 0, none⟩ = some (.string s0) := (blk_cell BKD.out 0).trans rfl))
  go_ret
  exact ⟨by first | rfl | (simp; done) | (simp [*]; done), by repeat (first | (with_reducible first | exact HB.out | apply below_alloc | apply pw_below_drewN | apply below_drew1) | exact HB.out)⟩

set_option maxHeartbeats 8000000 in
set_option maxRecDepth 100000 in
theorem cl52 (b : Nat) (A0_0 : Option Addr) (c0_0 : Nat) (l0_0 : List S32) (bm : Nat) (L : MapSI.Ents) (t : ByteArray) (r : Bool) (w : World) (cap : Cap52 w b A0_0 c0_0 l0_0 bm L) (hp : p52 l0_0 L t = some r) :
    Calls Tryd.prog 52 #[.string t, .pointer (some ⟨b, 0, none⟩)] w fun e w' => e = .returned (.bool r) ∧ Below w.heap.size w w' := by
  have hu52 := Tryd.underlying52
  obtain ⟨q, hq0, hr0⟩ := Option.bind_eq_some_iff.mp hp
  clear hp
  have hr := Option.some.inj hr0
  clear hr0
  subst hr
  have HQ := Aside0.mk hq0
  have CAP := Aside0.mk cap
  have hz0 : w.cell? ⟨b, 0, none⟩ = some (.slice A0_0 l0_0.length c0_0) := (blk_cell cap.2.2.1 0).trans rfl
  have hz1 : w.cell? ⟨b, 1, none⟩ = some (.map (some bm)) := (blk_cell cap.2.2.1 1).trans rfl
  clear cap hq0
  have HB := Aside0.mk (Below.refl w.heap.size w)
  go_enter Tryd.func52, Tryd.ntmps52
  go_wp2_with (first | (go_at_call 46; refine (hier_checker_isType.calls A0_0 c0_0 l0_0 L t q _ ?side1 ?side2 ?sideM HQ.out).mono ?_; (case side1 => exact Kd.C_below CAP.out.1 (by repeat (first | (with_reducible first | exact HB.out | apply below_alloc | apply pw_below_drewN | apply below_drew1) | exact HB.out))); (case side2 => exact CAP.out.2.1); (case sideM => exact MapSI.Is.below CAP.out.2.2.2 (by repeat (first | (with_reducible first | exact HB.out | apply below_alloc | apply pw_below_drewN | apply below_drew1) | exact HB.out))); rintro e w' ⟨rfl, hb⟩; have n0_ := Aside0.mk (below_step (by repeat (first | (with_reducible first | exact HB.out | apply below_alloc | apply pw_below_drewN | apply below_drew1) | exact HB.out)) hb); clear HB hb; have HB := n0_; clear n0_) | go_in)
  go_ret
  exact ⟨by first | rfl | (simp; done) | (simp [*]; done), by repeat (first | (with_reducible first | exact HB.out | apply below_alloc | apply pw_below_drewN | apply below_drew1) | exact HB.out)⟩

set_option maxHeartbeats 8000000 in
set_option maxRecDepth 100000 in
theorem ix36_25 (b2 b3 : Nat) (A0_0 : Option Addr) (c0_0 : Nat) (l0_0 : List S32) (s : ByteArray) (A1 : Option Addr) (c1 : Nat) (l : List Int) (r : Bool) (w : World) (cap0 : Cap25 w b2 b3 A0_0 c0_0 l0_0 s) (hl : Kd.C (Kd.int .i64) w A1 l.length l) (hlen0 : l.length < 4611686018427387904) (h : anyO (p25 l0_0 s) l = some r) :
    Calls Tryd.prog 36 #[.slice A1 l.length c1, .func (.func 25) #[] #[.pointer (some ⟨b2, 0, none⟩), .pointer (some ⟨b3, 0, none⟩)]] w fun e w' => ∃ j : Int, e = .returned (.int .i64 j) ∧ decide (j ≥ 0) = r ∧ Below w.heap.size w w' := by
  have CAP := Aside0.mk cap0
  have HL := Aside0.mk hl
  have hlen := Aside0.mk hlen0
  have H := Aside0.mk h
  clear cap0 hl h
  have HB := Aside0.mk (Below.refl w.heap.size w)
  go_enter Tryd.func36, Tryd.ntmps36
  go_wp2
  go_loopg [8] (l.length + 1) (fun kq v8 w' => ∃ (n : Int), v8 = .int .i64 n ∧ Aside0 (0 ≤ n ∧ n.toNat ≤ l.length ∧ kq + n.toNat = l.length + 1) ∧ Aside0 (anyO (p25 l0_0 s) (l.drop n.toNat) = some r) ∧ Aside0 (Below w.heap.size w w'))
  case atStart => exact ⟨0, by first | rfl | (simp; done), ⟨by simp⟩, ⟨H.out⟩, ⟨(by repeat (first | (with_reducible first | exact HB.out | apply below_alloc | apply pw_below_drewN | apply below_drew1) | exact HB.out))⟩⟩
  case round =>
    clear HB
    obtain ⟨n, rfl, HK1, HA, HB⟩ := hrel
    cases gk with
    | zero =>
      obtain ⟨h0, h2, h1⟩ := HK1.out
      omega
    | succ k1 =>
      obtain ⟨p380, hle, hk⟩ := HK1.out
      by_cases q380 : n < (l.length : Int)
      · have c8b0 : decide (n < (l.length : Int)) = true := decide_eq_true q380
        have hwr : (wrap64 (n + 1)).toNat = n.toNat + 1 ∧ 0 ≤ wrap64 (n + 1) := by have := hlen.out; constructor <;> (unfold wrap64; omega)
        have HW := Aside0.mk hwr
        clear hwr
        have HQ := Aside0.mk q380
        have hA := HA.out
        have PP := Aside0.mk p380
        rw [drop_getD 0 l n.toNat (by omega)] at hA
        clear HA
        obtain ⟨b, hb0, hA⟩ := Option.bind_eq_some_iff.mp (show ((p25 l0_0 s) (rd l n)).bind (fun b => if b = true then some true else anyO (p25 l0_0 s) (l.drop (n.toNat + 1))) = some r from hA)
        have BB := Aside0.mk hb0
        clear hb0
        obtain ⟨ad188, e188, hx188_0⟩ := Kd.at_int (Kd.C_below HL.out HB.out) n p380 q380
        cases e188
        replace p380 := eq_true p380
        replace q380 := eq_true q380
        clear hk hle
        cases b with
        | true =>
          rw [if_pos rfl] at hA
          obtain rfl := Option.some.inj hA
          clear hA
          go_wp2_with (first | (go_at_call 25; refine (cl25 b2 b3 A0_0 c0_0 l0_0 s (rd l n) true _ ?hcap BB.out).mono ?_; (case hcap => exact Cap25.below CAP.out (by repeat (first | (with_reducible first | exact HB.out | apply below_alloc | apply pw_below_drewN | apply below_drew1) | exact HB.out))); rintro e w' ⟨rfl, hb⟩; have n0_ := Aside0.mk (below_step (by repeat (first | (with_reducible first | exact HB.out | apply below_alloc | apply pw_below_drewN | apply below_drew1) | exact HB.out)) hb); clear HB hb; have HB := n0_; clear n0_) | go_in)
          go_ret
          exact ⟨n, by first | rfl | (simp; done), decide_eq_true PP.out, by repeat (first | (with_reducible first | exact HB.out | apply below_alloc | apply pw_below_drewN | apply below_drew1) | exact HB.out)⟩
        | false =>
          rw [if_neg (by decide)] at hA
          have HA := Aside0.mk hA
          clear hA
          go_wp2_with (first | (go_at_call 25; refine (cl25 b2 b3 A0_0 c0_0 l0_0 s (rd l n) false _ ?hcap BB.out).mono ?_; (case hcap => exact Cap25.below CAP.out (by repeat (first | (with_reducible first | exact HB.out | apply below_alloc | apply pw_below_drewN | apply below_drew1) | exact HB.out))); rintro e w' ⟨rfl, hb⟩; have n0_ := Aside0.mk (below_step (by repeat (first | (with_reducible first | exact HB.out | apply below_alloc | apply pw_below_drewN | apply below_drew1) | exact HB.out)) hb); clear HB hb; have HB := n0_; clear n0_) | go_in)
          go_roundg k1
          case measure => omega
          case rel => exact ⟨wrap64 (n + 1), by first | rfl | (simp; done) | (simp [*]; done), ⟨⟨HW.out.2, by have h1 := HW.out.1; have := HK1.out; have := HQ.out; omega, by have h1 := HW.out.1; have := HK1.out; omega⟩⟩, ⟨by rw [HW.out.1]; exact HA.out⟩, ⟨(by repeat (first | (with_reducible first | exact HB.out | apply below_alloc | apply pw_below_drewN | apply below_drew1) | exact HB.out))⟩⟩
      · have c8b0 : decide (n < (l.length : Int)) = false := decide_eq_false q380
        have hA := HA.out
        have hnl : n.toNat = l.length := by omega
        rw [hnl, List.drop_length] at hA
        simp only [anyO] at hA
        obtain rfl := Option.some.inj hA
        clear hk hle p380 hnl q380 hA
        go_wp2
        go_ret
        exact ⟨-1, by first | rfl | (simp; done), by decide, by repeat (first | (with_reducible first | exact HB.out | apply below_alloc | apply pw_below_drewN | apply below_drew1) | exact HB.out)⟩

set_option maxHeartbeats 8000000 in
set_option maxRecDepth 100000 in
theorem any.calls (k : Nat) (b2 b3 : Nat) (A0_0 : Option Addr) (c0_0 : Nat) (l0_0 : List S32) (s : ByteArray) (A1 : Option Addr) (c1 : Nat) (l : List Int) (r : Bool) (w : World) (cap : Cap25 w b2 b3 A0_0 c0_0 l0_0 s) (hl : Kd.C (Kd.int .i64) w A1 l.length l) (h : any.f k l s l0_0 = some r) :
    Calls Tryd.prog 24 #[.slice A1 l.length c1, .func (.func 25) #[] #[.pointer (some ⟨b2, 0, none⟩), .pointer (some ⟨b3, 0, none⟩)]] w fun e w' => e = .returned (.bool r) ∧ Below w.heap.size w w' := by
  unfold any.f at h
  have hlen0 : l.length < 4611686018427387904 := by
    by_cases hq : l.length < 4611686018427387904
    · exact hq
    · rw [if_neg hq] at h; cases h
  rw [if_pos hlen0] at h
  have F := Aside0.mk (ix36_25 b2 b3 A0_0 c0_0 l0_0 s A1 c1 l r w cap hl hlen0 h)
  clear cap hl h
  go_enter Tryd.func24, Tryd.ntmps24
  go_wp2_with (first | (go_at_call 36; refine F.out.mono ?_; rintro e w' ⟨j, rfl, hj, hb⟩; have HB := Aside0.mk hb; clear hb) | go_in)
  go_ret
  exact ⟨by first | rfl | (simp; done) | (simp [*]; done), by repeat (first | (with_reducible first | exact HB.out | apply below_alloc | apply pw_below_drewN | apply below_drew1) | exact HB.out)⟩

theorem cl45' (b : Nat) (nm ty : ByteArray) (x : S67) (r : Bool) (w : World) (cap : Cap45 w b nm ty) (hp : p45 nm x = some r) :
    Calls Tryd.prog 45 #[.agg #[.string x.f0, .string x.f1], .pointer (some ⟨b, 0, none⟩)] w fun e w' => e = .returned (.bool r) ∧ Below w.heap.size w w' := by
  obtain rfl := Option.some.inj hp
  exact cl45 b nm ty x.f0 x.f1 w cap
theorem cl50' (b : Nat) (s0 : ByteArray) (s1 : Bool) (A : Option Addr) (n c : Nat) (s3 : ByteArray) (x : S37) (B : Option Addr) (m d : Nat) (r : Bool) (w : World) (cap : Cap50 w b s0 s1 A n c s3) (hp : p50 s0 x = some r) :
    Calls Tryd.prog 50 #[.agg #[.string x.f0, .bool x.f1, .slice B m d, .string x.f3], .pointer (some ⟨b, 0, none⟩)] w fun e w' => e = .returned (.bool r) ∧ Below w.heap.size w w' := by
  obtain rfl := Option.some.inj hp
  exact cl50 b s0 s1 A n c s3 x.f0 x.f1 B m d x.f3 w cap
set_option maxHeartbeats 8000000 in
set_option maxRecDepth 100000 in
theorem ix67_45 (b : Nat) (nm ty : ByteArray) (A1 : Option Addr) (c1 : Nat) (l : List S67) (r : Bool) (w : World) (cap0 : Cap45 w b nm ty) (hl : Kd.C k67 w A1 l.length l) (hlen0 : l.length < 4611686018427387904) (h : anyO (p45 nm) l = some r) :
    Calls Tryd.prog 67 #[.slice A1 l.length c1, .func (.func 45) #[] #[.pointer (some ⟨b, 0, none⟩)]] w fun e w' => ∃ j : Int, e = .returned (.int .i64 j) ∧ decide (j ≥ 0) = r ∧ Below w.heap.size w w' := by
  have CAP := Aside0.mk cap0
  have HL := Aside0.mk hl
  have hlen := Aside0.mk hlen0
  have H := Aside0.mk h
  clear cap0 hl h
  have HB := Aside0.mk (Below.refl w.heap.size w)
  go_enter Tryd.func67, Tryd.ntmps67
  go_wp2
  go_loopg [8] (l.length + 1) (fun kq v8 w' => ∃ (n : Int), v8 = .int .i64 n ∧ Aside0 (0 ≤ n ∧ n.toNat ≤ l.length ∧ kq + n.toNat = l.length + 1) ∧ Aside0 (anyO (p45 nm) (l.drop n.toNat) = some r) ∧ Aside0 (Below w.heap.size w w'))
  case atStart => exact ⟨0, by first | rfl | (simp; done), ⟨by simp⟩, ⟨H.out⟩, ⟨(by repeat (first | (with_reducible first | exact HB.out | apply below_alloc | apply pw_below_drewN | apply below_drew1) | exact HB.out))⟩⟩
  case round =>
    clear HB
    obtain ⟨n, rfl, HK1, HA, HB⟩ := hrel
    cases gk with
    | zero =>
      obtain ⟨h0, h2, h1⟩ := HK1.out
      omega
    | succ k1 =>
      obtain ⟨p380, hle, hk⟩ := HK1.out
      by_cases q380 : n < (l.length : Int)
      · have c8b0 : decide (n < (l.length : Int)) = true := decide_eq_true q380
        have hwr : (wrap64 (n + 1)).toNat = n.toNat + 1 ∧ 0 ≤ wrap64 (n + 1) := by have := hlen.out; constructor <;> (unfold wrap64; omega)
        have HW := Aside0.mk hwr
        clear hwr
        have HQ := Aside0.mk q380
        have hA := HA.out
        have PP := Aside0.mk p380
        rw [drop_getD z67 l n.toNat (by omega)] at hA
        clear HA
        obtain ⟨b9, hb0, hA⟩ := Option.bind_eq_some_iff.mp (show ((p45 nm) (rd_T67 l n)).bind (fun b => if b = true then some true else anyO (p45 nm) (l.drop (n.toNat + 1))) = some r from hA)
        have BB := Aside0.mk hb0
        clear hb0
        obtain ⟨ad188, e188, hx188_0, hx188_1⟩ := at_T67 (Kd.C_below HL.out HB.out) n p380 q380
        cases e188
        replace p380 := eq_true p380
        replace q380 := eq_true q380
        clear hk hle
        cases b9 with
        | true =>
          rw [if_pos rfl] at hA
          obtain rfl := Option.some.inj hA
          clear hA
          go_wp2_with (first | (go_at_call 45; refine (cl45' b nm ty (rd_T67 l n) true _ ?hcap BB.out).mono ?_; (case hcap => exact Cap45.below CAP.out (by repeat (first | (with_reducible first | exact HB.out | apply below_alloc | apply pw_below_drewN | apply below_drew1) | exact HB.out))); rintro e w' ⟨rfl, hb⟩; have n0_ := Aside0.mk (below_step (by repeat (first | (with_reducible first | exact HB.out | apply below_alloc | apply pw_below_drewN | apply below_drew1) | exact HB.out)) hb); clear HB hb; have HB := n0_; clear n0_) | go_in)
          go_ret
          exact ⟨n, by first | rfl | (simp; done), decide_eq_true PP.out, by repeat (first | (with_reducible first | exact HB.out | apply below_alloc | apply pw_below_drewN | apply below_drew1) | exact HB.out)⟩
        | false =>
          rw [if_neg (by decide)] at hA
          have HA := Aside0.mk hA
          clear hA
          go_wp2_with (first | (go_at_call 45; refine (cl45' b nm ty (rd_T67 l n) false _ ?hcap BB.out).mono ?_; (case hcap => exact Cap45.below CAP.out (by repeat (first | (with_reducible first | exact HB.out | apply below_alloc | apply pw_below_drewN | apply below_drew1) | exact HB.out))); rintro e w' ⟨rfl, hb⟩; have n0_ := Aside0.mk (below_step (by repeat (first | (with_reducible first | exact HB.out | apply below_alloc | apply pw_below_drewN | apply below_drew1) | exact HB.out)) hb); clear HB hb; have HB := n0_; clear n0_) | go_in)
          go_roundg k1
          case measure => omega
          case rel => exact ⟨wrap64 (n + 1), by first | rfl | (simp; done) | (simp [*]; done), ⟨⟨HW.out.2, by have h1 := HW.out.1; have := HK1.out; have := HQ.out; omega, by have h1 := HW.out.1; have := HK1.out; omega⟩⟩, ⟨by rw [HW.out.1]; exact HA.out⟩, ⟨(by repeat (first | (with_reducible first | exact HB.out | apply below_alloc | apply pw_below_drewN | apply below_drew1) | exact HB.out))⟩⟩
      · have c8b0 : decide (n < (l.length : Int)) = false := decide_eq_false q380
        have hA := HA.out
        have hnl : n.toNat = l.length := by omega
        rw [hnl, List.drop_length] at hA
        simp only [anyO] at hA
        obtain rfl := Option.some.inj hA
        clear hk hle p380 hnl q380 hA
        go_wp2
        go_ret
        exact ⟨-1, by first | rfl | (simp; done), by decide, by repeat (first | (with_reducible first | exact HB.out | apply below_alloc | apply pw_below_drewN | apply below_drew1) | exact HB.out)⟩

set_option maxHeartbeats 8000000 in
set_option maxRecDepth 100000 in
theorem anyF.calls (k : Nat) (b : Nat) (nm ty : ByteArray) (A1 : Option Addr) (c1 : Nat) (l : List S67) (r : Bool) (w : World) (cap : Cap45 w b nm ty) (hl : Kd.C k67 w A1 l.length l) (h : anyF.f k l nm = some r) :
    Calls Tryd.prog 47 #[.slice A1 l.length c1, .func (.func 45) #[] #[.pointer (some ⟨b, 0, none⟩)]] w fun e w' => e = .returned (.bool r) ∧ Below w.heap.size w w' := by
  unfold anyF.f at h
  have hlen0 : l.length < 4611686018427387904 := by
    by_cases hq : l.length < 4611686018427387904
    · exact hq
    · rw [if_neg hq] at h; cases h
  rw [if_pos hlen0] at h
  have F := Aside0.mk (ix67_45 b nm ty A1 c1 l r w cap hl hlen0 h)
  clear cap hl h
  go_enter Tryd.func47, Tryd.ntmps47
  go_wp2_with (first | (go_at_call 67; refine F.out.mono ?_; rintro e w' ⟨j, rfl, hj, hb⟩; have HB := Aside0.mk hb; clear hb) | go_in)
  go_ret
  exact ⟨by first | rfl | (simp; done) | (simp [*]; done), by repeat (first | (with_reducible first | exact HB.out | apply below_alloc | apply pw_below_drewN | apply below_drew1) | exact HB.out)⟩

set_option maxHeartbeats 8000000 in
set_option maxRecDepth 100000 in
theorem ix68_50 (b : Nat) (s0 : ByteArray) (s1 : Bool) (A : Option Addr) (n0 c : Nat) (s3 : ByteArray) (A1 : Option Addr) (c1 : Nat) (l : List S37) (r : Bool) (w : World) (cap0 : Cap50 w b s0 s1 A n0 c s3) (hl : Kd.C k37 w A1 l.length l) (hlen0 : l.length < 4611686018427387904) (h : anyO (p50 s0) l = some r) :
    Calls Tryd.prog 68 #[.slice A1 l.length c1, .func (.func 50) #[] #[.pointer (some ⟨b, 0, none⟩)]] w fun e w' => ∃ j : Int, e = .returned (.int .i64 j) ∧ decide (j ≥ 0) = r ∧ Below w.heap.size w w' := by
  have CAP := Aside0.mk cap0
  have HL := Aside0.mk hl
  have hlen := Aside0.mk hlen0
  have H := Aside0.mk h
  clear cap0 hl h
  have HB := Aside0.mk (Below.refl w.heap.size w)
  go_enter Tryd.func68, Tryd.ntmps68
  go_wp2
  go_loopg [8] (l.length + 1) (fun kq v8 w' => ∃ (n : Int), v8 = .int .i64 n ∧ Aside0 (0 ≤ n ∧ n.toNat ≤ l.length ∧ kq + n.toNat = l.length + 1) ∧ Aside0 (anyO (p50 s0) (l.drop n.toNat) = some r) ∧ Aside0 (Below w.heap.size w w'))
  case atStart => exact ⟨0, by first | rfl | (simp; done), ⟨by simp⟩, ⟨H.out⟩, ⟨(by repeat (first | (with_reducible first | exact HB.out | apply below_alloc | apply pw_below_drewN | apply below_drew1) | exact HB.out))⟩⟩
  case round =>
    clear HB
    obtain ⟨n, rfl, HK1, HA, HB⟩ := hrel
    cases gk with
    | zero =>
      obtain ⟨h0, h2, h1⟩ := HK1.out
      omega
    | succ k1 =>
      obtain ⟨p380, hle, hk⟩ := HK1.out
      by_cases q380 : n < (l.length : Int)
      · have c8b0 : decide (n < (l.length : Int)) = true := decide_eq_true q380
        have hwr : (wrap64 (n + 1)).toNat = n.toNat + 1 ∧ 0 ≤ wrap64 (n + 1) := by have := hlen.out; constructor <;> (unfold wrap64; omega)
        have HW := Aside0.mk hwr
        clear hwr
        have HQ := Aside0.mk q380
        have hA := HA.out
        have PP := Aside0.mk p380
        rw [drop_getD z37 l n.toNat (by omega)] at hA
        clear HA
        obtain ⟨b9, hb0, hA⟩ := Option.bind_eq_some_iff.mp (show ((p50 s0) (rd_T37 l n)).bind (fun b => if b = true then some true else anyO (p50 s0) (l.drop (n.toNat + 1))) = some r from hA)
        have BB := Aside0.mk hb0
        clear hb0
        obtain ⟨ad188, A188_2, c188_2, e188, hx188_0, hx188_1, hx188_2, hx188_3, hl188, hi188⟩ := at_T37 (Kd.C_below HL.out HB.out) n p380 q380
        cases e188
        replace p380 := eq_true p380
        replace q380 := eq_true q380
        clear hk hle hl188 hi188
        cases b9 with
        | true =>
          rw [if_pos rfl] at hA
          obtain rfl := Option.some.inj hA
          clear hA
          go_wp2_with (first | (go_at_call 50; refine (cl50' b s0 s1 A n0 c s3 (rd_T37 l n) _ _ _ true _ ?hcap BB.out).mono ?_; (case hcap => exact Cap50.below CAP.out (by repeat (first | (with_reducible first | exact HB.out | apply below_alloc | apply pw_below_drewN | apply below_drew1) | exact HB.out))); rintro e w' ⟨rfl, hb⟩; have n0_ := Aside0.mk (below_step (by repeat (first | (with_reducible first | exact HB.out | apply below_alloc | apply pw_below_drewN | apply below_drew1) | exact HB.out)) hb); clear HB hb; have HB := n0_; clear n0_) | go_in)
          go_ret
          exact ⟨n, by first | rfl | (simp; done), decide_eq_true PP.out, by repeat (first | (with_reducible first | exact HB.out | apply below_alloc | apply pw_below_drewN | apply below_drew1) | exact HB.out)⟩
        | false =>
          rw [if_neg (by decide)] at hA
          have HA := Aside0.mk hA
          clear hA
          go_wp2_with (first | (go_at_call 50; refine (cl50' b s0 s1 A n0 c s3 (rd_T37 l n) _ _ _ false _ ?hcap BB.out).mono ?_; (case hcap => exact Cap50.below CAP.out (by repeat (first | (with_reducible first | exact HB.out | apply below_alloc | apply pw_below_drewN | apply below_drew1) | exact HB.out))); rintro e w' ⟨rfl, hb⟩; have n0_ := Aside0.mk (below_step (by repeat (first | (with_reducible first | exact HB.out | apply below_alloc | apply pw_below_drewN | apply below_drew1) | exact HB.out)) hb); clear HB hb; have HB := n0_; clear n0_) | go_in)
          go_roundg k1
          case measure => omega
          case rel => exact ⟨wrap64 (n + 1), by first | rfl | (simp; done) | (simp [*]; done), ⟨⟨HW.out.2, by have h1 := HW.out.1; have := HK1.out; have := HQ.out; omega, by have h1 := HW.out.1; have := HK1.out; omega⟩⟩, ⟨by rw [HW.out.1]; exact HA.out⟩, ⟨(by repeat (first | (with_reducible first | exact HB.out | apply below_alloc | apply pw_below_drewN | apply below_drew1) | exact HB.out))⟩⟩
      · have c8b0 : decide (n < (l.length : Int)) = false := decide_eq_false q380
        have hA := HA.out
        have hnl : n.toNat = l.length := by omega
        rw [hnl, List.drop_length] at hA
        simp only [anyO] at hA
        obtain rfl := Option.some.inj hA
        clear hk hle p380 hnl q380 hA
        go_wp2
        go_ret
        exact ⟨-1, by first | rfl | (simp; done), by decide, by repeat (first | (with_reducible first | exact HB.out | apply below_alloc | apply pw_below_drewN | apply below_drew1) | exact HB.out)⟩

set_option maxHeartbeats 8000000 in
set_option maxRecDepth 100000 in
theorem anyS.calls (k : Nat) (b : Nat) (s0 : ByteArray) (s1 : Bool) (A : Option Addr) (n0 c : Nat) (s3 : ByteArray) (A1 : Option Addr) (c1 : Nat) (l : List S37) (r : Bool) (w : World) (cap : Cap50 w b s0 s1 A n0 c s3) (hl : Kd.C k37 w A1 l.length l) (h : anyS.f k l s0 = some r) :
    Calls Tryd.prog 49 #[.slice A1 l.length c1, .func (.func 50) #[] #[.pointer (some ⟨b, 0, none⟩)]] w fun e w' => e = .returned (.bool r) ∧ Below w.heap.size w w' := by
  unfold anyS.f at h
  have hlen0 : l.length < 4611686018427387904 := by
    by_cases hq : l.length < 4611686018427387904
    · exact hq
    · rw [if_neg hq] at h; cases h
  rw [if_pos hlen0] at h
  have F := Aside0.mk (ix68_50 b s0 s1 A n0 c s3 A1 c1 l r w cap hl hlen0 h)
  clear cap hl h
  go_enter Tryd.func49, Tryd.ntmps49
  go_wp2_with (first | (go_at_call 68; refine F.out.mono ?_; rintro e w' ⟨j, rfl, hj, hb⟩; have HB := Aside0.mk hb; clear hb) | go_in)
  go_ret
  exact ⟨by first | rfl | (simp; done) | (simp [*]; done), by repeat (first | (with_reducible first | exact HB.out | apply below_alloc | apply pw_below_drewN | apply below_drew1) | exact HB.out)⟩

set_option maxHeartbeats 8000000 in
set_option maxRecDepth 100000 in
theorem ix69_52 (b : Nat) (A0_0 : Option Addr) (c0_0 : Nat) (l0_0 : List S32) (bm : Nat) (L : MapSI.Ents) (A1 : Option Addr) (c1 : Nat) (l : List ByteArray) (r : Bool) (w : World) (cap0 : Cap52 w b A0_0 c0_0 l0_0 bm L) (hl : Kd.C Kd.string w A1 l.length l) (hlen0 : l.length < 4611686018427387904) (h : anyO (p52 l0_0 L) l = some r) :
    Calls Tryd.prog 69 #[.slice A1 l.length c1, .func (.func 52) #[] #[.pointer (some ⟨b, 0, none⟩)]] w fun e w' => ∃ j : Int, e = .returned (.int .i64 j) ∧ decide (j ≥ 0) = r ∧ Below w.heap.size w w' := by
  have CAP := Aside0.mk cap0
  have HL := Aside0.mk hl
  have hlen := Aside0.mk hlen0
  have H := Aside0.mk h
  clear cap0 hl h
  have HB := Aside0.mk (Below.refl w.heap.size w)
  go_enter Tryd.func69, Tryd.ntmps69
  go_wp2
  go_loopg [8] (l.length + 1) (fun kq v8 w' => ∃ (n : Int), v8 = .int .i64 n ∧ Aside0 (0 ≤ n ∧ n.toNat ≤ l.length ∧ kq + n.toNat = l.length + 1) ∧ Aside0 (anyO (p52 l0_0 L) (l.drop n.toNat) = some r) ∧ Aside0 (Below w.heap.size w w'))
  case atStart => exact ⟨0, by first | rfl | (simp; done), ⟨by simp⟩, ⟨H.out⟩, ⟨(by repeat (first | (with_reducible first | exact HB.out | apply below_alloc | apply pw_below_drewN | apply below_drew1) | exact HB.out))⟩⟩
  case round =>
    clear HB
    obtain ⟨n, rfl, HK1, HA, HB⟩ := hrel
    cases gk with
    | zero =>
      obtain ⟨h0, h2, h1⟩ := HK1.out
      omega
    | succ k1 =>
      obtain ⟨p380, hle, hk⟩ := HK1.out
      by_cases q380 : n < (l.length : Int)
      · have c8b0 : decide (n < (l.length : Int)) = true := decide_eq_true q380
        have hwr : (wrap64 (n + 1)).toNat = n.toNat + 1 ∧ 0 ≤ wrap64 (n + 1) := by have := hlen.out; constructor <;> (unfold wrap64; omega)
        have HW := Aside0.mk hwr
        clear hwr
        have HQ := Aside0.mk q380
        have hA := HA.out
        have PP := Aside0.mk p380
        rw [drop_getD ByteArray.empty l n.toNat (by omega)] at hA
        clear HA
        obtain ⟨b9, hb0, hA⟩ := Option.bind_eq_some_iff.mp (show ((p52 l0_0 L) (rdOf ByteArray.empty l n)).bind (fun b => if b = true then some true else anyO (p52 l0_0 L) (l.drop (n.toNat + 1))) = some r from hA)
        have BB := Aside0.mk hb0
        clear hb0
        obtain ⟨ad188, e188, hx188_0⟩ := Kd.at_string (Kd.C_below HL.out HB.out) n p380 q380
        cases e188
        replace p380 := eq_true p380
        replace q380 := eq_true q380
        clear hk hle
        cases b9 with
        | true =>
          rw [if_pos rfl] at hA
          obtain rfl := Option.some.inj hA
          clear hA
          go_wp2_with (first | (go_at_call 52; refine (cl52 b A0_0 c0_0 l0_0 bm L (rdOf ByteArray.empty l n) true _ ?hcap BB.out).mono ?_; (case hcap => exact Cap52.below CAP.out (by repeat (first | (with_reducible first | exact HB.out | apply below_alloc | apply pw_below_drewN | apply below_drew1) | exact HB.out))); rintro e w' ⟨rfl, hb⟩; have n0_ := Aside0.mk (below_step (by repeat (first | (with_reducible first | exact HB.out | apply below_alloc | apply pw_below_drewN | apply below_drew1) | exact HB.out)) hb); clear HB hb; have HB := n0_; clear n0_) | go_in)
          go_ret
          exact ⟨n, by first | rfl | (simp; done), decide_eq_true PP.out, by repeat (first | (with_reducible first | exact HB.out | apply below_alloc | apply pw_below_drewN | apply below_drew1) | exact HB.out)⟩
        | false =>
          rw [if_neg (by decide)] at hA
          have HA := Aside0.mk hA
          clear hA
          go_wp2_with (first | (go_at_call 52; refine (cl52 b A0_0 c0_0 l0_0 bm L (rdOf ByteArray.empty l n) false _ ?hcap BB.out).mono ?_; (case hcap => exact Cap52.below CAP.out (by repeat (first | (with_reducible first | exact HB.out | apply below_alloc | apply pw_below_drewN | apply below_drew1) | exact HB.out))); rintro e w' ⟨rfl, hb⟩; have n0_ := Aside0.mk (below_step (by repeat (first | (with_reducible first | exact HB.out | apply below_alloc | apply pw_below_drewN | apply below_drew1) | exact HB.out)) hb); clear HB hb; have HB := n0_; clear n0_) | go_in)
          go_roundg k1
          case measure => omega
          case rel => exact ⟨wrap64 (n + 1), by first | rfl | (simp; done) | (simp [*]; done), ⟨⟨HW.out.2, by have h1 := HW.out.1; have := HK1.out; have := HQ.out; omega, by have h1 := HW.out.1; have := HK1.out; omega⟩⟩, ⟨by rw [HW.out.1]; exact HA.out⟩, ⟨(by repeat (first | (with_reducible first | exact HB.out | apply below_alloc | apply pw_below_drewN | apply below_drew1) | exact HB.out))⟩⟩
      · have c8b0 : decide (n < (l.length : Int)) = false := decide_eq_false q380
        have hA := HA.out
        have hnl : n.toNat = l.length := by omega
        rw [hnl, List.drop_length] at hA
        simp only [anyO] at hA
        obtain rfl := Option.some.inj hA
        clear hk hle p380 hnl q380 hA
        go_wp2
        go_ret
        exact ⟨-1, by first | rfl | (simp; done), by decide, by repeat (first | (with_reducible first | exact HB.out | apply below_alloc | apply pw_below_drewN | apply below_drew1) | exact HB.out)⟩

set_option maxHeartbeats 8000000 in
set_option maxRecDepth 100000 in
theorem anyT.calls (k : Nat) (b : Nat) (A0_0 : Option Addr) (c0_0 : Nat) (l0_0 : List S32) (bm : Nat) (L : MapSI.Ents) (A1 : Option Addr) (c1 : Nat) (l : List ByteArray) (r : Bool) (w : World) (cap : Cap52 w b A0_0 c0_0 l0_0 bm L) (hl : Kd.C Kd.string w A1 l.length l) (h : anyT.f k l l0_0 L = some r) :
    Calls Tryd.prog 51 #[.slice A1 l.length c1, .func (.func 52) #[] #[.pointer (some ⟨b, 0, none⟩)]] w fun e w' => e = .returned (.bool r) ∧ Below w.heap.size w w' := by
  unfold anyT.f at h
  have hlen0 : l.length < 4611686018427387904 := by
    by_cases hq : l.length < 4611686018427387904
    · exact hq
    · rw [if_neg hq] at h; cases h
  rw [if_pos hlen0] at h
  have F := Aside0.mk (ix69_52 b A0_0 c0_0 l0_0 bm L A1 c1 l r w cap hl hlen0 h)
  clear cap hl h
  go_enter Tryd.func51, Tryd.ntmps51
  go_wp2_with (first | (go_at_call 69; refine F.out.mono ?_; rintro e w' ⟨j, rfl, hj, hb⟩; have HB := Aside0.mk hb; clear hb) | go_in)
  go_ret
  exact ⟨by first | rfl | (simp; done) | (simp [*]; done), by repeat (first | (with_reducible first | exact HB.out | apply below_alloc | apply pw_below_drewN | apply below_drew1) | exact HB.out)⟩

def cl48.T1 : Bool × List (List Nat × List Nat) := (true, [([], []), ([0], [0]), ([1], [1]), ([], []), ([2, 3], [2, 3]), ([4], [4]), ([5], [5]), ([], []), ([6, 7], [6, 7]), ([8, 8, 0, 1, 2, 3, 4, 5, 6, 7, 8], [8])])
def cl48.B1 : List Nat := [0, 1, 3, 0, 15, 31, 63, 0, 255, 511]
theorem cl48.tab1 : rtab .any (opsOf Tryd.f48 1) = cl48.T1 := by kernel_rfl
theorem cl48.bits1 : waitsOk cl48.T1.2 cl48.B1 = true := by kernel_rfl
set_option maxHeartbeats 8000000 in
set_option maxRecDepth 100000 in
theorem cl48 (gb101 gb102 b3 : Nat) (A1_0 : Option Addr) (c1_0 : Nat) (l1_0 : List S32) (bm : Nat) (a2 ty : ByteArray) (a0 : Int) (r : Bool) (w : World) (cap : Cap48 w gb101 gb102 b3 A1_0 c1_0 l1_0 bm a2 ty) (hp : p48 l1_0 a2 a0 = some r) :
    Calls Tryd.prog 48 #[.int .i64 a0, .pointer (some ⟨gb101, 0, none⟩), .pointer (some ⟨gb102, 0, none⟩)] w fun e w' => e = .returned (.bool r) ∧ Below w.heap.size w w' := by
  have hu52 := Tryd.underlying52
  have hu79 := Tryd.underlying79
  have HR1_0 := Aside0.mk cap.1
  have HC1_0 := Aside0.mk cap.2.1
  have BK101 := Aside0.mk cap.2.2.1
  have BK102 := Aside0.mk cap.2.2.2.1
  have CB := Aside0.mk cap.2.2.2.2
  clear cap
  have HB := Aside0.mk (Below.refl w.heap.size w)
  have h : (if 0 ≤ a0 then (if a0 < (l1_0.length : Int) then ((anyF.f 0 ((rd_T32 l1_0 a0).f2) a2).bind fun t104 => (some t104)) else (none)) else (none)) = some r := by
    simpa [p48] using hp
  clear hp
  have H : (if 0 ≤ a0 then (if a0 < (l1_0.length : Int) then ((anyF.f 0 ((rd_T32 l1_0 a0).f2) a2).bind fun t104 => (some t104)) else (none)) else (none)) = some r := h
  clear h
  by_cases c4 : 0 ≤ a0
  · rw [if_pos c4] at H
    have c4b0 : decide (0 ≤ a0) = true := decide_eq_true c4
    clear c4
    by_cases c5 : a0 < (l1_0.length : Int)
    · rw [if_pos c5] at H
      have c5b0 : decide (a0 < (l1_0.length : Int)) = true := decide_eq_true c5
      clear c5
      replace H := Option.bind_eq_some_iff.mp H
      obtain ⟨t104, A60, H⟩ := H
      replace H : (some t104) = some r := H
      have A6 := Aside0.mk A60
      clear A60
      obtain rfl := Option.some.inj H
      go_enter Tryd.func48, Tryd.ntmps48
      try go_wp2
      have n0_ := Aside0.mk (blk_drew BK101.out)
      have n1_ := Aside0.mk (blk_drew BK102.out)
      have n2_ := Aside0.mk (below_drew1 HB.out)
      clear BK101
      clear BK102
      clear HB
      have BK101 := n0_
      have BK102 := n1_
      have HB := n2_
      clear n0_ n1_ n2_
      have p103 : 0 ≤ (a0 : Int) := of_decide_eq_true (by first | (with_reducible assumption) | assumption)
      have q103 : a0 < (l1_0.length : Int) := of_decide_eq_true (by first | (with_reducible assumption) | assumption)
      obtain ⟨ad103, A103_2, c103_2, A103_3, c103_3, e103, hx103_0, hx103_1, hx103_2, hx103_3, hl103_2, hi103_2, hl103_3, hi103_3⟩ := at_T32 HR1_0.out a0 p103 q103
      have hw103_3 := hx103_3
      have hw103_2 := hx103_2
      have hw103_1 := hx103_1
      have hw103_0 := hx103_0
      cases e103
      replace hx103_0 := (HB.out.cell (World.block_lt_of_cell? w _ hx103_0)).trans hx103_0
      replace hx103_1 := (HB.out.cell (World.block_lt_of_cell? w _ hx103_1)).trans hx103_1
      replace hx103_2 := (HB.out.cell (World.block_lt_of_cell? w _ hx103_2)).trans hx103_2
      replace hx103_3 := (HB.out.cell (World.block_lt_of_cell? w _ hx103_3)).trans hx103_3
      have HR103_2 := Aside0.mk hi103_2
      have HC103_2 := Aside0.mk hl103_2
      clear hi103_2 hl103_2
      have HR103_3 := Aside0.mk hi103_3
      have HC103_3 := Aside0.mk hl103_3
      clear hi103_3 hl103_3
      replace p103 := eq_true p103
      replace q103 := eq_true q103
      refine start_ (n := 10) (S := fun w' => w'.cell? ⟨gb101, 0, none⟩ = some (.slice (some ad103) l1_0.length c1_0) ∧ w'.cell? ⟨gb101, 1, none⟩ = some (.map (some bm)) ∧ w'.cell? ⟨gb102, 0, none⟩ = some (.func (.func 45) #[] #[.pointer (some ⟨b3, 0, none⟩)]) ∧ w'.cell? (ad103.add ((a0).toNat * 4)) = some (.string ((rd_T32 l1_0 a0).f0)) ∧ w'.cell? ⟨(ad103.add ((a0).toNat * 4)).block, (ad103.add ((a0).toNat * 4)).off + 1, none⟩ = some (.string ((rd_T32 l1_0 a0).f1)) ∧ w'.cell? ⟨(ad103.add ((a0).toNat * 4)).block, (ad103.add ((a0).toNat * 4)).off + 2, none⟩ = some (.slice A103_2 ((rd_T32 l1_0 a0).f2).length c103_2) ∧ w'.cell? ⟨(ad103.add ((a0).toNat * 4)).block, (ad103.add ((a0).toNat * 4)).off + 3, none⟩ = some (.slice A103_3 ((rd_T32 l1_0 a0).f3).length c103_3)) (ds := []) #[false, false, false, false, false, false, false, false, false, false] (by kernel_rfl) rfl rfl ⟨(blk_cell BK101.out 0).trans rfl, (blk_cell BK101.out 1).trans rfl, (blk_cell BK102.out 0).trans rfl, ((HB.out.cell (World.block_lt_of_cell? w _ hw103_0)).trans hw103_0), ((HB.out.cell (World.block_lt_of_cell? w _ hw103_1)).trans hw103_1), ((HB.out.cell (World.block_lt_of_cell? w _ hw103_2)).trans hw103_2), ((HB.out.cell (World.block_lt_of_cell? w _ hw103_3)).trans hw103_3)⟩ (fun hHeld => ?_); refine with_tabW cl48.tab1 cl48.bits1 (fun HT_ HW_ => ?_)
      generalize w.drew = w9 at BK101 BK102 HB HR103_2 HR103_3 hx103_0 hx103_1 hx103_2 hx103_3 hHeld ⊢
      refine pure_ (i := 0) (N := some 5) (v := ?_) (a' := ?_) #[true, false, false, false, false, false, false, false, false, false] rfl rfl (any_of HT_.out (by kernel_rfl)) (fun _ _ _ h => h) (Or.inl ⟨by rfl, ?_⟩) ?_ ?_
      rotate_left
      · intro w'
        go_simp
        with_reducible rfl
      rotate_left
      · simp only [Act.put, List.setIfInBounds_toArray, List.set_cons_zero, List.set_cons_succ, i64_w, i32_w]
        rfl
      refine pure_ (i := 1) (N := some 6) (v := ?_) (a' := ?_) #[true, true, false, false, false, false, false, false, false, false] rfl rfl (any_of HT_.out (by kernel_rfl)) (fun _ _ _ h => h) (Or.inl ⟨by rfl, ?_⟩) ?_ ?_
      rotate_left
      · intro w'
        go_simp
        with_reducible rfl
      rotate_left
      · simp only [Act.put, List.setIfInBounds_toArray, List.set_cons_zero, List.set_cons_succ, i64_w, i32_w]
        rfl
      refine pure_ (i := 3) (N := some 8) (v := ?_) (a' := ?_) #[true, true, false, true, false, false, false, false, false, false] rfl rfl (any_of HT_.out (by kernel_rfl)) (fun _ _ _ h => h) (Or.inl ⟨by rfl, ?_⟩) ?_ ?_
      rotate_left
      · intro w'
        go_simp
        with_reducible rfl
      rotate_left
      · simp only [Act.put, List.setIfInBounds_toArray, List.set_cons_zero, List.set_cons_succ, i64_w, i32_w]
        rfl
      refine take_ (i := 2) (N := some 7) (v := ?_) (a' := ?_) #[true, true, true, true, false, false, false, false, false, false] rfl rfl (take_ofW HT_.out HW_.out (by kernel_rfl)) (fun _ _ _ h => h) (Or.inl ⟨by rfl, ?_⟩) hHeld ?_ ?_
      rotate_left
      · rintro w' ⟨s0, s1, s2, s3, s4, s5, s6⟩
        go_simp
        with_reducible rfl
      rotate_left
      · simp only [Act.put, List.setIfInBounds_toArray, List.set_cons_zero, List.set_cons_succ, i64_w, i32_w]
        rfl
      refine pure_ (i := 4) (N := some 9) (v := ?_) (a' := ?_) #[true, true, true, true, true, false, false, false, false, false] rfl rfl (any_of HT_.out (by kernel_rfl)) (fun _ _ _ h => h) (Or.inl ⟨by rfl, ?_⟩) ?_ ?_
      rotate_left
      · intro w'
        go_simp
        with_reducible rfl
      rotate_left
      · simp only [Act.put, List.setIfInBounds_toArray, List.set_cons_zero, List.set_cons_succ, i64_w, i32_w]
        rfl
      refine pure_ (i := 5) (N := some 10) (v := ?_) (a' := ?_) #[true, true, true, true, true, true, false, false, false, false] rfl rfl (any_of HT_.out (by kernel_rfl)) (fun _ _ _ h => h) (Or.inl ⟨by rfl, ?_⟩) ?_ ?_
      rotate_left
      · intro w'
        go_simp
        with_reducible rfl
      rotate_left
      · simp only [Act.put, List.setIfInBounds_toArray, List.set_cons_zero, List.set_cons_succ, i64_w, i32_w]
        rfl
      refine take_ (i := 6) (N := some 11) (v := ?_) (a' := ?_) #[true, true, true, true, true, true, true, false, false, false] rfl rfl (take_ofW HT_.out HW_.out (by kernel_rfl)) (fun _ _ _ h => h) (Or.inl ⟨by rfl, ?_⟩) hHeld ?_ ?_
      rotate_left
      · rintro w' ⟨s0, s1, s2, s3, s4, s5, s6⟩
        go_simp
        with_reducible rfl
      rotate_left
      · simp only [Act.put, List.setIfInBounds_toArray, List.set_cons_zero, List.set_cons_succ, i64_w, i32_w]
        rfl
      refine take_ (i := 7) (N := some 12) (v := ?_) (a' := ?_) #[true, true, true, true, true, true, true, true, false, false] rfl rfl (take_ofW HT_.out HW_.out (by kernel_rfl)) (fun _ _ _ h => h) (Or.inl ⟨by rfl, ?_⟩) hHeld ?_ ?_
      rotate_left
      · rintro w' ⟨s0, s1, s2, s3, s4, s5, s6⟩
        go_simp
        with_reducible rfl
      rotate_left
      · simp only [Act.put, List.setIfInBounds_toArray, List.set_cons_zero, List.set_cons_succ, i64_w, i32_w]
        rfl
      refine one_ (i := 8) (N := some 13) #[true, true, true, true, true, true, true, true, true, false] rfl rfl (one_of HT_.out (by kernel_rfl)) (by decide) (fun K hK => ?_)
      refine goes_ Tryd.func47 (by kernel_rfl) rfl #[.slice A103_2 ((rd_T32 l1_0 a0).f2).length c103_2, .func (.func 45) #[] #[.pointer (some ⟨b3, 0, none⟩)]] (by rfl) rfl rfl (by (try simp only [List.map_toArray, List.map_cons, List.map_nil]); first | done | rfl | (simp only [List.length_drop, List.length_take]; rfl)) ?_
      with_reducible refine (anyF.calls 0 b3 a2 ty _ _ ((rd_T32 l1_0 a0).f2) t104 _ ?sideC ?side1 A6.out).mono ?_
      (case side1 => repeat (first | exact (Kd.C_below HR103_2.out HB.out) | (with_reducible refine Kd.C_alloc ?_ _) | (with_reducible refine Kd.C_drewN ?_ _) | (with_reducible refine Kd.C_drew ?_)))
      (case sideC => exact Cap45.below CB.out (by repeat (first | (with_reducible first | exact HB.out | apply below_alloc | apply pw_below_drewN | apply below_drew1) | exact HB.out)))
      rintro e w10 ⟨rfl, hb⟩
      refine ⟨_, rfl, ?_⟩
      have n0_ := Aside0.mk (blk_below (g := gb101) (o := .cells #[.slice (some ad103) l1_0.length c1_0, .map (some bm)] 52 (0, 0)) (by (with_reducible repeat (first | refine blk_drewN ?_ _ | refine blk_drew ?_ | refine blk_alloc ?_ _)); exact BK101.out) hb)
      have n1_ := Aside0.mk (blk_below (g := gb102) (o := .cells #[.func (.func 45) #[] #[.pointer (some ⟨b3, 0, none⟩)]] 79 (0, 0)) (by (with_reducible repeat (first | refine blk_drewN ?_ _ | refine blk_drew ?_ | refine blk_alloc ?_ _)); exact BK102.out) hb)
      have n2_ := Aside0.mk (below_step (by repeat (first | (with_reducible first | exact HB.out | apply below_alloc | apply pw_below_drewN | apply below_drew1) | exact HB.out)) hb)
      clear BK101
      clear BK102
      clear HB
      have BK101 := n0_
      have BK102 := n1_
      have HB := n2_
      clear n0_ n1_ n2_
      (try clear hb)
      (try clear hb2)
      (try clear hk)
      (try clear hi)
      refine hK.out _ _ ⟨(blk_cell BK101.out 0).trans rfl, (blk_cell BK101.out 1).trans rfl, (blk_cell BK102.out 0).trans rfl, ((HB.out.cell (World.block_lt_of_cell? w _ hw103_0)).trans hw103_0), ((HB.out.cell (World.block_lt_of_cell? w _ hw103_1)).trans hw103_1), ((HB.out.cell (World.block_lt_of_cell? w _ hw103_2)).trans hw103_2), ((HB.out.cell (World.block_lt_of_cell? w _ hw103_3)).trans hw103_3)⟩ (fun hHeld => ?_)
      clear hK K
      refine norm_ (a' := ?_) ?_ ?_
      rotate_left
      · show Act.put _ (some 13) _ = _
        simp only [Act.put, List.setIfInBounds_toArray, List.set_cons_zero, List.set_cons_succ, i64_w, i32_w]
        rfl
      refine pure_ (i := 9) (N := some 4) (v := ?_) (a' := ?_) #[true, true, true, true, true, true, true, true, true, true] rfl rfl (any_of HT_.out (by kernel_rfl)) (fun _ _ _ h => h) (Or.inl ⟨by rfl, ?_⟩) ?_ ?_
      rotate_left
      · intro w'
        go_simp
        with_reducible rfl
      rotate_left
      · simp only [Act.put, List.setIfInBounds_toArray, List.set_cons_zero, List.set_cons_succ, i64_w, i32_w]
        rfl
      refine done_ (done_of HT_.out (by kernel_rfl)) ?_
      try go_wp2
      go_ret
      exact ⟨by first | rfl | (simp [errW_none, errW_some] <;> rfl) | (simp [*, errW_none, errW_some] <;> rfl), by repeat (first | (with_reducible first | exact HB.out | apply below_alloc | apply pw_below_drewN | apply below_drew1) | exact HB.out)⟩
    · rw [if_neg c5] at H
      exact absurd H (by simp)
  · rw [if_neg c4] at H
    exact absurd H (by simp)

set_option maxHeartbeats 8000000 in
set_option maxRecDepth 100000 in
theorem ix36_48 (b1 b2 b3 : Nat) (A0_0 : Option Addr) (c0_0 : Nat) (l0_0 : List S32) (bm : Nat) (nm ty : ByteArray) (A1 : Option Addr) (c1 : Nat) (l : List Int) (r : Bool) (w : World) (cap0 : Cap48 w b1 b2 b3 A0_0 c0_0 l0_0 bm nm ty) (hl : Kd.C (Kd.int .i64) w A1 l.length l) (hlen0 : l.length < 4611686018427387904) (h : anyO (p48 l0_0 nm) l = some r) :
    Calls Tryd.prog 36 #[.slice A1 l.length c1, .func (.func 48) #[] #[.pointer (some ⟨b1, 0, none⟩), .pointer (some ⟨b2, 0, none⟩)]] w fun e w' => ∃ j : Int, e = .returned (.int .i64 j) ∧ decide (j ≥ 0) = r ∧ Below w.heap.size w w' := by
  have CAP := Aside0.mk cap0
  have HL := Aside0.mk hl
  have hlen := Aside0.mk hlen0
  have H := Aside0.mk h
  clear cap0 hl h
  have HB := Aside0.mk (Below.refl w.heap.size w)
  go_enter Tryd.func36, Tryd.ntmps36
  go_wp2
  go_loopg [8] (l.length + 1) (fun kq v8 w' => ∃ (n : Int), v8 = .int .i64 n ∧ Aside0 (0 ≤ n ∧ n.toNat ≤ l.length ∧ kq + n.toNat = l.length + 1) ∧ Aside0 (anyO (p48 l0_0 nm) (l.drop n.toNat) = some r) ∧ Aside0 (Below w.heap.size w w'))
  case atStart => exact ⟨0, by first | rfl | (simp; done), ⟨by simp⟩, ⟨H.out⟩, ⟨(by repeat (first | (with_reducible first | exact HB.out | apply below_alloc | apply pw_below_drewN | apply below_drew1) | exact HB.out))⟩⟩
  case round =>
    clear HB
    obtain ⟨n, rfl, HK1, HA, HB⟩ := hrel
    cases gk with
    | zero =>
      obtain ⟨h0, h2, h1⟩ := HK1.out
      omega
    | succ k1 =>
      obtain ⟨p380, hle, hk⟩ := HK1.out
      by_cases q380 : n < (l.length : Int)
      · have c8b0 : decide (n < (l.length : Int)) = true := decide_eq_true q380
        have hwr : (wrap64 (n + 1)).toNat = n.toNat + 1 ∧ 0 ≤ wrap64 (n + 1) := by have := hlen.out; constructor <;> (unfold wrap64; omega)
        have HW := Aside0.mk hwr
        clear hwr
        have HQ := Aside0.mk q380
        have hA := HA.out
        have PP := Aside0.mk p380
        rw [drop_getD 0 l n.toNat (by omega)] at hA
        clear HA
        obtain ⟨b, hb0, hA⟩ := Option.bind_eq_some_iff.mp (show ((p48 l0_0 nm) (rd l n)).bind (fun b => if b = true then some true else anyO (p48 l0_0 nm) (l.drop (n.toNat + 1))) = some r from hA)
        have BB := Aside0.mk hb0
        clear hb0
        obtain ⟨ad188, e188, hx188_0⟩ := Kd.at_int (Kd.C_below HL.out HB.out) n p380 q380
        cases e188
        replace p380 := eq_true p380
        replace q380 := eq_true q380
        clear hk hle
        cases b with
        | true =>
          rw [if_pos rfl] at hA
          obtain rfl := Option.some.inj hA
          clear hA
          go_wp2_with (first | (go_at_call 48; refine (cl48 b1 b2 b3 A0_0 c0_0 l0_0 bm nm ty (rd l n) true _ ?hcap BB.out).mono ?_; (case hcap => exact Cap48.below CAP.out (by repeat (first | (with_reducible first | exact HB.out | apply below_alloc | apply pw_below_drewN | apply below_drew1) | exact HB.out))); rintro e w' ⟨rfl, hb⟩; have n0_ := Aside0.mk (below_step (by repeat (first | (with_reducible first | exact HB.out | apply below_alloc | apply pw_below_drewN | apply below_drew1) | exact HB.out)) hb); clear HB hb; have HB := n0_; clear n0_) | go_in)
          go_ret
          exact ⟨n, by first | rfl | (simp; done), decide_eq_true PP.out, by repeat (first | (with_reducible first | exact HB.out | apply below_alloc | apply pw_below_drewN | apply below_drew1) | exact HB.out)⟩
        | false =>
          rw [if_neg (by decide)] at hA
          have HA := Aside0.mk hA
          clear hA
          go_wp2_with (first | (go_at_call 48; refine (cl48 b1 b2 b3 A0_0 c0_0 l0_0 bm nm ty (rd l n) false _ ?hcap BB.out).mono ?_; (case hcap => exact Cap48.below CAP.out (by repeat (first | (with_reducible first | exact HB.out | apply below_alloc | apply pw_below_drewN | apply below_drew1) | exact HB.out))); rintro e w' ⟨rfl, hb⟩; have n0_ := Aside0.mk (below_step (by repeat (first | (with_reducible first | exact HB.out | apply below_alloc | apply pw_below_drewN | apply below_drew1) | exact HB.out)) hb); clear HB hb; have HB := n0_; clear n0_) | go_in)
          go_roundg k1
          case measure => omega
          case rel => exact ⟨wrap64 (n + 1), by first | rfl | (simp; done) | (simp [*]; done), ⟨⟨HW.out.2, by have h1 := HW.out.1; have := HK1.out; have := HQ.out; omega, by have h1 := HW.out.1; have := HK1.out; omega⟩⟩, ⟨by rw [HW.out.1]; exact HA.out⟩, ⟨(by repeat (first | (with_reducible first | exact HB.out | apply below_alloc | apply pw_below_drewN | apply below_drew1) | exact HB.out))⟩⟩
      · have c8b0 : decide (n < (l.length : Int)) = false := decide_eq_false q380
        have hA := HA.out
        have hnl : n.toNat = l.length := by omega
        rw [hnl, List.drop_length] at hA
        simp only [anyO] at hA
        obtain rfl := Option.some.inj hA
        clear hk hle p380 hnl q380 hA
        go_wp2
        go_ret
        exact ⟨-1, by first | rfl | (simp; done), by decide, by repeat (first | (with_reducible first | exact HB.out | apply below_alloc | apply pw_below_drewN | apply below_drew1) | exact HB.out)⟩

set_option maxHeartbeats 8000000 in
set_option maxRecDepth 100000 in
theorem anyI.calls (k : Nat) (b1 b2 b3 : Nat) (A0_0 : Option Addr) (c0_0 : Nat) (l0_0 : List S32) (bm : Nat) (nm ty : ByteArray) (A1 : Option Addr) (c1 : Nat) (l : List Int) (r : Bool) (w : World) (cap : Cap48 w b1 b2 b3 A0_0 c0_0 l0_0 bm nm ty) (hl : Kd.C (Kd.int .i64) w A1 l.length l) (h : anyI.f k l l0_0 nm = some r) :
    Calls Tryd.prog 24 #[.slice A1 l.length c1, .func (.func 48) #[] #[.pointer (some ⟨b1, 0, none⟩), .pointer (some ⟨b2, 0, none⟩)]] w fun e w' => e = .returned (.bool r) ∧ Below w.heap.size w w' := by
  unfold anyI.f at h
  have hlen0 : l.length < 4611686018427387904 := by
    by_cases hq : l.length < 4611686018427387904
    · exact hq
    · rw [if_neg hq] at h; cases h
  rw [if_pos hlen0] at h
  have F := Aside0.mk (ix36_48 b1 b2 b3 A0_0 c0_0 l0_0 bm nm ty A1 c1 l r w cap hl hlen0 h)
  clear cap hl h
  go_enter Tryd.func24, Tryd.ntmps24
  go_wp2_with (first | (go_at_call 36; refine F.out.mono ?_; rintro e w' ⟨j, rfl, hj, hb⟩; have HB := Aside0.mk hb; clear hb) | go_in)
  go_ret
  exact ⟨by first | rfl | (simp; done) | (simp [*]; done), by repeat (first | (with_reducible first | exact HB.out | apply below_alloc | apply pw_below_drewN | apply below_drew1) | exact HB.out)⟩

end Go.Proofs.YtkbclcecmcdlfaaDoor.PD
