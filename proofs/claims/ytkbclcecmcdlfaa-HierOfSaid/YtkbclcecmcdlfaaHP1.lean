/- What the two packages make of a source is the same, and it is told as the same. -/
import Derived.Test.YtkbclcecmcdlfaaH15
import Derived.Test.YtkbclcecmcdlfaaHO1
import Derived.Test.YtkbclcecmcdlfaaHP0
namespace Go.Proofs.Ytkbclcecmcdlfaa.Pu
set_option linter.unusedVariables false
set_option linter.unusedSimpArgs false
open Go.RowKit Go.Proofs.Ytkbclcecmcdlfaa.PH Go.Proofs.YtkbclcecmcdlfaaW.PrintWords Go.Proofs.YtkbclcecmcdlfaaW.PrintLast Go.Proofs.YtkbclcecmcdlfaaW.PrintMore
section
variable {α β : Type} {c : Prop} [Decidable c] {f g : Nat → Option α} {r : α}
theorem Ev_pos (h : c) (k : Ev f r) : Ev (fun n => if c then f n else g n) r := Ev.congr (fun _ => if_pos h) k
theorem Ev_neg (h : ¬ c) (k : Ev g r) : Ev (fun n => if c then f n else g n) r := Ev.congr (fun _ => if_neg h) k
theorem Ev_bindc {o : Option β} {a : β} {f : Nat → β → Option α} (h : o = some a) (k : Ev (fun n => f n a) r) : Ev (fun n => o.bind (f n)) r := Ev.congr (fun _ => by rw [h]; rfl) k
end
theorem w64n (n : Nat) (h : n < 9223372036854775807) : wrap64 ((n : Int) + 1) = ((n + 1 : Nat) : Int) := by unfold wrap64; omega
def sigOf (m : S48) : S40 := ⟨m.f0, m.f1, m.f2.map (·.f1), m.f3⟩
def clsOf (c : S44) : S35 := ⟨c.f0, c.f1, c.f2, c.f3.map sigOf⟩
theorem take_succ_getD {α : Type} (l : List α) (z : α) (n : Nat) (h : n < l.length) : l.take (n + 1) = l.take n ++ [l.getD n z] := by
  rw [List.take_succ_eq_append_getElem h]
  simp [List.getD, h]
theorem map_take_succ {α β : Type} (l : List α) (z : α) (g : α → β) (n : Nat) (h : n < l.length) : (l.take (n + 1)).map g = (l.take n).map g ++ [g (l.getD n z)] := by
  rw [take_succ_getD l z n h, List.map_append]; rfl
/-- A loop that counts up to a length. -/
theorem up {α : Type} (len : Nat) (P : Nat → Prop) (hend : P len) (hstep : ∀ n, n < len → P (n + 1) → P n) : ∀ n, n ≤ len → P n := by
  intro n hn
  obtain ⟨d, hd⟩ : ∃ d, len = n + d := ⟨len - n, by omega⟩
  induction d generalizing n with
  | zero => have : n = len := by omega
            rw [this]; exact hend
  | succ d ih => exact hstep n (by omega) (ih (n + 1) (by omega) (by omega))

section
variable (l : List S44) (hl : l.length * 80 ≤ reachBytes) 
theorem reach : reachBytes = 140737488351232 := rfl
/-- hier.Of's parameters of a method. -/
theorem of_l2 (x13 : List S44) (x14 x15 : Int) (x28 : List S48) (x29 x30 : Int) (ps : List S37) (hps : ps.length * 32 ≤ reachBytes) (out : List S35) (c0 c1 : ByteArray) (c2 : List S37) (sg : List S40) (hsg : sg.length < 2199023255552) (s0 : ByteArray) (s1 : Bool) (s3 : ByteArray) (r : List S35)
    (k : Ev (fun k => hier_Of.l1 k x13 x14 x15 x28 x29 (wrap64 (x30 + 1)) out c0 c1 c2 (sg ++ [(⟨s0, s1, ps.map (·.f1), s3⟩ : S40)])) r) :
    ∀ n, n ≤ ps.length → Ev (fun k => hier_Of.l2 k x13 x14 x15 x28 x29 x30 ps (ps.length : Int) (n : Int) out c0 c1 c2 sg s0 s1 ((ps.take n).map (·.f1)) s3) r := by
  rw [reach] at hps
  refine up (α := Unit) ps.length _ ?_ ?_
  · refine Ev.step (fun k => by rw [hier_Of.l2]) (Ev_neg (by omega) (Ev_pos hsg ?_))
    rw [List.take_length]; exact k
  · intro n hn ih
    refine Ev.step (fun k => by rw [hier_Of.l2]) (Ev_pos (by omega) (Ev_pos (by omega) (Ev_pos (by omega) (Ev_pos (by rw [List.length_map, List.length_take]; omega) ?_))))
    rw [w64n n (by omega)]
    rw [map_take_succ ps z37 _ n hn] at ih
    exact ih
/-- hier.Of's methods of a class. -/
theorem of_l1 (x13 : List S44) (x14 x15 : Int) (ms : List S48) (hms : ms.length * 88 ≤ reachBytes) (hp : ∀ m ∈ ms, m.f2.length * 32 ≤ reachBytes) (out : List S35) (hout : out.length < 1759218604441) (c0 c1 : ByteArray) (c2 : List S37) (r : List S35)
    (k : Ev (fun k => hier_Of.l0 k x13 x14 (wrap64 (x15 + 1)) (out ++ [(⟨c0, c1, c2, ms.map sigOf⟩ : S35)])) r) :
    ∀ n, n ≤ ms.length → Ev (fun k => hier_Of.l1 k x13 x14 x15 ms (ms.length : Int) (n : Int) out c0 c1 c2 ((ms.take n).map sigOf)) r := by
  rw [reach] at hms
  refine up (α := Unit) ms.length _ ?_ ?_
  · refine Ev.step (fun k => by rw [hier_Of.l1]) (Ev_neg (by omega) (Ev_pos hout ?_))
    rw [List.take_length]; exact k
  · intro n hn ih
    refine Ev.step (fun k => by rw [hier_Of.l1]) (Ev_pos (by omega) (Ev_pos (by omega) (Ev_pos (by omega) ?_)))
    have hm : rd_T48 ms (n : Int) = ms.getD n z48 := by simp [rd_T48]
    have hmem : ms.getD n z48 ∈ ms := by
      rw [List.getD_eq_getElem?_getD, List.getElem?_eq_getElem hn]; exact List.getElem_mem hn
    rw [hm]
    refine of_l2 x13 x14 x15 ms (ms.length : Int) (n : Int) (ms.getD n z48).f2 (hp _ hmem) out c0 c1 c2 ((ms.take n).map sigOf) (by rw [List.length_map, List.length_take]; omega) _ _ _ r ?_ 0 (Nat.zero_le _)
    rw [w64n n (by omega)]
    rw [map_take_succ ms z48 sigOf n hn] at ih
    exact ih
theorem of_l0 (l : List S44) (hl : l.length * 80 ≤ reachBytes) (hc : ∀ c ∈ l, Sz44 c) :
    ∀ n, n ≤ l.length → Ev (fun k => hier_Of.l0 k l (l.length : Int) (n : Int) ((l.take n).map clsOf)) (l.map clsOf) := by
  rw [reach] at hl
  refine up (α := Unit) l.length _ ?_ ?_
  · refine Ev.step (fun k => by rw [hier_Of.l0]) (Ev_neg (by omega) ?_)
    rw [List.take_length]; exact Ev.now _
  · intro n hn ih
    refine Ev.step (fun k => by rw [hier_Of.l0]) (Ev_pos (by omega) (Ev_pos (by omega) (Ev_pos (by omega) ?_)))
    have hm : rd_T44 l (n : Int) = l.getD n z44 := by simp [rd_T44]
    have hmem : l.getD n z44 ∈ l := by
      rw [List.getD_eq_getElem?_getD, List.getElem?_eq_getElem hn]; exact List.getElem_mem hn
    obtain ⟨_, _, ⟨_, h2, _⟩, ⟨_, h3, h4⟩⟩ := hc _ hmem
    rw [hm]
    rw [reach] at h2
    refine Ev_bindc (a := (l.getD n z44).f2) ?_ ?_
    · show (if ([] : List S37).length + (l.getD n z44).f2.length < 4398046511104 then some ([] ++ (l.getD n z44).f2) else none) = _
      rw [if_pos (by show 0 + _ < _; omega)]; rfl
    · refine of_l1 l (l.length : Int) (n : Int) (l.getD n z44).f3 h3 (fun m hm' => (h4 m hm').2.1.2.1) ((l.take n).map clsOf) (by rw [List.length_map, List.length_take]; omega) _ _ _ _ ?_ 0 (Nat.zero_le _)
      rw [w64n n (by omega)]
      rw [map_take_succ l z44 clsOf n hn] at ih
      exact ih
theorem of_ev (l : List S44) (hl : l.length * 80 ≤ reachBytes) (hc : ∀ c ∈ l, Sz44 c) : Ev (fun k => hier_Of.f k l) (l.map clsOf) := of_l0 l hl hc 0 (Nat.zero_le _)

/-- The same, for the specification's own text. -/
theorem rof_l2 (x4 x7 : Int) (src : List S44) (out : List S35) (a0 a1 : ByteArray) (a2 : List S37) (a3 : List S48) (c0 c1 : ByteArray) (c2 : List S37) (sg : List S40) (hsg : sg.length < 2199023255552) (m0 : ByteArray) (m1 : Bool) (ps : List S37) (hps : ps.length * 32 ≤ reachBytes) (m3 : ByteArray) (m4 : List S114) (s0 : ByteArray) (s1 : Bool) (s3 : ByteArray) (r : List S35)
    (k : Ev (fun k => dataflowref10_Of.l1 k x4 (wrap64 (x7 + 1)) src out a0 a1 a2 a3 c0 c1 c2 (sg ++ [(⟨s0, s1, ps.map (·.f1), s3⟩ : S40)])) r) :
    ∀ n, n ≤ ps.length → Ev (fun k => dataflowref10_Of.l2 k x4 x7 (n : Int) src out a0 a1 a2 a3 c0 c1 c2 sg m0 m1 ps m3 m4 s0 s1 ((ps.take n).map (·.f1)) s3) r := by
  rw [reach] at hps
  refine up (α := Unit) ps.length _ ?_ ?_
  · refine Ev.step (fun k => by rw [dataflowref10_Of.l2]) (Ev_neg (by omega) (Ev_pos hsg ?_))
    rw [List.take_length]; exact k
  · intro n hn ih
    refine Ev.step (fun k => by rw [dataflowref10_Of.l2]) (Ev_pos (by omega) (Ev_pos (by omega) (Ev_pos (by rw [List.length_map, List.length_take]; omega) ?_)))
    rw [w64n n (by omega)]
    rw [map_take_succ ps z37 _ n hn] at ih
    exact ih
theorem rof_l1 (x4 : Int) (src : List S44) (out : List S35) (hout : out.length < 1759218604441) (a0 a1 : ByteArray) (a2 : List S37) (ms : List S48) (hms : ms.length * 88 ≤ reachBytes) (hp : ∀ m ∈ ms, m.f2.length * 32 ≤ reachBytes) (c0 c1 : ByteArray) (c2 : List S37) (r : List S35)
    (k : Ev (fun k => dataflowref10_Of.l0 k (wrap64 (x4 + 1)) src (out ++ [(⟨c0, c1, c2, ms.map sigOf⟩ : S35)])) r) :
    ∀ n, n ≤ ms.length → Ev (fun k => dataflowref10_Of.l1 k x4 (n : Int) src out a0 a1 a2 ms c0 c1 c2 ((ms.take n).map sigOf)) r := by
  rw [reach] at hms
  refine up (α := Unit) ms.length _ ?_ ?_
  · refine Ev.step (fun k => by rw [dataflowref10_Of.l1]) (Ev_neg (by omega) (Ev_pos hout ?_))
    rw [List.take_length]; exact k
  · intro n hn ih
    refine Ev.step (fun k => by rw [dataflowref10_Of.l1]) (Ev_pos (by omega) (Ev_pos (by omega) ?_))
    have hm : rd_T48 ms (n : Int) = ms.getD n z48 := by simp [rd_T48]
    have hmem : ms.getD n z48 ∈ ms := by
      rw [List.getD_eq_getElem?_getD, List.getElem?_eq_getElem hn]; exact List.getElem_mem hn
    rw [hm]
    refine rof_l2 x4 (n : Int) src out a0 a1 a2 ms c0 c1 c2 ((ms.take n).map sigOf) (by rw [List.length_map, List.length_take]; omega) _ _ (ms.getD n z48).f2 (hp _ hmem) _ _ _ _ _ r ?_ 0 (Nat.zero_le _)
    rw [w64n n (by omega)]
    rw [map_take_succ ms z48 sigOf n hn] at ih
    exact ih
theorem rof_l0 (l : List S44) (hl : l.length * 80 ≤ reachBytes) (hc : ∀ c ∈ l, Sz44 c) :
    ∀ n, n ≤ l.length → Ev (fun k => dataflowref10_Of.l0 k (n : Int) l ((l.take n).map clsOf)) (l.map clsOf) := by
  rw [reach] at hl
  refine up (α := Unit) l.length _ ?_ ?_
  · refine Ev.step (fun k => by rw [dataflowref10_Of.l0]) (Ev_neg (by omega) ?_)
    rw [List.take_length]; exact Ev.now _
  · intro n hn ih
    refine Ev.step (fun k => by rw [dataflowref10_Of.l0]) (Ev_pos (by omega) (Ev_pos (by omega) ?_))
    have hm : rd_T44 l (n : Int) = l.getD n z44 := by simp [rd_T44]
    have hmem : l.getD n z44 ∈ l := by
      rw [List.getD_eq_getElem?_getD, List.getElem?_eq_getElem hn]; exact List.getElem_mem hn
    obtain ⟨_, _, ⟨_, h2, _⟩, ⟨_, h3, h4⟩⟩ := hc _ hmem
    rw [hm]
    rw [reach] at h2
    refine Ev_bindc (a := ([] : List S37)) rfl (Ev_pos (by show 0 + _ < _; omega) ?_)
    refine rof_l1 (n : Int) l ((l.take n).map clsOf) (by rw [List.length_map, List.length_take]; omega) _ _ _ (l.getD n z44).f3 h3 (fun m hm' => (h4 m hm').2.1.2.1) _ _ _ _ ?_ 0 (Nat.zero_le _)
    rw [w64n n (by omega)]
    rw [map_take_succ l z44 clsOf n hn] at ih
    exact ih
theorem rof_ev (l : List S44) (hl : l.length * 80 ≤ reachBytes) (hc : ∀ c ∈ l, Sz44 c) : Ev (fun k => dataflowref10_Of.f k l) (l.map clsOf) := rof_l0 l hl hc 0 (Nat.zero_le _)
end
end Go.Proofs.Ytkbclcecmcdlfaa.Pu
