/- A map from strings to integers in memory, as a list of its entries: looked up, added to, kept. A look-up and an entry at a new key, told for the walk of a region. -/
import Derived.StringKeys
import Derived.Maps.Own
import Derived.Maps.OwnOps
import Derived.Test.YtkbclcecmcdlfaaDoorWAll
namespace Go.Proofs.YtkbclcecmcdlfaaDoor.MapSI
open Go.RowKit Go.WideMaps Go.MapKept Go.ChangeMaps Go.Proofs.YtkbclcecmcdlfaaDoorW.PrintWords
set_option linter.unusedVariables false
set_option linter.unusedSimpArgs false

abbrev Ents := List (ByteArray × Int)
/-- The number at a key. -/
def get (L : Ents) (s : ByteArray) : Option Int := (L.find? (fun p => s == p.1)).map (·.2)
/-- Block b of w is a map with these entries. -/
def Is (w : World) (b : Nat) (L : Ents) : Prop :=
  ∃ es clock, w.heap[b]? = some (.map es clock) ∧ es.toList.map (fun e => (e.key, e.val)) = L.map (fun p => (Value.string p.1, Value.int .i64 p.2))

theorem Is.lt {w : World} {b : Nat} {L : Ents} (h : Is w b L) : b < w.heap.size := by
  obtain ⟨es, c, hb, _⟩ := h
  exact (Array.getElem?_eq_some_iff.1 hb).1
theorem Is.at {w w1 : World} {b : Nat} {L : Ents} (h : Is w b L) (hb : w1.heap[b]? = w.heap[b]?) : Is w1 b L := by
  obtain ⟨es, c, h1, h2⟩ := h
  exact ⟨es, c, hb.trans h1, h2⟩
theorem Is.below {w w1 : World} {b : Nat} {L : Ents} (h : Is w b L) (hb : Below w.heap.size w w1) : Is w1 b L := h.at (hb.block b h.lt)
theorem Is.alloc {w : World} {b : Nat} {L : Ents} (h : Is w b L) (o : Obj) : Is (w.alloc o) b L := h.below (below_alloc (Below.refl _ _) o)
theorem Is.drewN {w : World} {b : Nat} {L : Ents} (h : Is w b L) (m : Nat) : Is (w.drewN m) b L := h
theorem Is.drew {w : World} {b : Nat} {L : Ents} (h : Is w b L) : Is w.drew b L := h
theorem Is.grown {w w1 : World} {b : Nat} {L : Ents} (h : Is w b L) {row : Option Nat} (hg : w.grownBy w1 row) (hne : some b ≠ row) : Is w1 b L := h.at (hg.block b h.lt hne)
/-- A store changes no map. -/
theorem Is.set {w : World} {b : Nat} {L : Ents} (h : Is w b L) (p : Addr) (u : Value) : Is (w.setCell p u) b L := by
  obtain ⟨es, c, h1, h2⟩ := h
  refine ⟨es, c, ?_, h2⟩
  by_cases hp : p.block = b
  · simp [World.setCell, Array.getElem?_modify, hp, h1]
  · simp [World.setCell, Array.getElem?_modify, hp, h1]
/-- A row of the call's own is no map. -/
theorem Is.ne_row {w : World} {b : Nat} {L : Ents} (h : Is w b L) {base : Nat} {e : TypeId} {size n : Nat} {v : Value} {xs : List Value} (ho : w.ownsRow base e size v n xs) : some b ≠ v.ownBlock := by
  intro hk
  obtain ⟨cells, hc⟩ := own_typed ho b hk.symm
  obtain ⟨es, c, h1, _⟩ := h
  rw [h1] at hc
  cases hc
theorem Is.ne_R {α : Type} {d : Kd α} {w : World} {b : Nat} {L : Ents} (h : Is w b L) {base e : Nat} {ok : Nat → Prop} {v : Value} {xs : List α} (ho : d.R e w base ok v xs) : some b ≠ v.ownBlock := by
  obtain ⟨inner, hi⟩ := Kd.R_own ho
  exact h.ne_row hi
theorem away {α : Type} {d : Kd α} {w : World} {g base e : Nat} {ok : Nat → Prop} {v : Value} {xs : List α} (h : d.R e w base ok v xs) (hok : ∀ k, ok k → k ≠ g) : some g ≠ v.ownBlock := fun e_ => hok g (h.1 g e_.symm) rfl
theorem Is.made (w : World) : Is (w.alloc (.map #[] 0)) w.heap.size [] := ⟨#[], 0, heap_alloc_new w _, rfl⟩

theorem findNow_get (s : ByteArray) : ∀ (es : List MapEntry) (L : Ents) (i : Nat), es.map (fun e => (e.key, e.val)) = L.map (fun p => (Value.string p.1, Value.int .i64 p.2)) →
    (∃ j, Instr.findNow .string (.string s) es i = some (some (j, .int .i64 ((get L s).getD 0))) ∧ (get L s).isSome = true) ∨ (Instr.findNow .string (.string s) es i = some none ∧ get L s = none)
  | [], L, i, h => by
    have : L = [] := by simpa using h.symm
    subst this
    exact .inr ⟨rfl, rfl⟩
  | e :: es, [], i, h => by simp at h
  | e :: es, p :: L, i, h => by
    simp only [List.map_cons, List.cons.injEq, Prod.mk.injEq] at h
    obtain ⟨⟨hk, hv⟩, hr⟩ := h
    unfold Instr.findNow
    rw [hk]
    simp only [Instr.sameNow]
    cases hs : (s == p.1) with
    | true =>
      refine .inl ⟨i, ?_, ?_⟩
      · simp [get, hs, hv]
      · simp [get, hs]
    | false =>
      have := findNow_get s es L (i + 1) hr
      simpa [get, List.find?_cons, hs] using this

section
variable {P : Program} {k t e : TypeId}
theorem run_look (hk : P.underlying k = some .string) (ht : P.underlying t = some (.map k e)) {w : World} (hz : (zeroValue e).run P w = .ok (.int .i64 0) w) {b : Nat} {L : Ents} (h : Is w b L) (s : ByteArray) :
    (Instr.lookup t (.map (some b)) (.string s) true).run P w = .ok (.tuple #[.int .i64 ((get L s).getD 0), .bool (get L s).isSome]) w := by
  obtain ⟨es, c, hb, he⟩ := h
  have hck : (Instr.checkKey es.isEmpty 10000 k (.string s)).run P w = .ok () w := run_checkKey hk (d := .string) (k := .string s) trivial _ 9999
  rcases findNow_get s es.toList L 0 he with ⟨j, h1, h2⟩ | ⟨h1, h2⟩
  · have hf := run_findKey (w := w) hk h1
    simp [Instr.lookup, run_underlying ht, MapKept.run_getObj_map hb, hck, hf, Result.andThen, h2]
  · have hf := run_findKey (w := w) hk h1
    simp [Instr.lookup, run_underlying ht, MapKept.run_getObj_map hb, hck, hf, hz, Result.andThen, h2]
theorem run_add (hk : P.underlying k = some .string) (ht : P.underlying t = some (.map k e)) {w : World} {b : Nat} {L : Ents} (h : Is w b L) (s : ByteArray) (v : Int) (hn : get L s = none) :
    ∃ w', (Instr.mapUpdate t (.map (some b)) (.string s) (.int .i64 v)).run P w = .ok () w' ∧ Is w' b (L ++ [(s, v)]) ∧ w.grownBy w' (some b) := by
  obtain ⟨es, c, hb, he⟩ := h
  have hck : (Instr.checkKey false 10000 k (.string s)).run P w = .ok () w := run_checkKey hk (d := .string) (k := .string s) trivial _ 9999
  rcases findNow_get s es.toList L 0 he with ⟨j, h1, h2⟩ | ⟨h1, h2⟩
  · rw [hn] at h2
    cases h2
  · have hf := run_findKey (w := w) hk h1
    refine ⟨setBlock w b (.map (es.push ⟨.string s, .int .i64 v, c⟩) (c + 1)), ?_, ⟨_, _, heap_setBlock_same hb _, ?_⟩, ⟨rfl, rfl, rfl, by simp [setBlock], fun i _ hi => heap_setBlock_other hb _ (fun e => hi (by rw [e]))⟩⟩
    · simp [Instr.mapUpdate, run_underlying ht, MapKept.run_getObj_map hb, hck, hf, MapKept.run_setObj_map _ hb, Result.andThen, setBlock]
    · simp [he]

/-- A new map, at the operation. -/
theorem wp_made {ops : Array Oper} {rest : List Oper} {o : Oper} {a : Act} {Q : Exit → Act → World → Prop} {W : World}
    (hg : o.guard = none) (hop : o.op = Op.makeMap t none)
    (hK : ∀ g w1, W.heap.size ≤ g → Is w1 g [] → Below W.heap.size W w1 → wpList P ops Q rest (a.put o.dst (.map (some g))) w1) : wpList P ops Q (o :: rest) a W := by
  refine Kd.event_run hg (v := .map (some W.heap.size)) (w1 := W.alloc (.map #[] 0)) ?_ (hK W.heap.size (W.alloc (.map #[] 0)) (Nat.le_refl _) (Is.made W) (below_alloc (Below.refl _ _) _))
  have hrun := run_makeMap (P := P) t W
  simp [execOp, hop, hrun, Result.andThen]
/-- A look-up, at the operation. -/
theorem wp_look {ops : Array Oper} {rest : List Oper} {o : Oper} {a : Act} {Q : Exit → Act → World → Prop} {w : World}
    (hg : o.guard = none) (m x : Operand) (hop : o.op = Op.lookup t m x true) (hk : P.underlying k = some .string) (ht : P.underlying t = some (.map k e)) (hz : (zeroValue e).run P w = .ok (.int .i64 0) w)
    (b : Nat) (L : Ents) (s : ByteArray) (hm : a.eval m = .map (some b)) (hx : a.eval x = .string s) (r1 : Int) (r2 : Bool) (hr : (some ((get L s).getD 0, (get L s).isSome) : Option (Int × Bool)) = some (r1, r2)) (h : Is w b L)
    (hK : wpList P ops Q rest (a.put o.dst (.tuple #[.int .i64 r1, .bool r2])) w) : wpList P ops Q (o :: rest) a w := by
  refine wpList_plain hg fun K' hK' => ?_
  have hrun := run_look hk ht hz h s
  simp only [Option.some.injEq, Prod.mk.injEq] at hr
  rw [hr.1, hr.2] at hrun
  unfold Oper.wp
  simp [execOp, hop, hm, hx, hrun, Result.andThen]
  exact hK' _ _ hK
/-- An entry at a new key, at the operation. -/
theorem wp_add {ops : Array Oper} {rest : List Oper} {o : Oper} {a : Act} {Q : Exit → Act → World → Prop} {w : World}
    (hg : o.guard = none) (m x v : Operand) (hop : o.op = Op.mapUpdate t m x v) (hk : P.underlying k = some .string) (ht : P.underlying t = some (.map k e))
    (b : Nat) (L : Ents) (s : ByteArray) (n : Int) (hm : a.eval m = .map (some b)) (hx : a.eval x = .string s) (hv : a.eval v = .int .i64 n) (hn : get L s = none) (h : Is w b L)
    (hK : ∀ w', Is w' b (L ++ [(s, n)]) → w.grownBy w' (some b) → wpList P ops Q rest (a.put o.dst undef) w') : wpList P ops Q (o :: rest) a w := by
  refine wpList_plain hg fun K' hK' => ?_
  obtain ⟨w', hrun, h1, h2⟩ := run_add hk ht h s n hn
  unfold Oper.wp
  simp [execOp, hop, hm, hx, hv, hrun, Result.andThen]
  exact hK' _ _ (hK w' h1 h2)
end
end Go.Proofs.YtkbclcecmcdlfaaDoor.MapSI
