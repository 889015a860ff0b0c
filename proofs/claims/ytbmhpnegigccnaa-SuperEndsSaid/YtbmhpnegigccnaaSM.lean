/- A map from integers to integers with at most one entry, at the key 0: made, looked up, written, ranged over. -/
import Derived.Test.YtbmhpnegigccnaaPSx0
import Derived.Maps.Own
import Derived.Maps.OwnOps
import Derived.Maps.RangeRun
namespace Go.Proofs.Ytbmhpnegigccnaa.MapI
open Go.RowKit Go.WideMaps Go.MapKept Go.ChangeMaps Go.Proofs.YtbmhpnegigccnaaW.PrintWords
set_option linter.unusedVariables false
set_option linter.unusedSimpArgs false

def ent (v : Int) : MapEntry := ⟨.int .i64 0, .int .i64 v, 0⟩
/-- Block b is a map whose one entry is v at 0. -/
def One (w : World) (b : Nat) (v : Int) : Prop := w.heap[b]? = some (.map #[ent v] 1)
/-- .. or none yet, and v is 0. -/
def Is (w : World) (b : Nat) (v : Int) : Prop := One w b v ∨ (v = 0 ∧ w.heap[b]? = some (.map #[] 0))
theorem Is.lt {w : World} {b : Nat} {v : Int} (h : Is w b v) : b < w.heap.size := by
  rcases h with h | ⟨_, h⟩ <;> exact (Array.getElem?_eq_some_iff.1 h).1
theorem Is.at {w w1 : World} {b : Nat} {v : Int} (h : Is w b v) (hb : w1.heap[b]? = w.heap[b]?) : Is w1 b v := by
  rcases h with h | ⟨h0, h⟩
  · exact .inl (hb.trans h)
  · exact .inr ⟨h0, hb.trans h⟩
theorem Is.below {w w1 : World} {b : Nat} {v : Int} (h : Is w b v) (hb : Below w.heap.size w w1) : Is w1 b v := h.at (hb.block b h.lt)
theorem Is.alloc {w : World} {b : Nat} {v : Int} (h : Is w b v) (o : Obj) : Is (w.alloc o) b v := h.below (below_alloc (Below.refl _ _) o)
theorem Is.drewN {w : World} {b : Nat} {v : Int} (h : Is w b v) (m : Nat) : Is (w.drewN m) b v := h
theorem Is.drew {w : World} {b : Nat} {v : Int} (h : Is w b v) : Is w.drew b v := h
theorem Is.set {w : World} {b : Nat} {v : Int} (h : Is w b v) (p : Addr) (u : Value) : Is (w.setCell p u) b v := by
  rcases h with h | ⟨h0, h⟩
  · left
    unfold One at *
    by_cases hp : p.block = b
    · simp [World.setCell, Array.getElem?_modify, hp, h]
    · simp [World.setCell, Array.getElem?_modify, hp, h]
  · right
    refine ⟨h0, ?_⟩
    by_cases hp : p.block = b
    · simp [World.setCell, Array.getElem?_modify, hp, h]
    · simp [World.setCell, Array.getElem?_modify, hp, h]

theorem find_one (v : Int) : Instr.findNow (.int .i64) (.int .i64 0) [ent v] 0 = some (some (0, .int .i64 v)) := rfl
section
variable {P : Program} {k t e : TypeId} {ops : Array Oper} {rest : List Oper} {o : Oper} {a : Act} {Q : Exit → Act → World → Prop}
theorem wp_made {W : World} (hg : o.guard = none) (hop : o.op = Op.makeMap t none)
    (hK : ∀ g w1, W.heap.size ≤ g → Is w1 g 0 → Below W.heap.size W w1 → wpList P ops Q rest (a.put o.dst (.map (some g))) w1) : wpList P ops Q (o :: rest) a W := by
  refine Kd.event_run hg (v := .map (some W.heap.size)) (w1 := W.alloc (.map #[] 0)) ?_ (hK W.heap.size (W.alloc (.map #[] 0)) (Nat.le_refl _) (.inr ⟨rfl, heap_alloc_new W _⟩) (below_alloc (Below.refl _ _) _))
  have hrun := run_makeMap (P := P) t W
  simp [execOp, hop, hrun, Result.andThen]
theorem wp_look {w : World} (hg : o.guard = none) (m x : Operand) (hop : o.op = Op.lookup t m x false) (hk : P.underlying k = some (.int .i64)) (ht : P.underlying t = some (.map k e)) (hz : (zeroValue e).run P w = .ok (.int .i64 0) w)
    (b : Nat) (v kx : Int) (h0 : kx = 0) (hm : a.eval m = .map (some b)) (hx : a.eval x = .int .i64 kx) (h : Is w b v) (hK : wpList P ops Q rest (a.put o.dst (.int .i64 v)) w) : wpList P ops Q (o :: rest) a w := by
  subst h0
  refine Kd.event_run hg (v := .int .i64 v) (w1 := w) ?_ hK
  rcases h with h | ⟨h0, h⟩
  · have hck : (Instr.checkKey false 10000 k (.int .i64 0)).run P w = .ok () w := run_checkKey hk (d := .int .i64) (k := .int .i64 0) rfl _ 9999
    have hf : (Instr.findKey k (.int .i64 0) [ent v]).run P w = .ok (some (0, .int .i64 v)) w := run_findKey hk (find_one v)
    simp [execOp, hop, hm, hx, Instr.lookup, run_underlying ht, MapKept.run_getObj_map h, hck, hf, Result.andThen]
  · have hck : (Instr.checkKey true 10000 k (.int .i64 0)).run P w = .ok () w := run_checkKey hk (d := .int .i64) (k := .int .i64 0) rfl _ 9999
    have hf : (Instr.findKey k (.int .i64 0) []).run P w = .ok none w := run_findKey hk rfl
    subst h0
    simp [execOp, hop, hm, hx, Instr.lookup, run_underlying ht, MapKept.run_getObj_map h, hck, hf, hz, Result.andThen]
theorem stays0 (w : World) : (Instr.keyThatStays (.int .i64 0) (.int .i64 0)).run P w = .ok (.int .i64 0) w := run_keyThatStays (d := .int .i64) (k := .int .i64 0) rfl
theorem wp_put {w : World} (hg : o.guard = none) (m x y : Operand) (hop : o.op = Op.mapUpdate t m x y) (hk : P.underlying k = some (.int .i64)) (ht : P.underlying t = some (.map k e))
    (b : Nat) (v kx n : Int) (h0 : kx = 0) (hm : a.eval m = .map (some b)) (hx : a.eval x = .int .i64 kx) (hy : a.eval y = .int .i64 n) (h : Is w b v)
    (hK : ∀ w', One w' b n → w.grownBy w' (some b) → wpList P ops Q rest (a.put o.dst undef) w') : wpList P ops Q (o :: rest) a w := by
  subst h0
  have hck : (Instr.checkKey false 10000 k (.int .i64 0)).run P w = .ok () w := run_checkKey hk (d := .int .i64) (k := .int .i64 0) rfl _ 9999
  have hrun : (Instr.mapUpdate t (.map (some b)) (.int .i64 0) (.int .i64 n)).run P w = .ok () (setBlock w b (.map #[ent n] 1)) := by
    rcases h with h | ⟨h0, h⟩
    · have hf : (Instr.findKey k (.int .i64 0) [ent v]).run P w = .ok (some (0, .int .i64 v)) w := run_findKey hk (find_one v)
      simp only [ent] at hf
      simp [Instr.mapUpdate, run_underlying ht, MapKept.run_getObj_map h, hck, hf, ent, stays0, MapKept.run_setObj_map _ h, Result.andThen, setBlock]
    · have hf : (Instr.findKey k (.int .i64 0) []).run P w = .ok none w := run_findKey hk rfl
      simp [Instr.mapUpdate, run_underlying ht, MapKept.run_getObj_map h, hck, hf, ent, MapKept.run_setObj_map _ h, Result.andThen, setBlock]
  have hb : ∃ es c, w.heap[b]? = some (.map es c) := by
    rcases h with h | ⟨_, h⟩ <;> exact ⟨_, _, h⟩
  obtain ⟨es, c, hb⟩ := hb
  refine wpList_plain hg fun K' hK' => ?_
  unfold Oper.wp
  simp [execOp, hop, hm, hx, hy, hrun, Result.andThen]
  exact hK' _ _ (hK _ (heap_setBlock_same hb _) ⟨rfl, rfl, rfl, by simp [setBlock], fun i _ hi => heap_setBlock_other hb _ (fun e => hi (by rw [e]))⟩)
theorem wp_range {w : World} (hg : o.guard = none) (m : Operand) (hop : o.op = Op.range t m) (ht : P.underlying t = some (.map k e)) (b : Nat) (v : Int) (hm : a.eval m = .map (some b)) (h : One w b v)
    (hK : ∀ r w1, w.heap.size ≤ r → w1.heap[r]? = some (.mapIter (some b) 1 #[] 1) → One w1 b v → Below w.heap.size w w1 → wpList P ops Q rest (a.put o.dst (.pointer (some ⟨r, 0, none⟩))) w1) : wpList P ops Q (o :: rest) a w := by
  have hB : Below w.heap.size w (w.alloc (.mapIter (some b) 1 #[] 1)) := below_alloc (Below.refl _ _) _
  refine Kd.event_run hg (v := .pointer (some ⟨w.heap.size, 0, none⟩)) (w1 := w.alloc (.mapIter (some b) 1 #[] 1)) ?_ (hK w.heap.size _ (Nat.le_refl _) (heap_alloc_new w _) ((hB.block b (Array.getElem?_eq_some_iff.1 h).1).trans h) hB)
  simp [execOp, hop, hm, Instr.range, run_underlying ht, MapKept.run_getObj_map h, newObj, Sem.run, Result.andThen]
  first | rfl | (simp [World.alloc]; done) | skip
theorem wp_next1 {w : World} (hg : o.guard = none) (it : Operand) (hop : o.op = Op.next it false) (b r : Nat) (v : Int) (hit : a.eval it = .pointer (some ⟨r, 0, none⟩)) (hr : w.heap[r]? = some (.mapIter (some b) 1 #[] 1)) (h : One w b v)
    (hK : ∀ w', w'.heap[r]? = some (.mapIter (some b) 1 #[0] 1) → One w' b v → w.grownBy w' (some r) → wpList P ops Q rest (a.put o.dst (.tuple #[.bool true, .int .i64 0, .int .i64 v])) w') : wpList P ops Q (o :: rest) a w := by
  have hne : b ≠ r := by
    rintro rfl
    rw [h] at hr
    cases hr
  have hrun : (Instr.next (.pointer (some ⟨r, 0, none⟩)) false o.type).run P w = .ok (.tuple #[.bool true, .int .i64 0, .int .i64 v]) (setBlock w r (.mapIter (some b) 1 #[0] 1)) := by
    have hset := run_setObj_at (P := P) hr (.mapIter (some b) 1 #[0] 1)
    simp [Instr.next, getObj, Sem.run_bind, Sem.run, hr, show w.heap[b]? = some (.map #[ent v] 1) from h, Result.andThen, ent, choose, Question.forced]
    first | exact hset | (simpa [Sem.run, setObj, hr] using hset) | skip
  have hrl : r < w.heap.size := (Array.getElem?_eq_some_iff.1 hr).1
  refine wpList_plain hg fun K' hK' => ?_
  unfold Oper.wp
  simp [execOp, hop, hit, hrun, Result.andThen]
  refine hK' _ _ (hK _ ?_ ?_ ⟨rfl, rfl, rfl, by simp [setBlock], fun i _ hi => ?_⟩)
  · simp [setBlock, hrl]
  · unfold One
    simp only [setBlock]
    rw [Array.getElem?_setIfInBounds_ne (fun e => hne e.symm)]
    exact h
  · simp only [setBlock]
    rw [Array.getElem?_setIfInBounds_ne (fun e => hi (by rw [e]))]
theorem wp_entry {w : World} (hg : o.guard = none) (it : Operand) (hop : o.op = Op.entry it) (b r : Nat) (v : Int) (hit : a.eval it = .pointer (some ⟨r, 0, none⟩)) (hr : w.heap[r]? = some (.mapIter (some b) 1 #[0] 1)) (h : One w b v)
    (hK : wpList P ops Q rest (a.put o.dst (.tuple #[.int .i64 0, .int .i64 v])) w) : wpList P ops Q (o :: rest) a w := by
  have hrun := run_entry_at (P := P) w r b 1 #[] #[ent v] 1 (ent v) hr h (by simp) (by simp)
  refine Kd.event_run hg (v := .tuple #[.int .i64 0, .int .i64 v]) (w1 := w) ?_ hK
  simp [execOp, hop, hit, hrun, Result.andThen, ent]
theorem wp_next2 {w : World} (hg : o.guard = none) (it : Operand) (hop : o.op = Op.next it false) (b r : Nat) (v : Int) (hit : a.eval it = .pointer (some ⟨r, 0, none⟩)) (hr : w.heap[r]? = some (.mapIter (some b) 1 #[0] 1)) (h : One w b v)
    (hK : wpList P ops Q rest (a.put o.dst (.tuple #[.bool false])) w) : wpList P ops Q (o :: rest) a w := by
  have hrun : (Instr.next (.pointer (some ⟨r, 0, none⟩)) false o.type).run P w = .ok (.tuple #[.bool false]) w := by
    simp [Instr.next, getObj, Sem.run_bind, Sem.run, hr, show w.heap[b]? = some (.map #[ent v] 1) from h, Result.andThen, ent, choose, Question.forced]
  refine Kd.event_run hg (v := .tuple #[.bool false]) (w1 := w) ?_ hK
  simp [execOp, hop, hit, hrun, Result.andThen]
end
/-- A store into a map of the call's own. -/
theorem HBG {w W w1 : World} {g : Nat} (hG : w.heap.size ≤ g) (hB : Below w.heap.size w W) (hg : W.grownBy w1 (some g)) : Below w.heap.size w w1 := hB.grown hg hB.size (fun j hj => by cases hj; exact hG)
end Go.Proofs.Ytbmhpnegigccnaa.MapI
