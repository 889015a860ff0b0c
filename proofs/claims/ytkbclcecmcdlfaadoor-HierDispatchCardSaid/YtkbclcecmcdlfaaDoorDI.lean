/- hier.index: it makes the map from each class's name to the first index that bears it. -/
import Derived.Test.YtkbclcecmcdlfaaDoorPDx0
import Derived.Test.YtkbclcecmcdlfaaDoorMapSI
namespace Go.Proofs.YtkbclcecmcdlfaaDoor.PD
open Go.RowKit Go.Proofs.YtkbclcecmcdlfaaDoorW.PrintWords Go.Proofs.YtkbclcecmcdlfaaDoorW.PrintLast Go.Proofs.YtkbclcecmcdlfaaDoorW.PrintMore
attribute [local go_sem] max2_int min2_int max_two min_two max_three min_three max_four min_four
set_option linter.unusedVariables false
set_option linter.unusedSimpArgs false

theorem zero3_run (w : World) : (zeroValue 3).run Tryd.prog w = .ok (.int .i64 0) w := by kernel_rfl
/-- A look-up's answer. -/
def look.f (L : MapSI.Ents) (s : ByteArray) : Option (Int × Bool) := some ((MapSI.get L s).getD 0, (MapSI.get L s).isSome)
/-- A look-up's answer, without 'ok'. -/
def look1.f (L : MapSI.Ents) (s : ByteArray) : Option Int := some ((MapSI.get L s).getD 0)
theorem run_look1 {P : Program} {k t e : TypeId} (hk : P.underlying k = some .string) (ht : P.underlying t = some (.map k e)) {w : World} (hz : (zeroValue e).run P w = .ok (.int .i64 0) w) {b : Nat} {L : MapSI.Ents} (h : MapSI.Is w b L) (s : ByteArray) :
    (Instr.lookup t (.map (some b)) (.string s) false).run P w = .ok (.int .i64 ((MapSI.get L s).getD 0)) w := by
  obtain ⟨es, c, hb, he⟩ := h
  have hck : (Instr.checkKey es.isEmpty 10000 k (.string s)).run P w = .ok () w := Go.MapKept.run_checkKey hk (d := .string) (k := .string s) trivial _ 9999
  rcases MapSI.findNow_get s es.toList L 0 he with ⟨j, h1, h2⟩ | ⟨h1, h2⟩
  · have hf := Go.MapKept.run_findKey (w := w) hk h1
    simp [Instr.lookup, run_underlying ht, Go.MapKept.run_getObj_map hb, hck, hf, Result.andThen, h2]
  · have hf := Go.MapKept.run_findKey (w := w) hk h1
    simp [Instr.lookup, run_underlying ht, Go.MapKept.run_getObj_map hb, hck, hf, hz, Result.andThen, h2]
theorem wp_look1 {P : Program} {k t e : TypeId} {ops : Array Oper} {rest : List Oper} {o : Oper} {a : Act} {Q : Exit → Act → World → Prop} {w : World}
    (hg : o.guard = none) (m x : Operand) (hop : o.op = Op.lookup t m x false) (hk : P.underlying k = some .string) (ht : P.underlying t = some (.map k e)) (hz : (zeroValue e).run P w = .ok (.int .i64 0) w)
    (b : Nat) (L : MapSI.Ents) (s : ByteArray) (hm : a.eval m = .map (some b)) (hx : a.eval x = .string s) (r1 : Int) (hr : (some ((MapSI.get L s).getD 0) : Option Int) = some r1) (h : MapSI.Is w b L)
    (hK : wpList P ops Q rest (a.put o.dst (.int .i64 r1)) w) : wpList P ops Q (o :: rest) a w := by
  refine wpList_plain hg fun K' hK' => ?_
  have hrun := run_look1 hk ht hz h s
  simp only [Option.some.injEq] at hr
  rw [hr] at hrun
  unfold Oper.wp
  simp [execOp, hop, hm, hx, hrun, Result.andThen]
  exact hK' _ _ hK
/-- The entries behind n classes. -/
def idxN (l : List S32) : Nat → MapSI.Ents
  | 0 => []
  | n + 1 => if (MapSI.get (idxN l n) (rd_T32 l (n : Int)).f0).isSome then idxN l n else idxN l n ++ [((rd_T32 l (n : Int)).f0, (n : Int))]
def hier_index.f (_k : Nat) (l0_0 : List S32) : Option MapSI.Ents := if l0_0.length < 1759218604441 then some (idxN l0_0 l0_0.length) else none
theorem hier_index.mono : ∀ a0 k, LeO (hier_index.f k a0) (hier_index.f (k + 1) a0) := fun _ _ => LeO.refl _

/-- A store into a map of the call's own. -/
theorem HBG {w W w1 : World} {g : Nat} (hG : w.heap.size ≤ g) (hB : Below w.heap.size w W) (hg : W.grownBy w1 (some g)) : Below w.heap.size w w1 := hB.grown hg hB.size (fun j hj => by cases hj; exact hG)

set_option maxHeartbeats 8000000 in
set_option maxRecDepth 100000 in
theorem hier_index.calls (k : Nat) (A0_0 : Option Addr) (c0_0 : Nat) (l0_0 : List (S32)) (r : MapSI.Ents) (w : World) (hr0_0 : Kd.C k32 w A0_0 l0_0.length l0_0) (hc0_0 : l0_0.length ≤ c0_0) (h : hier_index.f k l0_0 = some r) :
    Calls Tryd.prog 20 #[.agg #[.slice A0_0 l0_0.length c0_0]] w fun e w' => ∃ bm : Nat, e = .returned (.map (some bm)) ∧ MapSI.Is w' bm r ∧ Below w.heap.size w w' := by
  have hu24 := Tryd.underlying24
  have hu32 := Tryd.underlying32
  have HR0_0 := Aside0.mk hr0_0
  have HC0_0 := Aside0.mk hc0_0
  clear hr0_0 hc0_0
  have HB := Aside0.mk (Below.refl w.heap.size w)
  unfold hier_index.f at h
  have hlen0 : l0_0.length < 1759218604441 := by
    by_cases hq : l0_0.length < 1759218604441
    · exact hq
    · rw [if_neg hq] at h; cases h
  rw [if_pos hlen0] at h
  have hlen := Aside0.mk hlen0
  clear hlen0
  have hr := Aside0.mk (Option.some.inj h)
  clear h
  go_enter Tryd.func20, Tryd.ntmps20
  go_wp2_with (first | ((with_reducible refine gate_dst (N := 1) rfl ?_); refine box_event ?hg (N := 1) ?hd (cs := #[.slice A0_0 l0_0.length c0_0]) (t := 24) ?hr ?_; (case hd => rfl); (case hg => rfl); (case hr => first | (go_simp; done) | (go_simp; rfl)); intro gb189 hg w5 hbox hb; have n0_ := Aside0.mk (below_step HB.out hb); have n1_ := Aside0.mk (hbox); have n2_ := Aside0.mk ((by rw [hg]; exact (below_size HB.out)) : w.heap.size ≤ gb189); clear HB; have HB := n0_; have BK189 := n1_; have GE189 := n2_; clear n0_ n1_ n2_; clear hb hbox hg) | ((with_reducible refine gate_dst (N := 8) rfl ?_); refine MapSI.wp_made rfl rfl ?_; intro gm w6 hgm0 hM hb; have n0_ := Aside0.mk (below_step HB.out hb); have n1_ := Aside0.mk (blk_below BK189.out hb); have n2_ := Aside0.mk (Nat.le_trans (below_size HB.out) hgm0); have HM := Aside0.mk hM; clear HB; clear BK189; clear hM hgm0 hb; have HB := n0_; have BK189 := n1_; have GM := n2_; clear n0_ n1_ n2_; have hcz7_0 : w6.cell? ⟨gb189, 0, none⟩ = some (.slice A0_0 l0_0.length c0_0) := (blk_cell BK189.out 0).trans rfl; have hfz7_0 := blk_frozen BK189.out 0))
  go_loopg [12] (l0_0.length + 1) (fun kq v12 w' => ∃ n, v12 = .int .i64 n ∧ Aside0 (0 ≤ n ∧ n.toNat ≤ l0_0.length ∧ kq + n.toNat = l0_0.length + 1) ∧ Aside0 (MapSI.Is w' gm (idxN l0_0 n.toNat)) ∧ Aside0 (Below w.heap.size w w'))
  case atStart => exact ⟨0, by first | rfl | (simp; done), ⟨by simp⟩, HM, HB⟩
  case round =>
    try clear c1
    try clear p2
    try clear hcz7_0
    try clear hfz7_0
    clear HM HB BK189
    obtain ⟨n, rfl, HK1, HM, HB⟩ := hrel
    cases gk with
    | zero =>
      obtain ⟨h0, h2, h1⟩ := HK1.out
      omega
    | succ k1 =>
      obtain ⟨p380, hle, hk⟩ := HK1.out
      by_cases q380 : n < (l0_0.length : Int)
      · have c8b0 : decide (n < (l0_0.length : Int)) = true := decide_eq_true q380
        have hnn : ((n.toNat : Nat) : Int) = n := Int.toNat_of_nonneg p380
        have hwr : (wrap64 (n + 1)).toNat = n.toNat + 1 ∧ 0 ≤ wrap64 (n + 1) := by have := hlen.out; constructor <;> (unfold wrap64; omega)
        have HW := Aside0.mk hwr
        have HQ := Aside0.mk q380
        clear hwr
        obtain ⟨ad380, A380_2, c380_2, A380_3, c380_3, e380, hx380_0, hx380_1, hx380_2, hx380_3, hl380_2, hi380_2, hl380_3, hi380_3⟩ := at_T32 HR0_0.out n p380 q380
        cases e380
        replace hx380_0 := (HB.out.cell (World.block_lt_of_cell? w _ hx380_0)).trans hx380_0
        replace hx380_1 := (HB.out.cell (World.block_lt_of_cell? w _ hx380_1)).trans hx380_1
        replace hx380_2 := (HB.out.cell (World.block_lt_of_cell? w _ hx380_2)).trans hx380_2
        replace hx380_3 := (HB.out.cell (World.block_lt_of_cell? w _ hx380_3)).trans hx380_3
        clear hi380_2 hl380_2 hi380_3 hl380_3
        replace p380 := eq_true p380
        replace q380 := eq_true q380
        cases hg0 : MapSI.get (idxN l0_0 n.toNat) (rd_T32 l0_0 n).f0 with
        | some v =>
          have hget := Aside0.mk (show (some ((MapSI.get (idxN l0_0 n.toNat) (rd_T32 l0_0 n).f0).getD 0, (MapSI.get (idxN l0_0 n.toNat) (rd_T32 l0_0 n).f0).isSome) : Option (Int × Bool)) = some (v, true) by rw [hg0]; rfl)
          have hnext : idxN l0_0 (n.toNat + 1) = idxN l0_0 n.toNat := by simp only [idxN]; rw [hnn, hg0]; rfl
          have HN := Aside0.mk hnext
          clear hg0 hnext hk hnn hle
          go_wp2_with (first | ((with_reducible refine gate_dst (N := 5) rfl ?_); refine box_event ?hg (N := 5) ?hd (cs := #[.string (⟨#[]⟩ : ByteArray), .string (⟨#[]⟩ : ByteArray), .slice none 0 0, .slice none 0 0]) (t := 32) ?hr ?_; (case hd => rfl); (case hg => rfl); (case hr => first | (go_simp; done) | (go_simp; rfl)); intro gb381 hg w15 hbox hb; have n0_ := Aside0.mk (MapSI.Is.below HM.out hb); have n2_ := Aside0.mk (below_step HB.out hb); have n3_ := Aside0.mk (hbox); have n4_ := Aside0.mk ((by rw [hg]; exact (below_size HB.out)) : w.heap.size ≤ gb381); clear HM; clear HB; have HM := n0_; have HB := n2_; have BK381 := n3_; have GE381 := n4_; clear n0_ n2_ n3_ n4_; clear hb hbox hg; have hcz17_0 : w15.cell? ⟨gb381, 0, none⟩ = some (.string (⟨#[]⟩ : ByteArray)) := (blk_cell BK381.out 0).trans rfl; have hcz17_1 : w15.cell? ⟨gb381, 1, none⟩ = some (.string (⟨#[]⟩ : ByteArray)) := (blk_cell BK381.out 1).trans rfl; have hcz17_2 : w15.cell? ⟨gb381, 2, none⟩ = some (.slice none 0 0) := (blk_cell BK381.out 2).trans rfl; have hcz17_3 : w15.cell? ⟨gb381, 3, none⟩ = some (.slice none 0 0) := (blk_cell BK381.out 3).trans rfl; have hfz17_0 := blk_frozen BK381.out 0; have hfz17_1 := blk_frozen BK381.out 1; have hfz17_2 := blk_frozen BK381.out 2; have hfz17_3 := blk_frozen BK381.out 3) | (at_lookup; refine MapSI.wp_look rfl _ _ rfl Tryd.underlying9 Tryd.underlying49 (zero3_run _) gm (idxN l0_0 n.toNat) (rd_T32 l0_0 n).f0 rfl rfl _ true hget.out (by repeat (first | (with_reducible first | exact HM.out | apply MapSI.Is.set | apply MapSI.Is.alloc | apply MapSI.Is.drewN | apply MapSI.Is.drew) | exact HM.out)) ?_))
          go_roundg k1
          case measure => omega
          case rel => exact ⟨wrap64 (n + 1), by first | rfl | (simp; done) | (simp [*]; done), ⟨⟨HW.out.2, by have h1 := HW.out.1; have := HK1.out; have := HQ.out; omega, by have h1 := HW.out.1; have := HK1.out; omega⟩⟩, ⟨by rw [HW.out.1, HN.out]; repeat (first | (with_reducible first | exact HM.out | apply MapSI.Is.set | apply MapSI.Is.alloc | apply MapSI.Is.drewN | apply MapSI.Is.drew) | exact HM.out)⟩, ⟨(by repeat (first | (with_reducible first | exact HB.out | apply below_alloc | apply pw_below_drewN | apply below_drew1 | refine below_set ?_ GE381.out) | exact HB.out))⟩⟩
        | none =>
          have hget := Aside0.mk (show (some ((MapSI.get (idxN l0_0 n.toNat) (rd_T32 l0_0 n).f0).getD 0, (MapSI.get (idxN l0_0 n.toNat) (rd_T32 l0_0 n).f0).isSome) : Option (Int × Bool)) = some (0, false) by rw [hg0]; rfl)
          have hnext : idxN l0_0 (n.toNat + 1) = idxN l0_0 n.toNat ++ [((rd_T32 l0_0 n).f0, n)] := by simp only [idxN]; rw [hnn, hg0]; rfl
          have HN := Aside0.mk hnext
          have HG0 := Aside0.mk hg0
          clear hg0 hnext hk hnn hle
          go_wp2_with (first | ((with_reducible refine gate_dst (N := 5) rfl ?_); refine box_event ?hg (N := 5) ?hd (cs := #[.string (⟨#[]⟩ : ByteArray), .string (⟨#[]⟩ : ByteArray), .slice none 0 0, .slice none 0 0]) (t := 32) ?hr ?_; (case hd => rfl); (case hg => rfl); (case hr => first | (go_simp; done) | (go_simp; rfl)); intro gb381 hg w15 hbox hb; have n0_ := Aside0.mk (MapSI.Is.below HM.out hb); have n2_ := Aside0.mk (below_step HB.out hb); have n3_ := Aside0.mk (hbox); have n4_ := Aside0.mk ((by rw [hg]; exact (below_size HB.out)) : w.heap.size ≤ gb381); clear HM; clear HB; have HM := n0_; have HB := n2_; have BK381 := n3_; have GE381 := n4_; clear n0_ n2_ n3_ n4_; clear hb hbox hg; have hcz17_0 : w15.cell? ⟨gb381, 0, none⟩ = some (.string (⟨#[]⟩ : ByteArray)) := (blk_cell BK381.out 0).trans rfl; have hcz17_1 : w15.cell? ⟨gb381, 1, none⟩ = some (.string (⟨#[]⟩ : ByteArray)) := (blk_cell BK381.out 1).trans rfl; have hcz17_2 : w15.cell? ⟨gb381, 2, none⟩ = some (.slice none 0 0) := (blk_cell BK381.out 2).trans rfl; have hcz17_3 : w15.cell? ⟨gb381, 3, none⟩ = some (.slice none 0 0) := (blk_cell BK381.out 3).trans rfl; have hfz17_0 := blk_frozen BK381.out 0; have hfz17_1 := blk_frozen BK381.out 1; have hfz17_2 := blk_frozen BK381.out 2; have hfz17_3 := blk_frozen BK381.out 3) | (at_lookup; refine MapSI.wp_look rfl _ _ rfl Tryd.underlying9 Tryd.underlying49 (zero3_run _) gm (idxN l0_0 n.toNat) (rd_T32 l0_0 n).f0 rfl rfl _ false hget.out (by repeat (first | (with_reducible first | exact HM.out | apply MapSI.Is.set | apply MapSI.Is.alloc | apply MapSI.Is.drewN | apply MapSI.Is.drew) | exact HM.out)) ?_) | (at_mapUpdate; refine MapSI.wp_add rfl _ _ _ rfl Tryd.underlying9 Tryd.underlying49 gm (idxN l0_0 n.toNat) (rd_T32 l0_0 n).f0 n rfl rfl rfl HG0.out (by repeat (first | (with_reducible first | exact HM.out | apply MapSI.Is.set | apply MapSI.Is.alloc | apply MapSI.Is.drewN | apply MapSI.Is.drew) | exact HM.out)) ?_; intro w20 hM2 hg2; have n0_ := Aside0.mk hM2; have n1_ := Aside0.mk (HBG GM.out (by repeat (first | (with_reducible first | exact HB.out | apply below_alloc | apply pw_below_drewN | apply below_drew1 | refine below_set ?_ GE381.out) | exact HB.out)) hg2); clear HM; clear HB; have HM := n0_; have HB := n1_; clear n0_ n1_; clear hM2 hg2))
          go_roundg k1
          case measure => omega
          case rel => exact ⟨wrap64 (n + 1), by first | rfl | (simp; done) | (simp [*]; done), ⟨⟨HW.out.2, by have h1 := HW.out.1; have := HK1.out; have := HQ.out; omega, by have h1 := HW.out.1; have := HK1.out; omega⟩⟩, ⟨by rw [HW.out.1, HN.out]; repeat (first | (with_reducible first | exact HM.out | apply MapSI.Is.set | apply MapSI.Is.alloc | apply MapSI.Is.drewN | apply MapSI.Is.drew) | exact HM.out)⟩, ⟨(by repeat (first | (with_reducible first | exact HB.out | apply below_alloc | apply pw_below_drewN | apply below_drew1 | refine below_set ?_ GE381.out) | exact HB.out))⟩⟩
      · have c8b0 : decide (n < (l0_0.length : Int)) = false := decide_eq_false q380
        have hnl : n.toNat = l0_0.length := by omega
        rw [hnl] at HM
        rw [hr.out] at HM
        clear hk hle p380 hnl q380
        go_wp2
        go_ret
        exact ⟨gm, by first | rfl | (simp; done), HM.out, HB.out⟩
end Go.Proofs.YtkbclcecmcdlfaaDoor.PD
