/- The index of a name, the chain of a class, and what the functions over them answer. -/
import Derived.Test.YtkbclcecmcdlfaaDoorD7
import Derived.Test.YtkbclcecmcdlfaaDoorD12
import Derived.Laws.StructEq
namespace Go.Proofs.YtkbclcecmcdlfaaDoor.Pu
set_option linter.unusedVariables false
set_option linter.unusedSimpArgs false
open Go.RowKit Go.Proofs.YtkbclcecmcdlfaaDoor.PD Go.Proofs.YtkbclcecmcdlfaaDoorW.PrintWords Go.Proofs.YtkbclcecmcdlfaaDoorW.PrintLast Go.Proofs.YtkbclcecmcdlfaaDoorW.PrintMore
section
variable {α β : Type} {c : Prop} [Decidable c] {f g : Nat → Option α} {r : α}
theorem Ev_pos (h : c) (k : Ev f r) : Ev (fun n => if c then f n else g n) r := Ev.congr (fun _ => if_pos h) k
theorem Ev_neg (h : ¬ c) (k : Ev g r) : Ev (fun n => if c then f n else g n) r := Ev.congr (fun _ => if_neg h) k
theorem Ev_bindc {o : Option β} {a : β} {f : Nat → β → Option α} (h : o = some a) (k : Ev (fun n => f n a) r) : Ev (fun n => o.bind (f n)) r := Ev.congr (fun _ => by rw [h]; rfl) k
/-- It answers, and the answer has P. -/
def Tot (g : Nat → Option α) (P : α → Prop) : Prop := ∃ r, Ev g r ∧ P r
theorem Tot.now {P : α → Prop} {v : α} (h : P v) : Tot (fun _ => some v) P := ⟨v, Ev.now v, h⟩
theorem Tot.ite {P : α → Prop} (h1 : c → Tot f P) (h2 : ¬ c → Tot g P) : Tot (fun n => if c then f n else g n) P := by
  by_cases h : c
  · obtain ⟨r, hr, hp⟩ := h1 h
    exact ⟨r, Ev_pos h hr, hp⟩
  · obtain ⟨r, hr, hp⟩ := h2 h
    exact ⟨r, Ev_neg h hr, hp⟩
theorem Tot.pos {P : α → Prop} (h : c) (k : Tot f P) : Tot (fun n => if c then f n else g n) P := Tot.ite (fun _ => k) (fun h' => absurd h h')
theorem Tot.neg {P : α → Prop} (h : ¬ c) (k : Tot g P) : Tot (fun n => if c then f n else g n) P := Tot.ite (fun h' => absurd h' h) (fun _ => k)
theorem Tot.bind {P : α → Prop} {Q : β → Prop} {o : Nat → Option β} {F : Nat → β → Option α} (h : Tot o Q) (k : ∀ a, Q a → Tot (fun n => F n a) P) : Tot (fun n => (o n).bind (F n)) P := by
  obtain ⟨a, ha, hq⟩ := h
  obtain ⟨r, hr, hp⟩ := k a hq
  exact ⟨r, Ev.bind ha hr, hp⟩
theorem Tot.bindE {P : α → Prop} {o : Nat → Option β} {a : β} {F : Nat → β → Option α} (h : Ev o a) (k : Tot (fun n => F n a) P) : Tot (fun n => (o n).bind (F n)) P := by
  obtain ⟨r, hr, hp⟩ := k
  exact ⟨r, Ev.bind h hr, hp⟩
theorem Tot.bindc {P : α → Prop} {o : Option β} {a : β} {F : Nat → β → Option α} (h : o = some a) (k : Tot (fun n => F n a) P) : Tot (fun n => o.bind (F n)) P := by
  obtain ⟨r, hr, hp⟩ := k
  exact ⟨r, Ev.congr (fun _ => by rw [h]; rfl) hr, hp⟩
theorem Tot.step {P : α → Prop} {F : Nat → Option α} (h : ∀ k, F (k + 1) = f k) (k : Tot f P) : Tot F P := by
  obtain ⟨r, hr, hp⟩ := k
  exact ⟨r, Ev.step h hr, hp⟩
theorem Tot.imp {P Q : α → Prop} (h : Tot f P) (hq : ∀ a, P a → Q a) : Tot f Q := by
  obtain ⟨r, hr, hp⟩ := h
  exact ⟨r, hr, hq r hp⟩
end
theorem w64n (n : Nat) (h : n < 9223372036854775807) : wrap64 ((n : Int) + 1) = ((n + 1 : Nat) : Int) := by unfold wrap64; omega
theorem w64m (n : Nat) (h : n < 9223372036854775807) (h0 : 0 < n) : wrap64 ((n : Int) - 1) = ((n - 1 : Nat) : Int) := by unfold wrap64; omega
theorem up_ (len : Nat) (P : Nat → Prop) (hend : P len) (hstep : ∀ n, n < len → P (n + 1) → P n) : ∀ n, n ≤ len → P n := by
  intro n hn
  obtain ⟨d, hd⟩ : ∃ d, len = n + d := ⟨len - n, by omega⟩
  induction d generalizing n with
  | zero => have : n = len := by omega
            rw [this]; exact hend
  | succ d ih => exact hstep n (by omega) (ih (n + 1) (by omega) (by omega))
theorem tl_inj {a b : ByteArray} : a.toList = b.toList ↔ a = b := by
  constructor
  · intro h
    rw [ByteArray.toList_eq, ByteArray.toList_eq] at h
    cases a; cases b
    exact congrArg ByteArray.mk (Array.toList_inj.1 h)
  · rintro rfl; rfl
theorem beq_ba {a b : ByteArray} : (a == b) = true ↔ a = b := by
  rw [beq_toListBytes]
  simp [tl_inj]
theorem beq_self_ba (a : ByteArray) : (a == a) = true := beq_ba.2 rfl
theorem beq_ne_ba {a b : ByteArray} (h : a ≠ b) : (a == b) = false := by
  cases e : a == b with
  | false => rfl
  | true => exact absurd (beq_ba.1 e) h
instance decBA : DecidableEq ByteArray := fun a b => decidable_of_iff (a.toList = b.toList) tl_inj
instance lawBA : LawfulBEq ByteArray := { eq_of_beq := beq_ba.1, rfl := beq_self_ba _ }
theorem drop_at {α : Type} (z : α) (l : List α) (n : Nat) (h : n < l.length) : l.drop n = l.getD n z :: l.drop (n + 1) := by
  rw [List.drop_eq_getElem_cons h]
  congr 1
  simp [List.getD, List.getElem?_eq_getElem h]
theorem getD_mem {α : Type} (z : α) (l : List α) (n : Nat) (h : n < l.length) : l.getD n z ∈ l := by
  rw [List.getD_eq_getElem?_getD, List.getElem?_eq_getElem h]; exact List.getElem_mem h
/-- As many as there are places. -/
theorem pig : ∀ (n : Nat) (l : List Nat), l.Nodup → (∀ x ∈ l, x < n) → l.length ≤ n
  | 0, l, _, h => by
    cases l with
    | nil => simp
    | cons a r => exact absurd (h a List.mem_cons_self) (by omega)
  | n + 1, l, hd, h => by
    by_cases hm : n ∈ l
    · have h1 := pig n (l.erase n) (hd.erase n) (fun x hx => by
        have h2 := (List.Nodup.mem_erase_iff hd).1 hx
        have h3 := h x h2.2
        have h4 := h2.1
        omega)
      rw [List.length_erase_of_mem hm] at h1
      omega
    · have h1 := pig n l hd (fun x hx => by
        have h3 := h x hx
        have : x ≠ n := fun e => hm (e ▸ hx)
        omega)
      omega

/-! ### Membership loops -/
theorem idxI_l0 (l : List Int) (hl : l.length < 4611686018427387904) (x : Int) : ∀ n, n ≤ l.length → Tot (fun k => slices_Index_int_int.l0 k l x (l.length : Int) (n : Int)) (fun r => (r ≥ 0 ↔ x ∈ l.drop n)) := by
  refine up_ l.length _ ?_ ?_
  · exact Tot.step (fun k => by rw [slices_Index_int_int.l0]) (Tot.neg (by omega) (Tot.now (by simp)))
  · intro n hn ih
    rw [← w64n n (by omega)] at ih
    refine Tot.step (fun k => by rw [slices_Index_int_int.l0]) (Tot.pos (by omega) (Tot.pos (by omega) (Tot.pos (by omega) (Tot.ite (fun h => Tot.now ?_) (fun h => ih.imp fun r hr => ?_)))))
    · rw [drop_at 0 l n hn]
      have h' : x = l.getD n 0 := by simpa [rd] using h
      simp [h']
    · rw [drop_at 0 l n hn, List.mem_cons, hr]
      have h' : x ≠ l.getD n 0 := fun e => h (by simpa [rd] using e)
      constructor
      · exact fun h => .inr h
      · exact fun h => h.resolve_left h'
theorem contI (l : List Int) (hl : l.length < 4611686018427387904) (x : Int) : Ev (fun k => slices_Contains_int_int.f k l x) (decide (x ∈ l)) := by
  obtain ⟨r, hr, hp⟩ := idxI_l0 l hl x 0 (Nat.zero_le _)
  have := Ev.bind (f := fun _ t => some (decide (t ≥ 0))) hr (Ev.now (decide (r ≥ 0)))
  rw [show decide (x ∈ l) = decide (r ≥ 0) by simp [hp]]
  exact this
theorem idxS_l0 (l : List ByteArray) (hl : l.length < 4611686018427387904) (x : ByteArray) : ∀ n, n ≤ l.length → Tot (fun k => slices_Index_string_string.l0 k l x (l.length : Int) (n : Int)) (fun r => (r ≥ 0 ↔ x ∈ l.drop n)) := by
  refine up_ l.length _ ?_ ?_
  · exact Tot.step (fun k => by rw [slices_Index_string_string.l0]) (Tot.neg (by omega) (Tot.now (by simp)))
  · intro n hn ih
    rw [← w64n n (by omega)] at ih
    have hx : rdOf ByteArray.empty l (n : Int) = l.getD n ByteArray.empty := by simp [rdOf]
    refine Tot.step (fun k => by rw [slices_Index_string_string.l0]) (Tot.pos (by omega) (Tot.pos (by omega) (Tot.pos (by omega) (Tot.ite (fun h => Tot.now ?_) (fun h => ih.imp fun r hr => ?_)))))
    · rw [drop_at ByteArray.empty l n hn]
      rw [hx, tl_inj] at h
      simp [h]
    · rw [drop_at ByteArray.empty l n hn, List.mem_cons, hr]
      rw [hx, tl_inj] at h
      constructor
      · exact fun h => .inr h
      · exact fun h' => h'.resolve_left h
theorem contS (l : List ByteArray) (hl : l.length < 4611686018427387904) (x : ByteArray) : Ev (fun k => slices_Contains_string_string.f k l x) (decide (x ∈ l)) := by
  obtain ⟨r, hr, hp⟩ := idxS_l0 l hl x 0 (Nat.zero_le _)
  have := Ev.bind (f := fun _ t => some (decide (t ≥ 0))) hr (Ev.now (decide (r ≥ 0)))
  rw [show decide (x ∈ l) = decide (r ≥ 0) by simp [hp]]
  exact this
theorem has_l0 (l : List ByteArray) (hl : l.length < 4611686018427387904) (x : ByteArray) : ∀ n, n ≤ l.length → Ev (fun k => dataflowlaw10_has.l0 k l x (n : Int)) (decide (x ∈ l.drop n)) := by
  refine up_ l.length _ ?_ ?_
  · refine Ev.step (fun k => by rw [dataflowlaw10_has.l0]) (Ev_neg (by omega) ?_)
    rw [show decide (x ∈ l.drop l.length) = false by simp]; exact Ev.now _
  · intro n hn ih
    rw [← w64n n (by omega)] at ih
    have hx : rdOf ByteArray.empty l (n : Int) = l.getD n ByteArray.empty := by simp [rdOf]
    refine Ev.step (fun k => by rw [dataflowlaw10_has.l0]) (Ev_pos (by omega) (Ev_pos (by omega) ?_))
    rw [drop_at ByteArray.empty l n hn]
    by_cases h : x = l.getD n ByteArray.empty
    · refine Ev_pos (by rw [hx, tl_inj]; exact h.symm) ?_
      rw [show decide (x ∈ l.getD n ByteArray.empty :: l.drop (n + 1)) = true by rw [h]; simp]; exact Ev.now _
    · refine Ev_neg (by rw [hx, tl_inj]; exact fun e => h e.symm) ?_
      rw [show decide (x ∈ l.getD n ByteArray.empty :: l.drop (n + 1)) = decide (x ∈ l.drop (n + 1)) by simp only [List.mem_cons, h, false_or]]
      exact ih
theorem has_ev (l : List ByteArray) (hl : l.length < 4611686018427387904) (x : ByteArray) : Ev (fun k => dataflowlaw10_has.f k l x) (decide (x ∈ l)) := has_l0 l hl x 0 (Nat.zero_le _)
theorem in_l0 (l : List ByteArray) (hl : l.length < 4611686018427387904) (x : ByteArray) : ∀ n, n ≤ l.length → Ev (fun k => dataflowref10_in.l0 k l x (n : Int)) (decide (x ∈ l.drop n)) := by
  refine up_ l.length _ ?_ ?_
  · refine Ev.step (fun k => by rw [dataflowref10_in.l0]) (Ev_neg (by omega) ?_)
    rw [show decide (x ∈ l.drop l.length) = false by simp]; exact Ev.now _
  · intro n hn ih
    rw [← w64n n (by omega)] at ih
    have hx : rdOf ByteArray.empty l (n : Int) = l.getD n ByteArray.empty := by simp [rdOf]
    refine Ev.step (fun k => by rw [dataflowref10_in.l0]) (Ev_pos (by omega) (Ev_pos (by omega) ?_))
    rw [drop_at ByteArray.empty l n hn]
    by_cases h : x = l.getD n ByteArray.empty
    · refine Ev_pos (by rw [hx, tl_inj]; exact h.symm) ?_
      rw [show decide (x ∈ l.getD n ByteArray.empty :: l.drop (n + 1)) = true by rw [h]; simp]; exact Ev.now _
    · refine Ev_neg (by rw [hx, tl_inj]; exact fun e => h e.symm) ?_
      rw [show decide (x ∈ l.getD n ByteArray.empty :: l.drop (n + 1)) = decide (x ∈ l.drop (n + 1)) by simp only [List.mem_cons, h, false_or]]
      exact ih
theorem in_ev (l : List ByteArray) (hl : l.length < 4611686018427387904) (x : ByteArray) : Ev (fun k => dataflowref10_in.f k l x) (decide (x ∈ l)) := in_l0 l hl x 0 (Nat.zero_le _)

/-! ### The index -/
section
variable (H : List S32)
def cl (i : Nat) : S32 := rd_T32 H (i : Int)
def fstN (s : ByteArray) : Nat → Option Nat
  | 0 => none
  | n + 1 => match fstN s n with
    | some j => some j
    | none => if (cl H n).f0 = s then some n else none
def idx (s : ByteArray) : Option Nat := fstN H s H.length
theorem fstN_some (s : ByteArray) : ∀ (n j : Nat), fstN H s n = some j → j < n ∧ (cl H j).f0 = s
  | 0, j, h => by simp [fstN] at h
  | n + 1, j, h => by
    unfold fstN at h
    cases hq : fstN H s n with
    | some q =>
      rw [hq] at h
      obtain rfl : q = j := by simpa using h
      have := fstN_some s n q hq
      exact ⟨by omega, this.2⟩
    | none =>
      rw [hq] at h
      by_cases he : (cl H n).f0 = s
      · simp only [he, if_true, Option.some.injEq] at h
        subst h
        exact ⟨by omega, he⟩
      · simp [he] at h
theorem fstN_none (s : ByteArray) : ∀ (n : Nat), fstN H s n = none → ∀ i, i < n → (cl H i).f0 ≠ s
  | 0, h, i, hi => by omega
  | n + 1, h, i, hi => by
    unfold fstN at h
    cases hq : fstN H s n with
    | some q => rw [hq] at h; simp at h
    | none =>
      rw [hq] at h
      by_cases he : (cl H n).f0 = s
      · simp [he] at h
      · rcases Nat.lt_or_ge i n with h1 | h1
        · exact fstN_none s n hq i h1
        · have : i = n := by omega
          rw [this]; exact he
theorem get_app (L : MapSI.Ents) (x s : ByteArray) (v : Int) : MapSI.get (L ++ [(x, v)]) s = (MapSI.get L s).or (if s = x then some v else none) := by
  unfold MapSI.get
  rw [List.find?_append]
  cases h : L.find? (fun p => s == p.1) with
  | some p => simp
  | none =>
    by_cases e : s = x
    · subst e
      rw [if_pos rfl]
      simp [beq_self_ba]
    · rw [if_neg e]
      simp [beq_ne_ba e]
theorem get_idxN : ∀ (n : Nat) (s : ByteArray), MapSI.get (idxN H n) s = (fstN H s n).map (fun (j : Nat) => (j : Int))
  | 0, s => rfl
  | n + 1, s => by
    have i1 := get_idxN n (cl H n).f0
    have i2 := get_idxN n s
    unfold idxN fstN
    rw [show (rd_T32 H (n : Int)).f0 = (cl H n).f0 from rfl]
    rw [i1]
    cases h1 : fstN H (cl H n).f0 n with
    | some q =>
      simp only [Option.map_some, Option.isSome_some, if_true]
      rw [i2]
      cases h2 : fstN H s n with
      | some j => rfl
      | none =>
        have : (cl H n).f0 ≠ s := by rintro rfl; rw [h1] at h2; cases h2
        simp [this]
    | none =>
      simp only [Option.map_none, Option.isSome_none, Bool.false_eq_true, if_false]
      rw [get_app, i2]
      cases h2 : fstN H s n with
      | some j => rfl
      | none =>
        by_cases e : (cl H n).f0 = s
        · simp [e]
        · have e' : s ≠ (cl H n).f0 := fun x => e x.symm
          simp [e, e']
def E : MapSI.Ents := idxN H H.length
theorem look_some {s : ByteArray} {j : Nat} (h : idx H s = some j) : look.f (E H) s = some ((j : Int), true) := by
  unfold look.f E
  rw [get_idxN]
  unfold idx at h
  rw [h]
  rfl
theorem look_none {s : ByteArray} (h : idx H s = none) : look.f (E H) s = some ((0 : Int), false) := by
  unfold look.f E
  rw [get_idxN]
  unfold idx at h
  rw [h]
  rfl
theorem idx_lt {s : ByteArray} {j : Nat} (h : idx H s = some j) : j < H.length := (fstN_some H s _ j h).1
theorem idx_nm {s : ByteArray} {j : Nat} (h : idx H s = some j) : (cl H j).f0 = s := (fstN_some H s _ j h).2
theorem index_ev (hN : H.length ≤ 64) : Ev (fun k => hier_index.f k H) (E H) := by
  have h : ∀ k, hier_index.f k H = some (E H) := fun k => by unfold hier_index.f E; rw [if_pos (by omega)]
  exact Ev.congr h (Ev.now _)

/-! ### The chain -/
def supi (i : Nat) : Option Nat := if (cl H i).f1.toList = [] then none else idx H (cl H i).f1
inductive CH : Nat → List Nat → Prop
  | last {i : Nat} (h : supi H i = none) : CH i [i]
  | more {i j : Nat} {l : List Nat} (h : supi H i = some j) (k : CH j l) : CH i (i :: l)
variable {H}
theorem CH.det {i : Nat} {l l' : List Nat} (h : CH H i l) (h' : CH H i l') : l = l' := by
  induction h generalizing l' with
  | last h =>
    cases h' with
    | last _ => rfl
    | more h2 _ => rw [h] at h2; cases h2
  | more h k ih =>
    cases h' with
    | last h2 => rw [h] at h2; cases h2
    | more h2 k2 =>
      rw [h] at h2
      obtain rfl := Option.some.inj h2
      rw [ih k2]
theorem CH.head {i : Nat} {l : List Nat} (h : CH H i l) : ∃ t, l = i :: t := by cases h <;> exact ⟨_, rfl⟩
theorem CH.mem {i : Nat} {l : List Nat} (h : CH H i l) : ∀ x ∈ l, ∃ p q, l = p ++ q ∧ CH H x q := by
  induction h with
  | last h =>
    intro x hx
    obtain rfl : x = _ := by simpa using hx
    exact ⟨[], _, rfl, .last h⟩
  | @more i j l h k ih =>
    intro x hx
    rcases List.mem_cons.1 hx with rfl | hx
    · exact ⟨[], _, rfl, .more h k⟩
    · obtain ⟨p, q, e, hq⟩ := ih x hx
      exact ⟨i :: p, q, by rw [e]; rfl, hq⟩
theorem CH.tail {i : Nat} {t : List Nat} (h : CH H i (i :: t)) : i ∉ t := by
  intro hm
  cases h with
  | last _ => simp at hm
  | more h k =>
    obtain ⟨p, q, e, hq⟩ := k.mem i hm
    have := hq.det (.more h k)
    have h1 := congrArg List.length e
    rw [this] at h1
    simp at h1
    omega
theorem CH.nodup {i : Nat} {l : List Nat} (h : CH H i l) : l.Nodup := by
  induction h with
  | last _ => simp
  | more h k ih => exact List.nodup_cons.2 ⟨(CH.more h k).tail, ih⟩
theorem supi_lt {i j : Nat} (h : supi H i = some j) : j < H.length := by
  unfold supi at h
  split at h
  · cases h
  · exact idx_lt H h
theorem CH.lt {i : Nat} {l : List Nat} (h : CH H i l) (hi : i < H.length) : ∀ x ∈ l, x < H.length := by
  induction h with
  | last _ => intro x hx; obtain rfl : x = _ := by simpa using hx
              exact hi
  | more h k ih =>
    intro x hx
    rcases List.mem_cons.1 hx with rfl | hx
    · exact hi
    · exact ih (supi_lt h) x hx
def ints (l : List Nat) : List Int := l.map fun (i : Nat) => (i : Int)
theorem mem_ints (l : List Nat) (i : Nat) : (i : Int) ∈ ints l ↔ i ∈ l := by
  unfold ints
  rw [List.mem_map]
  constructor
  · rintro ⟨a, ha, h⟩
    obtain rfl : a = i := by omega
    exact ha
  · exact fun h => ⟨i, h, rfl⟩
theorem ints_len (l : List Nat) : (ints l).length = l.length := by simp [ints]
theorem ints_app (l m : List Nat) : ints (l ++ m) = ints l ++ ints m := by simp [ints]
theorem chain_stop (v : List Int) (i : Int) (L : MapSI.Ents) : Ev (fun k => hier_chain.l0 k L v i false H) (v, false) :=
  Ev.step (fun k => by rw [hier_chain.l0]) (Ev_neg (by decide) (Ev.now _))
theorem chain_ev (hN : H.length ≤ 64) {i : Nat} {l : List Nat} (h : CH H i l) : ∀ v : List Nat, i < H.length → (∀ x ∈ l, x ∉ v) → v.length + l.length < 4096 → Ev (fun k => hier_chain.l0 k (E H) (ints v) (i : Int) true H) (ints (v ++ l), false) := by
  induction h with
  | @last i h =>
    intro v hi hd hl
    simp at hl
    refine Ev.step (fun k => by rw [hier_chain.l0]) ?_
    refine Ev_pos rfl (Ev.bind (contI _ (by rw [ints_len]; omega) _) ?_)
    refine Ev_neg (by rw [decide_eq_true_eq, mem_ints]; exact hd i (by simp)) ?_
    refine Ev_pos (by rw [ints_len]; omega) ?_
    refine Ev_bindc rfl ?_
    refine Ev_pos (by omega) (Ev_pos (by omega) ?_)
    · unfold supi at h
      by_cases hs : (cl H i).f1.toList = []
      · refine Ev_pos hs ?_
        rw [show ints (v ++ [i]) = ints v ++ [(i : Int)] from ints_app v [i]]
        exact Ev.now _
      · rw [if_neg hs] at h
        refine Ev_neg hs (Ev_bindc (look_none H h) ?_)
        rw [show ints (v ++ [i]) = ints v ++ [(i : Int)] from ints_app v [i]]
        exact chain_stop _ _ _
  | @more i j l h k ih =>
    intro v hi hd hl
    simp at hl
    have h0 := h
    unfold supi at h
    by_cases hs : (cl H i).f1.toList = []
    · rw [if_pos hs] at h; cases h
    · rw [if_neg hs] at h
      have hr := ih (v ++ [i]) (idx_lt H h) (fun x hx hm => by
        rcases List.mem_append.1 hm with hm | hm
        · exact hd x (List.mem_cons_of_mem _ hx) hm
        · obtain rfl : x = i := by simpa using hm
          exact (CH.more h0 k).tail hx) (by simp; omega)
      refine Ev.step (fun k => by rw [hier_chain.l0]) ?_
      refine Ev_pos rfl (Ev.bind (contI _ (by rw [ints_len]; omega) _) ?_)
      refine Ev_neg (by rw [decide_eq_true_eq, mem_ints]; exact hd i (by simp)) ?_
      refine Ev_pos (by rw [ints_len]; omega) ?_
      refine Ev_bindc rfl ?_
      refine Ev_pos (by omega) (Ev_pos (by omega) ?_)
      refine Ev_neg hs (Ev_bindc (look_some H h) ?_)
      rw [List.append_assoc] at hr
      rw [ints_app v [i]] at hr
      exact hr
theorem CH.len {i : Nat} {l : List Nat} (h : CH H i l) (hi : i < H.length) : l.length ≤ H.length := pig _ _ h.nodup (h.lt hi)
theorem chain_f (hN : H.length ≤ 64) {s : ByteArray} {i : Nat} {l : List Nat} (hs : idx H s = some i) (h : CH H i l) : Ev (fun k => hier_chain.f k H (E H) s) (ints l, false) := by
  have hi := idx_lt H hs
  have hl := h.len hi
  exact Ev_bindc (look_some H hs) (chain_ev hN h [] hi (fun _ _ => by simp) (by simp; omega))
theorem chain_none {s : ByteArray} (hs : idx H s = none) : Ev (fun k => hier_chain.f k H (E H) s) ([], false) := Ev_bindc (look_none H hs) (chain_stop _ _ _)
/-- It ends at all, and where it says no cycle it is the chain. -/
theorem chain_tot (hN : H.length ≤ 64) : ∀ (d : Nat) (v : List Nat) (i : Nat), v.length + d = H.length → v.Nodup → (∀ x ∈ v, x < H.length) → i < H.length → Tot (fun k => hier_chain.l0 k (E H) (ints v) (i : Int) true H) (fun r => r.2 = false → ∃ l, CH H i l ∧ r.1 = ints (v ++ l)) := by
  intro d
  induction d with
  | zero =>
    intro v i hd hn hv hi
    refine Tot.step (fun k => by rw [hier_chain.l0]) ?_
    refine Tot.pos rfl (Tot.bindE (contI _ (by rw [ints_len]; omega) _) ?_)
    refine Tot.pos ?_ (Tot.now (fun h => by cases h))
    rw [decide_eq_true_eq, mem_ints]
    by_cases hm : i ∈ v
    · exact hm
    · have := pig H.length (i :: v) (List.nodup_cons.2 ⟨hm, hn⟩) (fun x hx => by
        rcases List.mem_cons.1 hx with rfl | hx
        · exact hi
        · exact hv x hx)
      simp at this
      omega
  | succ d ih =>
    intro v i hd hn hv hi
    refine Tot.step (fun k => by rw [hier_chain.l0]) ?_
    refine Tot.pos rfl (Tot.bindE (contI _ (by rw [ints_len]; omega) _) ?_)
    refine Tot.ite (fun _ => Tot.now (fun h => by cases h)) (fun hm => ?_)
    refine Tot.pos (by rw [ints_len]; omega) ?_
    refine Tot.bindc rfl ?_
    refine Tot.pos (by omega) (Tot.pos (by omega) ?_)
    rw [decide_eq_true_eq, mem_ints] at hm
    refine Tot.ite (fun hs => Tot.now fun _ => ⟨[i], .last (by unfold supi; exact if_pos hs), (ints_app v [i]).symm⟩) (fun hs => ?_)
    have hs' : ¬ (cl H i).f1.toList = [] := hs
    cases hx : idx H (cl H i).f1 with
    | none =>
      refine Tot.bindc (look_none H hx) ⟨_, chain_stop _ _ _, fun _ => ⟨[i], .last (by unfold supi; rw [if_neg hs']; exact hx), (ints_app v [i]).symm⟩⟩
    | some j =>
      refine Tot.bindc (look_some H hx) ?_
      have hr := ih (v ++ [i]) j (by simp; omega) (by
        rw [List.nodup_append]
        refine ⟨hn, by simp, fun a ha b hb e => ?_⟩
        obtain rfl : b = i := by simpa using hb
        exact hm (e ▸ ha)) (fun x hx => by
        rcases List.mem_append.1 hx with hx | hx
        · exact hv x hx
        · obtain rfl : x = i := by simpa using hx
          exact hi) (idx_lt H hx)
      rw [ints_app v [i]] at hr
      refine hr.imp fun r hq h0 => ?_
      obtain ⟨l, hl, e⟩ := hq h0
      exact ⟨i :: l, .more (by unfold supi; rw [if_neg hs']; exact hx) hl, by rw [e, List.append_assoc]; rfl⟩
theorem chain_ftot (hN : H.length ≤ 64) {s : ByteArray} {i : Nat} (hs : idx H s = some i) : Tot (fun k => hier_chain.f k H (E H) s) (fun r => r.2 = false → ∃ l, CH H i l ∧ r.1 = ints l) :=
  Tot.bindc (look_some H hs) ((chain_tot hN H.length [] i (by simp) (by simp) (by simp) (idx_lt H hs)).imp fun r h => h)
end
end Go.Proofs.YtkbclcecmcdlfaaDoor.Pu
