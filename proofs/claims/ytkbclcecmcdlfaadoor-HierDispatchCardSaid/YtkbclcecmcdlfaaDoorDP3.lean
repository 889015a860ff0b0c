/- hier.Check answers for every hierarchy; where it answers OK, the hierarchy is as the chapter says. -/
import Derived.Test.YtkbclcecmcdlfaaDoorDP2
import Derived.Test.YtkbclcecmcdlfaaDoorD6
namespace Go.Proofs.YtkbclcecmcdlfaaDoor.Pu
set_option linter.unusedVariables false
set_option linter.unusedSimpArgs false
open Go.RowKit Go.Proofs.YtkbclcecmcdlfaaDoor.PD Go.Proofs.YtkbclcecmcdlfaaDoorW.PrintWords Go.Proofs.YtkbclcecmcdlfaaDoorW.PrintLast Go.Proofs.YtkbclcecmcdlfaaDoorW.PrintMore
theorem letter_some (a : Int) : ∃ t, lex_isLetter.f a = some t := by
  unfold lex_isLetter.f
  repeat' split
  all_goals exact ⟨_, rfl⟩
theorem digit_some (a : Int) : ∃ t, lex_isDigit.f a = some t := by
  unfold lex_isDigit.f
  repeat' split
  all_goals exact ⟨_, rfl⟩
theorem word_tot (s : ByteArray) (hs : s.size ≤ 32) : ∀ n, n ≤ s.size → Tot (fun k => lex_wordEnd.l0 k s (n : Int)) (fun _ => True) := by
  refine up_ s.size _ ?_ ?_
  · exact Tot.step (fun k => by rw [lex_wordEnd.l0]) (Tot.neg (by omega) (Tot.now trivial))
  · intro n hn ih
    rw [← w64n n (by omega)] at ih
    obtain ⟨t1, h1⟩ := letter_some (bt s (n : Int))
    obtain ⟨t2, h2⟩ := digit_some (bt s (n : Int))
    refine Tot.step (fun k => by rw [lex_wordEnd.l0]) (Tot.pos (by omega) (Tot.pos (by omega) ?_))
    refine Tot.bindc h1 (Tot.ite (fun _ => ih) (fun _ => ?_))
    refine Tot.bindc h2 (Tot.ite (fun _ => ih) (fun _ => ?_))
    exact Tot.ite (fun _ => ih) (fun _ => Tot.now trivial)
theorem ident_tot (s : ByteArray) : Tot (fun k => lex_Ident.f k s) (fun r => r = true → s.toList ≠ []) := by
  refine Tot.ite (fun _ => Tot.now (by simp)) (fun h0 => ?_)
  refine Tot.ite (fun h1 => ?_) (fun _ => Tot.now (by simp))
  refine Tot.ite (fun h2 => ?_) (fun h2 => ?_)
  · obtain ⟨t1, ht⟩ := letter_some (bt s 0)
    refine Tot.bindc ht (Tot.ite (fun _ => ?_) (fun _ => Tot.now (by simp)))
    refine Tot.bind (Q := fun _ => True) (word_tot s (by omega) 0 (Nat.zero_le _)) (fun t _ => ?_)
    refine Tot.ite (fun _ => ?_) (fun _ => Tot.now (by simp))
    refine Tot.bindc (show lex_Keyword.f s = some _ from rfl) (Tot.now (fun _ => h0))
  · exfalso
    apply h0
    rw [ByteArray.toList_eq]
    have : s.data.size = 0 := by
      have : s.size = s.data.size := rfl
      omega
    exact Array.toList_eq_nil_iff.2 (Array.size_eq_zero_iff.1 this)
theorem anyO_gen {α : Type} {p : α → Option Bool} (q : α → Bool) : ∀ l : List α, (∀ x ∈ l, p x = some (q x)) → anyO p l = some (l.any q)
  | [], _ => rfl
  | x :: r, h => by
    have ih := anyO_gen q r (fun y hy => h y (List.mem_cons_of_mem _ hy))
    show (p x).bind _ = _
    rw [h x List.mem_cons_self]
    simp only [Option.bind_some, List.any_cons]
    cases q x with
    | true => rfl
    | false => simpa using ih
theorem anyO_tot {α : Type} {p : α → Option Bool} : ∀ l : List α, (∀ x ∈ l, ∃ b, p x = some b) → ∃ b, anyO p l = some b
  | [], _ => ⟨_, rfl⟩
  | x :: r, h => by
    obtain ⟨b, ih⟩ := anyO_tot r (fun y hy => h y (List.mem_cons_of_mem _ hy))
    obtain ⟨c, hc⟩ := h x List.mem_cons_self
    show ∃ b, (p x).bind _ = _
    rw [hc]
    simp only [Option.bind_some]
    cases c with
    | true => exact ⟨true, rfl⟩
    | false => exact ⟨b, by simpa using ih⟩
theorem anyF_f (l : List S67) (hl : l.length < 4611686018427387904) (s : ByteArray) (k : Nat) : anyF.f k l s = some (l.any fun g => decide (g.f0 = s)) := by
  unfold anyF.f
  rw [if_pos hl]
  refine anyO_gen _ l (fun x _ => ?_)
  unfold p45
  congr 1
  rw [Bool.eq_iff_iff, beq_iff_eq, tl_inj, decide_eq_true_eq]
theorem anyS_f (l : List S37) (hl : l.length < 4611686018427387904) (s : ByteArray) (k : Nat) : anyS.f k l s = some (l.any fun g => decide (g.f0 = s)) := by
  unfold anyS.f
  rw [if_pos hl]
  refine anyO_gen _ l (fun x _ => ?_)
  unfold p50
  congr 1
  rw [Bool.eq_iff_iff, beq_iff_eq, tl_inj, decide_eq_true_eq]
theorem equal_l0 (a b : List ByteArray) (ha : a.length < 4611686018427387904) (hab : a.length = b.length) : ∀ n, n ≤ a.length → Ev (fun k => slices_Equal_string_string.l0 k a b (a.length : Int) (n : Int)) (decide (a.drop n = b.drop n)) := by
  refine up_ a.length _ ?_ ?_
  · refine Ev.step (fun k => by rw [slices_Equal_string_string.l0]) (Ev_neg (by omega) ?_)
    rw [show decide (a.drop a.length = b.drop a.length) = true by rw [decide_eq_true_eq, List.drop_length, hab, List.drop_length]]
    exact Ev.now _
  · intro n hn ih
    rw [← w64n n (by omega)] at ih
    have hx : rdOf ByteArray.empty a (n : Int) = a.getD n ByteArray.empty := by simp [rdOf]
    have hy : rdOf ByteArray.empty b (n : Int) = b.getD n ByteArray.empty := by simp [rdOf]
    refine Ev.step (fun k => by rw [slices_Equal_string_string.l0]) (Ev_pos (by omega) (Ev_pos (by omega) (Ev_pos (by omega) (Ev_pos (by omega) ?_))))
    rw [drop_at ByteArray.empty a n hn, drop_at ByteArray.empty b n (by omega)]
    by_cases h : a.getD n ByteArray.empty = b.getD n ByteArray.empty
    · refine Ev_pos (by rw [hx, hy, tl_inj]; exact h) ?_
      rw [show decide (a.getD n ByteArray.empty :: a.drop (n + 1) = b.getD n ByteArray.empty :: b.drop (n + 1)) = decide (a.drop (n + 1) = b.drop (n + 1)) by rw [h]; simp]
      exact ih
    · refine Ev_neg (by rw [hx, hy, tl_inj]; exact h) ?_
      rw [show decide (a.getD n ByteArray.empty :: a.drop (n + 1) = b.getD n ByteArray.empty :: b.drop (n + 1)) = false by rw [decide_eq_false_iff_not]; intro e; injection e with e1; exact h e1]
      exact Ev.now _
theorem equal_ev (a b : List ByteArray) (ha : a.length < 4611686018427387904) : Ev (fun k => slices_Equal_string_string.f k a b) (decide (a = b)) := by
  by_cases h : a.length = b.length
  · exact Ev_pos (by omega) (equal_l0 a b ha h 0 (Nat.zero_le _))
  · refine Ev_neg (by omega) ?_
    rw [show decide (a = b) = false by rw [decide_eq_false_iff_not]; rintro rfl; exact h rfl]
    exact Ev.now _
section
variable {H : List S32}
structure Sized (H : List S32) : Prop where
  fld : ∀ i, i < H.length → (cl H i).f2.length < 4611686018427387904
  mth : ∀ i, i < H.length → (cl H i).f3.length < 4611686018427387904
  prm : ∀ i, i < H.length → ∀ s ∈ (cl H i).f3, s.f2.length < 8796093022208
theorem isType_f (H : List S32) (s : ByteArray) : ∃ t, hier_checker_isType.f H (E H) s = some t := by
  unfold hier_checker_isType.f
  cases h : idx H s with
  | none => rw [look_none H h]; exact ⟨_, rfl⟩
  | some j => rw [look_some H h]; exact ⟨_, rfl⟩
theorem anyI_ev (S : Sized H) (t : List Nat) (ht : t.length ≤ 64) (hlt : ∀ x ∈ t, x < H.length) (s : ByteArray) : Ev (fun k => anyI.f k (ints t) H s) (t.any fun j => (cl H j).f2.any fun g => decide (g.f0 = s)) := by
  have h : ∀ k, anyI.f k (ints t) H s = some (t.any fun j => (cl H j).f2.any fun g => decide (g.f0 = s)) := by
    intro k
    unfold anyI.f
    rw [if_pos (by rw [ints_len]; omega)]
    refine anyO_map _ t (fun x hx => ?_)
    have := hlt x hx
    unfold p48
    rw [if_pos (by omega), if_pos (by omega)]
    exact anyF_f _ (S.fld x this) s 0
  exact Ev.congr h (Ev.now _)
/-- No field of class i bears the name of one further up. -/
def FldOk (H : List S32) (i : Nat) (t : List Nat) : Prop := ∀ f ∈ (cl H i).f2, ∀ j ∈ t, ∀ g ∈ (cl H j).f2, g.f0 ≠ f.f0
def Cmp (s0 : ByteArray) (s1 : Bool) (s2 : List ByteArray) (s3 : ByteArray) (o : S37) : Prop := o.f0 = s0 → o.f1 = false ∧ s1 = false ∧ o.f3 = s3 ∧ o.f2 = s2
/-- Methods of class i agree with those of the same name further up. -/
def MthOk (H : List S32) (i : Nat) (t : List Nat) : Prop := ∀ s ∈ (cl H i).f3, ∀ j ∈ t, ∀ o ∈ (cl H j).f3, Cmp s.f0 s.f1 s.f2 s.f3 o
theorem field_tot (S : Sized H) (bef : List S67) (hb : bef.length < 4611686018427387904) (f : S67) (t : List Nat) (ht : t.length ≤ 64) (hlt : ∀ x ∈ t, x < H.length) : Tot (fun k => hier_checker_field.f k H (E H) bef f.f0 f.f1 (ints t)) (fun r => r = 0 → ∀ j ∈ t, ∀ g ∈ (cl H j).f2, g.f0 ≠ f.f0) := by
  refine Tot.bind (ident_tot f.f0) (fun a _ => Tot.ite (fun _ => ?_) (fun _ => Tot.now (fun h => absurd h (by decide))))
  obtain ⟨b, hb2⟩ := isType_f H f.f1
  refine Tot.bindc hb2 (Tot.ite (fun _ => ?_) (fun _ => Tot.now (fun h => absurd h (by decide))))
  refine Tot.bindE (Ev.congr (fun k => anyF_f bef hb f.f0 k) (Ev.now _)) ?_
  refine Tot.ite (fun _ => Tot.now (fun h => absurd h (by decide))) (fun _ => ?_)
  refine Tot.bindE (anyI_ev S t ht hlt f.f0) ?_
  refine Tot.ite (fun _ => Tot.now (fun h => absurd h (by decide))) (fun h => Tot.now (fun _ j hj g hg e => h ?_))
  rw [List.any_eq_true]
  exact ⟨j, hj, by rw [List.any_eq_true]; exact ⟨g, hg, decide_eq_true e⟩⟩
theorem method_l1 (S : Sized H) (t : List Nat) (ht : t.length ≤ 64) (s0 : ByteArray) (s1 : Bool) (s2 : List ByteArray) (s3 : ByteArray) (hs2 : s2.length < 4611686018427387904) (m : Int) (j : Nat) (hj : j < H.length) (Q : Prop)
    (hnext : Tot (fun k => hier_checker_method.l0 k (ints t) ((ints t).length : Int) m H (E H) s0 s1 s2 s3) (fun r => r = 0 → Q)) (x46 : Int) (hm : wrap64 (x46 + 1) = m) :
    ∀ n, n ≤ (cl H j).f3.length → Tot (fun k => hier_checker_method.l1 k (ints t) ((ints t).length : Int) x46 (cl H j).f3 ((cl H j).f3.length : Int) (n : Int) H (E H) s0 s1 s2 s3) (fun r => r = 0 → Q ∧ ∀ o ∈ (cl H j).f3.drop n, Cmp s0 s1 s2 s3 o) := by
  have hl := S.mth j hj
  have hp := S.prm j hj
  generalize (cl H j).f3 = ms at hl hp ⊢
  refine up_ ms.length _ ?_ ?_
  · refine Tot.step (fun k => by rw [hier_checker_method.l1]) (Tot.neg (by omega) ?_)
    rw [hm]
    exact hnext.imp (fun r h h0 => ⟨h h0, by simp⟩)
  · intro n hn ih
    rw [← w64n n (by omega)] at ih
    have hx : rd_T37 ms (n : Int) = ms.getD n z37 := by simp [rd_T37]
    have hmem := getD_mem z37 ms n hn
    refine Tot.step (fun k => by rw [hier_checker_method.l1]) ?_
    rw [hx, drop_at z37 ms n hn]
    have h11 : ∀ r : Int, r = 11 → (r = 0 → Q ∧ ∀ o ∈ ms.getD n z37 :: ms.drop (n + 1), Cmp s0 s1 s2 s3 o) := fun r h h0 => by omega
    have go : Cmp s0 s1 s2 s3 (ms.getD n z37) → Tot (fun k => hier_checker_method.l1 k (ints t) ((ints t).length : Int) x46 ms (ms.length : Int) (wrap64 ((n : Int) + 1)) H (E H) s0 s1 s2 s3) (fun r => r = 0 → Q ∧ ∀ o ∈ ms.getD n z37 :: ms.drop (n + 1), Cmp s0 s1 s2 s3 o) := fun hc =>
      ih.imp (fun r h h0 => ⟨(h h0).1, fun o ho => by
        rcases List.mem_cons.1 ho with rfl | ho
        · exact hc
        · exact (h h0).2 o ho⟩)
    refine Tot.pos (by omega) (Tot.pos (by omega) (Tot.pos (by omega) ?_))
    refine Tot.ite (fun h0 => ?_) (fun h0 => go (fun e => absurd (tl_inj.2 e) h0))
    refine Tot.ite (fun _ => Tot.now (h11 _ rfl)) (fun h1 => ?_)
    refine Tot.ite (fun _ => Tot.now (h11 _ rfl)) (fun h2 => ?_)
    refine Tot.ite (fun h3 => ?_) (fun _ => Tot.now (h11 _ rfl))
    refine Tot.bindE (equal_ev _ _ (by have := hp _ hmem; omega)) ?_
    refine Tot.ite (fun h4 => go (fun _ => ⟨Bool.eq_false_iff.2 h1, Bool.eq_false_iff.2 h2, tl_inj.1 h3, of_decide_eq_true h4⟩)) (fun _ => Tot.now (h11 _ rfl))
theorem method_l0 (S : Sized H) (t : List Nat) (ht : t.length ≤ 64) (hlt : ∀ x ∈ t, x < H.length) (s0 : ByteArray) (s1 : Bool) (s2 : List ByteArray) (s3 : ByteArray) (hs2 : s2.length < 4611686018427387904) :
    ∀ m, m ≤ t.length → Tot (fun k => hier_checker_method.l0 k (ints t) ((ints t).length : Int) (m : Int) H (E H) s0 s1 s2 s3) (fun r => r = 0 → ∀ j ∈ t.drop m, ∀ o ∈ (cl H j).f3, Cmp s0 s1 s2 s3 o) := by
  refine up_ t.length _ ?_ ?_
  · exact Tot.step (fun k => by rw [hier_checker_method.l0]) (Tot.neg (by rw [ints_len]; omega) (Tot.now (by simp)))
  · intro m hm ih
    have hj := hlt _ (getD_mem 0 t m hm)
    have h1 := method_l1 S t ht s0 s1 s2 s3 hs2 _ (t.getD m 0) hj _ ih (m : Int) (w64n m (by omega)) 0 (Nat.zero_le _)
    refine Tot.step (fun k => by rw [hier_checker_method.l0]) ?_
    rw [rd_ints t m hm]
    refine Tot.pos (by rw [ints_len]; omega) (Tot.pos (by omega) (Tot.pos (by rw [ints_len]; omega) (Tot.pos (by omega) (Tot.pos (by omega) ?_))))
    refine h1.imp (fun r h h0 j hj2 => ?_)
    rw [drop_at 0 t m hm] at hj2
    rcases List.mem_cons.1 hj2 with rfl | hj2
    · exact (h h0).2
    · exact (h h0).1 j hj2
theorem method_tot (S : Sized H) (bef : List S37) (hb : bef.length < 4611686018427387904) (s : S37) (hs : s.f2.length < 8796093022208) (t : List Nat) (ht : t.length ≤ 64) (hlt : ∀ x ∈ t, x < H.length) :
    Tot (fun k => hier_checker_method.f k H (E H) bef s.f0 s.f1 s.f2 s.f3 (ints t)) (fun r => r = 0 → ∀ j ∈ t, ∀ o ∈ (cl H j).f3, Cmp s.f0 s.f1 s.f2 s.f3 o) := by
  have hn : ∀ {r c : Int} {Q : Prop}, c ≠ 0 → r = c → (r = 0 → Q) := fun h e h0 => absurd (e ▸ h0) h
  refine Tot.bind (ident_tot s.f0) (fun a _ => Tot.ite (fun _ => ?_) (fun _ => Tot.now (hn (by decide) rfl)))
  refine Tot.bindE (Ev.congr (fun k => anyS_f bef hb s.f0 k) (Ev.now _)) ?_
  refine Tot.ite (fun _ => Tot.now (hn (by decide) rfl)) (fun _ => ?_)
  refine Tot.ite (fun _ => Tot.now (hn (by decide) rfl)) (fun h6 => ?_)
  obtain ⟨b, hb2⟩ := anyO_tot (p := p52 H (E H)) s.f2 (fun x _ => by
    obtain ⟨u, hu⟩ := isType_f H x
    exact ⟨!u, by unfold p52; rw [hu]; rfl⟩)
  have hT : ∀ k, anyT.f k s.f2 H (E H) = some b := fun k => by unfold anyT.f; rw [if_pos (by omega)]; exact hb2
  refine Tot.bindE (Ev.congr hT (Ev.now _)) ?_
  refine Tot.ite (fun _ => Tot.now (hn (by decide) rfl)) (fun _ => ?_)
  have j0 : Tot (fun k => hier_checker_method.j0 k (ints t) H (E H) s.f0 s.f1 s.f2 s.f3) (fun r => r = 0 → ∀ j ∈ t, ∀ o ∈ (cl H j).f3, Cmp s.f0 s.f1 s.f2 s.f3 o) :=
    by
      refine Tot.step (fun k => by rw [hier_checker_method.j0]) ?_
      exact method_l0 S t ht hlt s.f0 s.f1 s.f2 s.f3 (by omega) 0 (Nat.zero_le _)
  refine Tot.ite (fun _ => j0) (fun _ => ?_)
  obtain ⟨u, hu⟩ := isType_f H s.f3
  exact Tot.bindc hu (Tot.ite (fun _ => j0) (fun _ => Tot.now (hn (by decide) rfl)))
/-- What the check asks of class i. -/
structure Okc (H : List S32) (i : Nat) : Prop where
  name : (nm H i).toList ≠ []
  own : idx H (nm H i) = some i
  sup : (cl H i).f1.toList = [] ∨ ∃ j, idx H (cl H i).f1 = some j
  ch : ∃ t, CH H i (i :: t) ∧ FldOk H i t ∧ MthOk H i t
theorem class_l1 (S : Sized H) (hN : H.length ≤ 64) (i : Nat) (hi : i < H.length) (t : List Nat) (ht : t.length ≤ 64) (hlt : ∀ x ∈ t, x < H.length) (h16 : (cl H i).f3.length ≤ 16) :
    ∀ n, n ≤ (cl H i).f3.length → Tot (fun k => hier_checker_class.l1 k (ints (i :: t)) (cl H i).f3 ((cl H i).f3.length : Int) (n : Int) H (E H) (cl H i).f0 (cl H i).f1 (cl H i).f2 (cl H i).f3) (fun r => r = 0 → ∀ s ∈ (cl H i).f3.drop n, ∀ j ∈ t, ∀ o ∈ (cl H j).f3, Cmp s.f0 s.f1 s.f2 s.f3 o) := by
  have hp := S.prm i hi
  generalize (cl H i).f3 = ms at h16 hp ⊢
  refine up_ ms.length _ ?_ ?_
  · exact Tot.step (fun k => by rw [hier_checker_class.l1]) (Tot.neg (by omega) (Tot.now (by simp)))
  · intro n hn ih
    rw [← w64n n (by omega)] at ih
    have hx : rd_T37 ms (n : Int) = ms.getD n z37 := by simp [rd_T37]
    have hmem := getD_mem z37 ms n hn
    refine Tot.step (fun k => by rw [hier_checker_class.l1]) ?_
    rw [hx, drop_at z37 ms n hn]
    refine Tot.pos (by omega) (Tot.pos (by omega) (Tot.pos (by omega) (Tot.pos (by omega) (Tot.pos (by rw [ints_len, List.length_cons]; omega) ?_))))
    refine Tot.bind (method_tot S (ms.take (n : Int).toNat) (by rw [List.length_take]; omega) (ms.getD n z37) (hp _ hmem) t ht hlt) (fun a ha => ?_)
    refine Tot.ite (fun h0 => ih.imp (fun r h hr s hs => ?_)) (fun h0 => Tot.now (fun h => absurd h h0))
    rcases List.mem_cons.1 hs with rfl | hs
    · exact ha h0
    · exact h hr s hs
theorem class_l0 (S : Sized H) (hN : H.length ≤ 64) (i : Nat) (hi : i < H.length) (t : List Nat) (ht : t.length ≤ 64) (hlt : ∀ x ∈ t, x < H.length) (h16 : (cl H i).f2.length ≤ 16) (h16' : (cl H i).f3.length ≤ 16) :
    ∀ n, n ≤ (cl H i).f2.length → Tot (fun k => hier_checker_class.l0 k (ints (i :: t)) (cl H i).f2 ((cl H i).f2.length : Int) (n : Int) H (E H) (cl H i).f0 (cl H i).f1 (cl H i).f2 (cl H i).f3) (fun r => r = 0 → (∀ f ∈ (cl H i).f2.drop n, ∀ j ∈ t, ∀ g ∈ (cl H j).f2, g.f0 ≠ f.f0) ∧ MthOk H i t) := by
  have hl1 := class_l1 S hN i hi t ht hlt h16' 0 (Nat.zero_le _)
  generalize (cl H i).f2 = ms at h16 hl1 ⊢
  refine up_ ms.length _ ?_ ?_
  · refine Tot.step (fun k => by rw [hier_checker_class.l0]) ?_
    refine Tot.neg (by omega) ?_
    exact hl1.imp (fun r h h0 => ⟨by simp, h h0⟩)
  · intro n hn ih
    rw [← w64n n (by omega)] at ih
    have hx : rd_T67 ms (n : Int) = ms.getD n z67 := by simp [rd_T67]
    refine Tot.step (fun k => by rw [hier_checker_class.l0]) ?_
    rw [hx, drop_at z67 ms n hn]
    refine Tot.pos (by omega) (Tot.pos (by omega) (Tot.pos (by omega) (Tot.pos (by omega) (Tot.pos (by rw [ints_len, List.length_cons]; omega) ?_))))
    refine Tot.bind (field_tot S (ms.take (n : Int).toNat) (by rw [List.length_take]; omega) (ms.getD n z67) t ht hlt) (fun a ha => ?_)
    refine Tot.ite (fun h0 => ih.imp (fun r h hr => ⟨fun s hs => ?_, (h hr).2⟩)) (fun h0 => Tot.now (fun h => absurd h h0))
    rcases List.mem_cons.1 hs with rfl | hs
    · exact ha h0
    · exact (h hr).1 s hs
theorem class_tot (S : Sized H) (hN : H.length ≤ 64) (i : Nat) (hi : i < H.length) : Tot (fun k => hier_checker_class.f k H (E H) (i : Int)) (fun r => r = 0 → Okc H i) := by
  have hn : ∀ {r c : Int} {Q : Prop}, c ≠ 0 → r = c → (r = 0 → Q) := fun h e h0 => absurd (e ▸ h0) h
  refine Tot.pos (by omega) (Tot.pos (by omega) ?_)
  refine Tot.bind (ident_tot _) (fun a ha => Tot.ite (fun h0 => ?_) (fun _ => Tot.now (hn (by decide) rfl)))
  have hname : (nm H i).toList ≠ [] := ha h0
  obtain ⟨j, hj⟩ : ∃ j, idx H (nm H i) = some j := by
    cases h : idx H (nm H i) with
    | none => exact absurd rfl (fstN_none H _ _ h i hi)
    | some j => exact ⟨j, rfl⟩
  have hl1 : look1.f (E H) (rd_T32 H (i : Int)).f0 = some (j : Int) := by
    have := look_some H hj
    unfold look.f at this
    unfold look1.f
    have h2 := congrArg Prod.fst (Option.some.inj this)
    exact congrArg some h2
  refine Tot.bindc hl1 (Tot.ite (fun hij => ?_) (fun _ => Tot.now (hn (by decide) rfl)))
  have hij' : j = i := by omega
  rw [hij'] at hj
  have main : ((cl H i).f1.toList = [] ∨ ∃ j, idx H (cl H i).f1 = some j) → Tot (fun k => hier_checker_class.j0 k false H (E H) (cl H i).f0 (cl H i).f1 (cl H i).f2 (cl H i).f3) (fun r => r = 0 → Okc H i) := by
    intro hsup
    refine Tot.step (fun k => by rw [hier_checker_class.j0]) (Tot.neg (by decide) ?_)
    refine Tot.bind (chain_ftot hN hj) (fun r hr => ?_)
    obtain ⟨r1, r2⟩ := r
    refine Tot.ite (fun _ => Tot.now (hn (by decide) rfl)) (fun hc => ?_)
    obtain ⟨l, hl, e⟩ := hr (Bool.eq_false_iff.2 hc)
    obtain rfl : r1 = ints l := e
    obtain ⟨t, rfl⟩ := hl.head
    have hlen := hl.len hi
    have hlt : ∀ x ∈ t, x < H.length := fun x hx => hl.lt hi x (List.mem_cons_of_mem _ hx)
    simp at hlen
    refine Tot.ite (fun _ => ?_) (fun h16 => ?_)
    · exact Tot.step (fun k => by rw [hier_checker_class.j1]) (Tot.pos rfl (Tot.now (hn (by decide) rfl)))
    · refine Tot.step (fun k => by rw [hier_checker_class.j1]) (Tot.ite (fun _ => Tot.now (hn (by decide) rfl)) (fun h17 => ?_))
      rw [decide_eq_true_eq] at h17
      refine (class_l0 S hN i hi t (by omega) hlt (by omega) (by omega) 0 (Nat.zero_le _)).imp (fun r h h0 => ?_)
      have h1 := h h0
      exact ⟨hname, hj, hsup, t, hl, h1.1, h1.2⟩
  cases hs : idx H (cl H i).f1 with
  | some q =>
    refine Tot.bindc (look_some H hs) (Tot.pos rfl (main (.inr ⟨q, hs⟩)))
  | none =>
    refine Tot.bindc (look_none H hs) (Tot.neg (by decide) ?_)
    by_cases he : (cl H i).f1.toList = []
    · have : ((rd_T32 H (i : Int)).f1.toList != ([] : List UInt8)) = false := by rw [show (rd_T32 H (i : Int)).f1.toList = [] from he]; rfl
      rw [this]
      exact main (.inl he)
    · have : ((rd_T32 H (i : Int)).f1.toList != ([] : List UInt8)) = true := bne_iff_ne.2 he
      rw [this]
      exact Tot.step (fun k => by rw [hier_checker_class.j0]) (Tot.pos rfl (Tot.now (hn (by decide) rfl)))
theorem check_l0 (S : Sized H) (hN : H.length ≤ 64) : ∀ n, n ≤ H.length → Tot (fun k => hier_Check.l0 k (H.length : Int) (n : Int) H (E H)) (fun r => r.2 = 0 → ∀ i, n ≤ i → i < H.length → Okc H i) := by
  refine up_ H.length _ ?_ ?_
  · exact Tot.step (fun k => by rw [hier_Check.l0]) (Tot.neg (by omega) (Tot.now (fun _ i h1 h2 => by omega)))
  · intro n hn ih
    rw [← w64n n (by omega)] at ih
    refine Tot.step (fun k => by rw [hier_Check.l0]) (Tot.pos (by omega) ?_)
    refine Tot.bind (class_tot S hN n hn) (fun a ha => ?_)
    refine Tot.ite (fun h0 => ih.imp (fun r h hr i h1 h2 => ?_)) (fun h0 => Tot.now (fun h => absurd h h0))
    rcases Nat.eq_or_lt_of_le h1 with rfl | h3
    · exact ha h0
    · exact h hr i h3 h2
theorem check_tot (S : Sized H) : Tot (fun k => hier_Check.f k H) (fun r => r.2 = 0 → H.length ≤ 64 ∧ ∀ i, i < H.length → Okc H i) := by
  refine Tot.ite (fun _ => Tot.now (fun h => absurd h (by decide))) (fun h => ?_)
  have hN : H.length ≤ 64 := by omega
  refine Tot.bindE (index_ev H hN) ?_
  exact (check_l0 S hN 0 (Nat.zero_le _)).imp (fun r h h0 => ⟨hN, fun i hi => h h0 i (Nat.zero_le _) hi⟩)
theorem well_of (hN : H.length ≤ 64) (h : ∀ i, i < H.length → Okc H i) : Well H where
  few := hN
  own := fun i hi => (h i hi).own
  ends := fun i hi => by obtain ⟨t, ht, _⟩ := (h i hi).ch; exact ⟨_, ht⟩
  sup := fun i hi => (h i hi).sup
  name := fun i hi => (h i hi).name
end
end Go.Proofs.YtkbclcecmcdlfaaDoor.Pu
