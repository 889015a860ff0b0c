/- Merged lists; unions, differences and intersections. -/
import Derived.Test.YtlfoehjjgbnkaaaDoorBE3
namespace Go.Proofs.YtlfoehjjgbnkaaaDoor.Pu
set_option linter.unusedVariables false
set_option linter.unusedSimpArgs false
open Go.RowKit Go.Proofs.YtlfoehjjgbnkaaaDoor.PB Go.Proofs.YtlfoehjjgbnkaaaDoorW.PrintWords Go.Proofs.YtlfoehjjgbnkaaaDoorW.PrintLast Go.Proofs.YtlfoehjjgbnkaaaDoorW.PrintMore
def one (b : Bool) (x : Nat) : List Nat := if b = true then [x] else []
def mrg (f1 f2 f3 : Bool) : Nat → List Nat → List Nat → List Nat
  | 0, _, _ => []
  | _ + 1, [], [] => []
  | n + 1, x :: X, [] => one f1 x ++ mrg f1 f2 f3 n X []
  | n + 1, [], y :: Y => one f2 y ++ mrg f1 f2 f3 n [] Y
  | n + 1, x :: X, y :: Y => if x < y then one f1 x ++ mrg f1 f2 f3 n X (y :: Y) else if y < x then one f2 y ++ mrg f1 f2 f3 n (x :: X) Y else one f3 x ++ mrg f1 f2 f3 n X Y
theorem mem_one (b : Bool) (x z : Nat) : z ∈ one b x ↔ b = true ∧ z = x := by unfold one; split <;> simp_all
theorem mrg_mem (f1 f2 f3 : Bool) : ∀ n X Y, X.length + Y.length ≤ n → asc X → asc Y → ∀ z, z ∈ mrg f1 f2 f3 n X Y ↔ (z ∈ X ∧ z ∉ Y ∧ f1 = true) ∨ (z ∉ X ∧ z ∈ Y ∧ f2 = true) ∨ (z ∈ X ∧ z ∈ Y ∧ f3 = true)
  | 0, X, Y, h, _, _, z => by
    obtain rfl := List.eq_nil_of_length_eq_zero (show X.length = 0 by omega)
    obtain rfl := List.eq_nil_of_length_eq_zero (show Y.length = 0 by omega)
    simp [mrg]
  | n + 1, [], [], h, _, _, z => by simp [mrg]
  | n + 1, x :: X, [], h, hx, hy, z => by
    have hx' := List.pairwise_cons.1 hx
    rw [mrg, List.mem_append, mem_one, mrg_mem f1 f2 f3 n X [] (by simp at h ⊢; omega) hx'.2 hy]
    simp
    constructor
    · rintro (⟨h1, rfl⟩ | ⟨h1, h2⟩)
      · exact ⟨.inl rfl, h1⟩
      · exact ⟨.inr h1, h2⟩
    · rintro ⟨rfl | h1, h2⟩
      · exact .inl ⟨h2, rfl⟩
      · exact .inr ⟨h1, h2⟩
  | n + 1, [], y :: Y, h, hx, hy, z => by
    have hy' := List.pairwise_cons.1 hy
    rw [mrg, List.mem_append, mem_one, mrg_mem f1 f2 f3 n [] Y (by simp at h ⊢; omega) hx hy'.2]
    simp
    constructor
    · rintro (⟨h1, rfl⟩ | ⟨h1, h2⟩)
      · exact ⟨.inl rfl, h1⟩
      · exact ⟨.inr h1, h2⟩
    · rintro ⟨rfl | h1, h2⟩
      · exact .inl ⟨h2, rfl⟩
      · exact .inr ⟨h1, h2⟩
  | n + 1, x :: X, y :: Y, h, hx, hy, z => by
    have hx' := List.pairwise_cons.1 hx
    have hy' := List.pairwise_cons.1 hy
    have xX : x ∉ X := fun hm => by have := hx'.1 x hm; omega
    have yY : y ∉ Y := fun hm => by have := hy'.1 y hm; omega
    simp only [List.length_cons] at h
    rw [mrg]
    split
    · rename_i hlt
      have xY : x ∉ Y := fun hm => by have := hy'.1 x hm; omega
      rw [List.mem_append, mem_one, mrg_mem f1 f2 f3 n X (y :: Y) (by simp; omega) hx'.2 hy]
      simp only [List.mem_cons]
      by_cases ez : z = x
      · subst ez
        have : ¬ z = y := by omega
        simp [xX, xY, this]
      · simp [ez]
    · split
      · rename_i hlt
        have yX : y ∉ X := fun hm => by have := hx'.1 y hm; omega
        rw [List.mem_append, mem_one, mrg_mem f1 f2 f3 n (x :: X) Y (by simp; omega) hx hy'.2]
        simp only [List.mem_cons]
        by_cases ez : z = y
        · subst ez
          have : ¬ z = x := by omega
          simp [yX, yY, this]
        · simp [ez]
      · have e : x = y := by omega
        subst e
        rw [List.mem_append, mem_one, mrg_mem f1 f2 f3 n X Y (by omega) hx'.2 hy'.2]
        simp only [List.mem_cons]
        by_cases ez : z = x
        · subst ez
          simp [xX, yY]
        · simp [ez]
theorem asc_one_append {b : Bool} {x : Nat} {M : List Nat} (h : asc M) (hx : ∀ z ∈ M, x < z) : asc (one b x ++ M) := by
  unfold one
  split
  · exact List.pairwise_cons.2 ⟨hx, h⟩
  · exact h
theorem mrg_asc (f1 f2 f3 : Bool) : ∀ n X Y, X.length + Y.length ≤ n → asc X → asc Y → asc (mrg f1 f2 f3 n X Y)
  | 0, X, Y, h, _, _ => List.Pairwise.nil
  | n + 1, [], [], h, _, _ => by rw [mrg]; exact List.Pairwise.nil
  | n + 1, x :: X, [], h, hx, hy => by
    have hx' := List.pairwise_cons.1 hx
    rw [mrg]
    refine asc_one_append (mrg_asc f1 f2 f3 n X [] (by simp at h ⊢; omega) hx'.2 hy) (fun z hz => ?_)
    rw [mrg_mem f1 f2 f3 n X [] (by simp at h ⊢; omega) hx'.2 hy] at hz
    simp at hz
    exact hx'.1 z hz.1
  | n + 1, [], y :: Y, h, hx, hy => by
    have hy' := List.pairwise_cons.1 hy
    rw [mrg]
    refine asc_one_append (mrg_asc f1 f2 f3 n [] Y (by simp at h ⊢; omega) hx hy'.2) (fun z hz => ?_)
    rw [mrg_mem f1 f2 f3 n [] Y (by simp at h ⊢; omega) hx hy'.2] at hz
    simp at hz
    exact hy'.1 z hz.1
  | n + 1, x :: X, y :: Y, h, hx, hy => by
    have hx' := List.pairwise_cons.1 hx
    have hy' := List.pairwise_cons.1 hy
    simp only [List.length_cons] at h
    have any : ∀ {A B : List Nat} (t : Nat), (∀ z ∈ A, t < z) → (∀ z ∈ B, t < z) → A.length + B.length ≤ n → asc A → asc B → ∀ z ∈ mrg f1 f2 f3 n A B, t < z := by
      intro A B t hA hB hl ha hb z hz
      rw [mrg_mem f1 f2 f3 n A B hl ha hb] at hz
      rcases hz with ⟨h1, _⟩ | ⟨_, h1, _⟩ | ⟨h1, _⟩
      · exact hA z h1
      · exact hB z h1
      · exact hA z h1
    rw [mrg]
    split
    · rename_i hlt
      refine asc_one_append (mrg_asc f1 f2 f3 n X (y :: Y) (by simp; omega) hx'.2 hy) (any x hx'.1 ?_ (by simp; omega) hx'.2 hy)
      intro z hz
      rcases List.mem_cons.1 hz with e | e
      · omega
      · have := hy'.1 z e; omega
    · split
      · rename_i hlt
        refine asc_one_append (mrg_asc f1 f2 f3 n (x :: X) Y (by simp; omega) hx hy'.2) (any y ?_ hy'.1 (by simp; omega) hx hy'.2)
        intro z hz
        rcases List.mem_cons.1 hz with e | e
        · omega
        · have := hx'.1 z e; omega
      · have e : x = y := by omega
        subst e
        exact asc_one_append (mrg_asc f1 f2 f3 n X Y (by omega) hx'.2 hy'.2) (any x hx'.1 hy'.1 (by omega) hx'.2 hy'.2)
theorem drop_cons (X : List Nat) (i : Nat) (h : i < X.length) : X.drop i = X.getD i 0 :: X.drop (i + 1) := by
  rw [List.drop_eq_getElem_cons h, List.getD_eq_getElem?_getD, List.getElem?_eq_getElem h]
  rfl
theorem ints_one (out : List Nat) (b : Bool) (x : Nat) : ints (out ++ one b x) = if b = true then ints out ++ [(x : Int)] else ints out := by
  unfold one
  split
  · rw [ints_append]; rfl
  · rw [List.append_nil]
theorem merge_loop (f1 f2 f3 : Bool) (X Y : List Nat) (hX : X.length ≤ 40000000) (hY : Y.length ≤ 40000000) (M : List Int) :
    ∀ n i j (out : List Nat), (X.length - i) + (Y.length - j) ≤ n → i ≤ X.length → j ≤ Y.length → out.length ≤ i + j →
      Ev (fun k => dataflowref01_Make.f k (ints (out ++ mrg f1 f2 f3 n (X.drop i) (Y.drop j)))) M →
      Ev (fun k => dataflowref01_Merge.l0 k f1 f2 f3 (ints X) (ints Y) (ints out) (i : Int) (j : Int)) M := by
  intro n
  induction n with
  | zero =>
    intro i j out hn hi hj ho hM
    refine Ev.step (fun k => by rw [dataflowref01_Merge.l0]) (Ev_neg (by rw [ints_length]; omega) ?_)
    refine Ev.step (fun k => by rw [dataflowref01_Merge.j1]) (Ev_neg (by rw [ints_length]; simp; omega) ?_)
    refine Ev.bind ?_ (Ev.now _)
    simpa [mrg] using hM
  | succ n ih =>
    intro i j out hn hi hj ho hM
    -- one element taken from the left, from the right, from both
    have left : i < X.length → mrg f1 f2 f3 (n + 1) (X.drop i) (Y.drop j) = one f1 (X.getD i 0) ++ mrg f1 f2 f3 n (X.drop (i + 1)) (Y.drop j) →
        Ev (fun k => if f1 = true then (if 0 ≤ (i : Int) then (if (i : Int) < ((ints X).length : Int) then (if (ints out).length < 17592186044416 then (dataflowref01_Merge.l0 k f1 f2 f3 (ints X) (ints Y) (ints out ++ [rd (ints X) (i : Int)]) (wrap64 ((i : Int) + 1)) (j : Int)) else (none)) else (none)) else (none)) else (dataflowref01_Merge.l0 k f1 f2 f3 (ints X) (ints Y) (ints out) (wrap64 ((i : Int) + 1)) (j : Int))) M := by
      intro hlt he
      rw [he, ← List.append_assoc] at hM
      have h := ih (i + 1) j (out ++ one f1 (X.getD i 0)) (by omega) (by omega) hj (by rw [List.length_append]; unfold one; split <;> simp <;> omega) hM
      rw [ints_one] at h
      rw [rd_ints, w64 (a := (i : Int) + 1) (by omega) (by omega)]
      by_cases hf : f1 = true
      · simp only [hf, if_true] at h ⊢
        refine Ev_pos (by omega) (Ev_pos (by rw [ints_length]; omega) (Ev_pos (by rw [ints_length]; omega) ?_))
        simpa using h
      · simp only [hf, if_false] at h ⊢
        simpa using h
    have right : j < Y.length → mrg f1 f2 f3 (n + 1) (X.drop i) (Y.drop j) = one f2 (Y.getD j 0) ++ mrg f1 f2 f3 n (X.drop i) (Y.drop (j + 1)) →
        Ev (fun k => if f2 = true then (if 0 ≤ (j : Int) then (if (j : Int) < ((ints Y).length : Int) then (if (ints out).length < 17592186044416 then (dataflowref01_Merge.l0 k f1 f2 f3 (ints X) (ints Y) (ints out ++ [rd (ints Y) (j : Int)]) (i : Int) (wrap64 ((j : Int) + 1))) else (none)) else (none)) else (none)) else (dataflowref01_Merge.l0 k f1 f2 f3 (ints X) (ints Y) (ints out) (i : Int) (wrap64 ((j : Int) + 1)))) M := by
      intro hlt he
      rw [he, ← List.append_assoc] at hM
      have h := ih i (j + 1) (out ++ one f2 (Y.getD j 0)) (by omega) hi (by omega) (by rw [List.length_append]; unfold one; split <;> simp <;> omega) hM
      rw [ints_one] at h
      rw [rd_ints, w64 (a := (j : Int) + 1) (by omega) (by omega)]
      by_cases hf : f2 = true
      · simp only [hf, if_true] at h ⊢
        refine Ev_pos (by omega) (Ev_pos (by rw [ints_length]; omega) (Ev_pos (by rw [ints_length]; omega) ?_))
        simpa using h
      · simp only [hf, if_false] at h ⊢
        simpa using h
    have both : i < X.length → j < Y.length → mrg f1 f2 f3 (n + 1) (X.drop i) (Y.drop j) = one f3 (X.getD i 0) ++ mrg f1 f2 f3 n (X.drop (i + 1)) (Y.drop (j + 1)) →
        Ev (fun k => if f3 = true then (if 0 ≤ (i : Int) then (if (i : Int) < ((ints X).length : Int) then (if (ints out).length < 17592186044416 then (dataflowref01_Merge.l0 k f1 f2 f3 (ints X) (ints Y) (ints out ++ [rd (ints X) (i : Int)]) (wrap64 ((i : Int) + 1)) (wrap64 ((j : Int) + 1))) else (none)) else (none)) else (none)) else (dataflowref01_Merge.l0 k f1 f2 f3 (ints X) (ints Y) (ints out) (wrap64 ((i : Int) + 1)) (wrap64 ((j : Int) + 1)))) M := by
      intro hlt hlt2 he
      rw [he, ← List.append_assoc] at hM
      have h := ih (i + 1) (j + 1) (out ++ one f3 (X.getD i 0)) (by omega) (by omega) (by omega) (by rw [List.length_append]; unfold one; split <;> simp <;> omega) hM
      rw [ints_one] at h
      rw [rd_ints, w64 (a := (i : Int) + 1) (by omega) (by omega), w64 (a := (j : Int) + 1) (by omega) (by omega)]
      by_cases hf : f3 = true
      · simp only [hf, if_true] at h ⊢
        refine Ev_pos (by omega) (Ev_pos (by rw [ints_length]; omega) (Ev_pos (by rw [ints_length]; omega) ?_))
        simpa using h
      · simp only [hf, if_false] at h ⊢
        simpa using h
    have j1 : i < X.length ∨ j < Y.length → Ev (fun k => dataflowref01_Merge.j1 k f1 f2 f3 (ints X) (ints Y) (ints out) (i : Int) (j : Int) true) M := by
      intro hor
      refine Ev.step (fun k => by rw [dataflowref01_Merge.j1]) (Ev_pos rfl ?_)
      by_cases hjY : j = Y.length
      · have hiX : i < X.length := by omega
        refine Ev_pos (by rw [ints_length]; omega) ?_
        refine Ev.step (fun k => by rw [dataflowref01_Merge.j2]) (Ev_pos rfl ?_)
        refine left hiX ?_
        rw [drop_cons X i hiX, List.drop_of_length_le (l := Y) (by omega)]
        rfl
      · have hjY' : j < Y.length := by omega
        refine Ev_neg (by rw [ints_length]; omega) ?_
        by_cases hiX : i < X.length
        · refine Ev_pos (by rw [ints_length]; omega) (Ev_pos (by omega) (Ev_pos (by omega) (Ev_pos (by rw [ints_length]; omega) ?_)))
          rw [rd_ints, rd_ints]
          by_cases hlt : X.getD i 0 < Y.getD j 0
          · refine Ev.step (fun k => by rw [dataflowref01_Merge.j2]) (Ev_pos (by simp only [decide_eq_true_eq]; omega) ?_)
            refine left hiX ?_
            rw [drop_cons X i hiX, drop_cons Y j hjY', mrg, if_pos hlt]
          · refine Ev.step (fun k => by rw [dataflowref01_Merge.j2]) (Ev_neg (by simp only [decide_eq_true_eq]; omega) ?_)
            refine Ev_neg (by rw [ints_length]; omega) (Ev_pos (by omega) (Ev_pos (by rw [ints_length]; omega) (Ev_pos (by omega) (Ev_pos (by rw [ints_length]; omega) ?_))))
            rw [rd_ints, rd_ints]
            by_cases hgt : Y.getD j 0 < X.getD i 0
            · refine Ev.step (fun k => by rw [dataflowref01_Merge.j3]) (Ev_pos (by simp only [decide_eq_true_eq]; omega) ?_)
              refine right hjY' ?_
              rw [drop_cons X i hiX, drop_cons Y j hjY', mrg, if_neg hlt, if_pos hgt]
            · refine Ev.step (fun k => by rw [dataflowref01_Merge.j3]) (Ev_neg (by simp only [decide_eq_true_eq]; omega) ?_)
              refine both hiX hjY' ?_
              rw [drop_cons X i hiX, drop_cons Y j hjY', mrg, if_neg hlt, if_neg hgt]
        · refine Ev_neg (by rw [ints_length]; omega) ?_
          refine Ev.step (fun k => by rw [dataflowref01_Merge.j2]) (Ev_neg (by simp) ?_)
          refine Ev_pos (by rw [ints_length]; omega) ?_
          refine Ev.step (fun k => by rw [dataflowref01_Merge.j3]) (Ev_pos rfl ?_)
          refine right hjY' ?_
          rw [List.drop_of_length_le (l := X) (by omega), drop_cons Y j hjY']
          rfl
    by_cases hiX : i < X.length
    · exact Ev.step (fun k => by rw [dataflowref01_Merge.l0]) (Ev_pos (by rw [ints_length]; omega) (j1 (.inl hiX)))
    · refine Ev.step (fun k => by rw [dataflowref01_Merge.l0]) (Ev_neg (by rw [ints_length]; omega) ?_)
      by_cases hjY : j < Y.length
      · have : decide ((j : Int) < ((ints Y).length : Int)) = true := by rw [ints_length]; simp; omega
        rw [this]
        exact j1 (.inr hjY)
      · refine Ev.step (fun k => by rw [dataflowref01_Merge.j1]) (Ev_neg (by rw [ints_length]; simp; omega) ?_)
        refine Ev.bind ?_ (Ev.now _)
        have e1 : X.drop i = [] := List.drop_of_length_le (by omega)
        have e2 : Y.drop j = [] := List.drop_of_length_le (by omega)
        rw [e1, e2] at hM
        simpa [mrg] using hM
end Go.Proofs.YtlfoehjjgbnkaaaDoor.Pu
