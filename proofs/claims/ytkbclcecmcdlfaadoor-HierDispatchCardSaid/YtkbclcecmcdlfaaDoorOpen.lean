/- Whatever a row of the form reads is read by a Kd too: slices, structs and trees of strings and numbers, as they came in. -/
import GoSem.ClaimJoined
import Derived.ChangeArms
import Derived.OpenShut
import Derived.Deep.Slices
import Derived.Test.YtkbclcecmcdlfaaDoorWAll
namespace Go.Proofs.YtkbclcecmcdlfaaDoor.Open
set_option linter.unusedVariables false
set_option linter.unusedSimpArgs false
open Go.RowKit Go.Proofs.YtkbclcecmcdlfaaDoorW.PrintWords Go.Proofs.YtkbclcecmcdlfaaDoorW.PrintLast Go.Proofs.YtkbclcecmcdlfaaDoorW.PrintMore
/-- What is read at type t with fuel n is a thing of kind d, of bounded size. -/
def Ld (P : Program) (w : World) (n : Nat) (t : TypeId) {α : Type} (d : Kd α) (Sz : α → Prop) : Prop :=
  ∀ (H : Type) (enc : TypeId × Value → H) (spare : Nat → Bool) (held : Bool) (cs : List Value) (x : DataW H × List MemPlace), DataW.trod enc P w 0 spare held n t cs = some x → (∀ z ∈ x.1.weights P t, z ≤ reachBytes) → ∃ a, d.K w a cs ∧ Sz a
section
variable {P : Program} {w : World} {n : Nat} {t e : TypeId} {α β : Type}
theorem Ld.imp {d : Kd α} {S S' : α → Prop} (h : Ld P w n t d S) (hs : ∀ a, S a → S' a) : Ld P w n t d S' := by
  intro H enc spare held cs x hx hw
  obtain ⟨a, ha, hs'⟩ := h H enc spare held cs x hx hw
  exact ⟨a, ha, hs a hs'⟩
theorem Ld.string (ht : P.underlying t = some .string) : Ld P w n t Kd.string (fun s => s.size ≤ reachBytes) := by
  intro H enc spare held cs x hx hw
  obtain ⟨s, rfl, rfl, -⟩ := DataW.trod_string ht hx
  refine ⟨s, rfl, ?_⟩
  have := hw s.data.toList.length (by simp [DataW.weights])
  simpa using this
theorem Ld.int {k : IntKind} (ht : P.underlying t = some (.int k)) : Ld P w n t (Kd.int k) (fun z => (Lit.int k z).wf = true) := by
  intro H enc spare held cs x hx hw
  obtain ⟨z, rfl, rfl, h⟩ := DataW.trod_int ht hx
  exact ⟨z, rfl, h⟩
theorem Ld.bool (ht : P.underlying t = some .bool) : Ld P w n t Kd.bool (fun _ => True) := by
  intro H enc spare held cs x hx hw
  obtain ⟨z, rfl, rfl⟩ := DataW.trod_bool ht hx
  exact ⟨z, rfl, trivial⟩
theorem list_choose : ∀ (n : Nat) {p : Nat → α → Prop}, (∀ i, i < n → ∃ a, p i a) → ∃ l : List α, l.length = n ∧ ∀ i a, l[i]? = some a → p i a
  | 0, p, _ => ⟨[], rfl, fun i a h => by simp at h⟩
  | n + 1, p, h => by
    obtain ⟨l, hl, hp⟩ := list_choose n (p := p) (fun i hi => h i (by omega))
    obtain ⟨a, ha⟩ := h n (by omega)
    refine ⟨l ++ [a], by simp [hl], fun i b hb => ?_⟩
    rw [List.getElem?_append] at hb
    split at hb
    · exact hp i b hb
    · have : i = n := by
        rcases Nat.lt_or_ge (i - l.length) 1 with h1 | h1
        · omega
        · rw [List.getElem?_eq_none (by simpa using h1)] at hb; cases hb
      subst this
      rw [hl, Nat.sub_self] at hb
      have : a = b := by simpa using hb
      rw [← this]; exact ha
theorem all_mem {H : Type} {ds : List (DataW H)} {d : DataW H} (hd : d ∈ ds) {z : Nat} (hz : z ∈ d.weights P e) : z ∈ DataW.weightsAll P e ds := by
  induction ds with
  | nil => cases hd
  | cons b r ih =>
    rw [DataW.weightsAll, List.mem_append]
    rcases List.mem_cons.1 hd with rfl | h
    · exact .inl hz
    · exact .inr (ih h)
theorem Ld.slice {d : Kd α} {S : α → Prop} {b : Nat} (ht : P.underlying t = some (.slice e)) (hc : P.cellsOf e = d.sz) (hb : P.bytesOf e = b) (he : ∀ m, m < n → Ld P w m e d S) :
    Ld P w n t (Kd.slice e d) (fun l => l.length ≤ maxLen ∧ l.length * b ≤ reachBytes ∧ ∀ a ∈ l, S a) := by
  intro H enc spare held cs x hx hw
  rcases DataW.trod_slice ht hx with ⟨rfl, rfl⟩ | ⟨ad, len, cap, elems, rest, m, rfl, rfl, rfl, hbl, hl, hm, hlen, hel, -, -⟩
  · exact ⟨[], ⟨none, 0, rfl, Nat.le_refl _, Kd.C_nil _ _⟩, Nat.zero_le _, by simp, fun a ha => by cases ha⟩
  · have hwt : ∀ (i : Nat) (y : DataW H × List MemPlace), elems[i]? = some y → ∀ z ∈ y.1.weights P e, z ≤ reachBytes := by
      intro i y hy z hz
      refine hw z ?_
      rw [DataW.weights, ht]
      refine List.mem_cons_of_mem _ (List.mem_append_left _ (all_mem (d := y.1) ?_ hz))
      exact List.mem_map.2 ⟨y, List.mem_of_getElem? hy, rfl⟩
    have hlw : len * b ≤ reachBytes := by
      have := hw ((elems.length + rest.length) * P.bytesOf e) (by rw [DataW.weights, ht]; simp)
      rw [hb, hlen] at this
      exact Nat.le_trans (Nat.mul_le_mul_right b (Nat.le_add_right len rest.length)) this
    obtain ⟨l, hll, hp⟩ := list_choose len (p := fun i a => ∃ c, w.cells? 0 (ad.add (i * P.cellsOf e)) (P.cellsOf e) = some c ∧ d.K w a c ∧ S a) (fun i hi => by
      have h1 := hel i hi
      rw [List.getElem?_eq_getElem (by omega)] at h1
      obtain ⟨c, hc1, hc2⟩ := Option.bind_eq_some_iff.1 h1
      obtain ⟨a, ha, hs⟩ := he m (by omega) H enc spare held c _ hc2 (hwt i _ (List.getElem?_eq_getElem (by omega)))
      exact ⟨a, c, hc1, ha, hs⟩)
    subst hll
    have hmx : maxLen ≤ 9223372036854775807 := by decide
    refine ⟨l, ⟨some ad, cap, rfl, hl, rfl, by omega, fun hp0 => ⟨ad, rfl, fun j p hj => ?_⟩⟩, by omega, hlw, fun a ha => ?_⟩
    · obtain ⟨c, hc1, hK, -⟩ := hp j p hj
      rw [hc] at hc1
      refine ⟨c, d.K_len hK, hK, fun i u hu => ?_⟩
      unfold World.cells? at hc1
      rw [if_pos (Nat.zero_le _)] at hc1
      have hi : i < d.sz := by rw [← d.K_len hK]; exact (List.getElem?_eq_some_iff.1 hu).1
      have := mapM_some_get hc1 i i (by simp [hi])
      rw [hu, Go.Deep.add_add] at this
      exact this
    · obtain ⟨i, hi, rfl⟩ := List.getElem_of_mem ha
      obtain ⟨c, -, -, hs⟩ := hp i _ (List.getElem?_eq_getElem hi)
      exact hs
/-- .. the fields of a struct from one on. -/
def LdP (P : Program) (w : World) (n : Nat) (fs : List Field) (off : Nat) {α : Type} (d : Kd α) (Sz : α → Prop) : Prop :=
  ∀ (H : Type) (enc : TypeId × Value → H) (spare : Nat → Bool) (held : Bool) (cs : List Value) (xs : List (DataW H × List MemPlace)), xs.length = fs.length →
    (∀ (i : Nat) (f : Field), fs[i]? = some f → DataW.trod enc P w 0 spare held n f.type ((cs.drop f.offset).take (P.cellsOf f.type)) = xs[i]?) →
    (∀ z ∈ DataW.weightsEach P (fs.map (·.type)) (xs.map (·.1)), z ≤ reachBytes) → cs.length = off + d.sz → ∃ a, d.K w a (cs.drop off) ∧ Sz a
theorem LdP.one {d : Kd α} {S : α → Prop} {f : Field} {off : Nat} (ho : f.offset = off) (hc : P.cellsOf f.type = d.sz) (h : Ld P w n f.type d S) : LdP P w n [f] off d S := by
  intro H enc spare held cs xs hlen hx hw hcs
  obtain ⟨y, rfl⟩ : ∃ y, xs = [y] := List.length_eq_one_iff.1 hlen
  have h1 := hx 0 f rfl
  rw [ho, hc, List.take_of_length_le (by rw [List.length_drop]; omega)] at h1
  exact h H enc spare held _ y h1 (fun z hz => hw z (by simpa [DataW.weightsEach] using hz))
theorem LdP.cons {d : Kd α} {S : α → Prop} {d' : Kd β} {S' : β → Prop} {f : Field} {fs : List Field} {off : Nat} (ho : f.offset = off) (hc : P.cellsOf f.type = d.sz) (h : Ld P w n f.type d S) (h' : LdP P w n fs (off + d.sz) d' S') :
    LdP P w n (f :: fs) off (Kd.pair d d') (fun p => S p.1 ∧ S' p.2) := by
  intro H enc spare held cs xs hlen hx hw hcs
  cases xs with
  | nil => cases hlen
  | cons y ys =>
    have hsz : (Kd.pair d d').sz = d.sz + d'.sz := rfl
    rw [hsz] at hcs
    have h1 := hx 0 f rfl
    rw [ho, hc] at h1
    obtain ⟨a, ha, hs⟩ := h H enc spare held _ y h1 (fun z hz => hw z (by simp only [List.map_cons, DataW.weightsEach, List.mem_append]; exact .inl hz))
    obtain ⟨b, hb, hs'⟩ := h' H enc spare held cs ys (by simpa using hlen) (fun i g hg => by simpa using hx (i + 1) g (by simpa using hg)) (fun z hz => hw z (by simp only [List.map_cons, DataW.weightsEach, List.mem_append]; exact .inr hz)) (by omega)
    refine ⟨(a, b), ⟨_, _, ?_, ha, hb⟩, hs, hs'⟩
    rw [← List.drop_drop, List.take_append_drop]
theorem Ld.struct {d : Kd α} {S : α → Prop} {fs : Array Field} (ht : P.underlying t = some (.struct fs)) (hc : P.cellsOf t = d.sz) (h : ∀ m, m < n → LdP P w m fs.toList 0 d S) : Ld P w n t d S := by
  intro H enc spare held cs x hx hw
  obtain ⟨xs, m, rfl, rfl, hl, hxl, hxs⟩ := DataW.trod_struct ht hx
  obtain ⟨a, ha, hs⟩ := h m (by omega) H enc spare held cs xs (by simpa using hxl) (fun i f hf => hxs i f (by simpa using hf)) (fun z hz => hw z (by rw [DataW.weights, ht]; exact hz)) (by omega)
  exact ⟨a, by simpa using ha, hs⟩
theorem Ld.iso {d : Kd α} {S : α → Prop} (g : β → α) (inv : α → β) (hi : ∀ a, g (inv a) = a) (h : Ld P w n t d S) : Ld P w n t (Kd.iso d g) (fun b => S (g b)) := by
  intro H enc spare held cs x hx hw
  obtain ⟨a, ha, hs⟩ := h H enc spare held cs x hx hw
  exact ⟨inv a, by show d.K w (g (inv a)) cs; rw [hi]; exact ha, by show S (g (inv a)); rw [hi]; exact hs⟩
/-- More depth reads the same. -/
theorem Ld.deeper {F : Kd α → Kd α} {sz : Nat} {E : List Nat} {S : α → Prop} (hm : Kd.Mono F) (hs : ∀ n, (Kd.upto F sz E n).sz = sz) {m k : Nat} (hmk : m ≤ k) (h : Ld P w n t (Kd.upto F sz E m) S) : Ld P w n t (Kd.upto F sz E k) S := by
  intro H enc spare held cs x hx hw
  obtain ⟨a, ha, hsz⟩ := h H enc spare held cs x hx hw
  exact ⟨a, Kd.upto_K_le hm hs hmk ha, hsz⟩
/-- A tree: what one layer reads, where the layers below read. -/
theorem Ld.fix {F : Kd α → Kd α} {sz : Nat} {E : List Nat} {hs : ∀ n, (Kd.upto F sz E n).sz = sz} {hE : ∀ n q, q ∈ (Kd.upto F sz E n).E → q ∈ E} {S : α → Prop} (hm : Kd.Mono F)
    (h : ∀ n k, (∀ m, m < n → Ld P w m t (Kd.upto F sz E k) S) → Ld P w n t (F (Kd.upto F sz E k)) S) (n : Nat) : Ld P w n t (Kd.fix F sz E hs hE) S := by
  have key : ∀ k n, n < k → Ld P w n t (Kd.upto F sz E k) S := by
    intro k
    induction k with
    | zero => intro n hn; omega
    | succ k ih =>
      intro n hn
      exact h n k (fun m hmn => ih m (by omega))
  intro H enc spare held cs x hx hw
  obtain ⟨a, ha, hsz⟩ := key (n + 1) n (by omega) H enc spare held cs x hx hw
  exact ⟨a, ⟨n + 1, ha⟩, hsz⟩
end
end Go.Proofs.YtkbclcecmcdlfaaDoor.Open
