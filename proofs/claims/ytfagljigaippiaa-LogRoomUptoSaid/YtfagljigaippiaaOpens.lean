/- How an argument of any shape is read: whatever reads as data of a type is, in memory, what a kind says: numbers, bools, texts, slices, structs, arrays. -/
import Derived.Test.YtfagljigaippiaaWArr
import Derived.Test.YtfagljigaippiaaWShare
import Derived.OpenShut
import Derived.SizedLaws
namespace Go.Proofs.Ytfagljigaippiaa.Opens
open Go.RowKit Go.Proofs.YtfagljigaippiaaW.PrintWords
set_option linter.unusedVariables false
set_option linter.unusedSimpArgs false

/-- Whatever is read as type t has cells of kind d, by an x that is good. -/
def Op (P : Program) (t : TypeId) {α : Type} (d : Kd α) (good : α → Prop) : Prop :=
  ∀ {H : Type} {enc : TypeId × Value → H} {w : World} {fuel : Nat} {cs : List Value} {y : DataW H × List MemPlace},
    DataW.trod enc P w 0 (fun _ => true) true fuel t cs = some y → (∀ n ∈ y.1.weights P t, n ≤ reachBytes) → ∃ x, d.K w x cs ∧ good x
/-- The same of fields that lie one behind the other, from a place on. -/
def OpF (P : Program) (fs : List Field) (off : Nat) {α : Type} (d : Kd α) (good : α → Prop) : Prop :=
  ∀ {H : Type} {enc : TypeId × Value → H} {w : World} {fuel : Nat} {cs : List Value},
    (∀ f ∈ fs, ∃ y : DataW H × List MemPlace, DataW.trod enc P w 0 (fun _ => true) true fuel f.type ((cs.drop f.offset).take (P.cellsOf f.type)) = some y ∧ ∀ n ∈ y.1.weights P f.type, n ≤ reachBytes) →
    ∃ x, d.K w x ((cs.drop off).take d.sz) ∧ good x
section
variable {P : Program} {t : TypeId}
theorem op_int {k : IntKind} (hu : P.underlying t = some (.int k)) : Op P t (Kd.int k) (fun x => (Lit.int k x).wf = true) := by
  intro H enc w fuel cs y h _
  obtain ⟨n, rfl, rfl, hw⟩ := DataW.trod_int hu h
  exact ⟨n, rfl, hw⟩
theorem op_bool (hu : P.underlying t = some .bool) : Op P t Kd.bool (fun _ => True) := by
  intro H enc w fuel cs y h _
  obtain ⟨b, rfl, rfl⟩ := DataW.trod_bool hu h
  exact ⟨b, rfl, trivial⟩
theorem op_string (hu : P.underlying t = some .string) : Op P t Kd.string (fun x => x.size ≤ 140737488351232) := by
  intro H enc w fuel cs y h hs
  obtain ⟨s, rfl, rfl, _⟩ := DataW.trod_string hu h
  refine ⟨s, rfl, ?_⟩
  have := hs s.data.toList.length (by simp [DataW.weights])
  have hr : reachBytes = 140737488351232 := by decide
  rw [hr] at this
  simpa using this
theorem cells_at {w : World} {a : Addr} {n : Nat} {cs : List Value} (h : w.cells? 0 a n = some cs) : cs.length = n ∧ ∀ i u, cs[i]? = some u → w.cell? (a.add i) = some u := by
  unfold World.cells? at h
  rw [if_pos (Nat.zero_le _)] at h
  have hl : cs.length = n := by simpa using mapM_some_length h
  refine ⟨hl, fun i u hu => ?_⟩
  have hi : i < n := by rw [← hl]; exact (List.getElem?_eq_some_iff.1 hu).1
  have := mapM_some_get h i i (by simp [hi])
  rw [← hu]; simpa using this
theorem weights_all {H : Type} {e : TypeId} : ∀ {ds : List (DataW H)} {i : Nat} {d : DataW H}, ds[i]? = some d → ∀ n ∈ d.weights P e, n ∈ DataW.weightsAll P e ds
  | d0 :: ds, 0, d, hd, n, hn => by
    simp only [List.getElem?_cons_zero, Option.some.injEq] at hd
    subst hd
    simp only [DataW.weightsAll, List.mem_append]
    exact Or.inl hn
  | d0 :: ds, i + 1, d, hd, n, hn => by
    simp only [List.getElem?_cons_succ] at hd
    simp only [DataW.weightsAll, List.mem_append]
    exact Or.inr (weights_all hd n hn)
theorem choose_list {α : Type} (Q : Nat → α → Prop) : ∀ n : Nat, (∀ j, j < n → ∃ p, Q j p) → ∃ xs : List α, xs.length = n ∧ ∀ j p, xs[j]? = some p → Q j p
  | 0, _ => ⟨[], rfl, fun j p h => by simp at h⟩
  | n + 1, h => by
    obtain ⟨xs, hl, hq⟩ := choose_list Q n (fun j hj => h j (by omega))
    obtain ⟨p, hp⟩ := h n (by omega)
    refine ⟨xs ++ [p], by simp [hl], fun j q hj => ?_⟩
    by_cases hlt : j < xs.length
    · rw [List.getElem?_append_left hlt] at hj
      exact hq j q hj
    · have hb : j < (xs ++ [p]).length := (List.getElem?_eq_some_iff.1 hj).1
      have : j = xs.length := by simp at hb; omega
      subst this
      rw [List.getElem?_append_right (Nat.le_refl _)] at hj
      simp at hj
      subst hj
      rw [hl]; exact hp
theorem op_slice {e : TypeId} {α : Type} {d : Kd α} {good : α → Prop} (hu : P.underlying t = some (.slice e)) (hd : Op P e d good) (hz : d.sz = P.cellsOf e) :
    Op P t (Kd.slice e d) (fun xs => xs.length * P.bytesOf e ≤ 140737488351232 ∧ ∀ x ∈ xs, good x) := by
  intro H enc w fuel cs y h hs
  rcases DataW.trod_slice hu h with ⟨rfl, rfl⟩ | ⟨a, len, cap, elems, rest, n, rfl, rfl, rfl, _, hlc, hcm, hel, hat, _, _⟩
  · exact ⟨[], ⟨none, 0, rfl, Nat.le_refl _, rfl, by simp, fun h0 => absurd h0 (by simp)⟩, by simp, by simp⟩
  · have hw : ∀ (i : Nat) (y : DataW H × List MemPlace), elems[i]? = some y → ∀ m ∈ y.1.weights P e, m ≤ reachBytes := by
      intro i y hy m hm
      refine hs m ?_
      simp only [DataW.weights, hu, List.mem_cons, List.mem_append]
      refine Or.inr (Or.inl (weights_all (i := i) ?_ m hm))
      rw [List.getElem?_map, hy]; rfl
    have hone : ∀ j, j < len → ∃ p, good p ∧ ∃ c, c.length = d.sz ∧ d.K w p c ∧ ∀ i u, c[i]? = some u → w.cell? (a.add (j * d.sz + i)) = some u := by
      intro j hj
      have h1 := hat j hj
      have h2 : elems[j]? = some (elems[j]'(by omega)) := List.getElem?_eq_getElem _
      rw [h2] at h1
      obtain ⟨c, hc, ht⟩ := Option.bind_eq_some_iff.1 h1
      obtain ⟨x, hx, hg⟩ := hd ht (hw j _ h2)
      obtain ⟨hl, hcell⟩ := cells_at hc
      refine ⟨x, hg, c, by omega, hx, fun i u hu => ?_⟩
      have := hcell i u hu
      rwa [Addr.add_add, ← hz] at this
    obtain ⟨xs, hxl, hxs⟩ := choose_list _ len hone
    refine ⟨xs, ⟨some a, cap, by rw [hxl], by omega, ?_⟩, ?_, ?_⟩
    · rw [hxl]
      exact ⟨hxl, by unfold maxLen at hcm; omega, fun _ => ⟨a, rfl, fun j p hp => (hxs j p hp).2⟩⟩
    · have := hs ((elems.length + rest.length) * P.bytesOf e) (by simp [DataW.weights, hu])
      rw [hxl, ← hel]
      exact Nat.le_trans (Nat.mul_le_mul_right _ (Nat.le_add_right _ _)) this
    · intro x hx
      obtain ⟨j, hj⟩ := List.mem_iff_getElem?.1 hx
      exact (hxs j x hj).1
theorem opf_one {f : Field} {off : Nat} {α : Type} {d : Kd α} {good : α → Prop} (h : Op P f.type d good) (ho : f.offset = off) (hz : d.sz = P.cellsOf f.type) : OpF P [f] off d good := by
  intro H enc w fuel cs hall
  obtain ⟨y, hy, hs⟩ := hall f (by simp)
  rw [ho, ← hz] at hy
  exact h hy hs
theorem opf_cons {f : Field} {fs : List Field} {off off' : Nat} {α β : Type} {d : Kd α} {d' : Kd β} {good : α → Prop} {good' : β → Prop} (h : Op P f.type d good) (ho : f.offset = off) (hz : d.sz = P.cellsOf f.type)
    (hr : OpF P fs off' d' good') (ho' : off' = off + d.sz) : OpF P (f :: fs) off (Kd.pair d d') (fun x => good x.1 ∧ good' x.2) := by
  intro H enc w fuel cs hall
  obtain ⟨y, hy, hs⟩ := hall f (by simp)
  rw [ho, ← hz] at hy
  obtain ⟨x, hx, hg⟩ := h hy hs
  obtain ⟨x', hx', hg'⟩ := hr (fun f' hf' => hall f' (by simp [hf']))
  refine ⟨(x, x'), ⟨_, _, ?_, hx, hx'⟩, hg, hg'⟩
  rw [ho', show (Kd.pair d d').sz = d.sz + d'.sz from rfl, List.take_add, List.drop_drop]
theorem op_struct {fs : Array Field} {α β : Type} {d : Kd α} {good : α → Prop} (hu : P.underlying t = some (.struct fs)) (hf : OpF P fs.toList 0 d good) (hz : d.sz = P.cellsOf t) (f : β → α) (g : α → β) (hfg : ∀ a, f (g a) = a) :
    Op P t (Kd.iso d f) (fun x => good (f x)) := by
  intro H enc w fuel cs y h hs
  obtain ⟨xs, n, rfl, rfl, hl, hxl, hat⟩ := DataW.trod_struct hu h
  have hall : ∀ f ∈ fs.toList, ∃ y : DataW H × List MemPlace, DataW.trod enc P w 0 (fun _ => true) true n f.type ((cs.drop f.offset).take (P.cellsOf f.type)) = some y ∧ ∀ n ∈ y.1.weights P f.type, n ≤ reachBytes := by
    intro f hf
    obtain ⟨i, hi⟩ := List.mem_iff_getElem?.1 hf
    have hi' : fs[i]? = some f := by simpa using hi
    have hb : i < xs.length := by rw [hxl]; exact (Array.getElem?_eq_some_iff.1 hi').1
    have hx : xs[i]? = some xs[i] := List.getElem?_eq_getElem hb
    refine ⟨xs[i], (hat i f hi').trans hx, fun m hm => hs m ?_⟩
    simp only [DataW.weights, hu]
    refine DataW.weights_mem_each (j := i) (t := f.type) (d := xs[i].1) ?_ ?_ m hm
    · rw [List.getElem?_map, hi]; rfl
    · rw [List.getElem?_map, hx]; rfl
  obtain ⟨x, hx, hg⟩ := hf hall
  refine ⟨g x, ?_, ?_⟩
  · show d.K w (f (g x)) cs
    rw [hfg]
    rwa [List.drop_zero, List.take_of_length_le (by omega)] at hx
  · show good (f (g x))
    rw [hfg]; exact hg
/-- An argument, out of the row. -/
theorem op_arg {H : Type} {enc : TypeId × Value → H} {w : World} {ts : List TypeId} {ds : List (DataW H)} {j : Nat} {v : Value} {dd : DataW H} {ps : List MemPlace} {α : Type} {d : Kd α} {good : α → Prop}
    (ho : Op P t d good) (hsz : (DataW.weightsEach P ts ds).all (· ≤ reachBytes) = true) (ht : ts[j]? = some t) (hd : ds[j]? = some dd) (h : DataW.Trod enc P w 0 (fun _ => true) true t v dd ps) : ∃ x, d.K w x v.cells.toList ∧ good x := by
  obtain ⟨fuel, hf⟩ := h
  refine ho hf (fun n hn => ?_)
  have := List.all_eq_true.1 hsz _ (DataW.weights_mem_each ht hd n hn)
  simpa using this
end
end Go.Proofs.Ytfagljigaippiaa.Opens
