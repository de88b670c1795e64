/- How an argument of any shape is read where what is read is small (the second form, '..UptoSaid'): numbers, bools, texts, slices, structs. -/
import Derived.Test.YtfagljigaippiaaOpens
import Derived.Test.YtfagljigaippiaaRows
import Derived.JoinedCond
namespace Go.Proofs.Ytfagljigaippiaa.OpensU
open Go.RowKit Go.Proofs.YtfagljigaippiaaW.PrintWords Go.Proofs.Ytfagljigaippiaa.Opens
set_option linter.unusedVariables false
set_option linter.unusedSimpArgs false
theorem one_le {H : Type} (d : DataW H) : 1 ≤ Rows.uptoBulk d := by
  cases d with
  | lit l => cases l <;> simp [Rows.uptoBulk]
  | _ => simp [Rows.uptoBulk]
theorem part_le {H : Type} {d : DataW H} {l : List (DataW H)} (h : d ∈ l) : Rows.uptoBulk d ≤ Rows.uptoBulkAll l := by
  induction l with
  | nil => cases h
  | cons x r ih =>
    simp only [Rows.uptoBulkAll]
    rcases List.mem_cons.1 h with e | e
    · subst e; omega
    · have := ih e; omega
theorem length_le {H : Type} (l : List (DataW H)) : l.length ≤ Rows.uptoBulkAll l := by
  induction l with
  | nil => simp [Rows.uptoBulkAll]
  | cons x r ih => have := one_le x; simp only [Rows.uptoBulkAll, List.length_cons]; omega
theorem small {H : Type} {l : List (DataW H)} (hk : Rows.uptoSmall H l = true) {d : DataW H} (hd : d ∈ l) : Rows.uptoBulk d ≤ 1048576 := by
  have h : Rows.uptoBulkAll l ≤ 1048576 := of_decide_eq_true hk
  exact Nat.le_trans (part_le hd) h
theorem short {H : Type} {s : ByteArray} (h : Rows.uptoBulk (DataW.lit (H := H) (.string s.data.toList)) ≤ 1048576) : s.size ≤ 1048576 := by
  simp only [Rows.uptoBulk] at h
  have e : s.data.toList.length = s.size := by rw [Array.length_toList]; rfl
  omega
/-- Whatever is read as type t has cells of kind d, by an x that is good. -/
def OpU (P : Program) (t : TypeId) {α : Type} (d : Kd α) (good : α → Prop) : Prop :=
  ∀ {H : Type} {enc : TypeId × Value → H} {w : World} {fuel : Nat} {cs : List Value} {y : DataW H × List MemPlace},
    DataW.trod enc P w 0 (fun _ => true) true fuel t cs = some y → Rows.uptoBulk y.1 ≤ 1048576 → ∃ x, d.K w x cs ∧ good x
/-- The same of fields that lie one behind the other, from a place on. -/
def OpFU (P : Program) (fs : List Field) (off : Nat) {α : Type} (d : Kd α) (good : α → Prop) : Prop :=
  ∀ {H : Type} {enc : TypeId × Value → H} {w : World} {fuel : Nat} {cs : List Value},
    (∀ f ∈ fs, ∃ y : DataW H × List MemPlace, DataW.trod enc P w 0 (fun _ => true) true fuel f.type ((cs.drop f.offset).take (P.cellsOf f.type)) = some y ∧ Rows.uptoBulk y.1 ≤ 1048576) →
    ∃ x, d.K w x ((cs.drop off).take d.sz) ∧ good x
section
variable {P : Program} {t : TypeId}
theorem opu_int {k : IntKind} (hu : P.underlying t = some (.int k)) : OpU P t (Kd.int k) (fun x => (Lit.int k x).wf = true) := by
  intro H enc w fuel cs y h _
  obtain ⟨n, rfl, rfl, hw⟩ := DataW.trod_int hu h
  exact ⟨n, rfl, hw⟩
theorem opu_bool (hu : P.underlying t = some .bool) : OpU P t Kd.bool (fun _ => True) := by
  intro H enc w fuel cs y h _
  obtain ⟨b, rfl, rfl⟩ := DataW.trod_bool hu h
  exact ⟨b, rfl, trivial⟩
theorem opu_string (hu : P.underlying t = some .string) : OpU P t Kd.string (fun x => x.size ≤ 1048576) := by
  intro H enc w fuel cs y h hs
  obtain ⟨s, rfl, rfl, _⟩ := DataW.trod_string hu h
  exact ⟨s, rfl, short hs⟩
theorem opu_slice {e : TypeId} {α : Type} {d : Kd α} {good : α → Prop} (hu : P.underlying t = some (.slice e)) (hd : OpU P e d good) (hz : d.sz = P.cellsOf e) :
    OpU P t (Kd.slice e d) (fun xs => xs.length ≤ 1048576 ∧ ∀ x ∈ xs, good x) := by
  intro H enc w fuel cs y h hs
  rcases DataW.trod_slice hu h with ⟨rfl, rfl⟩ | ⟨a, len, cap, elems, rest, n, rfl, rfl, rfl, _, hlc, hcm, hel, hat, _, _⟩
  · exact ⟨[], ⟨none, 0, rfl, Nat.le_refl _, rfl, by simp, fun h0 => absurd h0 (by simp)⟩, by simp, by simp⟩
  · simp only [Rows.uptoBulk] at hs
    have hw : ∀ (i : Nat) (y : DataW H × List MemPlace), elems[i]? = some y → Rows.uptoBulk y.1 ≤ 1048576 := by
      intro i y hy
      have := part_le (l := elems.map (·.1)) (List.mem_map.2 ⟨y, List.mem_of_getElem? hy, rfl⟩)
      omega
    have hone : ∀ j, j < len → ∃ p, good p ∧ ∃ c, c.length = d.sz ∧ d.K w p c ∧ ∀ i u, c[i]? = some u → w.cell? (a.add (j * d.sz + i)) = some u := by
      intro j hj
      have h1 := hat j hj
      have h2 : elems[j]? = some (elems[j]'(by omega)) := List.getElem?_eq_getElem _
      rw [h2] at h1
      obtain ⟨c, hc, ht⟩ := Option.bind_eq_some_iff.1 h1
      obtain ⟨x, hx, hg⟩ := hd ht (hw j _ h2)
      obtain ⟨hl, hcell⟩ := cells_at hc
      refine ⟨x, hg, c, by omega, hx, fun i u hu => ?_⟩
      have := hcell i u hu
      rwa [Addr.add_add, ← hz] at this
    obtain ⟨xs, hxl, hxs⟩ := choose_list _ len hone
    refine ⟨xs, ⟨some a, cap, by rw [hxl], by omega, ?_⟩, ?_, ?_⟩
    · rw [hxl]
      exact ⟨hxl, by unfold maxLen at hcm; omega, fun _ => ⟨a, rfl, fun j p hp => (hxs j p hp).2⟩⟩
    · have := length_le (elems.map (·.1))
      rw [List.length_map] at this
      omega
    · intro x hx
      obtain ⟨j, hj⟩ := List.mem_iff_getElem?.1 hx
      exact (hxs j x hj).1
theorem opfu_one {f : Field} {off : Nat} {α : Type} {d : Kd α} {good : α → Prop} (h : OpU P f.type d good) (ho : f.offset = off) (hz : d.sz = P.cellsOf f.type) : OpFU P [f] off d good := by
  intro H enc w fuel cs hall
  obtain ⟨y, hy, hs⟩ := hall f (by simp)
  rw [ho, ← hz] at hy
  exact h hy hs
theorem opfu_cons {f : Field} {fs : List Field} {off off' : Nat} {α β : Type} {d : Kd α} {d' : Kd β} {good : α → Prop} {good' : β → Prop} (h : OpU P f.type d good) (ho : f.offset = off) (hz : d.sz = P.cellsOf f.type)
    (hr : OpFU P fs off' d' good') (ho' : off' = off + d.sz) : OpFU P (f :: fs) off (Kd.pair d d') (fun x => good x.1 ∧ good' x.2) := by
  intro H enc w fuel cs hall
  obtain ⟨y, hy, hs⟩ := hall f (by simp)
  rw [ho, ← hz] at hy
  obtain ⟨x, hx, hg⟩ := h hy hs
  obtain ⟨x', hx', hg'⟩ := hr (fun f' hf' => hall f' (by simp [hf']))
  refine ⟨(x, x'), ⟨_, _, ?_, hx, hx'⟩, hg, hg'⟩
  rw [ho', show (Kd.pair d d').sz = d.sz + d'.sz from rfl, List.take_add, List.drop_drop]
theorem opu_struct {fs : Array Field} {α β : Type} {d : Kd α} {good : α → Prop} (hu : P.underlying t = some (.struct fs)) (hf : OpFU P fs.toList 0 d good) (hz : d.sz = P.cellsOf t) (f : β → α) (g : α → β) (hfg : ∀ a, f (g a) = a) :
    OpU P t (Kd.iso d f) (fun x => good (f x)) := by
  intro H enc w fuel cs y h hs
  obtain ⟨xs, n, rfl, rfl, hl, hxl, hat⟩ := DataW.trod_struct hu h
  have hall : ∀ f ∈ fs.toList, ∃ y : DataW H × List MemPlace, DataW.trod enc P w 0 (fun _ => true) true n f.type ((cs.drop f.offset).take (P.cellsOf f.type)) = some y ∧ Rows.uptoBulk y.1 ≤ 1048576 := by
    intro f hf
    obtain ⟨i, hi⟩ := List.mem_iff_getElem?.1 hf
    have hi' : fs[i]? = some f := by simpa using hi
    have hb : i < xs.length := by rw [hxl]; exact (Array.getElem?_eq_some_iff.1 hi').1
    have hx : xs[i]? = some xs[i] := List.getElem?_eq_getElem hb
    refine ⟨xs[i], (hat i f hi').trans hx, ?_⟩
    simp only [Rows.uptoBulk] at hs
    have := part_le (l := xs.map (·.1)) (List.mem_map.2 ⟨xs[i], List.getElem_mem hb, rfl⟩)
    omega
  obtain ⟨x, hx, hg⟩ := hf hall
  refine ⟨g x, ?_, ?_⟩
  · show d.K w (f (g x)) cs
    rw [hfg]
    rwa [List.drop_zero, List.take_of_length_le (by omega)] at hx
  · show good (f (g x))
    rw [hfg]; exact hg
/-- An argument, out of the row. -/
theorem opu_arg {H : Type} {enc : TypeId × Value → H} {w : World} {v : Value} {dd : DataW H} {ps : List MemPlace} {α : Type} {d : Kd α} {good : α → Prop}
    (ho : OpU P t d good) (hs : Rows.uptoBulk dd ≤ 1048576) (h : DataW.Trod enc P w 0 (fun _ => true) true t v dd ps) : ∃ x, d.K w x v.cells.toList ∧ good x := by
  obtain ⟨fuel, hf⟩ := h
  exact ho hf hs
end
end Go.Proofs.Ytfagljigaippiaa.OpensU
