/- Chapter 7 (the disk): rows that grow, rows that are cloned. -/
import Derived.Test.YtfagljigaippiaaDkB
import Derived.Test.YtfagljigaippiaaXA
namespace Go.Proofs.Ytfagljigaippiaa.Dk
open Go.RowKit Go.Proofs.Ytfagljigaippiaa.X Go.Proofs.YtfagljigaippiaaW.PrintWords Go.Proofs.YtfagljigaippiaaW.PrintLast Go.Proofs.YtfagljigaippiaaW.PrintMore
set_option linter.unusedVariables false
set_option linter.unusedSimpArgs false

theorem flat_len {α : Type} {f : α → List Value} {sz : Nat} (hl : ∀ p, (f p).length = sz) : ∀ ps : List α, (ps.flatMap f).length = ps.length * sz
  | [] => by simp
  | p :: ps => by rw [List.flatMap_cons, List.length_append, hl, flat_len hl ps, List.length_cons, Nat.succ_mul, Nat.add_comm]
theorem reps_flat {α : Type} {f : α → List Value} {sz : Nat} {R : α → List Value → Prop} (hl : ∀ p, (f p).length = sz) (hR : ∀ p, R p (f p)) : ∀ ps : List α, Reps R sz ps (ps.flatMap f)
  | [] => ⟨by simp, fun j p h => by simp at h⟩
  | p :: ps => by
    refine ⟨flat_len hl _, fun j q hq => ?_⟩
    cases j with
    | zero =>
      simp only [List.getElem?_cons_zero, Option.some.injEq] at hq
      subst hq
      rw [Nat.zero_mul, List.drop_zero, List.flatMap_cons, List.take_left' (hl p)]
      exact hR p
    | succ j =>
      rw [List.getElem?_cons_succ] at hq
      rw [List.flatMap_cons, Nat.succ_mul, Nat.add_comm, ← List.drop_drop, List.drop_left' (hl p)]
      exact (reps_flat hl hR ps).2 j q hq
theorem reps_cells {α : Type} {f : α → List Value} {sz : Nat} {R : α → List Value → Prop} (hl : ∀ p, (f p).length = sz) (hR : ∀ p c, R p c → c = f p) : ∀ (ps : List α) (cs : List Value), Reps R sz ps cs → cs = ps.flatMap f
  | [], cs, h => by
    have := h.1
    simp at this
    rw [this]; rfl
  | p :: ps, cs, h => by
    have h0 := hR _ _ (h.2 0 p rfl)
    rw [Nat.zero_mul, List.drop_zero] at h0
    have h1 : Reps R sz ps (cs.drop sz) := by
      refine ⟨by rw [List.length_drop, h.1, List.length_cons, Nat.succ_mul]; omega, fun j q hq => ?_⟩
      have := h.2 (j + 1) q (by rw [List.getElem?_cons_succ]; exact hq)
      rw [List.drop_drop, Nat.add_comm]
      rw [Nat.succ_mul] at this
      exact this
    rw [List.flatMap_cons, ← h0, ← reps_cells hl hR ps _ h1, List.take_append_drop]
theorem map_flat (xs : List ByteArray) : xs.map Value.string = xs.flatMap fun s => [Value.string s] := by
  induction xs with
  | nil => rfl
  | cons x r ih => rw [List.map_cons, List.flatMap_cons, ih]; rfl
theorem wc_len (p : Int × ByteArray) : (wc p).length = 2 := rfl
def toS (p : Int × ByteArray) : S96 := ⟨p.1, p.2⟩
theorem toS_flat (ps : List (Int × ByteArray)) : (ps.map toS).flatMap (fun x : S96 => [Value.int .i64 x.f0, Value.string x.f1]) = wcs ps := by
  induction ps with
  | nil => rfl
  | cons x r ih => rw [List.map_cons, List.flatMap_cons, ih]; rfl
/-- A clone of a row of texts. -/
theorem clone_calls {base : Nat} {L : Nat → Sl} {N t : Nat} {xs : List ByteArray} {w : World} (h : Many base L N w) (ht : t < N) (hL : L t = ssl (L t).v xs) (hl : xs.length ≤ 1099511627776) :
    Calls Try.prog 31 #[(L t).v] w fun e w' => ∃ v', e = .returned v' ∧ w'.ownsRow w.heap.size 9 1 v' xs.length (xs.map Value.string) ∧ Below w.heap.size w w' := by
  have ho := h.1 t ht
  unfold Sl.here at ho
  rw [hL] at ho
  have ho' : w.ownsRow base 9 1 (L t).v xs.length (xs.map Value.string) := ho
  rw [map_flat] at ho'
  obtain ⟨A, c, e, hr⟩ := own_reads_row ho' (reps_flat (f := fun s => [Value.string s]) (sz := 1) (R := fun p c => c = [Value.string p]) (fun _ => rfl) (fun _ => rfl) xs) rfl
  have hc : xs.length ≤ c := by
    obtain ⟨A', c', e', k'⟩ := many_val h t ht
    rw [show (L t).n = xs.length by rw [hL]; rfl] at e' k'
    rw [e] at e'
    injection e' with _ _ e3
    omega
  rw [e]
  refine (slices_Clone_string_string.calls A c xs xs w hr hc (by unfold slices_Clone_string_string.f; rw [if_pos (by omega)])).mono ?_
  rintro e w' ⟨v', rfl, ⟨_, cs, h1, h2⟩, hb⟩
  refine ⟨v', rfl, ?_, hb⟩
  have e2 := reps_cells (f := fun s => [Value.string s]) (fun _ => rfl) (fun p c hpc => hpc) xs cs h2
  rw [map_flat, ← e2]
  exact h1
theorem clonew_calls {base : Nat} {L : Nat → Sl} {N t : Nat} {ps : List (Int × ByteArray)} {w : World} (h : Many base L N w) (ht : t < N) (hL : L t = wsl 96 (L t).v ps) (hl : ps.length ≤ 1099511627776) :
    Calls Try.prog 48 #[(L t).v] w fun e w' => ∃ v', e = .returned v' ∧ w'.ownsRow w.heap.size 96 2 v' ps.length (wcs ps) ∧ Below w.heap.size w w' := by
  have ho := h.1 t ht
  unfold Sl.here at ho
  rw [hL] at ho
  have ho' : w.ownsRow base 96 2 (L t).v ps.length (wcs ps) := ho
  rw [← toS_flat] at ho'
  have hlen : (ps.map toS).length = ps.length := List.length_map _
  obtain ⟨A, c, e, hr⟩ := own_reads_row ho' (reps_flat (R := k96.K w) (f := fun x : S96 => [Value.int .i64 x.f0, Value.string x.f1]) (fun _ => rfl) (fun x => k96_mk w x) (ps.map toS)) hlen
  have hc : ps.length ≤ c := by
    obtain ⟨A', c', e', k'⟩ := many_val h t ht
    rw [show (L t).n = ps.length by rw [hL]; rfl] at e' k'
    rw [e] at e'
    injection e' with _ _ e3
    omega
  rw [e]
  have hk := disk_write.calls A c (ps.map toS) (ps.map toS) w (by rw [hlen]; exact hr) (by rw [hlen]; exact hc) (by unfold disk_write.f; rw [if_pos (by rw [hlen]; omega)])
  rw [hlen] at hk
  refine hk.mono ?_
  rintro e w' ⟨v', rfl, ⟨_, cs, h1, h2⟩, hb⟩
  refine ⟨v', rfl, ?_, hb⟩
  have e2 := reps_cells (f := fun x : S96 => [Value.int .i64 x.f0, Value.string x.f1]) (fun _ => rfl) (fun p c hpc => k96_openM hpc) (ps.map toS) cs h2
  rw [← toS_flat, ← e2, ← hlen]
  exact h1
/-- One element more in a row. -/
theorem many_grow {base : Nat} {L : Nat → Sl} {N : Nat} {w0 W : World} (t62 e67 sz by_ : Nat) (z : Value) (hu : Try.prog.underlying t62 = some (.slice e67)) (hinf : (Try.prog.info? e67).map (fun i => (i.zero, i.size, i.bytes)) = some (some z, sz, by_)) (hzs : z.cells.size = sz) (hsz : 0 < sz) (hby : by_ ≤ 64)
    (h : Many base L N W) (t : Nat) (ht : t < N) (v : Value) (n : Nat) (xs : List Value) (hL : L t = ⟨v, e67, sz, n, xs⟩) (u : List Value) (hu2 : u.length = sz) (h1 : ∀ q ∈ u, q.oneCell' = true) (hB : Below base w0 W) (hbase : base ≤ W.heap.size) (hl : n ≤ 549755813888) :
    ∃ v' W', (Builtin.append_ #[t62, t62] t62 #[v, .slice (some ⟨W.heap.size, 0, none⟩) 1 1]).run Try.prog (W.alloc (.cells u.toArray e67)) = .ok v' W' ∧ Many base (upd L t ⟨v', e67, sz, n + 1, xs ++ u⟩) N W' ∧ Below base w0 W' := by
  obtain ⟨i0, hi, hzz⟩ := Option.map_eq_some_iff.1 hinf
  simp only [Prod.mk.injEq] at hzz
  obtain ⟨hz0, hz1, hz2⟩ := hzz
  have hM := many_below h (below_alloc (Below.refl _ _) (.cells u.toArray e67))
  have hB2 := hB.alloc hbase (.cells u.toArray e67)
  have hsz2 : base ≤ (W.alloc (.cells u.toArray e67)).heap.size := Nat.le_trans hbase (below_alloc (Below.refl W.heap.size W) _).size
  have ho : (W.alloc (.cells u.toArray e67)).ownsRow base e67 sz v n xs := by
    have := hM.1 t ht
    unfold Sl.here at this
    rw [hL] at this
    exact this
  obtain ⟨v', W', h1, h2, h3, h4, h5⟩ := run_append_own_at (P := Try.prog) (W.alloc (.cells u.toArray e67)) base t62 t62 e67 i0 z sz by_ hu hi hz0 hz1 hz2 hzs hsz v n xs ho ⟨W.heap.size, 0, none⟩ 1 1 u (by rw [hu2, Nat.one_mul]) (fun j q hj => by
    have ha : (⟨W.heap.size, 0, none⟩ : Addr).add j = ⟨W.heap.size, j, none⟩ := by unfold Addr.add; split <;> simp_all
    rw [ha, blk_cell (blk_new W (.cells u.toArray e67)), List.getElem?_toArray]; exact hj) h1 (by simp only [maxLen]; omega) (by
    have : (n + 1) * by_ ≤ (n + 1) * 64 := Nat.mul_le_mul_left _ hby
    omega) hsz2
  refine ⟨v', W', h1, many_put hM t ht _ (by rw [hL]; exact h3) h2 ?_, hB2.grown h3 hsz2 (fun k hk => (ho.lt k hk).1)⟩
  rw [hL]
  rcases h5 with e | e
  · exact .inl e
  · exact .inr ⟨_, e, Nat.le_refl _⟩
/-- A row of a disk grows or is another: its slice in the object follows. -/
theorem obj_set {base : Nat} {L : Nat → Sl} {N : Nat} {W : World} (h : Many base L N W) (t : Nat) (ht : t < N) (g T : Nat) (cs : List Value) (hL : L t = osl g T cs) (j : Nat) (u : Value) : Many base (upd L t (osl g T (cs.set j u))) N (W.setCell ⟨g, j, none⟩ u) := by
  have hm := many_setc h t ht g cs.length (by rw [hL]; rfl) j u
  have e : (⟨(L t).v, (L t).e, (L t).sz, (L t).n, (L t).xs.set j u⟩ : Sl) = osl g T (cs.set j u) := by
    rw [hL]
    show Sl.mk _ T 1 cs.length (cs.set j u) = _
    unfold osl
    rw [List.length_set]
  rw [e] at hm
  exact hm
theorem obj_cell {base : Nat} {L : Nat → Sl} {N : Nat} {W : World} (h : Many base L N W) (t : Nat) (ht : t < N) (g T : Nat) (cs : List Value) (hL : L t = osl g T cs) (j : Nat) (hj : j < cs.length) : W.cell? ⟨g, j, none⟩ = cs[j]? ∧ W.frozen? ⟨g, j, none⟩ = false ∧ base ≤ g := by
  have := many_cell h t ht g cs.length (by rw [hL]; rfl) j (by rw [hL]; show j < cs.length * 1; omega)
  rw [hL] at this
  exact this
/-- A text of a row of texts is set. -/
theorem text_set {base : Nat} {L : Nat → Sl} {N : Nat} {W : World} (h : Many base L N W) (t : Nat) (ht : t < N) (g c : Nat) (xs : List ByteArray) (hL : L t = ssl (L t).v xs) (hv : (L t).v = .slice (some ⟨g, 0, none⟩) xs.length c) (j : Nat) (s : ByteArray) : Many base (upd L t (ssl (L t).v (xs.set j s))) N (W.setCell ⟨g, j, none⟩ (.string s)) := by
  have hn : (L t).n = xs.length := by rw [hL]; rfl
  have hm := many_setc h t ht g c (by rw [hn]; exact hv) j (.string s)
  have e : (⟨(L t).v, (L t).e, (L t).sz, (L t).n, (L t).xs.set j (.string s)⟩ : Sl) = ssl (L t).v (xs.set j s) := by
    have e1 : (L t).e = 9 := by rw [hL]; rfl
    have e2 : (L t).sz = 1 := by rw [hL]; rfl
    have e3 : (L t).xs = xs.map Value.string := by rw [hL]; rfl
    rw [e1, e2, e3, hn]
    unfold ssl
    rw [List.length_set, List.map_set]
  rw [e] at hm
  exact hm
end Go.Proofs.Ytfagljigaippiaa.Dk
