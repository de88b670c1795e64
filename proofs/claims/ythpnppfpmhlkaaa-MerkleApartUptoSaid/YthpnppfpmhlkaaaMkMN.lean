/- Chapter 3: many rows side by side, each with a block of its own. -/
import Derived.Test.YthpnppfpmhlkaaaMkLS
import Derived.Laws.OwnMore
/- Chapter 3: books of paths, plainly. -/
namespace Go.Proofs.Ythpnppfpmhlkaaa.Sha
open Go.RowKit Go.Proofs.Ythpnppfpmhlkaaa.X Go.Proofs.YthpnppfpmhlkaaaW.PrintWords Go.Proofs.YthpnppfpmhlkaaaW.PrintLast Go.Proofs.YthpnppfpmhlkaaaW.PrintMore
set_option linter.unusedVariables false
set_option linter.unusedSimpArgs false

/-- A row: its value, its element, how many, and its cells. -/
structure Sl where
  v : Value
  e : TypeId
  sz : Nat
  n : Nat
  xs : List Value
def Sl.here (s : Sl) (base : Nat) (W : World) : Prop := W.ownsRow base s.e s.sz s.v s.n s.xs
def upd (L : Nat → Sl) (i : Nat) (x : Sl) : Nat → Sl := fun j => if j = i then x else L j
theorem upd_at (L : Nat → Sl) (i : Nat) (x : Sl) : upd L i x i = x := if_pos rfl
theorem upd_ne {L : Nat → Sl} {i j : Nat} {x : Sl} (h : j ≠ i) : upd L i x j = L j := if_neg h
/-- The first N rows lie here, no two in one block. -/
def Many (base : Nat) (L : Nat → Sl) (N : Nat) (W : World) : Prop :=
  (∀ s, s < N → (L s).here base W) ∧ ∀ s t, s < N → t < N → s ≠ t → ∀ k, (L s).v.ownBlock = some k → (L t).v.ownBlock ≠ some k
theorem many_below {base : Nat} {L : Nat → Sl} {N : Nat} {W W' : World} (h : Many base L N W) (hb : Below W.heap.size W W') : Many base L N W' :=
  ⟨fun s hs => own_other (h.1 s hs) (grown_of_below hb none) (by cases (L s).v.ownBlock with | none => exact .inl rfl | some k => exact .inr (by simp)), h.2⟩
theorem many_put {base : Nat} {L : Nat → Sl} {N : Nat} {W W' : World} (h : Many base L N W) (s : Nat) (hs : s < N) (x : Sl) (hg : W.grownBy W' (L s).v.ownBlock) (hx : x.here base W') (ho : x.v.ownBlock = (L s).v.ownBlock ∨ ∃ b, x.v.ownBlock = some b ∧ W.heap.size ≤ b) : Many base (upd L s x) N W' := by
  have far : ∀ t, t < N → t ≠ s → ∀ k, x.v.ownBlock = some k → (L t).v.ownBlock ≠ some k := fun t ht hts k hk hk2 => by
    rcases ho with e | ⟨b, e, hb⟩
    · rw [e] at hk
      exact h.2 s t hs ht (fun e => hts e.symm) k hk hk2
    · rw [e] at hk
      injection hk with hk
      have := ((h.1 t ht).lt k hk2).2
      omega
  refine ⟨fun t ht => ?_, fun t u ht hu htu k hk hk2 => ?_⟩
  · by_cases e : t = s
    · subst e; rw [upd_at]; exact hx
    · rw [upd_ne e]
      refine own_other (h.1 t ht) hg ?_
      cases e1 : (L t).v.ownBlock with
      | none => exact .inl rfl
      | some k => exact .inr fun e2 => h.2 t s ht hs e k e1 e2.symm
  · by_cases e1 : t = s
    · subst e1
      rw [upd_at] at hk
      rw [upd_ne (fun e => htu e.symm)] at hk2
      exact far u hu (fun e => htu e.symm) k hk hk2
    · rw [upd_ne e1] at hk
      by_cases e2 : u = s
      · subst e2
        rw [upd_at] at hk2
        exact far t ht e1 k hk2 hk
      · rw [upd_ne e2] at hk2
        exact h.2 t u ht hu htu k hk hk2
theorem many_add {base : Nat} {L : Nat → Sl} {N : Nat} {W W' : World} (h : Many base L N W) (x : Sl) (hb : Below W.heap.size W W') (hx : x.here base W') (ho : ∀ k, x.v.ownBlock = some k → W.heap.size ≤ k) : Many base (upd L N x) (N + 1) W' := by
  have h2 := many_below h hb
  have far : ∀ t, t < N → ∀ k, x.v.ownBlock = some k → (L t).v.ownBlock ≠ some k := fun t ht k hk hk2 => by
    have := ((h.1 t ht).lt k hk2).2
    have := ho k hk
    omega
  refine ⟨fun t ht => ?_, fun t u ht hu htu k hk hk2 => ?_⟩
  · by_cases e : t = N
    · subst e; rw [upd_at]; exact hx
    · rw [upd_ne e]; exact h2.1 t (by omega)
  · by_cases e1 : t = N
    · subst e1
      rw [upd_at] at hk
      rw [upd_ne (fun e => htu e.symm)] at hk2
      exact far u (by omega) k hk hk2
    · rw [upd_ne e1] at hk
      by_cases e2 : u = N
      · subst e2
        rw [upd_at] at hk2
        exact far t (by omega) k hk2 hk
      · rw [upd_ne e2] at hk2
        exact h.2 t u (by omega) (by omega) htu k hk hk2
/-- A row of hashes, and a row of rows. -/
def hsl (v : Value) (rows : List (List UInt8)) : Sl := ⟨v, 23, 32, rows.length, hc rows⟩
def osl (v : Value) (vals : List Value) : Sl := ⟨v, 31, 1, vals.length, vals⟩
theorem hsl_row {base : Nat} {v : Value} {rows : List (List UInt8)} {W : World} (h : (hsl v rows).here base W) (h32 : ∀ x ∈ rows, x.length = 32) : HRow base v rows W := ⟨h, h32⟩
theorem hsl_of {base : Nat} {v : Value} {rows : List (List UInt8)} {W : World} (h : HRow base v rows W) : (hsl v rows).here base W := h.1
theorem own_one {w : World} {base : Nat} {e : TypeId} {size n : Nat} {v : Value} {xs : List Value} (h : w.ownsRow base e size v n xs) : v.oneCell' = true := by
  rcases h.2 with ⟨rfl, _⟩ | ⟨g, cap, cur, rfl, _⟩ <;> rfl
theorem grown_cell (W : World) (p : Addr) (u : Value) : W.grownBy (W.setCell p u) (some p.block) :=
  ⟨rfl, rfl, rfl, by simp [World.setCell], fun k _ hne => Below.heap_setCell W p u k (fun e => hne (by rw [e]))⟩
theorem grown_cells (g : Nat) : ∀ (vs : List Value) (o : Nat) (W : World), W.grownBy (W.setCells g o vs) (some g)
  | [], _, W => World.grownBy.refl W _
  | v :: r, o, W => (grown_cell W ⟨g, o, none⟩ v).trans (grown_cells g r (o + 1) _)
/-- One value more in a row of rows. -/
theorem many_append {base : Nat} {L : Nat → Sl} {N : Nat} {w0 W : World} (h : Many base L N W) (t : Nat) (ht : t < N) (v : Value) (vals : List Value) (hL : L t = osl v vals) (x : Value) (hx : x.oneCell' = true) (hB : Below base w0 W) (hbase : base ≤ W.heap.size) (hl : vals.length ≤ 1099511627776) :
    ∃ v' W', (Builtin.append_ #[40, 40] 40 #[v, .slice (some ⟨W.heap.size, 0, none⟩) 1 1]).run Try.prog (W.alloc (.cells #[x] 31)) = .ok v' W' ∧ Many base (upd L t (osl v' (vals ++ [x]))) N W' ∧ Below base w0 W' := by
  obtain ⟨i0, hi, hzz⟩ := Option.map_eq_some_iff.1 info31'
  simp only [Prod.mk.injEq] at hzz
  obtain ⟨hz0, hz1, hz2⟩ := hzz
  have hM := many_below h (below_alloc (Below.refl _ _) (.cells #[x] 31))
  have hB2 := hB.alloc hbase (.cells #[x] 31)
  have ho : (W.alloc (.cells #[x] 31)).ownsRow base 31 1 v vals.length vals := by
    have := hM.1 t ht
    rw [hL] at this
    exact this
  obtain ⟨v', W', h1, h2, h3, h4, h5⟩ := run_append_own_at (P := Try.prog) (W.alloc (.cells #[x] 31)) base 40 40 31 i0 (.slice none 0 0) 1 24 Try.underlying40 hi hz0 hz1 hz2 rfl (by omega) v vals.length vals ho ⟨W.heap.size, 0, none⟩ 1 1 [x] rfl (cell_one_new W x 31) (fun u hu => by rw [List.mem_singleton.1 hu]; exact hx) (by simp only [maxLen]; omega) (by omega) (Nat.le_trans hbase (below_alloc (Below.refl W.heap.size W) _).size)
  refine ⟨v', W', h1, many_put hM t ht _ (by rw [hL]; exact h3) ?_ ?_, hB2.grown h3 (Nat.le_trans hbase (below_alloc (Below.refl W.heap.size W) _).size) (fun k hk => (ho.lt k hk).1)⟩
  · show W'.ownsRow base 31 1 v' (vals ++ [x]).length (vals ++ [x])
    rw [List.length_append]; exact h2
  · rw [hL]
    rcases h5 with e | e
    · exact .inl e
    · exact .inr ⟨_, e, Nat.le_refl _⟩
/-- One hash more in a row of hashes. -/
theorem many_grow {base : Nat} {L : Nat → Sl} {N : Nat} {w0 W : World} (h : Many base L N W) (t : Nat) (ht : t < N) (v : Value) (rows : List (List UInt8)) (hL : L t = hsl v rows) (h32 : ∀ x ∈ rows, x.length = 32) (S : List UInt8) (hS : S.length = 32) (hB : Below base w0 W) (hbase : base ≤ W.heap.size) (hl : rows.length ≤ 1099511627776) :
    ∃ v' W', (Builtin.append_ #[31, 31] 31 #[v, .slice (some ⟨W.heap.size, 0, none⟩) 1 1]).run Try.prog (W.alloc (.cells (brw 32 S) 23)) = .ok v' W' ∧ Many base (upd L t (hsl v' (rows ++ [S]))) N W' ∧ Below base w0 W' ∧ (W.alloc (.cells (brw 32 S) 23)).grownBy W' v.ownBlock := by
  have hM := many_below h (below_alloc (Below.refl _ _) (.cells (brw 32 S) 23))
  have hB2 := hB.alloc hbase (.cells (brw 32 S) 23)
  have hr : HRow base v rows (W.alloc (.cells (brw 32 S) 23)) := by
    have := hM.1 t ht
    rw [hL] at this
    exact hsl_row this h32
  obtain ⟨v', W', h1, h2, h3, h4, h5⟩ := append_hrows base v rows [S] w0 (W.alloc (.cells (brw 32 S) 23)) ⟨W.heap.size, 0, none⟩ 1 hr hB2 (Nat.le_trans hbase (below_alloc (Below.refl W.heap.size W) _).size) (hread_one hS (blk_new W (.cells (brw 32 S) 23))) (by show _ + 1 ≤ _; omega)
  refine ⟨v', W', h1, many_put hM t ht _ (by rw [hL]; exact h4) (hsl_of h2) ?_, h3, h4⟩
  rw [hL]
  rcases h5 with e | e
  · exact .inl e
  · exact .inr ⟨_, e, Nat.le_refl _⟩
/-- A value set in a row of rows. -/
theorem many_set {base : Nat} {L : Nat → Sl} {N : Nat} {W : World} (h : Many base L N W) (t : Nat) (ht : t < N) (g cap : Nat) (vals : List Value) (hL : L t = osl (.slice (some ⟨g, 0, none⟩) vals.length cap) vals) (i : Nat) (x : Value) :
    Many base (upd L t (osl (.slice (some ⟨g, 0, none⟩) vals.length cap) (vals.set i x))) N (W.setCell ⟨g, i, none⟩ x) := by
  have ho := h.1 t ht
  rw [hL] at ho
  obtain ⟨h1, h2⟩ := World.ownsRow.stored ho i x
  refine many_put h t ht _ (by rw [hL]; exact h2) ?_ (by rw [hL]; exact .inl rfl)
  show (W.setCell ⟨g, i, none⟩ x).ownsRow base 31 1 _ (vals.set i x).length (vals.set i x)
  rw [List.length_set]
  exact h1
/-- A hash set in a row of hashes. -/
theorem many_hash {base : Nat} {L : Nat → Sl} {N : Nat} {W : World} (h : Many base L N W) (t : Nat) (ht : t < N) (g cap : Nat) (rows : List (List UInt8)) (hL : L t = hsl (.slice (some ⟨g, 0, none⟩) rows.length cap) rows) (h32 : ∀ x ∈ rows, x.length = 32) (k : Nat) (hk : k < rows.length) (S : List UInt8) (hS : S.length = 32) :
    Many base (upd L t (hsl (.slice (some ⟨g, 0, none⟩) rows.length cap) (rows.set k S))) N (W.setCells g (k * 32) (brw 32 S).toList) := by
  have ho := h.1 t ht
  rw [hL] at ho
  obtain ⟨h0, ⟨e, _⟩ | ⟨g', cap', cur, e, hg, hh, hc1, hc2, hsz, htk⟩⟩ := ho
  · cases e
  have e2 : g' = g ∧ cap' = cap := by
    have : (Value.slice (some ⟨g, 0, none⟩) rows.length cap) = .slice (some ⟨g', 0, none⟩) rows.length cap' := e
    injection this with a b c
    injection a with a
    injection a with a
    exact ⟨a.symm, c.symm⟩
  obtain ⟨rfl, rfl⟩ := e2
  have hbt : (brw 32 S).toList = bc S := by rw [brw_full 32 S hS]; rfl
  obtain ⟨cs', c1, c2, c3⟩ := setCells_block (brw 32 S).toList (k * 32) W cur hh (fun v hv => (Array.all_eq_true_iff_forall_mem.1 (brw_one 32 S)) v (by simpa using hv))
  refine many_put h t ht _ (by rw [hL]; exact grown_cells g' _ _ _) ?_ (by rw [hL]; exact .inl rfl)
  have h32' : ∀ x ∈ rows.set k S, x.length = 32 := fun x hx => by
    rcases List.mem_or_eq_of_mem_set hx with h | h
    · exact h32 x h
    · rw [h]; exact hS
  show (W.setCells g' (k * 32) (brw 32 S).toList).ownsRow base 23 32 _ (rows.set k S).length (hc (rows.set k S))
  rw [List.length_set]
  refine ⟨by rw [hc_len _ h32', List.length_set], .inr ⟨g', cap', cs', rfl, hg, c1, hc1, hc2, by rw [c2]; exact hsz, ?_⟩⟩
  have hle : rows.length * 32 ≤ cur.size := by rw [hsz]; exact Nat.mul_le_mul_right 32 hc1
  refine List.ext_getElem? fun m => ?_
  by_cases hm : m < rows.length * 32
  · rw [List.getElem?_take_of_lt hm, Array.getElem?_toList, c3, hbt, bc_len, hS]
    have hj : m / 32 < rows.length := by omega
    have hi : m % 32 < 32 := by omega
    have e1 := hc_at (rows.set k S) (m / 32) (m % 32) h32' (by rw [List.length_set]; exact hj) hi
    have e3 := hc_at rows (m / 32) (m % 32) h32 hj hi
    rw [show m / 32 * 32 + m % 32 = m by omega] at e1 e3
    rw [e1]
    by_cases c : k = m / 32
    · rw [if_pos (by omega)]
      have e4 : (rows.set k S).getD (m / 32) [] = S := by
        rw [List.getD_eq_getElem?_getD, List.getElem?_set, if_pos c, if_pos hk]; rfl
      rw [e4]
      unfold bc
      rw [List.getElem?_map, show m - k * 32 = m % 32 by omega, List.getElem?_eq_getElem (by omega), List.getD_eq_getElem?_getD, List.getElem?_eq_getElem (by omega)]; rfl
    · rw [if_neg (by omega)]
      have e4 : (rows.set k S).getD (m / 32) [] = rows.getD (m / 32) [] := by
        rw [List.getD_eq_getElem?_getD, List.getElem?_set, if_neg c, List.getD_eq_getElem?_getD]
      rw [e4, ← e3]
      have e5 : (cur.toList.take (rows.length * 32))[m]? = (hc rows)[m]? := by
        have : cur.toList.take (rows.length * 32) = hc rows := htk
        rw [this]
      rw [List.getElem?_take_of_lt hm, Array.getElem?_toList] at e5
      exact e5
  · rw [List.getElem?_eq_none (by rw [List.length_take]; omega), List.getElem?_eq_none (by rw [hc_len _ h32', List.length_set]; omega)]
/-- A row of rows, read. -/
theorem many_cell {base : Nat} {L : Nat → Sl} {N : Nat} {W : World} (h : Many base L N W) (t : Nat) (ht : t < N) (v : Value) (vals : List Value) (hL : L t = osl v vals) (i : Nat) (hi : i < vals.length) :
    ∃ g cap, v = .slice (some ⟨g, 0, none⟩) vals.length cap ∧ W.cell? ⟨g, i, none⟩ = some (vals.getD i undef) ∧ W.frozen? ⟨g, i, none⟩ = false ∧ base ≤ g := by
  have ho := h.1 t ht
  rw [hL] at ho
  obtain ⟨g, cap, e, _, _⟩ := World.ownsRow.form ho (by show 0 < vals.length; omega)
  have e' : v = .slice (some ⟨g, 0, none⟩) vals.length cap := e
  subst e'
  have hc := World.ownsRow.cellAt ho i (by show i < vals.length * 1; omega)
  have hb : base ≤ g := (World.ownsRow.lt ho g rfl).1
  refine ⟨g, cap, rfl, ?_, ?_, hb⟩
  · rw [hc]
    show vals[i]? = _
    rw [List.getElem?_eq_getElem hi, List.getD_eq_getElem?_getD, List.getElem?_eq_getElem hi]; rfl
  · obtain ⟨h0, ⟨e, _⟩ | ⟨g', cap', cur, e, hg, hh, _⟩⟩ := ho
    · cases e
    · have : g = g' := by
        have : (Value.slice (some ⟨g, 0, none⟩) vals.length cap) = .slice (some ⟨g', 0, none⟩) vals.length cap' := e
        injection this with a b c
        injection a with a
        injection a with a
      subst this
      exact blk_frozen hh i
theorem many_row {base : Nat} {L : Nat → Sl} {N : Nat} {W : World} (h : Many base L N W) (t : Nat) (ht : t < N) (v : Value) (rows : List (List UInt8)) (hL : L t = hsl v rows) (h32 : ∀ x ∈ rows, x.length = 32) : HRow base v rows W := by
  have ho := h.1 t ht
  rw [hL] at ho
  exact hsl_row ho h32
end Go.Proofs.Ythpnppfpmhlkaaa.Sha
namespace Go.Proofs.Ythpnppfpmhlkaaa.Sha
open Go.RowKit Go.Proofs.Ythpnppfpmhlkaaa.X Go.Proofs.YthpnppfpmhlkaaaW.PrintWords Go.Proofs.YthpnppfpmhlkaaaW.PrintLast Go.Proofs.YthpnppfpmhlkaaaW.PrintMore
set_option linter.unusedVariables false
set_option linter.unusedSimpArgs false

theorem nil_nil31 (c : Nat) (W : World) : (Builtin.append_ #[31, 31] 31 #[.slice none 0 0, .slice none 0 c]).run Try.prog W = .ok (.slice none 0 0) W := by
  obtain ⟨i0, hi, _⟩ := Option.map_eq_some_iff.1 info23
  simp [Builtin.append_, run_underlying Try.underlying31, sizeOf, typeInfo, hi, Builtin.lenOf, Builtin.firstCells, loadCells, loadCellsFrom]
/-- A copy of a row of hashes. -/
theorem copyH (A : Option Addr) (c : Nat) (rows : List (List UInt8)) (W : World) (h : HRead A rows W) (hl : rows.length ≤ 1099511627776) :
    ∃ v' W', (Builtin.append_ #[31, 31] 31 #[.slice none 0 0, .slice A rows.length c]).run Try.prog W = .ok v' W' ∧ HRow W.heap.size v' rows W' ∧ Below W.heap.size W W' := by
  cases A with
  | none =>
    have h0 : rows.length = 0 := by
      by_cases h1 : 0 < rows.length
      · obtain ⟨_, e, _⟩ := h.2 h1
        cases e
      · omega
    rw [h0]
    refine ⟨_, _, nil_nil31 c W, ?_, Below.refl _ _⟩
    rw [List.eq_nil_of_length_eq_zero h0]; exact hrow_nil _ _
  | some ad =>
    obtain ⟨v', W', h1, h2, h3, _⟩ := append_hrows W.heap.size (.slice none 0 0) [] rows W W ad c (hrow_nil _ _) (Below.refl _ _) (Nat.le_refl _) h (by simp; omega)
    exact ⟨v', W', h1, h2, h3⟩
theorem C_takeN {W : World} {A : Option Addr} {n : Nat} {xs : List ByteArray} (h : Kd.C Kd.string W A n xs) (k : Nat) (hk : k ≤ n) : Kd.C Kd.string W A k (xs.take k) := by
  obtain ⟨h1, h2, h3⟩ := h
  refine ⟨by rw [List.length_take]; omega, by omega, fun h0 => ?_⟩
  obtain ⟨ad, e, h4⟩ := h3 (by omega)
  refine ⟨ad, e, fun j p hj => h4 j p ?_⟩
  rw [List.getElem?_take] at hj
  split at hj
  · exact hj
  · cases hj
theorem many_read {base : Nat} {L : Nat → Sl} {N : Nat} {W : World} (h : Many base L N W) (t : Nat) (ht : t < N) (A : Option Addr) (n c : Nat) (rows : List (List UInt8)) (hL : L t = hsl (.slice A n c) rows) (h32 : ∀ x ∈ rows, x.length = 32) : HRead A rows W := by
  obtain ⟨A', c', e, _, h1⟩ := hrow_read (many_row h t ht _ rows hL h32)
  injection e with e
  rw [e]; exact h1
/-- The value of a row of hashes. -/
theorem many_form {base : Nat} {L : Nat → Sl} {N : Nat} {W : World} (h : Many base L N W) (t : Nat) (ht : t < N) (v : Value) (rows : List (List UInt8)) (hL : L t = hsl v rows) (h32 : ∀ x ∈ rows, x.length = 32) : ∃ A c, v = .slice A rows.length c ∧ rows.length ≤ c ∧ HRead A rows W ∧ (0 < rows.length → ∃ g, A = some ⟨g, 0, none⟩ ∧ base ≤ g) := by
  have hr := many_row h t ht v rows hL h32
  obtain ⟨A, c, e, hc, h1⟩ := hrow_read hr
  refine ⟨A, c, e, hc, h1, fun h0 => ?_⟩
  obtain ⟨g, cap, e2, _, _⟩ := World.ownsRow.form hr.1 h0
  have hb := hrow_own hr g (by rw [e2]; rfl)
  rw [e] at e2
  injection e2 with e2
  exact ⟨g, e2, hb⟩
theorem range_val (f : Nat → Value) (n i : Nat) (hi : i < n) : ((List.range n).map f).getD i undef = f i := by
  rw [List.getD_eq_getElem?_getD, List.getElem?_map, List.getElem?_range hi]; rfl
theorem range_set (f : Nat → Value) (n i : Nat) (v : Value) : ((List.range n).map f).set i v = (List.range n).map (fun j => if j = i then v else f j) := by
  refine List.ext_getElem? fun j => ?_
  rw [List.getElem?_set, List.length_map, List.length_range, List.getElem?_map, List.getElem?_map]
  by_cases h : j < n
  · rw [List.getElem?_range h]
    by_cases e : i = j
    · rw [if_pos e, if_pos (by omega)]
      show _ = some (if j = i then v else f j)
      rw [if_pos e.symm]
    · rw [if_neg e]
      show _ = some (if j = i then v else f j)
      rw [if_neg (fun h => e h.symm)]; rfl
  · rw [List.getElem?_eq_none (by rw [List.length_range]; omega)]
    by_cases e : i = j
    · rw [if_pos e, if_neg (by omega)]; rfl
    · rw [if_neg e]; rfl
/-- The first loop's state: i places. -/
def St1 (C : Nat → List (List UInt8)) (L : Nat → Sl) (i : Nat) : Prop :=
  (∀ t, t < 3 → L t = osl (L t).v ((List.range i).map fun j => (L (3 + 3 * j + t)).v)) ∧ ∀ j t, j < i → t < 3 → L (3 + 3 * j + t) = hsl (L (3 + 3 * j + t)).v (C j)
theorem st1_step {C : Nat → List (List UInt8)} {L L' : Nat → Sl} {i : Nat} (h : St1 C L i) (p : Nat → Value) (hold : ∀ j t, j < i → t < 3 → L' (3 + 3 * j + t) = L (3 + 3 * j + t)) (hnew : ∀ t, t < 3 → L' (3 + 3 * i + t) = hsl (p t) (C i))
    (hout : ∀ t, t < 3 → ∃ v, L' t = osl v ((List.range i).map (fun j => (L (3 + 3 * j + t)).v) ++ [p t])) : St1 C L' (i + 1) := by
  refine ⟨fun t ht => ?_, fun j t hj ht => ?_⟩
  · obtain ⟨v, e⟩ := hout t ht
    have e2 : (List.range (i + 1)).map (fun j => (L' (3 + 3 * j + t)).v) = (List.range i).map (fun j => (L (3 + 3 * j + t)).v) ++ [p t] := by
      rw [List.range_succ, List.map_append]
      congr 1
      · refine List.map_congr_left fun j hj => ?_
        rw [hold j t (List.mem_range.1 hj) ht]
      · show [(L' (3 + 3 * i + t)).v] = [p t]
        rw [hnew t ht]; rfl
    rw [e2, e]; rfl
  · by_cases e : j = i
    · subst e
      rw [hnew t ht]; rfl
    · rw [hold j t (by omega) ht]
      exact h.2 j t (by omega) ht
/-- The later loops' state: the first row of rows may change. -/
def St2 (C : Nat → List (List UInt8)) (L : Nat → Sl) (n : Nat) (va vb vc : Value) (Ra : Nat → List (List UInt8)) : Prop :=
  L 0 = osl va ((List.range n).map fun j => (L (3 + 3 * j)).v) ∧ L 1 = osl vb ((List.range n).map fun j => (L (3 + 3 * j + 1)).v) ∧ L 2 = osl vc ((List.range n).map fun j => (L (3 + 3 * j + 2)).v) ∧
  ∀ j, j < n → L (3 + 3 * j) = hsl (L (3 + 3 * j)).v (Ra j) ∧ (∀ x ∈ Ra j, x.length = 32) ∧ L (3 + 3 * j + 1) = hsl (L (3 + 3 * j + 1)).v (C j) ∧ L (3 + 3 * j + 2) = hsl (L (3 + 3 * j + 2)).v (C j)
theorem st2_of {C : Nat → List (List UInt8)} {L : Nat → Sl} {n : Nat} (h : St1 C L n) (h32 : ∀ j, ∀ x ∈ C j, x.length = 32) : St2 C L n (L 0).v (L 1).v (L 2).v C :=
  ⟨h.1 0 (by decide), h.1 1 (by decide), h.1 2 (by decide), fun j hj => ⟨h.2 j 0 hj (by decide), h32 j, h.2 j 1 hj (by decide), h.2 j 2 hj (by decide)⟩⟩
/-- Row i of the first changes. -/
theorem st2_upd {C : Nat → List (List UInt8)} {L : Nat → Sl} {n : Nat} {va vb vc : Value} {Ra : Nat → List (List UInt8)} (h : St2 C L n va vb vc Ra) (i : Nat) (hi : i < n) (v' : Value) (rows : List (List UInt8)) (h32 : ∀ x ∈ rows, x.length = 32) :
    St2 C (upd (upd L (3 + 3 * i) (hsl v' rows)) 0 (osl va (((List.range n).map fun j => (L (3 + 3 * j)).v).set i v'))) n va vb vc (fun j => if j = i then rows else Ra j) := by
  obtain ⟨h0, h1, h2, h3⟩ := h
  have e3 : ∀ (X : Sl) (j : Nat), (upd (upd L (3 + 3 * i) (hsl v' rows)) 0 X) (3 + 3 * j) = if j = i then hsl v' rows else L (3 + 3 * j) := fun X j => by
    unfold upd
    rw [if_neg (by omega)]
    by_cases e : j = i
    · rw [if_pos e, if_pos (by omega)]
    · rw [if_neg e, if_neg (by omega)]
  have e4 : ∀ (X : Sl) (j : Nat), (upd (upd L (3 + 3 * i) (hsl v' rows)) 0 X) (3 + 3 * j + 1) = L (3 + 3 * j + 1) := fun X j => by
    unfold upd
    rw [if_neg (by omega), if_neg (by omega)]
  have e5 : ∀ (X : Sl) (j : Nat), (upd (upd L (3 + 3 * i) (hsl v' rows)) 0 X) (3 + 3 * j + 2) = L (3 + 3 * j + 2) := fun X j => by
    unfold upd
    rw [if_neg (by omega), if_neg (by omega)]
  refine ⟨?_, ?_, ?_, fun j hj => ?_⟩
  · rw [upd_at, range_set]
    congr 1
    refine List.map_congr_left fun j _ => ?_
    rw [e3 _ j]
    by_cases e : j = i
    · rw [if_pos e, if_pos e]; rfl
    · rw [if_neg e, if_neg e]
  · rw [upd_ne (by omega), upd_ne (by omega), h1]
    congr 1
    exact List.map_congr_left fun j _ => by rw [e4 _ j]
  · rw [upd_ne (by omega), upd_ne (by omega), h2]
    congr 1
    exact List.map_congr_left fun j _ => by rw [e5 _ j]
  · obtain ⟨a1, a2, a3, a4⟩ := h3 j hj
    rw [e3 _ j, e4 _ j, e5 _ j]
    dsimp only
    by_cases e : j = i
    · rw [if_pos e, if_pos e]
      exact ⟨rfl, h32, a3, a4⟩
    · rw [if_neg e, if_neg e]
      exact ⟨a1, a2, a3, a4⟩
/-- .. and keeps its value. -/
theorem st2_same {C : Nat → List (List UInt8)} {L : Nat → Sl} {n : Nat} {va vb vc : Value} {Ra : Nat → List (List UInt8)} (h : St2 C L n va vb vc Ra) (i : Nat) (hi : i < n) (rows : List (List UInt8)) (h32 : ∀ x ∈ rows, x.length = 32) :
    St2 C (upd L (3 + 3 * i) (hsl (L (3 + 3 * i)).v rows)) n va vb vc (fun j => if j = i then rows else Ra j) := by
  have h' := st2_upd h i hi (L (3 + 3 * i)).v rows h32
  have e : (upd (upd L (3 + 3 * i) (hsl (L (3 + 3 * i)).v rows)) 0 (osl va (((List.range n).map fun j => (L (3 + 3 * j)).v).set i (L (3 + 3 * i)).v))) = upd L (3 + 3 * i) (hsl (L (3 + 3 * i)).v rows) := by
    funext j
    unfold upd
    by_cases e : j = 0
    · rw [if_pos e, if_neg (by omega), e, h.1, range_set]
      congr 1
      refine List.map_congr_left fun k _ => ?_
      by_cases e2 : k = i
      · rw [if_pos e2, e2]
      · rw [if_neg e2]
    · rw [if_neg e]
  rw [e] at h'
  exact h'
/-- At the start. -/
theorem many_none (base : Nat) (W : World) : Many base (fun _ => osl (.slice none 0 0) []) 3 W :=
  ⟨fun _ _ => World.ownsRow_nil W base 31 1, fun _ _ _ _ _ k hk => by simp [osl, Value.ownBlock] at hk⟩
theorem st1_none (C : Nat → List (List UInt8)) : St1 C (fun _ => osl (.slice none 0 0) []) 0 := ⟨fun _ _ => rfl, fun j _ hj => by omega⟩
/-- The paths' hashes are hashes. -/
theorem pth_32 : ∀ (m : Nat) (rows : List (List UInt8)) (i : Nat), rows.length ≤ m → (∀ x ∈ rows, x.length = 32) → ∀ x ∈ pth rows i, x.length = 32
  | 0, rows, i, h, _, x, hx => by rw [pth_one rows i (by omega)] at hx; cases hx
  | m + 1, rows, i, h, h32, x, hx => by
    by_cases h1 : 1 < rows.length
    · rw [pth_more rows i h1] at hx
      have e := abv_len rows
      rcases List.mem_append.1 hx with h2 | h2
      · split at h2
        · rename_i hs
          rw [List.mem_singleton.1 h2, List.getD_eq_getElem?_getD, List.getElem?_eq_getElem hs]
          exact h32 _ (List.getElem_mem _)
        · cases h2
      · exact pth_32 m (abv rows) (i / 2) (by omega) (abv_32 rows h32) x h2
    · rw [pth_one rows i h1] at hx; cases hx
theorem path_32 (xs : List ByteArray) (i : Int) : ∀ x ∈ pathF xs i, x.length = 32 := by
  intro x hx
  unfold pathF at hx
  split at hx
  · exact pth_32 _ _ _ (Nat.le_refl _) (tl_32 xs) x hx
  · cases hx
theorem many_at {base : Nat} {L : Nat → Sl} {N : Nat} {W : World} (h : Many base L N W) (t : Nat) (ht : t < N) (g n cap : Nat) (vals : List Value) (hL : L t = osl (.slice (some ⟨g, 0, none⟩) n cap) vals) (i : Nat) (hi : i < vals.length) :
    W.cell? ⟨g, i, none⟩ = some (vals.getD i undef) ∧ W.frozen? ⟨g, i, none⟩ = false ∧ base ≤ g := by
  obtain ⟨g', cap', e, h1, h2, h3⟩ := many_cell h t ht _ vals hL i hi
  injection e with a b c
  injection a with a
  injection a with a
  subst a
  exact ⟨h1, h2, h3⟩
theorem many_val {base : Nat} {L : Nat → Sl} {N : Nat} {W : World} (h : Many base L N W) (t : Nat) (ht : t < N) (v : Value) (vals : List Value) (hL : L t = osl v vals) : ∃ A c, v = .slice A vals.length c ∧ (0 < vals.length → ∃ g, A = some ⟨g, 0, none⟩) := by
  have ho := h.1 t ht
  rw [hL] at ho
  obtain ⟨h0, ⟨e, e2⟩ | ⟨g', cap', cur, e, hg, hh, _⟩⟩ := ho
  · exact ⟨none, 0, by rw [show vals.length = 0 from e2]; exact e, fun h => by have : vals.length = 0 := e2; omega⟩
  · exact ⟨_, cap', e, fun _ => ⟨_, rfl⟩⟩
theorem many_there {base : Nat} {L : Nat → Sl} {N : Nat} {W : World} (h : Many base L N W) (t : Nat) (ht : t < N) (g cap : Nat) (rows : List (List UInt8)) (hL : L t = hsl (.slice (some ⟨g, 0, none⟩) rows.length cap) rows) (k : Nat) (hk : k < rows.length) : W.there g (k * 32) 32 := by
  have ho := h.1 t ht
  rw [hL] at ho
  obtain ⟨h0, ⟨e, _⟩ | ⟨g', cap', cur, e, hg, hh, hc1, hc2, hsz, htk⟩⟩ := ho
  · cases e
  have e2 : g = g' ∧ cap = cap' := by
    have : (Value.slice (some ⟨g, 0, none⟩) rows.length cap) = .slice (some ⟨g', 0, none⟩) rows.length cap' := e
    injection this with a b c
    injection a with a
    injection a with a
    exact ⟨a, c⟩
  obtain ⟨rfl, rfl⟩ := e2
  have hle : rows.length * 32 ≤ cur.size := by rw [hsz]; exact Nat.mul_le_mul_right 32 hc1
  intro j hj
  refine ⟨?_, blk_frozen hh _⟩
  rw [blk_cell hh, Array.getElem?_eq_getElem (by omega)]; rfl
/-- A row of hashes does not lie in the block of a row of rows. -/
theorem many_ne {base : Nat} {L : Nat → Sl} {N : Nat} {W : World} (h : Many base L N W) (s t : Nat) (hs : s < N) (ht : t < N) (hst : s ≠ t) (g n cap : Nat) (vals : List Value) (hL : L s = osl (.slice (some ⟨g, 0, none⟩) n cap) vals) : some g ≠ (L t).v.ownBlock := fun e =>
  h.2 s t hs ht hst g (by rw [hL]; rfl) e.symm
theorem many_blk {base : Nat} {L : Nat → Sl} {N : Nat} {W : World} (h : Many base L N W) (t : Nat) (ht : t < N) (g n cap : Nat) (vals : List Value) (hL : L t = osl (.slice (some ⟨g, 0, none⟩) n cap) vals) (i : Nat) (hi : i < vals.length) :
    ∃ cur, W.heap[g]? = some (.cells cur 31 (0, 0)) ∧ i < cur.size := by
  have ho := h.1 t ht
  rw [hL] at ho
  obtain ⟨h0, ⟨e, _⟩ | ⟨g', cap', cur, e, hg, hh, hc1, hc2, hsz, htk⟩⟩ := ho
  · cases e
  have e2 : g = g' := by
    have : (Value.slice (some ⟨g, 0, none⟩) n cap) = .slice (some ⟨g', 0, none⟩) vals.length cap' := e
    injection this with a b c
    injection a with a
    injection a with a
  subst e2
  refine ⟨cur, hh, ?_⟩
  have h1 : cur.size = cap' * 1 := hsz
  have h2 : vals.length ≤ cap' := hc1
  omega
theorem wp_store_one31 {op : Oper} {a : Act} {w : World} {K : Act → World → Prop} {Q : Exit → Act → World → Prop} (x y : Operand) (ho : op.op = .store 31 x y) (g o : Nat) (cur : Array Value) (e : TypeId) (u : Value) (hx : a.eval x = .pointer (some ⟨g, o, none⟩)) (hy : a.eval y = u) (hh : w.heap[g]? = some (.cells cur e (0, 0))) (hfit : o < cur.size) (hu : u.oneCell' = true)
    (h : K (a.put op.dst undef) (w.setCell ⟨g, o, none⟩ u)) : op.wp Try.prog a w K Q := by
  obtain ⟨i0, hi, hzz⟩ := Option.map_eq_some_iff.1 info31'
  simp only [Prod.mk.injEq] at hzz
  obtain ⟨hz0, hz1, hz2⟩ := hzz
  have hc : u.cells = #[u] := by cases u <;> first | rfl | cases hu
  have h2 := run_store_run (P := Try.prog) 31 u [u] hh (by rw [hc]) (by rw [hi]; show some i0.size = _; rw [hz1]; rfl) (by show o + 1 ≤ _; omega) (fun q hq => by rw [List.mem_singleton.1 hq]; exact hu)
  unfold Oper.wp execOp
  simp only [ho, hx, hy, Sem.run_bind, h2, Result.andThen_ok, Sem.run_pure]
  exact h
end Go.Proofs.Ythpnppfpmhlkaaa.Sha
