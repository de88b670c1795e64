/- Chapter 7 (the disk): many rows side by side, each with a block of its own; a disk. -/
import Derived.Test.YtfagljigaippiaaX0
import Derived.Laws.OwnMore
import Derived.Maps.AppendAt
import Derived.Deep.AppendLies
import Derived.Deep.MidRow
namespace Go.Proofs.Ytfagljigaippiaa.Dk
open Go.RowKit Go.Proofs.Ytfagljigaippiaa.X Go.Proofs.YtfagljigaippiaaW.PrintWords Go.Proofs.YtfagljigaippiaaW.PrintLast Go.Proofs.YtfagljigaippiaaW.PrintMore
set_option linter.unusedVariables false
set_option linter.unusedSimpArgs false

/-- A row: its value, its element, how many, and its cells. -/
structure Sl where
  v : Value
  e : TypeId
  sz : Nat
  n : Nat
  xs : List Value
def Sl.here (s : Sl) (base : Nat) (W : World) : Prop := W.ownsRow base s.e s.sz s.v s.n s.xs
def upd (L : Nat → Sl) (i : Nat) (x : Sl) : Nat → Sl := fun j => if j = i then x else L j
theorem upd_at (L : Nat → Sl) (i : Nat) (x : Sl) : upd L i x i = x := if_pos rfl
theorem upd_ne {L : Nat → Sl} {i j : Nat} {x : Sl} (h : j ≠ i) : upd L i x j = L j := if_neg h
/-- The first N rows lie here, no two in one block. -/
def Many (base : Nat) (L : Nat → Sl) (N : Nat) (W : World) : Prop :=
  (∀ s, s < N → (L s).here base W) ∧ ∀ s t, s < N → t < N → s ≠ t → ∀ k, (L s).v.ownBlock = some k → (L t).v.ownBlock ≠ some k
theorem many_below {base : Nat} {L : Nat → Sl} {N : Nat} {W W' : World} (h : Many base L N W) (hb : Below W.heap.size W W') : Many base L N W' :=
  ⟨fun s hs => own_other (h.1 s hs) (grown_of_below hb none) (by cases (L s).v.ownBlock with | none => exact .inl rfl | some k => exact .inr (by simp)), h.2⟩
theorem many_put {base : Nat} {L : Nat → Sl} {N : Nat} {W W' : World} (h : Many base L N W) (s : Nat) (hs : s < N) (x : Sl) (hg : W.grownBy W' (L s).v.ownBlock) (hx : x.here base W') (ho : x.v.ownBlock = (L s).v.ownBlock ∨ ∃ b, x.v.ownBlock = some b ∧ W.heap.size ≤ b) : Many base (upd L s x) N W' := by
  have far : ∀ t, t < N → t ≠ s → ∀ k, x.v.ownBlock = some k → (L t).v.ownBlock ≠ some k := fun t ht hts k hk hk2 => by
    rcases ho with e | ⟨b, e, hb⟩
    · rw [e] at hk
      exact h.2 s t hs ht (fun e => hts e.symm) k hk hk2
    · rw [e] at hk
      injection hk with hk
      have := ((h.1 t ht).lt k hk2).2
      omega
  refine ⟨fun t ht => ?_, fun t u ht hu htu k hk hk2 => ?_⟩
  · by_cases e : t = s
    · subst e; rw [upd_at]; exact hx
    · rw [upd_ne e]
      refine own_other (h.1 t ht) hg ?_
      cases e1 : (L t).v.ownBlock with
      | none => exact .inl rfl
      | some k => exact .inr fun e2 => h.2 t s ht hs e k e1 e2.symm
  · by_cases e1 : t = s
    · subst e1
      rw [upd_at] at hk
      rw [upd_ne (fun e => htu e.symm)] at hk2
      exact far u hu (fun e => htu e.symm) k hk hk2
    · rw [upd_ne e1] at hk
      by_cases e2 : u = s
      · subst e2
        rw [upd_at] at hk2
        exact far t ht e1 k hk2 hk
      · rw [upd_ne e2] at hk2
        exact h.2 t u ht hu htu k hk hk2
theorem many_add {base : Nat} {L : Nat → Sl} {N : Nat} {W W' : World} (h : Many base L N W) (x : Sl) (hb : Below W.heap.size W W') (hx : x.here base W') (ho : ∀ k, x.v.ownBlock = some k → W.heap.size ≤ k) : Many base (upd L N x) (N + 1) W' := by
  have h2 := many_below h hb
  have far : ∀ t, t < N → ∀ k, x.v.ownBlock = some k → (L t).v.ownBlock ≠ some k := fun t ht k hk hk2 => by
    have := ((h.1 t ht).lt k hk2).2
    have := ho k hk
    omega
  refine ⟨fun t ht => ?_, fun t u ht hu htu k hk hk2 => ?_⟩
  · by_cases e : t = N
    · subst e; rw [upd_at]; exact hx
    · rw [upd_ne e]; exact h2.1 t (by omega)
  · by_cases e1 : t = N
    · subst e1
      rw [upd_at] at hk
      rw [upd_ne (fun e => htu e.symm)] at hk2
      exact far u (by omega) k hk hk2
    · rw [upd_ne e1] at hk
      by_cases e2 : u = N
      · subst e2
        rw [upd_at] at hk2
        exact far t (by omega) k hk2 hk
      · rw [upd_ne e2] at hk2
        exact h.2 t u (by omega) (by omega) htu k hk hk2
theorem own_one {w : World} {base : Nat} {e : TypeId} {size n : Nat} {v : Value} {xs : List Value} (h : w.ownsRow base e size v n xs) : v.oneCell' = true := by
  rcases h.2 with ⟨rfl, _⟩ | ⟨g, cap, cur, rfl, _⟩ <;> rfl
theorem grown_cell (W : World) (p : Addr) (u : Value) : W.grownBy (W.setCell p u) (some p.block) :=
  ⟨rfl, rfl, rfl, by simp [World.setCell], fun k _ hne => Below.heap_setCell W p u k (fun e => hne (by rw [e]))⟩
theorem grown_cells (g : Nat) : ∀ (vs : List Value) (o : Nat) (W : World), W.grownBy (W.setCells g o vs) (some g)
  | [], _, W => World.grownBy.refl W _
  | v :: r, o, W => (grown_cell W ⟨g, o, none⟩ v).trans (grown_cells g r (o + 1) _)
/-- A cell of a row is set. -/
theorem many_setc {base : Nat} {L : Nat → Sl} {N : Nat} {W : World} (h : Many base L N W) (t : Nat) (ht : t < N) (g cap : Nat) (hv : (L t).v = .slice (some ⟨g, 0, none⟩) (L t).n cap) (j : Nat) (u : Value) :
    Many base (upd L t ⟨(L t).v, (L t).e, (L t).sz, (L t).n, (L t).xs.set j u⟩) N (W.setCell ⟨g, j, none⟩ u) := by
  have ho := h.1 t ht
  unfold Sl.here at ho
  rw [hv] at ho
  obtain ⟨h1, h2⟩ := World.ownsRow.stored ho j u
  refine many_put h t ht _ (by rw [hv]; exact h2) ?_ (.inl rfl)
  show (W.setCell ⟨g, j, none⟩ u).ownsRow base (L t).e (L t).sz (L t).v (L t).n ((L t).xs.set j u)
  rw [hv]
  exact h1
theorem many_cell {base : Nat} {L : Nat → Sl} {N : Nat} {W : World} (h : Many base L N W) (t : Nat) (ht : t < N) (g cap : Nat) (hv : (L t).v = .slice (some ⟨g, 0, none⟩) (L t).n cap) (j : Nat) (hj : j < (L t).n * (L t).sz) : W.cell? ⟨g, j, none⟩ = (L t).xs[j]? ∧ W.frozen? ⟨g, j, none⟩ = false ∧ base ≤ g := by
  have ho := h.1 t ht
  unfold Sl.here at ho
  rw [hv] at ho
  exact ⟨World.ownsRow.cellAt ho j hj, World.ownsRow.frozenAt ho j, (World.ownsRow.lt ho g rfl).1⟩
theorem many_form {base : Nat} {L : Nat → Sl} {N : Nat} {W : World} (h : Many base L N W) (t : Nat) (ht : t < N) (h0 : 0 < (L t).n) : ∃ g cap, (L t).v = .slice (some ⟨g, 0, none⟩) (L t).n cap ∧ (L t).n ≤ cap ∧ base ≤ g := by
  obtain ⟨g, cap, e, h1, h2⟩ := World.ownsRow.form (h.1 t ht) h0
  refine ⟨g, cap, e, ?_, (World.ownsRow.lt (h.1 t ht) g (by rw [e]; rfl)).1⟩
  rcases (h.1 t ht).2 with ⟨e2, _⟩ | ⟨g', cap', cur, e2, _, _, hc, _⟩
  · rw [e] at e2; cases e2
  · rw [e] at e2
    injection e2 with a b c
    omega
theorem many_val {base : Nat} {L : Nat → Sl} {N : Nat} {W : World} (h : Many base L N W) (t : Nat) (ht : t < N) : ∃ A c, (L t).v = .slice A (L t).n c ∧ (L t).n ≤ c := by
  rcases (h.1 t ht).2 with ⟨e, e2⟩ | ⟨g', cap', cur, e, _, _, hc, _⟩
  · exact ⟨none, 0, by rw [e2]; exact e, by omega⟩
  · exact ⟨_, cap', e, hc⟩
/-- An object's block; a row of texts; a row of pending writes. -/
def osl (g : Nat) (T : TypeId) (cs : List Value) : Sl := ⟨.slice (some ⟨g, 0, none⟩) cs.length cs.length, T, 1, cs.length, cs⟩
def ssl (v : Value) (xs : List ByteArray) : Sl := ⟨v, 9, 1, xs.length, xs.map Value.string⟩
def wc (p : Int × ByteArray) : List Value := [.int .i64 p.1, .string p.2]
def wcs (ps : List (Int × ByteArray)) : List Value := ps.flatMap wc
def wsl (T : TypeId) (v : Value) (ps : List (Int × ByteArray)) : Sl := ⟨v, T, 2, ps.length, wcs ps⟩
/-- A disk's state. -/
structure DS where
  seen : List ByteArray
  safe : List ByteArray
  pend : List (Int × ByteArray)
  fall : Int
  off : Bool
  opn : Bool
/-- The disk at block g is rows i to i + 3. -/
def Disk (L : Nat → Sl) (i g : Nat) (s : DS) : Prop :=
  L i = osl g 73 [(L (i + 1)).v, (L (i + 2)).v, (L (i + 3)).v, .int .i64 s.fall, .bool s.off, .bool s.opn] ∧ L (i + 1) = ssl (L (i + 1)).v s.seen ∧ L (i + 2) = ssl (L (i + 2)).v s.safe ∧ L (i + 3) = wsl 96 (L (i + 3)).v s.pend
/-- Its cells. -/
theorem disk_cells {base : Nat} {L : Nat → Sl} {N : Nat} {W : World} (h : Many base L N W) {i g : Nat} {s : DS} (hd : Disk L i g s) (hi : i + 4 ≤ N) :
    (∃ A c, W.cell? ⟨g, 0, none⟩ = some (.slice A s.seen.length c) ∧ (L (i + 1)).v = .slice A s.seen.length c ∧ s.seen.length ≤ c) ∧ (∃ A c, W.cell? ⟨g, 1, none⟩ = some (.slice A s.safe.length c) ∧ (L (i + 2)).v = .slice A s.safe.length c ∧ s.safe.length ≤ c) ∧
    (∃ A c, W.cell? ⟨g, 2, none⟩ = some (.slice A s.pend.length c) ∧ (L (i + 3)).v = .slice A s.pend.length c ∧ s.pend.length ≤ c) ∧ W.cell? ⟨g, 3, none⟩ = some (.int .i64 s.fall) ∧ W.cell? ⟨g, 4, none⟩ = some (.bool s.off) ∧ W.cell? ⟨g, 5, none⟩ = some (.bool s.opn) ∧ base ≤ g ∧ ∀ j, j < 6 → W.frozen? ⟨g, j, none⟩ = false := by
  obtain ⟨h0, h1, h2, h3⟩ := hd
  have hc : ∀ j, j < 6 → W.cell? ⟨g, j, none⟩ = [(L (i + 1)).v, (L (i + 2)).v, (L (i + 3)).v, .int .i64 s.fall, .bool s.off, .bool s.opn][j]? ∧ W.frozen? ⟨g, j, none⟩ = false ∧ base ≤ g := fun j hj => by
    have := many_cell h i (by omega) g 6 (by rw [h0]; rfl) j (by rw [h0]; show j < 6 * 1; omega)
    rw [h0] at this
    exact this
  obtain ⟨A1, c1, e1, k1⟩ := many_val h (i + 1) (by omega)
  obtain ⟨A2, c2, e2, k2⟩ := many_val h (i + 2) (by omega)
  obtain ⟨A3, c3, e3, k3⟩ := many_val h (i + 3) (by omega)
  have n1 : (L (i + 1)).n = s.seen.length := by rw [h1]; rfl
  have n2 : (L (i + 2)).n = s.safe.length := by rw [h2]; rfl
  have n3 : (L (i + 3)).n = s.pend.length := by rw [h3]; rfl
  rw [n1] at e1 k1
  rw [n2] at e2 k2
  rw [n3] at e3 k3
  refine ⟨⟨A1, c1, ?_, e1, k1⟩, ⟨A2, c2, ?_, e2, k2⟩, ⟨A3, c3, ?_, e3, k3⟩, (hc 3 (by decide)).1, (hc 4 (by decide)).1, (hc 5 (by decide)).1, (hc 0 (by decide)).2.2, fun j hj => (hc j hj).2.1⟩
  · rw [(hc 0 (by decide)).1, e1]; rfl
  · rw [(hc 1 (by decide)).1, e2]; rfl
  · rw [(hc 2 (by decide)).1, e3]; rfl
/-- Outside rows i to i + 3 nothing turns. -/
def Else (L L' : Nat → Sl) (i : Nat) : Prop := ∀ j, j < i ∨ i + 4 ≤ j → L' j = L j
/-- A number or a truth of the object is set. -/
theorem disk_set {base : Nat} {L : Nat → Sl} {N : Nat} {W : World} (h : Many base L N W) {i g : Nat} {s : DS} (hd : Disk L i g s) (hi : i + 4 ≤ N) (j : Nat) (u : Value) (s' : DS) (hs : s'.seen = s.seen ∧ s'.safe = s.safe ∧ s'.pend = s.pend)
    (hc : ∀ a b c : Value, [a, b, c, .int .i64 s.fall, .bool s.off, .bool s.opn].set j u = [a, b, c, .int .i64 s'.fall, .bool s'.off, .bool s'.opn]) :
    ∃ L', Many base L' N (W.setCell ⟨g, j, none⟩ u) ∧ Disk L' i g s' ∧ Else L L' i := by
  obtain ⟨h0, h1, h2, h3⟩ := hd
  have hm := many_setc h i (by omega) g 6 (by rw [h0]; rfl) j u
  have e : (⟨(L i).v, (L i).e, (L i).sz, (L i).n, (L i).xs.set j u⟩ : Sl) = osl g 73 [(L (i + 1)).v, (L (i + 2)).v, (L (i + 3)).v, .int .i64 s'.fall, .bool s'.off, .bool s'.opn] := by
    rw [h0]
    show Sl.mk _ 73 1 6 (List.set [(L (i + 1)).v, (L (i + 2)).v, (L (i + 3)).v, .int .i64 s.fall, .bool s.off, .bool s.opn] j u) = _
    rw [hc]; rfl
  rw [e] at hm
  refine ⟨_, hm, ⟨?_, ?_, ?_, ?_⟩, fun j hj => upd_ne (by omega)⟩
  · rw [upd_at, upd_ne (by omega), upd_ne (by omega), upd_ne (by omega)]
  · rw [upd_ne (by omega), hs.1]; exact h1
  · rw [upd_ne (by omega), hs.2.1]; exact h2
  · rw [upd_ne (by omega), hs.2.2]; exact h3
end Go.Proofs.Ytfagljigaippiaa.Dk
