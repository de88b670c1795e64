/- Chapter 7: Commit. -/
import Derived.Test.YtfagljigaippiaaLgJ
import Derived.Test.YtfagljigaippiaaXA
namespace Go.Proofs.Ytfagljigaippiaa.Dk
open Go.RowKit Go.Maps Go.Proofs.Ytfagljigaippiaa.X Go.Proofs.YtfagljigaippiaaW.PrintWords Go.Proofs.YtfagljigaippiaaW.PrintLast Go.Proofs.YtfagljigaippiaaW.PrintMore
attribute [local go_sem] max2_int min2_int max_two min_two
set_option linter.unusedVariables false
set_option linter.unusedSimpArgs false

/-- A builder that holds a text. -/
def Bd (B b : Nat) (bs : ByteArray) (W : World) : Prop := Lib.IsBuilderF 84 5 B b (Lib.strCells bs) W
theorem Bd.grown {B b : Nat} {bs : ByteArray} {W W' : World} (h : Bd B b bs W) {row : Option Nat} (hg : W.grownBy W' row) (h2 : ∀ k, row = some k → k < W.heap.size → ∃ cur fz, W.heap[k]? = some (.cells cur 35 fz)) : Bd B b bs W' := by
  have key : ∀ p, Lib.BuilderAtF 84 5 B b p (Lib.strCells bs) W → Lib.BuilderAtF 84 5 B b p (Lib.strCells bs) W' := by
    rintro p ⟨hB, v, hb, hown, hne⟩
    have far : ∀ (k : Nat) (cs : Array Value) (T : TypeId) (f : Nat × Nat), T ≠ 35 → W.heap[k]? = some (.cells cs T f) → W'.heap[k]? = some (.cells cs T f) := fun k cs T f hT hk => by
      have hlt := blk_lt hk
      rw [hg.block k hlt ?_]
      · exact hk
      · intro e
        obtain ⟨cur, fz, hc⟩ := h2 k e.symm hlt
        rw [hk] at hc
        injection hc with hc
        injection hc with _ hc _
        exact hT hc
    refine ⟨hB, v, far b _ _ _ (by decide) hb, ⟨hown.1, ?_⟩, hne⟩
    rcases hown.2 with h0 | ⟨g, cap, cur, fz, e1, e2, e3, rest⟩
    · exact .inl h0
    · exact .inr ⟨g, cap, cur, fz, e1, e2, far g _ _ _ (by decide) e3, rest⟩
  exact h.elim (fun x => .inl (key _ x)) (fun x => .inr (key _ x))
theorem Bd.below {B b : Nat} {bs : ByteArray} {W W' : World} (h : Bd B b bs W) (hb : Below W.heap.size W W') : Bd B b bs W' := h.grown (grown_of_below hb none) (fun k hk => by cases hk)
/-- Rows that hold no bytes stay beside a builder's calls. -/
theorem many_kept {base : Nat} {L : Nat → Sl} {N b : Nat} {W W' : World} (h : Many base L N W) (hk : Lib.OthersKept 5 (some b) W W') (hE : ∀ t, t < N → (L t).e ≠ 5) (hb : ∀ t, t < N → (L t).v.ownBlock ≠ some b) : Many base L N W' := by
  refine ⟨fun t ht => ?_, h.2⟩
  obtain ⟨h1, h2⟩ := h.1 t ht
  refine ⟨h1, ?_⟩
  rcases h2 with h0 | ⟨g, cap, cur, e1, e2, e3, rest⟩
  · exact .inl h0
  · refine .inr ⟨g, cap, cur, e1, e2, hk g _ e3 (fun e => hb t ht (by rw [e1]; exact e)) (fun c fz e => ?_), rest⟩
    injection e with _ e _
    exact hE t ht e
/-- One element more in a row; what else stays is told. -/
theorem many_grow2 {base : Nat} {L : Nat → Sl} {N : Nat} {w0 W : World} (t62 e67 sz by_ : Nat) (z : Value) (hu : Try.prog.underlying t62 = some (.slice e67)) (hinf : (Try.prog.info? e67).map (fun i => (i.zero, i.size, i.bytes)) = some (some z, sz, by_)) (hzs : z.cells.size = sz) (hsz : 0 < sz) (hby : by_ ≤ 64)
    (h : Many base L N W) (t : Nat) (ht : t < N) (v : Value) (n : Nat) (xs : List Value) (hL : L t = ⟨v, e67, sz, n, xs⟩) (u : List Value) (hu2 : u.length = sz) (h1 : ∀ q ∈ u, q.oneCell' = true) (hB : Below base w0 W) (hbase : base ≤ W.heap.size) (hl : n ≤ 549755813888) :
    ∃ v' W', (Builtin.append_ #[t62, t62] t62 #[v, .slice (some ⟨W.heap.size, 0, none⟩) 1 1]).run Try.prog (W.alloc (.cells u.toArray e67)) = .ok v' W' ∧ Many base (upd L t ⟨v', e67, sz, n + 1, xs ++ u⟩) N W' ∧ Below base w0 W' ∧ W.grownBy W' v.ownBlock ∧ ∀ k, v.ownBlock = some k → k < W.heap.size ∧ ∃ cur fz, W.heap[k]? = some (.cells cur e67 fz) := by
  obtain ⟨i0, hi, hzz⟩ := Option.map_eq_some_iff.1 hinf
  simp only [Prod.mk.injEq] at hzz
  obtain ⟨hz0, hz1, hz2⟩ := hzz
  have hM := many_below h (below_alloc (Below.refl _ _) (.cells u.toArray e67))
  have hB2 := hB.alloc hbase (.cells u.toArray e67)
  have hsz2 : base ≤ (W.alloc (.cells u.toArray e67)).heap.size := Nat.le_trans hbase (below_alloc (Below.refl W.heap.size W) _).size
  have ho0 : W.ownsRow base e67 sz v n xs := by
    have := h.1 t ht
    unfold Sl.here at this
    rw [hL] at this
    exact this
  have ho : (W.alloc (.cells u.toArray e67)).ownsRow base e67 sz v n xs := by
    have := hM.1 t ht
    unfold Sl.here at this
    rw [hL] at this
    exact this
  obtain ⟨v', W', h1, h2, h3, h4, h5⟩ := run_append_own_at (P := Try.prog) (W.alloc (.cells u.toArray e67)) base t62 t62 e67 i0 z sz by_ hu hi hz0 hz1 hz2 hzs hsz v n xs ho ⟨W.heap.size, 0, none⟩ 1 1 u (by rw [hu2, Nat.one_mul]) (fun j q hj => by
    have ha : (⟨W.heap.size, 0, none⟩ : Addr).add j = ⟨W.heap.size, j, none⟩ := by unfold Addr.add; split <;> simp_all
    rw [ha, blk_cell (blk_new W (.cells u.toArray e67)), List.getElem?_toArray]; exact hj) h1 (by simp only [maxLen]; omega) (by
    have : (n + 1) * by_ ≤ (n + 1) * 64 := Nat.mul_le_mul_left _ hby
    omega) hsz2
  refine ⟨v', W', h1, many_put hM t ht _ (by rw [hL]; exact h3) h2 ?_, hB2.grown h3 hsz2 (fun k hk => (ho.lt k hk).1), (grown_of_below (below_alloc (Below.refl W.heap.size W) _) _).trans h3, fun k hk => ?_⟩
  · rw [hL]
    rcases h5 with e | e
    · exact .inl e
    · exact .inr ⟨_, e, Nat.le_refl _⟩
  · rcases ho0.2 with ⟨e, _⟩ | ⟨g, cap, cur, e, _, e3, _⟩
    · rw [e] at hk; cases hk
    · rw [e] at hk
      have : g = k := by simpa [Value.ownBlock] using hk
      subst this
      exact ⟨blk_lt e3, cur, (0, 0), e3⟩
/-- The numbers of the blocks, four bytes each. -/
def fourB (n : Int) : ByteArray := (log_four.f (IntKind.u32.wrap n)).getD ByteArray.empty
theorem four_is (n : Int) : log_four.f (IntKind.u32.wrap n) = some (fourB n) ∧ (fourB n).size = 4 := ⟨rfl, rfl⟩
def plcs (ws : List (Int × ByteArray)) : ByteArray := ws.foldl (fun s p => s ++ fourB p.1) ByteArray.empty
theorem plcs_snoc (ws : List (Int × ByteArray)) (p : Int × ByteArray) : plcs (ws ++ [p]) = plcs ws ++ fourB p.1 := by unfold plcs; rw [List.foldl_append]; rfl
theorem plcs_size : ∀ (n : Nat) (ws : List (Int × ByteArray)), ws.length = n → (plcs ws).size = 4 * n
  | 0, ws, h => by rw [List.length_eq_zero_iff.1 h]; rfl
  | n + 1, ws, h => by
    obtain ⟨q, p, rfl⟩ : ∃ q p, ws = q ++ [p] := by
      rcases List.eq_nil_or_concat ws with e | ⟨q, p, e⟩
      · rw [e] at h; cases h
      · exact ⟨q, p, by rw [e, List.concat_eq_append]⟩
    rw [plcs_snoc, ByteArray.size_append, plcs_size n q (by rw [List.length_append] at h; simpa using h), (four_is p.1).2]
    omega
/-- Where the texts lie in the log. -/
def dataF : Nat → List (Int × ByteArray) → List (Int × ByteArray)
  | _, [] => []
  | i, p :: ps => (((2 + i : Nat) : Int), p.2) :: dataF (i + 1) ps
theorem dataF_len : ∀ (ws : List (Int × ByteArray)) (i : Nat), (dataF i ws).length = ws.length
  | [], _ => rfl
  | p :: ps, i => by show (dataF (i + 1) ps).length + 1 = ps.length + 1; rw [dataF_len ps (i + 1)]
theorem dataF_snoc : ∀ (ws : List (Int × ByteArray)) (i : Nat) (p : Int × ByteArray), dataF i (ws ++ [p]) = dataF i ws ++ [(((2 + i + ws.length : Nat) : Int), p.2)]
  | [], i, p => rfl
  | q :: ps, i, p => by
    show _ :: dataF (i + 1) (ps ++ [p]) = _ :: dataF (i + 1) ps ++ _
    rw [dataF_snoc ps (i + 1) p, List.length_cons, show 2 + (i + 1) + ps.length = 2 + i + (ps.length + 1) by omega]; rfl
def commitW (ws : List (Int × ByteArray)) : List (Int × ByteArray) := dataF 0 ws ++ [(((2 + ws.length : Nat) : Int), pad (plcs ws))]
/-- A commit of writes that may be. -/
def commitS (sz : Nat) (s : DS) (d : Bool) (ws : List (Int × ByteArray)) : DS × Bool × Int :=
  if (layS s d (commitW ws)).2.2 ≠ 0 then layS s d (commitW ws) else
    if (layS (layS s d (commitW ws)).1 (layS s d (commitW ws)).2.1 [(1, noteS cm ws.length)]).2.2 ≠ 0 then layS (layS s d (commitW ws)).1 (layS s d (commitW ws)).2.1 [(1, noteS cm ws.length)] else
      homeS sz (layS (layS s d (commitW ws)).1 (layS s d (commitW ws)).2.1 [(1, noteS cm ws.length)]).1 (layS (layS s d (commitW ws)).1 (layS s d (commitW ws)).2.1 [(1, noteS cm ws.length)]).2.1 ws
set_option maxHeartbeats 8000000 in
set_option maxRecDepth 100000 in
theorem commit_dead {base : Nat} {L : Nat → Sl} {N i g j gl : Nat} {s : DS} {n m sz : Nat} {dead : Bool} {w0 w : World} (h : Lg base L N i g j gl s n m sz dead w0 w) (hd : dead = true ∨ s.off = true) (v : Value) :
    Calls Try.prog 13 #[.pointer (some ⟨gl, 0, none⟩), v] w fun r w' => r = .returned (.int .i64 9) ∧ ∃ L', Lg base L' N i g j gl s n m sz true w0 w' ∧ Elj L L' i j := by
  obtain ⟨c0, c1, c2, _⟩ := h.cells
  have CO := off_calls h.at_.many h.at_.disk h.at_.hi
  have CM := met_calls h 9
  have e9 : (dead || decide ((9 : Int) = 9)) = true := by simp
  rw [e9] at CM
  clear e9
  clear h
  go_enter Try.func13, Try.ntmps13
  cases dead with
  | true =>
    go_wp2_with (go_at_call 39; (with_reducible refine CM.mono ?_); rintro e w1 ⟨rfl, L1, h1, e1⟩; have R := Aside0.mk (⟨L1, h1, e1⟩ : ∃ L', Lg base L' N i g j gl s n m sz true w0 w1 ∧ Elj L L' i j); clear h1 e1)
    go_ret
    exact ⟨rfl, R.out⟩
  | false =>
    have ho : s.off = true := hd.elim (fun h => by cases h) id
    rw [ho] at CO
    go_wp2_with (first
      | (go_at_call 32; (with_reducible refine CO.mono ?_); rintro e w' ⟨rfl, hw⟩; obtain rfl := hw.symm)
      | (go_at_call 39; (with_reducible refine CM.mono ?_); rintro e w1 ⟨rfl, L1, h1, e1⟩; have R := Aside0.mk (⟨L1, h1, e1⟩ : ∃ L', Lg base L' N i g j gl s n m sz true w0 w1 ∧ Elj L L' i j); clear h1 e1))
    go_ret
    exact ⟨rfl, R.out⟩
set_option maxHeartbeats 8000000 in
set_option maxRecDepth 100000 in
theorem commit_refused {base : Nat} {L : Nat → Sl} {N i g j gl : Nat} {s : DS} {n m sz : Nat} {w0 w : World} (A : Option Addr) (c : Nat) (ws : List (Int × ByteArray)) (h : Lg base L N i g j gl s n m sz false w0 w) (ho : s.off = false) (hr : Src base L N i j w0 A ws) (hl : ws.length ≤ 1048576) (hsz : sz ≤ 8192) (hw : ∀ p ∈ ws, (Lit.int .i64 p.1).wf = true) (hj : jS ((n : Int) - sz) sz ws ≠ 0 ∨ ws.length = 0) :
    Calls Try.prog 13 #[.pointer (some ⟨gl, 0, none⟩), .slice A ws.length c] w fun r w' => r = .returned (.int .i64 (jS ((n : Int) - sz) sz ws)) ∧ Below w.heap.size w w' := by
  obtain ⟨c0, c1, c2, _⟩ := h.cells
  have CO := off_calls h.at_.many h.at_.disk h.at_.hi
  rw [ho] at CO
  have CJ := judged_calls A c ws h hr hl hsz hw
  obtain ⟨e, he⟩ : ∃ e, e = jS ((n : Int) - sz) sz ws := ⟨_, rfl⟩
  rw [← he] at CJ hj ⊢
  clear he h hr hw
  by_cases h0 : e = 0
  · subst h0
    have hz : ws.length = 0 := hj.elim (fun h => absurd rfl h) id
    rw [hz] at CJ ⊢
    go_enter Try.func13, Try.ntmps13
    go_wp2_with (first
      | (go_at_call 32; (with_reducible refine CO.mono ?_); rintro e w' ⟨rfl, hw⟩; obtain rfl := hw.symm)
      | (go_at_call 40; (with_reducible refine CJ.mono ?_); rintro e w1 ⟨rfl, hb⟩; have HB := Aside0.mk hb; clear hb))
    go_ret
    exact ⟨rfl, HB.out⟩
  · have p1 : (e = 0) = False := eq_false h0
    have p2 : (e == 0) = false := by simp [h0]
    go_enter Try.func13, Try.ntmps13
    go_wp2_with (first
      | (go_at_call 32; (with_reducible refine CO.mono ?_); rintro e w' ⟨rfl, hw⟩; obtain rfl := hw.symm)
      | (go_at_call 40; (with_reducible refine CJ.mono ?_); rintro e w1 ⟨rfl, hb⟩; have HB := Aside0.mk hb; clear hb))
    go_ret
    exact ⟨rfl, HB.out⟩
theorem js_len {nb : Int} {sz : Nat} {ws : List (Int × ByteArray)} (h : jS nb sz ws = 0) : 2 + secs ws.length ≤ sz := by
  unfold jS at h
  split at h
  · cases h
  · split at h
    · cases h
    · omega
theorem Bd.here {B b : Nat} {bs : ByteArray} {W : World} (h : Bd B b bs W) : (∃ cs, W.heap[b]? = some (.cells cs 84 (0, 0))) ∧ B ≤ b := h.elim (fun ⟨h1, v, h2, _⟩ => ⟨⟨_, h2⟩, h1⟩) (fun ⟨h1, v, h2, _⟩ => ⟨⟨_, h2⟩, h1⟩)
theorem str_app (a b : ByteArray) : Lib.strCells (a ++ b) = Lib.strCells a ++ Lib.strCells b := by
  unfold Lib.strCells
  rw [ByteArray.data_append, Array.toList_append, List.map_append]
/-- Whose rows hold neither bytes nor builders. -/
def Els (L : Nat → Sl) (N i j : Nat) : Prop := ∀ t, t < N → (t < i ∨ i + 4 ≤ t) → t ≠ j → (L t).e ≠ 5 ∧ (L t).e ≠ 84
theorem Lg.types {base : Nat} {L : Nat → Sl} {N i g j gl : Nat} {s : DS} {n m sz : Nat} {dead : Bool} {w0 w : World} (h : Lg base L N i g j gl s n m sz dead w0 w) (hE : Els L N i j) : ∀ t, t < N → (L t).e ≠ 5 ∧ (L t).e ≠ 84 := fun t ht => by
  obtain ⟨k0, k1, k2, k3⟩ := h.at_.disk
  by_cases h0 : t = i
  · subst h0; rw [k0]; exact ⟨by show (73 : Nat) ≠ 5; decide, by show (73 : Nat) ≠ 84; decide⟩
  by_cases h1 : t = i + 1
  · subst h1; rw [k1]; exact ⟨by show (9 : Nat) ≠ 5; decide, by show (9 : Nat) ≠ 84; decide⟩
  by_cases h2 : t = i + 2
  · subst h2; rw [k2]; exact ⟨by show (9 : Nat) ≠ 5; decide, by show (9 : Nat) ≠ 84; decide⟩
  by_cases h3 : t = i + 3
  · subst h3; rw [k3]; exact ⟨by show (96 : Nat) ≠ 5; decide, by show (96 : Nat) ≠ 84; decide⟩
  by_cases h4 : t = j
  · subst h4; rw [h.log]; exact ⟨by show (76 : Nat) ≠ 5; decide, by show (76 : Nat) ≠ 84; decide⟩
  exact hE t ht (by omega) h4
theorem Lg.kept {base : Nat} {L : Nat → Sl} {N i g j gl B b : Nat} {bs : ByteArray} {s : DS} {n m sz : Nat} {dead : Bool} {w0 w w' : World} (h : Lg base L N i g j gl s n m sz dead w0 w) (hE : Els L N i j) (hd : Bd B b bs w) (hbb : base ≤ B) (hb : Below B w w') (hk : Lib.OthersKept 5 (some b) w w') : Lg base L N i g j gl s n m sz dead w0 w' := by
  have ht := h.types hE
  refine ⟨⟨many_kept h.at_.many hk (fun t h1 => (ht t h1).1) (fun t h1 e => ?_), h.at_.disk, h.at_.hi, h.at_.ok, h.at_.bel.trans (hb.mono hbb), h.at_.hb, h.at_.hn, h.at_.hm⟩, h.log, h.hj, h.ap⟩
  obtain ⟨⟨cs, hc⟩, _⟩ := hd.here
  rcases (h.at_.many.1 t h1).2 with ⟨e1, _⟩ | ⟨g', cap', cur, e1, _, e3, _⟩
  · rw [e1] at e; cases e
  · rw [e1] at e
    have : g' = b := by simpa [Value.ownBlock] using e
    subst this
    rw [hc] at e3
    injection e3 with e3
    injection e3 with _ e3 _
    exact (ht t h1).2 e3.symm
set_option maxHeartbeats 32000000 in
set_option maxRecDepth 100000 in
theorem commit_main {base : Nat} {L : Nat → Sl} {N i g j gl : Nat} {s : DS} {n m sz : Nat} {w0 w : World} (A : Option Addr) (c : Nat) (ws : List (Int × ByteArray)) (h : Lg base L N i g j gl s n m sz false w0 w) (ho : s.off = false) (hr : Src base L N i j w0 A ws) (hl : 0 < ws.length) (hl2 : ws.length ≤ 1048576) (hsz : sz ≤ 128) (hw : ∀ p ∈ ws, (Lit.int .i64 p.1).wf = true) (hj0 : jS ((n : Int) - sz) sz ws = 0) (hE : Els L N i j) (hm : m + 2 * ws.length + 10 ≤ 549755813887) :
    Calls Try.prog 13 #[.pointer (some ⟨gl, 0, none⟩), .slice A ws.length c] w fun r w' => r = .returned (.int .i64 (commitS sz s false ws).2.2) ∧ ∃ L', Lg base L' N i g j gl (commitS sz s false ws).1 n (m + 2 * ws.length + 3) sz (commitS sz s false ws).2.1 w0 w' ∧ Elj L L' i j := by
  have hlen : ws.length ≤ 125 := by have := js_len hj0; unfold secs at this; omega
  have hi := h.at_.hi
  have hj := h.hj
  have ap := h.ap
  obtain ⟨c0, c1, c2, _⟩ := h.cells
  have CO := off_calls h.at_.many h.at_.disk h.at_.hi
  rw [ho] at CO
  have CJ := judged_calls A c ws h hr hl2 (by omega) hw
  rw [hj0] at CJ
  have H0 := Aside0.mk h
  have HS := Aside0.mk hr
  have HEL := Aside0.mk hE
  have q0 : (ws.length = 0) = False := eq_false (by omega)
  have q0' : ((ws.length : Int) = 0) = False := eq_false (by omega)
  have q0'' : ((ws.length : Int) == 0) = false := beq_eq_false_iff_ne.mpr (by omega)
  clear h hr hw hj0 hE
  go_enter Try.func13, Try.ntmps13
  go_upto_region 7 with (first
    | (go_at_call 32; (with_reducible refine CO.mono ?_); rintro e w' ⟨rfl, hw⟩; obtain rfl := hw.symm)
    | (go_at_call 40; (with_reducible refine CJ.mono ?_); rintro e w1 ⟨rfl, hb⟩; have H1 := Aside0.mk (H0.out.below hb); clear hb))
  clear CO CJ c0 c1 c2 q0 q0' q0''
  go_upto_region 8 with (fail)
  have hal := below_alloc (Below.refl w1.heap.size w1) (.cells #[.pointer none, .slice none 0 0] 84)
  have H2 := Aside0.mk (H1.out.below hal)
  have hbb := H1.out.at_.base
  have D2 : Aside0 (Bd w1.heap.size w1.heap.size ByteArray.empty (w1.alloc (.cells #[.pointer none, .slice none 0 0] 84))) := ⟨.inl ⟨Nat.le_refl _, .slice none 0 0, blk_new _ _, World.ownsRowF_nil _ _ _ _, by simp [Value.ownBlock]⟩⟩
  obtain ⟨b, hb⟩ : ∃ b, b = w1.heap.size := ⟨_, rfl⟩
  have PB : (Value.pointer (some ⟨w1.heap.size, 0, none⟩)) = .pointer (some ⟨b, 0, none⟩) := by rw [hb]
  rw [PB]
  rw [← hb] at D2 hbb
  have HBS : Aside0 (b ≤ (w1.alloc (.cells #[.pointer none, .slice none 0 0] 84)).heap.size) := ⟨by rw [hb]; exact hal.size⟩
  generalize w1.alloc (.cells #[.pointer none, .slice none 0 0] 84) = w2 at H2 D2 HBS ⊢
  clear H0 H1 hal PB hb
  have H3 := Aside0.mk (H2.out.add (wsl 35 (.slice none 0 0) []) (Below.refl _ _) (World.ownsRow_nil _ base 35 2) (fun k hk => by simp [wsl, Value.ownBlock] at hk))
  have HN0 : Aside0 (upd L N (wsl 35 (.slice none 0 0) []) N = wsl 35 (.slice none 0 0) []) := ⟨upd_at _ _ _⟩
  have EL0 : Aside0 (∀ k, k < N → upd L N (wsl 35 (.slice none 0 0) []) k = L k) := ⟨fun k hk => upd_ne (by omega)⟩
  generalize upd L N (wsl 35 (.slice none 0 0) []) = L0 at H3 HN0 EL0
  clear H2
  go_wp2
  go_loopw [6, 41] (fun v6 v41 W => ∃ (k : Nat) (L1 : Nat → Sl) (A1 : Option Addr) (c1 : Nat), k ≤ ws.length ∧ v41 = .int .i64 k ∧ v6 = .slice A1 k c1 ∧ Aside0 (Lg base L1 (N + 1) i g j gl s n m sz false w0 W) ∧ Aside0 (L1 N = ⟨.slice A1 k c1, 35, 2, k, wcs (dataF 0 (ws.take k))⟩) ∧ Aside0 (∀ q, q < N → L1 q = L q) ∧ Aside0 (Bd b b (plcs (ws.take k)) W) ∧ Aside0 (b ≤ W.heap.size)) (fun v6 v41 _ => ws.length - (intOf v41).toNat)
  case atStart => exact ⟨0, L0, none, 0, Nat.zero_le _, rfl, rfl, H3, ⟨by rw [List.take_zero]; exact HN0.out⟩, EL0, ⟨by rw [List.take_zero]; exact D2.out⟩, HBS⟩
  case round =>
    clear H3 HN0 D2 HBS
    obtain ⟨k, L1, A1, c1, hk, rfl, rfl, H, HN, EL, HD, HBS⟩ := hrel
    have HE1 : Aside0 (Els L1 (N + 1) i j) := ⟨fun t ht h1 h2 => by
      by_cases e : t = N
      · rw [e, HN.out]; exact ⟨by show (35 : Nat) ≠ 5; decide, by show (35 : Nat) ≠ 84; decide⟩
      · rw [EL.out t (by omega)]; exact HEL.out t (by omega) h1 h2⟩
    by_cases hlt : k < ws.length
    · have q1 : ((k : Int) < (ws.length : Int)) = True := eq_true (by omega)
      have q2 : (k < ws.length) = True := eq_true hlt
      have q3 : (ws.length ≤ k) = False := eq_false (by omega)
      obtain ⟨p, hpk⟩ : ∃ p, ws[k]? = some p := ⟨_, List.getElem?_eq_getElem hlt⟩
      obtain ⟨pn, x⟩ := p
      obtain ⟨ad, rfl, hc0, hc1⟩ := writes_at (HS.out.reads H.out.at_.many (by omega) (fun q hq _ _ => EL.out q hq) H.out.at_.bel) k pn x hpk
      have HPK := Aside0.mk hpk
      have HLT : Aside0 (∀ q, (Value.slice A1 k c1).ownBlock = some q → q < wr.heap.size) := ⟨fun q hq => by
        have := (H.out.at_.many.1 N (by omega)).lt
        rw [HN.out] at this
        exact (this q hq).2⟩
      clear hpk
      go_upto_region 11 with (fail)
      clear hc0 hc1
      have hal := below_alloc (Below.refl wr.heap.size wr) (.cells #[Value.int .i64 pn, Value.string x] 35)
      have H5 := Aside0.mk (H.out.below hal)
      have D5 := Aside0.mk (HD.out.below hal)
      have S5 : Aside0 (b ≤ (wr.alloc (.cells #[Value.int .i64 pn, Value.string x] 35)).heap.size) := ⟨Nat.le_trans HBS.out hal.size⟩
      have BX : Aside0 ((wr.alloc (.cells #[Value.int .i64 pn, Value.string x] 35)).heap[wr.heap.size]? = some (.cells #[Value.int .i64 pn, Value.string x] 35 (0, 0))) := ⟨blk_new _ _⟩
      clear hal H HD HBS
      obtain ⟨gn, hgn⟩ : ∃ gn, gn = wr.heap.size := ⟨_, rfl⟩
      rw [← hgn] at BX HLT
      have PN : (Value.pointer (some ⟨wr.heap.size, 0, none⟩)) = .pointer (some ⟨gn, 0, none⟩) := by rw [hgn]
      rw [PN]
      generalize wr.alloc (.cells #[Value.int .i64 pn, Value.string x] 35) = w5 at H5 D5 S5 BX ⊢
      clear hgn PN
      have b1 : w5.cell? ⟨gn, 1, none⟩ = some (.string x) := by rw [blk_cell BX.out]; rfl
      have hw2 : wrap64 (2 + (k : Int)) = 2 + (k : Int) := by unfold wrap64; omega
      obtain ⟨v', w6, hr, M6, B6, hg6, hk6⟩ := many_grow2 32 35 2 24 (.agg #[.int .i64 0, .string ByteArray.empty]) Try.underlying32 infoA rfl (by decide) (by decide) H5.out.at_.many N (by omega) _ _ _ HN.out [.int .i64 (2 + (k : Int)), .string x] rfl (fun q hq => by simp only [List.mem_cons, List.not_mem_nil, or_false] at hq; rcases hq with rfl | rfl <;> rfl) H5.out.at_.bel H5.out.at_.base (by omega)
      obtain ⟨A5, c5, e5, _⟩ := many_val M6 N (by omega)
      rw [upd_at] at e5
      have e5' : v' = .slice A5 (k + 1) c5 := e5
      subst e5'
      have HR := Aside0.mk hr
      have b0 : w6.cell? ⟨gn, 0, none⟩ = some (.int .i64 pn) := by
        rw [hg6.cell_far ⟨gn, 0, none⟩ (blk_lt BX.out) (fun e => by have := HLT.out gn e.symm; omega), blk_cell BX.out]; rfl
      have H6 := Aside0.mk (H5.out.put N (by omega) (by omega) _ M6 B6)
      have D6 := Aside0.mk (D5.out.grown hg6 (fun q hq _ => (hk6 q hq).2))
      have S6 : Aside0 (b ≤ w6.heap.size) := ⟨Nat.le_trans S5.out hg6.size⟩
      have HN6 : Aside0 (upd L1 N ⟨.slice A5 (k + 1) c5, 35, 2, k + 1, wcs (dataF 0 (ws.take k)) ++ [.int .i64 (2 + (k : Int)), .string x]⟩ N = ⟨.slice A5 (k + 1) c5, 35, 2, k + 1, wcs (dataF 0 (ws.take (k + 1)))⟩) := ⟨by
        have hkt : (ws.take k).length = k := by rw [List.length_take]; omega
        rw [upd_at, take_snoc _ _ _ HPK.out, dataF_snoc, hkt]
        unfold wcs
        rw [List.flatMap_append]
        simp [wc]⟩
      have EL6 : Aside0 (∀ q, q < N → upd L1 N ⟨.slice A5 (k + 1) c5, 35, 2, k + 1, wcs (dataF 0 (ws.take k)) ++ [.int .i64 (2 + (k : Int)), .string x]⟩ q = L q) := ⟨fun q hq => by rw [upd_ne (by omega)]; exact EL.out q hq⟩
      have HE6 : Aside0 (Els (upd L1 N ⟨.slice A5 (k + 1) c5, 35, 2, k + 1, wcs (dataF 0 (ws.take k)) ++ [.int .i64 (2 + (k : Int)), .string x]⟩) (N + 1) i j) := ⟨fun t ht h1 h2 => by
        by_cases e : t = N
        · rw [e, HN6.out]; exact ⟨by show (35 : Nat) ≠ 5; decide, by show (35 : Nat) ≠ 84; decide⟩
        · rw [EL6.out t (by omega)]; exact HEL.out t (by omega) h1 h2⟩
      generalize upd L1 N ⟨.slice A5 (k + 1) c5, 35, 2, k + 1, wcs (dataF 0 (ws.take k)) ++ [.int .i64 (2 + (k : Int)), .string x]⟩ = L6 at H6 HN6 EL6 HE6
      have C42 : ∀ W, Calls Try.prog 42 #[.int .u32 (pn % 4294967296)] W fun e w' => e = .returned (.string (fourB pn)) ∧ Below W.heap.size W w' := fun W => log_four.calls (IntKind.u32.wrap pn) _ W (four_is pn).1
      have hf4 := (four_is pn).2
      have hps := plcs_size k (ws.take k) (by rw [List.length_take]; omega)
      have HP6 : Aside0 (plcs (ws.take (k + 1)) = plcs (ws.take k) ++ fourB pn) := ⟨by rw [take_snoc _ _ _ HPK.out, plcs_snoc]⟩
      obtain ⟨fb, hfb⟩ : ∃ fb, fb = fourB pn := ⟨_, rfl⟩
      rw [← hfb] at C42 HP6 hf4
      clear hfb
      obtain ⟨pp, hpp⟩ : ∃ pp, pp = plcs (ws.take k) := ⟨_, rfl⟩
      rw [← hpp] at D6 HP6 hps
      clear hr M6 B6 hg6 hk6 e5 H5 D5 S5 hpp HN
      go_wp2_with (first
        | ((with_reducible refine gate_dst (N := 53) rfl ?_); go_loud (refine Kd.event_run rfl (exec_append (t := 32) (.tmp 46) (.tmp 52) rfl rfl _ _ rfl rfl HR.out) ?_))
        | (go_at_call 42; (with_reducible refine (C42 _).mono ?_); rintro e w7 ⟨rfl, hb⟩; have H7 := Aside0.mk (H6.out.below hb); have D7 := Aside0.mk (D6.out.below hb); have S7 : Aside0 (b ≤ w7.heap.size) := ⟨Nat.le_trans S6.out hb.size⟩; have C41 := Try.Builder_WriteString_k b b (Lib.strCells pp) fb w7 D7.out (by rw [Lib.strCells_length]; omega) S7.out; clear hb H6 D6 S6)
        | (go_at_call 41; (with_reducible refine C41.mono ?_); rintro e w8 ⟨rfl, h8, hb8, hk8⟩; have H8 := Aside0.mk (H7.out.kept HE6.out D7.out hbb hb8 hk8); have D8 : Aside0 (Bd b b (plcs (ws.take (k + 1))) w8) := ⟨by rw [HP6.out]; unfold Bd; rw [str_app]; exact .inr h8⟩; have S8 : Aside0 (b ≤ w8.heap.size) := ⟨Nat.le_trans S7.out hb8.size⟩; clear h8 hb8 hk8))
      exact ⟨⟨k + 1, L6, A5, c5, by omega, by go_num, rfl, H8, HN6, EL6, D8, S8⟩, by simp [intOf]; omega⟩
    · have q1 : ((k : Int) < (ws.length : Int)) = False := eq_false (by omega)
      obtain rfl : k = ws.length := by omega
      rw [List.take_length] at HN HD
      have hps := plcs_size ws.length ws rfl
      have HCW : Aside0 (commitW ws = dataF 0 ws ++ [(((2 + ws.length : Nat) : Int), pad (plcs ws))]) := ⟨rfl⟩
      obtain ⟨pp, hpp⟩ : ∃ pp, pp = plcs ws := ⟨_, rfl⟩
      rw [← hpp] at HD hps HCW
      clear hpp
      have HBC : Lib.strCells pp = Lib.byteCells pp.data.toList := rfl
      have HD2 : Aside0 (Lib.IsBuilderF 84 5 b b (Lib.byteCells pp.data.toList) wr) := ⟨HD.out⟩
      have h512 : pp.size ≤ 512 := by omega
      have hpos : 0 < pp.size := by omega
      clear HBC hps
      go_upto_region 15 with (go_at_call 43; (with_reducible refine (Try.Builder_String_any_k b b pp.data.toList wr HD2.out HBS.out).mono ?_); rintro e w8 ⟨rfl, h8, hb8, hk8⟩; have H8 := Aside0.mk (H.out.kept HE1.out HD.out hbb hb8 hk8); clear h8 hb8 hk8)
      clear H HD HD2 HBS HE1 hbb
      rw [show (⟨pp.data.toList.toArray⟩ : ByteArray) = pp from rfl]
      go_loopw [6, 10, 11] (fun v6 v10 v11 W => ∃ (q : Nat) (L2 : Nat → Sl) (A2 : Option Addr) (c2 : Nat), q ≤ 1 ∧ v10 = .int .i64 q ∧ v11 = .string (if q = 0 then pp else ⟨#[]⟩) ∧ v6 = .slice A2 (ws.length + q) c2 ∧ Aside0 (Lg base L2 (N + 1) i g j gl s n m sz false w0 W) ∧ Aside0 (L2 N = ⟨.slice A2 (ws.length + q) c2, 35, 2, ws.length + q, wcs (dataF 0 ws ++ (if q = 0 then [] else [(((2 + ws.length : Nat) : Int), pad pp)]))⟩) ∧ Aside0 (∀ t, t < N → L2 t = L t)) (fun v6 v10 v11 _ => 1 - (intOf v10).toNat)
      case atStart => exact ⟨0, L1, A1, c1, by omega, rfl, rfl, rfl, H8, ⟨by rw [HN.out]; simp⟩, EL⟩
      case round =>
        clear H8 HN EL
        obtain ⟨q, L2, A2, c2, hq, rfl, rfl, rfl, H, HN, EL⟩ := hrel
        by_cases h0 : q = 0
        · subst h0
          have ei : (if (0 : Nat) = 0 then pp else ⟨#[]⟩) = pp := rfl
          rw [ei]
          have e2 : wcs (dataF 0 ws ++ (if (0 : Nat) = 0 then [] else [(((2 + ws.length : Nat) : Int), pad pp)])) = wcs (dataF 0 ws) := by simp
          rw [e2] at HN
          replace HN : Aside0 (L2 N = ⟨.slice A2 ws.length c2, 35, 2, ws.length, wcs (dataF 0 ws)⟩) := ⟨HN.out⟩
          have t1 : (pp.toList = []) = False := eq_false (fun e => by
            rw [ByteArray.toList_eq] at e
            have e3 := congrArg List.length e
            rw [Array.length_toList] at e3
            change pp.size = 0 at e3
            omega)
          have t2 : (pp.toList == []) = false := by rw [beq_eq_false_iff_ne]; intro e; rw [t1] at e; exact e
          have t3 : pp.toList.isEmpty = false := by cases h : pp.toList with | nil => rw [h] at t2; cases t2 | cons _ _ => rfl
          clear ei e2
          have hw3 : wrap64 (2 + (ws.length : Int)) = 2 + (ws.length : Int) := by unfold wrap64; omega
          have hex : pp.extract 0 pp.size = pp := ByteArray.extract_zero_size
          have hex2 : pp.extract pp.size pp.size = ⟨#[]⟩ := by apply ByteArray.ext; simp
          have hmn : ((512 : Int) < (pp.size : Int)) = False := eq_false (by omega)
          have hmn2 : (512 < pp.size) = False := eq_false (by omega)
          have C34 := fun (W : World) => filled_calls pp h512 W
          have EP : Aside0 ((2 + (ws.length : Int)) = ((2 + ws.length : Nat) : Int)) := ⟨by omega⟩
          obtain ⟨pd, hpd⟩ : ∃ pd, pd = pad pp := ⟨_, rfl⟩
          rw [← hpd] at C34
          have HPD := Aside0.mk hpd
          clear hpd
          go_upto_region 19 with (first
            | (go_at_call 34; (with_reducible refine (C34 _).mono ?_); rintro e w10 ⟨rfl, hb⟩; have H10 := Aside0.mk (H.out.below hb); clear hb; obtain ⟨v', w11, hr, M11, B11⟩ := many_grow 32 35 2 24 (.agg #[.int .i64 0, .string ByteArray.empty]) Try.underlying32 infoA rfl (by decide) (by decide) H10.out.at_.many N (by omega) _ _ _ HN.out [.int .i64 (2 + (ws.length : Int)), .string pd] rfl (fun q hq => by simp only [List.mem_cons, List.not_mem_nil, or_false] at hq; rcases hq with rfl | rfl <;> rfl) H10.out.at_.bel H10.out.at_.base (by omega); obtain ⟨A5, c5, e5, _⟩ := many_val M11 N (by omega); rw [upd_at] at e5; have e5' : v' = .slice A5 (ws.length + 1) c5 := e5; subst e5'; have HR := Aside0.mk hr; have H11 := Aside0.mk (H10.out.put N (by omega) (by omega) _ M11 B11); clear hr M11 B11 e5)
            | ((with_reducible refine gate_dst (N := 80) rfl ?_); go_loud (refine Kd.event_run rfl (exec_append (t := 32) (.tmp 68) (.tmp 79) rfl rfl _ _ rfl rfl HR.out) ?_)))
          have HN11 : Aside0 (upd L2 N ⟨.slice A5 (ws.length + 1) c5, 35, 2, ws.length + 1, wcs (dataF 0 ws) ++ [.int .i64 (2 + (ws.length : Int)), .string pd]⟩ N = ⟨.slice A5 (ws.length + 1) c5, 35, 2, ws.length + 1, wcs (dataF 0 ws ++ (if (1 : Nat) = 0 then [] else [(((2 + ws.length : Nat) : Int), pad pp)]))⟩) := ⟨by
            rw [upd_at, if_neg (by decide), ← HPD.out, EP.out]
            unfold wcs
            rw [List.flatMap_append]
            simp [wc]⟩
          have EL11 : Aside0 (∀ t, t < N → upd L2 N ⟨.slice A5 (ws.length + 1) c5, 35, 2, ws.length + 1, wcs (dataF 0 ws) ++ [.int .i64 (2 + (ws.length : Int)), .string pd]⟩ t = L t) := ⟨fun t ht => by rw [upd_ne (by omega)]; exact EL.out t ht⟩
          clear hw3
          go_wp2
          exact ⟨⟨1, _, A5, c5, by omega, by go_num, rfl, rfl, H11, HN11, EL11⟩, by simp [intOf]⟩
        · obtain rfl : q = 1 := by omega
          have ei : (if (1 : Nat) = 0 then pp else (⟨#[]⟩ : ByteArray)) = ⟨#[]⟩ := rfl
          rw [ei]
          have hwl : (commitW ws).length = ws.length + 1 := by rw [HCW.out, List.length_append, dataF_len]; rfl
          have HN2 : Aside0 (L2 N = wsl 35 (.slice A2 (commitW ws).length c2) (commitW ws)) := ⟨by rw [HN.out, if_neg (by decide), ← HCW.out]; unfold wsl; rw [hwl]⟩
          have CL := lay_calls A2 c2 (commitW ws) H.out (row_src N (by omega) (by omega) (by omega) A2 c2 (commitW ws) HN2.out) (by rw [hwl]; omega)
          rw [hwl] at CL
          have HCS : Aside0 (commitS sz s false ws = if (layS s false (commitW ws)).2.2 ≠ 0 then layS s false (commitW ws) else if (layS (layS s false (commitW ws)).1 (layS s false (commitW ws)).2.1 [(1, noteS cm ws.length)]).2.2 ≠ 0 then layS (layS s false (commitW ws)).1 (layS s false (commitW ws)).2.1 [(1, noteS cm ws.length)] else
      homeS sz (layS (layS s false (commitW ws)).1 (layS s false (commitW ws)).2.1 [(1, noteS cm ws.length)]).1 (layS (layS s false (commitW ws)).1 (layS s false (commitW ws)).2.1 [(1, noteS cm ws.length)]).2.1 ws) := ⟨rfl⟩
          obtain ⟨r1, hr1⟩ : ∃ r1, r1 = layS s false (commitW ws) := ⟨_, rfl⟩
          rw [← hr1] at CL HCS
          obtain ⟨s1, d1, e1⟩ := r1
          clear hr1 hwl HN2 HN HCW ei h0 hq
          by_cases h0 : e1 = 0
          · subst h0
            have HC2 : Aside0 (commitS sz s false ws = if (layS s1 d1 [(1, noteS cm ws.length)]).2.2 ≠ 0 then layS s1 d1 [(1, noteS cm ws.length)] else homeS sz (layS s1 d1 [(1, noteS cm ws.length)]).1 (layS s1 d1 [(1, noteS cm ws.length)]).2.1 ws) := ⟨by rw [HCS.out]; exact if_neg (fun h => h rfl)⟩
            have C36 := fun (W : World) => noted_calls cm rfl (ws.length : Int) W
            obtain ⟨nt, hnt⟩ : ∃ nt, nt = noteS cm ws.length := ⟨_, rfl⟩
            rw [← hnt] at C36 HC2
            clear HCS hnt
            obtain ⟨r2, hr2⟩ : ∃ r2, r2 = layS s1 d1 [(1, nt)] := ⟨_, rfl⟩
            rw [← hr2] at HC2
            have HR2 := Aside0.mk hr2
            obtain ⟨s2, d2, e2⟩ := r2
            clear hr2
            have EM : Aside0 (cm = ⟨#[99, 111, 102, 102, 101, 114, 32, 99, 111, 109, 109, 105, 116, 32, 32, 32]⟩) := ⟨rfl⟩
            rw [EM.out] at C36
            by_cases h1 : e2 = 0
            · subst h1
              have HC3 : Aside0 (commitS sz s false ws = homeS sz s2 d2 ws) := ⟨by rw [HC2.out]; exact if_neg (fun h => h rfl)⟩
              clear HC2
              go_wp2_with (first
                | (go_at_call 35; (with_reducible refine CL.mono ?_); rintro e w6 ⟨rfl, L6, h6, e6⟩; obtain ⟨L7, h7, e7⟩ := h6.cut (N := N) (L := L) hi hj (by omega) (fun q hq a b => by rw [e6 q a b, EL.out q hq]); have H7 := Aside0.mk h7; have E7 := Aside0.mk e7; clear h6 e6 h7 e7 CL)
                | (go_at_call 36; (with_reducible refine (C36 _).mono ?_); rintro e w8 ⟨rfl, hb⟩; have H8 := Aside0.mk (H7.out.below hb); have C2 := lay_one H8.out 1 nt (by omega); rw [← HR2.out] at C2; clear hb H7)
                | (go_at_call 35; (with_reducible refine C2.mono ?_); rintro e w9 ⟨rfl, L9, h9, e9⟩; have H9 := Aside0.mk h9; have E9 := Aside0.mk (elj_trans E7.out e9); have C44 := home_calls A c ws h9 (HS.out.go (elj_trans E7.out e9)) hl2 (by omega); clear h9 e9 C2)
                | (go_at_call 44; (with_reducible refine C44.mono ?_); rintro e w12 ⟨rfl, L12, h12, e12⟩; have H12 := Aside0.mk h12; have E12 := Aside0.mk (elj_trans E9.out e12); clear h12 e12 C44))
              go_ret
              exact ⟨by rw [HC3.out]; rfl, L12, by rw [HC3.out]; exact H12.out.more (by omega) (by omega), E12.out⟩
            · have HC3 : Aside0 (commitS sz s false ws = (s2, d2, e2)) := ⟨by rw [HC2.out]; exact if_pos h1⟩
              have p1 : (e2 = 0) = False := eq_false h1
              have p2 : (e2 == 0) = false := by simp [h1]
              clear HC2
              go_wp2_with (first
                | (go_at_call 35; (with_reducible refine CL.mono ?_); rintro e w6 ⟨rfl, L6, h6, e6⟩; obtain ⟨L7, h7, e7⟩ := h6.cut (N := N) (L := L) hi hj (by omega) (fun q hq a b => by rw [e6 q a b, EL.out q hq]); have H7 := Aside0.mk h7; have E7 := Aside0.mk e7; clear h6 e6 h7 e7 CL)
                | (go_at_call 36; (with_reducible refine (C36 _).mono ?_); rintro e w8 ⟨rfl, hb⟩; have H8 := Aside0.mk (H7.out.below hb); have C2 := lay_one H8.out 1 nt (by omega); rw [← HR2.out] at C2; clear hb H7)
                | (go_at_call 35; (with_reducible refine C2.mono ?_); rintro e w9 ⟨rfl, L9, h9, e9⟩; have H9 := Aside0.mk h9; have E9 := Aside0.mk (elj_trans E7.out e9); clear h9 e9 C2))
              go_ret
              exact ⟨by rw [HC3.out]; rfl, L9, by rw [HC3.out]; exact H9.out.more (by omega) (by omega), E9.out⟩
          · have HC2 : Aside0 (commitS sz s false ws = (s1, d1, e1)) := ⟨by rw [HCS.out]; exact if_pos h0⟩
            have p1 : (e1 = 0) = False := eq_false h0
            have p2 : (e1 == 0) = false := by simp [h0]
            clear HCS
            go_wp2_with (go_at_call 35; (with_reducible refine CL.mono ?_); rintro e w6 ⟨rfl, L6, h6, e6⟩; obtain ⟨L7, h7, e7⟩ := h6.cut (N := N) (L := L) hi hj (by omega) (fun q hq a b => by rw [e6 q a b, EL.out q hq]); have H7 := Aside0.mk h7; have E7 := Aside0.mk e7; clear h6 e6 h7 e7 CL)
            go_ret
            exact ⟨by rw [HC2.out]; rfl, L7, by rw [HC2.out]; exact H7.out.more (by omega) (by omega), E7.out⟩
end Go.Proofs.Ytfagljigaippiaa.Dk
