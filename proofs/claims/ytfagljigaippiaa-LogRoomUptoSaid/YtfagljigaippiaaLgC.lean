/- Chapter 7: home. -/
import Derived.Test.YtfagljigaippiaaLgB
import Derived.Test.YtfagljigaippiaaLgK
namespace Go.Proofs.Ytfagljigaippiaa.Dk
open Go.RowKit Go.Maps Go.Proofs.Ytfagljigaippiaa.X Go.Proofs.YtfagljigaippiaaW.PrintWords Go.Proofs.YtfagljigaippiaaW.PrintLast Go.Proofs.YtfagljigaippiaaW.PrintMore
set_option linter.unusedVariables false
set_option linter.unusedSimpArgs false

def lhm.T5 : Bool × List (List Nat × List Nat) := (true, [([], []), ([], []), ([1], [1]), ([2], [2]), ([3], [3]), ([], []), ([5], [5]), ([4, 6], [4, 6]), ([], []), ([8], [8]), ([7, 9], [7, 9]), ([10], [10]), ([0, 11], [0, 11]), ([12, 12, 0, 1, 2, 3, 4, 5, 6, 7, 8, 9, 10, 11, 12], [0, 12])])
def lhm.B5 : List Nat := [0, 0, 2, 6, 14, 0, 32, 126, 0, 256, 1022, 2046, 4095, 8191]
theorem lhm.tab5 : rtab .any (opsOf Try.f44 5) = lhm.T5 := by kernel_rfl
theorem lhm.bits5 : waitsOk lhm.T5.2 lhm.B5 = true := by kernel_rfl
theorem infoA : (Try.prog.info? 35).map (fun i => (i.zero, i.size, i.bytes)) = some (some (.agg #[.int .i64 0, .string ByteArray.empty]), 2, 24) := by kernel_rfl
theorem many_drop {base : Nat} {L : Nat → Sl} {N M : Nat} {W : World} (h : Many base L N W) (hM : M ≤ N) : Many base L M W := ⟨fun s hs => h.1 s (by omega), fun s t hs ht => h.2 s t (by omega) (by omega)⟩
theorem many_ext {base : Nat} {L L' : Nat → Sl} {N : Nat} {W : World} (h : Many base L N W) (e : ∀ k, k < N → L' k = L k) : Many base L' N W := by
  refine ⟨fun s hs => by rw [e s hs]; exact h.1 s hs, fun s t hs ht => ?_⟩
  rw [e s hs, e t ht]
  exact h.2 s t hs ht
/-- Rows that were added are let go. -/
theorem Lg.cut {base : Nat} {L L' : Nat → Sl} {N N' i g j gl : Nat} {s : DS} {n m sz : Nat} {dead : Bool} {w0 w : World} (h : Lg base L' N' i g j gl s n m sz dead w0 w) (hi : i + 4 ≤ N) (hj : j < N) (hN : N ≤ N') (e : ∀ k, k < N → (k < i ∨ i + 4 ≤ k) → k ≠ j → L' k = L k) : ∃ L2, Lg base L2 N i g j gl s n m sz dead w0 w ∧ Elj L L2 i j := by
  refine ⟨fun k => if k < N then L' k else L k, ⟨⟨many_ext (many_drop h.at_.many hN) (fun k hk => if_pos hk), ?_, hi, h.at_.ok, h.at_.bel, h.at_.hb, h.at_.hn, h.at_.hm⟩, ?_, hj, h.ap⟩, ?_⟩
  · obtain ⟨k0, k1, k2, k3⟩ := h.at_.disk
    refine ⟨?_, ?_, ?_, ?_⟩
    · show (if i < N then L' i else L i) = osl g 73 [(if i + 1 < N then L' (i + 1) else L (i + 1)).v, (if i + 2 < N then L' (i + 2) else L (i + 2)).v, (if i + 3 < N then L' (i + 3) else L (i + 3)).v, _, _, _]
      rw [if_pos (by omega), if_pos (by omega), if_pos (by omega), if_pos (by omega)]; exact k0
    · show (if i + 1 < N then L' (i + 1) else L (i + 1)) = ssl (if i + 1 < N then L' (i + 1) else L (i + 1)).v _
      rw [if_pos (by omega)]; exact k1
    · show (if i + 2 < N then L' (i + 2) else L (i + 2)) = ssl (if i + 2 < N then L' (i + 2) else L (i + 2)).v _
      rw [if_pos (by omega)]; exact k2
    · show (if i + 3 < N then L' (i + 3) else L (i + 3)) = wsl 96 (if i + 3 < N then L' (i + 3) else L (i + 3)).v _
      rw [if_pos (by omega)]; exact k3
  · show (if j < N then L' j else L j) = _
    rw [if_pos hj]; exact h.log
  · intro k h1 h2
    show (if k < N then L' k else L k) = L k
    split
    · rename_i hk; exact e k hk h1 h2
    · rfl
/-- A row is added beside. -/
theorem Lg.add {base : Nat} {L : Nat → Sl} {N i g j gl : Nat} {s : DS} {n m sz : Nat} {dead : Bool} {w0 w w' : World} (h : Lg base L N i g j gl s n m sz dead w0 w) (x : Sl) (hb : Below w.heap.size w w') (hx : x.here base w') (ho : ∀ k, x.v.ownBlock = some k → w.heap.size ≤ k) : Lg base (upd L N x) (N + 1) i g j gl s n m sz dead w0 w' := by
  have hi := h.at_.hi
  have hj := h.hj
  obtain ⟨k0, k1, k2, k3⟩ := h.at_.disk
  refine ⟨⟨many_add h.at_.many x hb hx ho, ⟨?_, ?_, ?_, ?_⟩, by omega, h.at_.ok, below_then h.at_.bel h.at_.base hb, h.at_.hb, h.at_.hn, h.at_.hm⟩, by rw [upd_ne (by omega)]; exact h.log, by omega, h.ap⟩
  · rw [upd_ne (by omega), upd_ne (by omega), upd_ne (by omega), upd_ne (by omega)]; exact k0
  · rw [upd_ne (by omega)]; exact k1
  · rw [upd_ne (by omega)]; exact k2
  · rw [upd_ne (by omega)]; exact k3
/-- A row beside turns. -/
theorem Lg.put {base : Nat} {L : Nat → Sl} {N i g j gl : Nat} {s : DS} {n m sz : Nat} {dead : Bool} {w0 w w' : World} (h : Lg base L N i g j gl s n m sz dead w0 w) (t : Nat) (ht : t < i ∨ i + 4 ≤ t) (htj : t ≠ j) (x : Sl) (hm : Many base (upd L t x) N w') (hb : Below base w0 w') : Lg base (upd L t x) N i g j gl s n m sz dead w0 w' := by
  obtain ⟨k0, k1, k2, k3⟩ := h.at_.disk
  refine ⟨⟨hm, ⟨?_, ?_, ?_, ?_⟩, h.at_.hi, h.at_.ok, hb, h.at_.hb, h.at_.hn, h.at_.hm⟩, by rw [upd_ne (by omega)]; exact h.log, h.hj, h.ap⟩
  · rw [upd_ne (by omega), upd_ne (by omega), upd_ne (by omega), upd_ne (by omega)]; exact k0
  · rw [upd_ne (by omega)]; exact k1
  · rw [upd_ne (by omega)]; exact k2
  · rw [upd_ne (by omega)]; exact k3
/-- Writes in a row beside can be read. -/
theorem row_reads {base : Nat} {L : Nat → Sl} {N : Nat} {W : World} (h : Many base L N W) (t : Nat) (ht : t < N) (A : Option Addr) (c : Nat) (ws : List (Int × ByteArray)) (hL : L t = wsl 35 (.slice A ws.length c) ws) : Kd.C kW W A ws.length ws := by
  have ho := h.1 t ht
  unfold Sl.here at ho
  rw [hL] at ho
  have ho' : W.ownsRow base 35 2 (.slice A ws.length c) ws.length (wcs ws) := ho
  have hnl : ws.length ≤ 9223372036854775807 := by
    rcases ho'.2 with ⟨_, e2⟩ | ⟨g', cap', cur, e, _, _, h1, h2, _⟩
    · omega
    · have : cap' ≤ 9223372036854775807 := by simpa [maxLen] using h2
      omega
  refine ⟨rfl, hnl, fun h0 => ?_⟩
  obtain ⟨g', cap', e, _⟩ := World.ownsRow.form ho' h0
  injection e with e1 _ _
  subst e1
  refine ⟨_, rfl, fun k x hk => ⟨[.int .i64 x.1, .string x.2], rfl, kW_mk W x, fun q u hq => ?_⟩⟩
  obtain ⟨e1, e2⟩ := wcs_at ws k x hk
  refine ho'.cells (g := g') rfl (k * 2 + q) u ?_
  cases q with
  | zero => simp only [List.getElem?_cons_zero, Option.some.injEq] at hq; rw [Nat.add_zero, e1, hq]
  | succ q =>
    cases q with
    | zero => simp only [List.getElem?_cons_succ, List.getElem?_cons_zero, Option.some.injEq] at hq; rw [e2, hq]
    | succ q => simp at hq
theorem row_src {base : Nat} {L : Nat → Sl} {N i j : Nat} {w0 : World} (t : Nat) (ht : t < N) (h1 : t < i ∨ i + 4 ≤ t) (h2 : t ≠ j) (A : Option Addr) (c : Nat) (ws : List (Int × ByteArray)) (hL : L t = wsl 35 (.slice A ws.length c) ws) : Src base L N i j w0 A ws := fun L' W' hm e _ => row_reads hm t ht A c ws (by rw [e t h1 h2]; exact hL)
/-- A row beside more: what can be read stays so. -/
theorem Src.add {base : Nat} {L : Nat → Sl} {N i j : Nat} {w0 : World} {A : Option Addr} {ws : List (Int × ByteArray)} (h : Src base L N i j w0 A ws) (x : Sl) (hi : i + 4 ≤ N) (hj : j < N) : Src base (upd L N x) (N + 1) i j w0 A ws := fun L' W' hm e hb => by
  refine h (fun k => if k < N then L' k else L k) W' (many_ext (many_drop hm (by omega)) (fun k hk => if_pos hk)) (fun k h1 h2 => ?_) hb
  show (if k < N then L' k else L k) = L k
  split
  · rename_i hk; rw [e k h1 h2, upd_ne (by omega)]
  · rfl
theorem Src.reads {base : Nat} {L L1 : Nat → Sl} {N N1 i j : Nat} {w0 W : World} {A : Option Addr} {ws : List (Int × ByteArray)} (h : Src base L N i j w0 A ws) (hm : Many base L1 N1 W) (hN : N ≤ N1) (e : ∀ k, k < N → (k < i ∨ i + 4 ≤ k) → k ≠ j → L1 k = L k) (hb : Below base w0 W) : Kd.C kW W A ws.length ws := by
  refine h (fun k => if k < N then L1 k else L k) W (many_ext (many_drop hm hN) (fun k hk => if_pos hk)) (fun k h1 h2 => ?_) hb
  show (if k < N then L1 k else L k) = L k
  split
  · rename_i hk; exact e k hk h1 h2
  · rfl
/-- lay of one write, made on the spot. -/
theorem lay_one {base : Nat} {L : Nat → Sl} {N i g j gl : Nat} {s : DS} {n m sz : Nat} {dead : Bool} {w0 w : World} (h : Lg base L N i g j gl s n m sz dead w0 w) (k : Int) (x : ByteArray) (hm : m + 1 ≤ 549755813887) :
    Calls Try.prog 35 #[.pointer (some ⟨gl, 0, none⟩), .slice (some ⟨w.heap.size, 0, none⟩) 1 1] (w.alloc (.cells #[.int .i64 k, .string x] 35)) fun e w' => e = .returned (.int .i64 (layS s dead [(k, x)]).2.2) ∧ ∃ L', Lg base L' N i g j gl (layS s dead [(k, x)]).1 n (m + 1) sz (layS s dead [(k, x)]).2.1 w0 w' ∧ Elj L L' i j := by
  have hi := h.at_.hi
  have hj := h.hj
  have H2 := h.add (wsl 35 (.slice (some ⟨w.heap.size, 0, none⟩) 1 1) [(k, x)]) (below_alloc (Below.refl _ _) (.cells #[.int .i64 k, .string x] 35)) ⟨rfl, .inr ⟨w.heap.size, 1, _, rfl, h.at_.base, blk_new _ _, Nat.le_refl _, by decide, rfl, rfl⟩⟩ (fun q hq => by
    have : w.heap.size = q := by simpa [wsl, Value.ownBlock] using hq
    omega)
  have := lay_calls (some ⟨w.heap.size, 0, none⟩) 1 [(k, x)] H2 (row_src N (by omega) (by omega) (by omega) _ 1 _ (upd_at _ _ _)) hm
  refine this.mono ?_
  rintro e w' ⟨rfl, L', h', e'⟩
  obtain ⟨L2, h2, e2⟩ := h'.cut (N := N) (L := L) hi hj (by omega) (fun q hq h1 h2 => by rw [e' q h1 h2, upd_ne (by omega)])
  exact ⟨rfl, L2, h2, e2⟩
/-- Where the writes go that are laid home. -/
def homeW (sz : Nat) (ws : List (Int × ByteArray)) : List (Int × ByteArray) := ws.map fun p => (wrap64 ((sz : Int) + p.1), p.2)
def homeS (sz : Nat) (s : DS) (d : Bool) (ws : List (Int × ByteArray)) : DS × Bool × Int :=
  if (layS s d (homeW sz ws)).2.2 = 0 then layS (layS s d (homeW sz ws)).1 (layS s d (homeW sz ws)).2.1 [(1, Z)] else layS s d (homeW sz ws)
set_option maxHeartbeats 8000000 in
set_option maxRecDepth 100000 in
theorem home_calls {base : Nat} {L : Nat → Sl} {N i g j gl : Nat} {s : DS} {n m sz : Nat} {dead : Bool} {w0 w : World} (A : Option Addr) (c : Nat) (ws : List (Int × ByteArray)) (h : Lg base L N i g j gl s n m sz dead w0 w) (hr : Src base L N i j w0 A ws) (hl : ws.length ≤ 1048576) (hm : m + ws.length + 1 ≤ 549755813887) :
    Calls Try.prog 44 #[.pointer (some ⟨gl, 0, none⟩), .slice A ws.length c] w fun e w' => e = .returned (.int .i64 (homeS sz s dead ws).2.2) ∧ ∃ L', Lg base L' N i g j gl (homeS sz s dead ws).1 n (m + ws.length + 1) sz (homeS sz s dead ws).2.1 w0 w' ∧ Elj L L' i j := by
  have hi := h.at_.hi
  have hj := h.hj
  have ap := h.ap
  have H0 := Aside0.mk (h.add (wsl 35 (.slice none 0 0) []) (Below.refl _ _) (World.ownsRow_nil _ base 35 2) (fun k hk => by simp [wsl, Value.ownBlock] at hk))
  have HS := Aside0.mk hr
  have HN0 : Aside0 (upd L N (wsl 35 (.slice none 0 0) []) N = wsl 35 (.slice none 0 0) []) := ⟨upd_at _ _ _⟩
  have EL0 : Aside0 (∀ k, k < N → upd L N (wsl 35 (.slice none 0 0) []) k = L k) := ⟨fun k hk => upd_ne (by omega)⟩
  have HOMEE : Aside0 (homeS sz s dead ws = if (layS s dead (homeW sz ws)).2.2 = 0 then layS (layS s dead (homeW sz ws)).1 (layS s dead (homeW sz ws)).2.1 [(1, Z)] else layS s dead (homeW sz ws)) := ⟨rfl⟩
  generalize upd L N (wsl 35 (.slice none 0 0) []) = L0 at H0 HN0 EL0
  clear h hr
  go_enter Try.func44, Try.ntmps44
  go_wp2
  go_loopw [5, 11] (fun v5 v11 W => ∃ (k : Nat) (L1 : Nat → Sl) (A1 : Option Addr) (c1 : Nat), k ≤ ws.length ∧ v11 = .int .i64 k ∧ v5 = .slice A1 k c1 ∧ Aside0 (Lg base L1 (N + 1) i g j gl s n m sz dead w0 W) ∧ Aside0 (L1 N = ⟨.slice A1 k c1, 35, 2, k, wcs (homeW sz (ws.take k))⟩) ∧ Aside0 (∀ q, q < N → L1 q = L q)) (fun v5 v11 _ => ws.length - (intOf v11).toNat)
  case atStart => exact ⟨0, L0, none, 0, Nat.zero_le _, rfl, rfl, H0, ⟨by rw [List.take_zero]; exact HN0.out⟩, EL0⟩
  case round =>
    clear H0 HN0
    obtain ⟨k, L1, A1, c1, hk, rfl, rfl, H, HN, EL⟩ := hrel
    by_cases hlt : k < ws.length
    · have q1 : ((k : Int) < (ws.length : Int)) = True := eq_true (by omega)
      have q2 : (k < ws.length) = True := eq_true hlt
      have q3 : (ws.length ≤ k) = False := eq_false (by omega)
      obtain ⟨p, hpk⟩ : ∃ p, ws[k]? = some p := ⟨_, List.getElem?_eq_getElem hlt⟩
      obtain ⟨pn, x⟩ := p
      obtain ⟨ad, rfl, hc0, hc1⟩ := writes_at (HS.out.reads H.out.at_.many (by omega) (fun q hq _ _ => EL.out q hq) H.out.at_.bel) k pn x hpk
      have HPK := Aside0.mk hpk
      clear hpk
      go_upto_region 5 with (fail)
      clear hc0 hc1
      have hal := below_alloc (Below.refl wr.heap.size wr) (.cells #[Value.int .i64 pn, Value.string x] 35)
      have H5 := Aside0.mk (H.out.below hal)
      have K2 : Aside0 ((wr.alloc (.cells #[Value.int .i64 pn, Value.string x] 35)).cell? ⟨wr.heap.size, 0, none⟩ = some (.int .i64 pn)) := ⟨by rw [blk_cell (blk_new _ _)]; rfl⟩
      have K3 : Aside0 ((wr.alloc (.cells #[Value.int .i64 pn, Value.string x] 35)).cell? ⟨wr.heap.size, 1, none⟩ = some (.string x)) := ⟨by rw [blk_cell (blk_new _ _)]; rfl⟩
      have K1 := Aside0.mk H5.out.cells.2.1
      clear hal H
      obtain ⟨gn, hgn⟩ : ∃ gn, gn = wr.heap.size := ⟨_, rfl⟩
      rw [← hgn] at K2 K3
      have PN : (Value.pointer (some ⟨wr.heap.size, 0, none⟩)) = .pointer (some ⟨gn, 0, none⟩) := by rw [hgn]
      rw [PN]
      generalize wr.alloc (.cells #[Value.int .i64 pn, Value.string x] 35) = w5 at H5 K1 K2 K3 ⊢
      clear hgn PN
      refine start_ (n := 14) (S := fun W => Below w5.heap.size w5 W) (ds := [12]) #[false, false, false, false, false, false, false, false, false, false, false, false, false, false] (by kernel_rfl) rfl rfl (below_drew1 (Below.refl _ _)) (fun hHeld => ?_); refine with_tabW lhm.tab5 lhm.bits5 (fun HT_ HW_ => ?_)
      generalize World.drew _ = wR at hHeld ⊢
      refine pure_ (i := 0) (N := some 15) (v := ?_) (a' := ?_) #[true, false, false, false, false, false, false, false, false, false, false, false, false, false] rfl rfl (any_of HT_.out (by kernel_rfl)) (fun _ _ _ h => h) (Or.inl ⟨by rfl, ?_⟩) ?_ ?_
      rotate_left
      · intro w'
        go_simp
        with_reducible rfl
      rotate_left
      · simp only [Act.put, List.setIfInBounds_toArray, List.set_cons_zero, List.set_cons_succ, i64_w, i32_w]
        rfl
      refine pure_ (i := 1) (N := some 16) (v := ?_) (a' := ?_) #[true, true, false, false, false, false, false, false, false, false, false, false, false, false] rfl rfl (any_of HT_.out (by kernel_rfl)) (fun _ _ _ h => h) (Or.inl ⟨by rfl, ?_⟩) ?_ ?_
      rotate_left
      · intro w'
        go_simp
        with_reducible rfl
      rotate_left
      · simp only [Act.put, List.setIfInBounds_toArray, List.set_cons_zero, List.set_cons_succ, i64_w, i32_w]
        rfl
      refine pure_ (i := 2) (N := some 17) (v := ?_) (a' := ?_) #[true, true, true, false, false, false, false, false, false, false, false, false, false, false] rfl rfl (any_of HT_.out (by kernel_rfl)) (fun _ _ _ h => h) (Or.inl ⟨by rfl, ?_⟩) ?_ ?_
      rotate_left
      · intro w'
        go_simp
        with_reducible rfl
      rotate_left
      · simp only [Act.put, List.setIfInBounds_toArray, List.set_cons_zero, List.set_cons_succ, i64_w, i32_w]
        rfl
      refine pure_ (i := 3) (N := some 18) (v := ?_) (a' := ?_) #[true, true, true, true, false, false, false, false, false, false, false, false, false, false] rfl rfl (any_of HT_.out (by kernel_rfl)) (fun _ _ _ h => h) (Or.inl ⟨by rfl, ?_⟩) ?_ ?_
      rotate_left
      · intro w'
        go_simp
        with_reducible rfl
      rotate_left
      · simp only [Act.put, List.setIfInBounds_toArray, List.set_cons_zero, List.set_cons_succ, i64_w, i32_w]
        rfl
      refine take_ (i := 4) (N := some 19) (v := ?_) (a' := ?_) #[true, true, true, true, true, false, false, false, false, false, false, false, false, false] rfl rfl (take_ofW HT_.out HW_.out (by kernel_rfl)) (fun _ _ _ h => h) (Or.inl ⟨by rfl, ?_⟩) hHeld ?_ ?_
      rotate_left
      · rintro w' s0
        have hK := below_cell' s0 K1.out
        go_simp
        with_reducible rfl
      rotate_left
      · simp only [Act.put, List.setIfInBounds_toArray, List.set_cons_zero, List.set_cons_succ, i64_w, i32_w]
        rfl
      refine pure_ (i := 5) (N := some 20) (v := ?_) (a' := ?_) #[true, true, true, true, true, true, false, false, false, false, false, false, false, false] rfl rfl (any_of HT_.out (by kernel_rfl)) (fun _ _ _ h => h) (Or.inl ⟨by rfl, ?_⟩) ?_ ?_
      rotate_left
      · intro w'
        go_simp
        with_reducible rfl
      rotate_left
      · simp only [Act.put, List.setIfInBounds_toArray, List.set_cons_zero, List.set_cons_succ, i64_w, i32_w]
        rfl
      refine take_ (i := 6) (N := some 21) (v := ?_) (a' := ?_) #[true, true, true, true, true, true, true, false, false, false, false, false, false, false] rfl rfl (take_ofW HT_.out HW_.out (by kernel_rfl)) (fun _ _ _ h => h) (Or.inl ⟨by rfl, ?_⟩) hHeld ?_ ?_
      rotate_left
      · rintro w' s0
        have hK := below_cell' s0 K2.out
        go_simp
        with_reducible rfl
      rotate_left
      · simp only [Act.put, List.setIfInBounds_toArray, List.set_cons_zero, List.set_cons_succ, i64_w, i32_w]
        rfl
      refine pure_ (i := 7) (N := some 22) (v := ?_) (a' := ?_) #[true, true, true, true, true, true, true, true, false, false, false, false, false, false] rfl rfl (any_of HT_.out (by kernel_rfl)) (fun _ _ _ h => h) (Or.inl ⟨by rfl, ?_⟩) ?_ ?_
      rotate_left
      · intro w'
        go_simp
        with_reducible rfl
      rotate_left
      · simp only [Act.put, List.setIfInBounds_toArray, List.set_cons_zero, List.set_cons_succ, i64_w, i32_w]
        rfl
      refine pure_ (i := 8) (N := some 23) (v := ?_) (a' := ?_) #[true, true, true, true, true, true, true, true, true, false, false, false, false, false] rfl rfl (any_of HT_.out (by kernel_rfl)) (fun _ _ _ h => h) (Or.inl ⟨by rfl, ?_⟩) ?_ ?_
      rotate_left
      · intro w'
        go_simp
        with_reducible rfl
      rotate_left
      · simp only [Act.put, List.setIfInBounds_toArray, List.set_cons_zero, List.set_cons_succ, i64_w, i32_w]
        rfl
      refine take_ (i := 9) (N := some 24) (v := ?_) (a' := ?_) #[true, true, true, true, true, true, true, true, true, true, false, false, false, false] rfl rfl (take_ofW HT_.out HW_.out (by kernel_rfl)) (fun _ _ _ h => h) (Or.inl ⟨by rfl, ?_⟩) hHeld ?_ ?_
      rotate_left
      · rintro w' s0
        have hK := below_cell' s0 K3.out
        go_simp
        with_reducible rfl
      rotate_left
      · simp only [Act.put, List.setIfInBounds_toArray, List.set_cons_zero, List.set_cons_succ, i64_w, i32_w]
        rfl
      refine pure_ (i := 10) (N := some 25) (v := ?_) (a' := ?_) #[true, true, true, true, true, true, true, true, true, true, true, false, false, false] rfl rfl (any_of HT_.out (by kernel_rfl)) (fun _ _ _ h => h) (Or.inl ⟨by rfl, ?_⟩) ?_ ?_
      rotate_left
      · intro w'
        go_simp
        with_reducible rfl
      rotate_left
      · simp only [Act.put, List.setIfInBounds_toArray, List.set_cons_zero, List.set_cons_succ, i64_w, i32_w]
        rfl
      refine one_ (i := 11) (N := some 26) #[true, true, true, true, true, true, true, true, true, true, true, true, false, false] rfl rfl (one_of HT_.out (by kernel_rfl)) (by decide) (fun K hK => ?_)
      refine value_ (w1 := ?_) (v := ?_) (by rfl) rfl ?_ ?_
      rotate_left 2
      · go_simp
        constructor
        · rfl
        · rfl
      have HMR := H5.out.below hHeld
      obtain ⟨v', w4, hr, M4, B4⟩ := many_grow 32 35 2 24 (.agg #[.int .i64 0, .string ByteArray.empty]) Try.underlying32 infoA rfl (by decide) (by decide) HMR.at_.many N (by omega) _ _ _ HN.out [.int .i64 (wrap64 ((sz : Int) + pn)), .string x] rfl (fun q hq => by simp only [List.mem_cons, List.not_mem_nil, or_false] at hq; rcases hq with rfl | rfl <;> rfl) HMR.at_.bel HMR.at_.base (by omega)
      obtain ⟨A5, c5, e5, _⟩ := many_val M4 N (by omega)
      rw [upd_at] at e5
      obtain ⟨k5, hk5⟩ : ∃ k5, k5 = k + 1 := ⟨_, rfl⟩
      have e5' : v' = .slice A5 k5 c5 := by rw [hk5]; exact e5
      subst e5'
      refine hK.out _ _ (hHeld.alloc hHeld.size _) (fun hHeld => ?_)
      clear hK K
      refine norm_ (a' := ?_) ?_ ?_
      rotate_left
      · show Act.put _ (some 26) _ = _
        simp only [Act.put, List.setIfInBounds_toArray, List.set_cons_zero, List.set_cons_succ, i64_w, i32_w]
        rfl
      refine last_ (i := 12) (N := some 27) #[true, true, true, true, true, true, true, true, true, true, true, true, true, false] rfl rfl (one_of HT_.out (by kernel_rfl)) (by decide) (fun K hK => ?_)
      refine value_ (by rfl) rfl (exec_append (t := 32) (.tmp 15) (.tmp 26) rfl rfl _ _ rfl rfl hr) ?_
      refine hK.out _ _ ?_
      clear hK K
      refine norm_ (a' := ?_) ?_ ?_
      rotate_left
      · show Act.put _ (some 27) _ = _
        simp only [Act.put, List.setIfInBounds_toArray, List.set_cons_zero, List.set_cons_succ, i64_w, i32_w]
        rfl
      refine pure_ (i := 13) (N := some 5) (v := ?_) (a' := ?_) #[true, true, true, true, true, true, true, true, true, true, true, true, true, true] rfl rfl (any_of HT_.out (by kernel_rfl)) (fun _ _ _ h => h) (Or.inl ⟨by rfl, ?_⟩) ?_ ?_
      rotate_left
      · intro w'
        go_simp
        with_reducible rfl
      rotate_left
      · simp only [Act.put, List.setIfInBounds_toArray, List.set_cons_zero, List.set_cons_succ, i64_w, i32_w]
        rfl
      refine done_ (done_of HT_.out (by kernel_rfl)) ?_
      have H6 := Aside0.mk (HMR.put N (by omega) (by omega) _ M4 B4)
      have HN6 : Aside0 (upd L1 N ⟨.slice A5 k5 c5, 35, 2, k + 1, wcs (homeW sz (ws.take k)) ++ [.int .i64 (wrap64 ((sz : Int) + pn)), .string x]⟩ N = ⟨.slice A5 (k + 1) c5, 35, 2, k + 1, wcs (homeW sz (ws.take (k + 1)))⟩) := ⟨by
        rw [upd_at, hk5, take_snoc _ _ _ HPK.out]
        unfold homeW wcs
        rw [List.map_append, List.flatMap_append]
        simp [wc]⟩
      have EL6 : Aside0 (∀ q, q < N → upd L1 N ⟨.slice A5 k5 c5, 35, 2, k + 1, wcs (homeW sz (ws.take k)) ++ [.int .i64 (wrap64 ((sz : Int) + pn)), .string x]⟩ q = L q) := ⟨fun q hq => by rw [upd_ne (by omega)]; exact EL.out q hq⟩
      clear HMR M4 B4 hr
      go_wp2
      exact ⟨⟨k + 1, _, A5, c5, by omega, by go_num, (by first | rfl | rw [hk5]), H6, HN6, EL6⟩, by simp [intOf]; omega⟩
    · have q1 : ((k : Int) < (ws.length : Int)) = False := eq_false (by omega)
      obtain rfl : k = ws.length := by omega
      rw [List.take_length] at HN
      have hwl : (homeW sz ws).length = ws.length := by unfold homeW; rw [List.length_map]
      have CL := lay_calls A1 c1 (homeW sz ws) H.out (row_src N (by omega) (by omega) (by omega) A1 c1 (homeW sz ws) (by rw [HN.out]; unfold wsl; rw [hwl])) (by rw [hwl]; omega)
      rw [hwl] at CL
      have CF := fun (W : World) => filled_calls ⟨#[]⟩ (by decide) W
      rw [show pad ⟨#[]⟩ = Z from pad_empty] at CF
      obtain ⟨r1, hr1⟩ : ∃ r1, r1 = layS s dead (homeW sz ws) := ⟨_, rfl⟩
      rw [← hr1] at CL HOMEE
      obtain ⟨s1, d1, e1⟩ := r1
      clear hr1 hwl
      obtain ⟨z, hz⟩ : ∃ z, z = Z := ⟨_, rfl⟩
      rw [← hz] at CF HOMEE
      clear hz
      by_cases h0 : e1 = 0
      · subst h0
        have HE2 : Aside0 (homeS sz s dead ws = layS s1 d1 [(1, z)]) := ⟨by rw [HOMEE.out]; exact if_pos rfl⟩
        clear HOMEE
        go_wp2_with (first
          | (go_at_call 35; (with_reducible refine CL.mono ?_); rintro e w6 ⟨rfl, L6, h6, e6⟩; obtain ⟨L7, h7, e7⟩ := h6.cut (N := N) (L := L) hi hj (by omega) (fun q hq a b => by rw [e6 q a b, EL.out q hq]); have H7 := Aside0.mk h7; have E7 := Aside0.mk e7; clear h6 e6 h7 e7)
          | (go_at_call 34; (with_reducible refine (CF _).mono ?_); rintro e w8 ⟨rfl, hb⟩; have H8 := Aside0.mk (H7.out.below hb); have C2 := lay_one H8.out 1 z (by omega); clear hb H7)
          | (go_at_call 35; (with_reducible refine C2.mono ?_); rintro e w9 ⟨rfl, L9, h9, e9⟩; have H9 := Aside0.mk h9; have E9 := Aside0.mk (elj_trans E7.out e9); clear h9 e9 C2))
        go_ret
        exact ⟨by rw [HE2.out]; rfl, L9, by rw [HE2.out]; exact H9.out.more (by omega) (by omega), E9.out⟩
      · have HE2 : Aside0 (homeS sz s dead ws = (s1, d1, e1)) := ⟨by rw [HOMEE.out]; exact if_neg h0⟩
        clear HOMEE
        have p1 : (e1 = 0) = False := eq_false h0
        have p2 : (e1 == 0) = false := by simp [h0]
        go_wp2_with (go_at_call 35; (with_reducible refine CL.mono ?_); rintro e w6 ⟨rfl, L6, h6, e6⟩; obtain ⟨L7, h7, e7⟩ := h6.cut (N := N) (L := L) hi hj (by omega) (fun q hq a b => by rw [e6 q a b, EL.out q hq]); have H7 := Aside0.mk h7; have E7 := Aside0.mk e7; clear h6 e6 h7 e7)
        go_ret
        exact ⟨by rw [HE2.out]; rfl, L7, by rw [HE2.out]; exact H7.out.more (by omega) (by omega), E7.out⟩
end Go.Proofs.Ytfagljigaippiaa.Dk
