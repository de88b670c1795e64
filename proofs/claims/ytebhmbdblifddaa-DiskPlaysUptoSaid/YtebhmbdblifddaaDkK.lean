/- Chapter 6: DiskFlushed: what stays. -/
import Derived.Test.YtebhmbdblifddaaDkJ
namespace Go.Proofs.Ytebhmbdblifddaa.Dk
open Go.RowKit Go.Maps Go.Proofs.Ytebhmbdblifddaa.X Go.Proofs.YtebhmbdblifddaaW.PrintWords Go.Proofs.YtebhmbdblifddaaW.PrintLast Go.Proofs.YtebhmbdblifddaaW.PrintMore
set_option linter.unusedVariables false
set_option linter.unusedSimpArgs false

/-- A number modulo another. -/
def leastF (n : Int) (m : Int) : Int := if Int.tmod n m < 0 then Int.tmod n m + m else Int.tmod n m
theorem least_in (n : Int) (m : Int) (hm : 0 < m) : 0 ≤ leastF n m ∧ leastF n m < m := by
  unfold leastF
  have h1 := Int.tmod_lt_of_pos n hm
  have h2 : -m < Int.tmod n m := by
    have := Int.tmod_lt_of_pos (-n) hm
    rw [Int.neg_tmod] at this
    omega
  split <;> omega
theorem least_calls (n m : Int) (hm : 0 < m) (hm2 : m ≤ 1000000) (w : World) : Calls Try.prog 10 #[.int .i64 n, .int .i64 m] w fun e w' => e = .returned (.int .i64 (leastF n m)) ∧ Below w.heap.size w w' := by
  have h2 : -m < Int.tmod n m := by
    have := Int.tmod_lt_of_pos (-n) hm
    rw [Int.neg_tmod] at this
    omega
  refine (cofferlaw06_least.calls n m (leastF n m) w (by
    unfold cofferlaw06_least.f leastF
    rw [if_neg (by omega)]
    split
    · have : wrap64 (Int.tmod n m + m) = Int.tmod n m + m := by unfold wrap64; omega
      rw [this]
    · rfl)).mono ?_
  rintro e w' ⟨rfl, hd⟩
  exact ⟨rfl, hd.below⟩
theorem done_at : ∀ (ps : List (Int × ByteArray)) (l : List ByteArray) (j : Nat), (∀ p ∈ ps, p.1.toNat ≠ j) → (done l ps).getD j ByteArray.empty = l.getD j ByteArray.empty
  | [], _, _, _ => rfl
  | p :: r, l, j, h => by
    show (done (l.set p.1.toNat p.2) r).getD j ByteArray.empty = _
    rw [done_at r _ j (fun q hq => h q (List.mem_cons_of_mem _ hq)), List.getD_eq_getElem?_getD, List.getElem?_set, if_neg (h p (List.mem_cons_self ..)), List.getD_eq_getElem?_getD]
theorem keptW_sub (ks : List Int) : ∀ (ps : List (Int × ByteArray)) (j : Nat) (p : Int × ByteArray), p ∈ keptW ks ps j → p ∈ ps
  | [], _, _, h => h
  | q :: r, j, p, h => by
    unfold keptW at h
    split at h
    · rcases List.mem_cons.1 h with e | e
      · rw [e]; exact List.mem_cons_self ..
      · exact List.mem_cons_of_mem _ (keptW_sub ks r (j + 1) p e)
    · exact List.mem_cons_of_mem _ (keptW_sub ks r (j + 1) p h)
/-- Another row beside the disk; a cell of it set. -/
theorem at_add {base : Nat} {L : Nat → Sl} {N i g : Nat} {s : DS} {n m : Nat} {w0 w w' : World} (h : At base L N i g s n m w0 w) (x : Sl) (hb : Below w.heap.size w w') (hx : x.here base w') (ho : ∀ k, x.v.ownBlock = some k → w.heap.size ≤ k) : At base (upd L N x) (N + 1) i g s n m w0 w' := by
  have hi := h.hi
  obtain ⟨k0, k1, k2, k3⟩ := h.disk
  refine ⟨many_add h.many x hb hx ho, ⟨?_, ?_, ?_, ?_⟩, by omega, h.ok, below_then h.bel h.base hb, h.hb, h.hn, h.hm⟩
  · rw [upd_ne (by omega), upd_ne (by omega), upd_ne (by omega), upd_ne (by omega)]; exact k0
  · rw [upd_ne (by omega)]; exact k1
  · rw [upd_ne (by omega)]; exact k2
  · rw [upd_ne (by omega)]; exact k3
theorem at_set {base : Nat} {L : Nat → Sl} {N i g : Nat} {s : DS} {n m : Nat} {w0 w : World} (h : At base L N i g s n m w0 w) (t : Nat) (ht : t < N) (hti : t < i ∨ i + 4 ≤ t) (g' T : Nat) (cs : List Value) (hL : L t = osl g' T cs) (j : Nat) (hj : j < cs.length) (u : Value) : At base (upd L t (osl g' T (cs.set j u))) N i g s n m w0 (w.setCell ⟨g', j, none⟩ u) := by
  obtain ⟨k0, k1, k2, k3⟩ := h.disk
  obtain ⟨_, _, hb⟩ := obj_cell h.many t ht g' T cs hL j hj
  refine ⟨obj_set h.many t ht g' T cs hL j u, ⟨?_, ?_, ?_, ?_⟩, h.hi, h.ok, h.bel.setCell (by exact hb) u, h.hb, h.hn, h.hm⟩
  · rw [upd_ne (by omega), upd_ne (by omega), upd_ne (by omega), upd_ne (by omega)]; exact k0
  · rw [upd_ne (by omega)]; exact k1
  · rw [upd_ne (by omega)]; exact k2
  · rw [upd_ne (by omega)]; exact k3
/-- An array of one's own, new. -/
theorem at_array {base : Nat} {L : Nat → Sl} {N i g : Nat} {s : DS} {n m : Nat} {w0 w : World} (h : At base L N i g s n m w0 w) (T : Nat) (cs : List Value) (hl : cs.length ≤ 1000) : At base (upd L N (osl w.heap.size T cs)) (N + 1) i g s n m w0 (w.alloc (.cells cs.toArray T)) :=
  at_add h _ (below_alloc (Below.refl _ _) _) ⟨by show cs.length = cs.length * 1; omega, .inr ⟨w.heap.size, cs.length, cs.toArray, rfl, h.base, blk_new _ _, Nat.le_refl _, by show cs.length ≤ maxLen; simp only [maxLen]; omega, by show cs.toArray.size = cs.length * 1; rw [List.size_toArray]; omega, by show cs.take (cs.length * 1) = cs; rw [Nat.mul_one, List.take_length]⟩⟩ (fun k hk => by
    have : w.heap.size = k := by simpa [osl, Value.ownBlock] using hk
    omega)
/-- While all goes well: what is seen is what is wanted. -/
structure Good1 (s : DS) (W : List UInt8) : Prop where
  off : s.off = false
  opn : s.opn = false
  fall : s.fall = 0
  seen : s.seen = W.map F
  all : done s.safe s.pend = s.seen
theorem good_write {s : DS} {W : List UInt8} (h : Good1 s W) (k : Nat) (hk : k < W.length) (c : UInt8) : (writeS s k (F c)).2 = 0 ∧ Good1 (writeS s k (F c)).1 (W.set k c) := by
  have hl : s.seen.length = W.length := by rw [h.seen, List.length_map]
  have hf : fallS s = s := by unfold fallS; rw [if_neg (by rw [h.fall]; decide)]
  have e : writeS s k (F c) = ({ s with seen := s.seen.set k (F c), pend := s.pend ++ [((k : Int), F c)] }, 0) := by
    unfold writeS
    rw [hf, if_neg (by rw [h.off]; decide), if_neg (fun hn => hn ⟨⟨by omega, by omega⟩, F_size c⟩), if_neg (by rw [h.off]; decide), Int.toNat_natCast]
  rw [e]
  refine ⟨rfl, h.off, h.opn, h.fall, ?_, ?_⟩
  · show s.seen.set k (F c) = _
    rw [h.seen, List.map_set]
  · show done s.safe (s.pend ++ [((k : Int), F c)]) = s.seen.set k (F c)
    rw [done_snoc, h.all]; rfl
theorem good_flush {s : DS} {W : List UInt8} (h : Good1 s W) : (flushS s).2 = 0 ∧ (flushS s).1 = { s with safe := W.map F, pend := [] } := by
  have hf : fallS s = s := by unfold fallS; rw [if_neg (by rw [h.fall]; decide)]
  have e : flushS s = ({ s with safe := done s.safe s.pend, pend := [] }, 0) := by
    unfold flushS
    rw [hf, if_neg (by rw [h.off]; decide), if_neg (by rw [h.off]; decide)]
  rw [e, h.all, h.seen]; exact ⟨rfl, rfl⟩
/-- Behind the flush: what nothing was written to stays. -/
structure Good2 (s : DS) (W : List UInt8) (T : List Bool) : Prop where
  offo : s.off = true → s.opn = true
  seen : ∀ j, T.getD j false = false → j < W.length → s.seen.getD j ByteArray.empty = F (W.getD j 0)
  safe : ∀ j, T.getD j false = false → j < W.length → s.safe.getD j ByteArray.empty = F (W.getD j 0)
  pend : ∀ p ∈ s.pend, 0 ≤ p.1 ∧ T.getD p.1.toNat false = true
theorem good2_of {s : DS} {W : List UInt8} (h : Good1 s W) (f : Int) (T : List Bool) : Good2 { s with safe := W.map F, pend := [], fall := max 0 f } W T := by
  have e : ∀ j, j < W.length → (W.map F).getD j ByteArray.empty = F (W.getD j 0) := fun j hj => by
    rw [List.getD_eq_getElem?_getD, List.getElem?_map, List.getElem?_eq_getElem hj, List.getD_eq_getElem?_getD, List.getElem?_eq_getElem hj]; rfl
  exact ⟨fun h1 => (by have := h.off; rw [show s.off = true from h1] at this; cases this), fun j _ hj => (by show s.seen.getD j _ = _; rw [h.seen]; exact e j hj), fun j _ hj => e j hj, fun p hp => (by cases hp)⟩
theorem fall_off (s : DS) (h : s.off = true → s.opn = true) : (fallS s).off = true → (fallS s).opn = true := by
  unfold fallS
  split
  · split
    · exact fun _ => rfl
    · exact h
  · exact h
theorem good2_write {s : DS} {W : List UInt8} {T : List Bool} (h : Good2 s W T) (k : Nat) (x : ByteArray) (hk : k < T.length) : Good2 (writeS s k x).1 W (T.set k true) := by
  obtain ⟨f1, f2, f3⟩ := fall_rows s
  have ht : ∀ j, (T.set k true).getD j false = false → T.getD j false = false ∧ j ≠ k := fun j hj => by
    rw [List.getD_eq_getElem?_getD, List.getElem?_set] at hj
    by_cases e : k = j
    · rw [if_pos e, if_pos hk] at hj; cases hj
    · rw [if_neg e, ← List.getD_eq_getElem?_getD] at hj
      exact ⟨hj, fun e2 => e e2.symm⟩
  have hp : ∀ j, T.getD j false = true → (T.set k true).getD j false = true := fun j hj => by
    rw [List.getD_eq_getElem?_getD, List.getElem?_set]
    by_cases e : k = j
    · rw [if_pos e, if_pos hk]; rfl
    · rw [if_neg e, ← List.getD_eq_getElem?_getD]; exact hj
  have hb : ∀ s' : DS, (s'.off = true → s'.opn = true) → s'.seen = s.seen → s'.safe = s.safe → s'.pend = s.pend → Good2 s' W (T.set k true) := fun s' a b c d => ⟨a, fun j hj hw => by rw [b]; exact h.seen j (ht j hj).1 hw, fun j hj hw => by rw [c]; exact h.safe j (ht j hj).1 hw, fun p hpp => by rw [d] at hpp; exact ⟨(h.pend p hpp).1, hp _ (h.pend p hpp).2⟩⟩
  unfold writeS
  split
  · exact hb s h.offo rfl rfl rfl
  · split
    · exact hb s h.offo rfl rfl rfl
    · split
      · exact hb (fallS s) (fall_off s h.offo) f1 f2 f3
      · refine ⟨fall_off s h.offo, fun j hj hw => ?_, fun j hj hw => ?_, fun p hpp => ?_⟩
        · show (s.seen.set (k : Int).toNat x).getD j _ = _
          rw [Int.toNat_natCast, List.getD_eq_getElem?_getD, List.getElem?_set, if_neg (fun e => (ht j hj).2 e.symm), ← List.getD_eq_getElem?_getD]
          exact h.seen j (ht j hj).1 hw
        · show (fallS s).safe.getD j _ = _
          rw [f2]; exact h.safe j (ht j hj).1 hw
        · rcases List.mem_append.1 hpp with e | e
          · exact ⟨(h.pend p e).1, hp _ (h.pend p e).2⟩
          · rw [List.mem_singleton.1 e]
            refine ⟨by show (0 : Int) ≤ (k : Int); omega, ?_⟩
            show (T.set k true).getD (k : Int).toNat false = true
            rw [Int.toNat_natCast, List.getD_eq_getElem?_getD, List.getElem?_set, if_pos rfl, if_pos hk]; rfl
/-- Behind the crash. -/
theorem good2_crash {s : DS} {W : List UInt8} {T : List Bool} (h : Good2 s W T) (ks : List Int) (n : Nat) (hl : s.safe.length = n) (i : Nat) (hi : i < n) (hw : i < W.length) : (readS (onS (crashS s ks)) i).2 = 0 ∧ (T.getD i false = false → (readS (onS (crashS s ks)) i).1 = F (W.getD i 0)) := by
  have ho : ¬ (s.off = true ∧ s.opn = false) := fun hh => by
    have := h.offo hh.1
    rw [hh.2] at this; cases this
  have e : onS (crashS s ks) = { seen := done s.safe (keptW ks s.pend 0), safe := done s.safe (keptW ks s.pend 0), pend := [], fall := 0, off := false, opn := false } := by
    unfold crashS onS
    rw [if_neg ho]; rfl
  have e2 : readS (onS (crashS s ks)) i = ((done s.safe (keptW ks s.pend 0)).getD i ByteArray.empty, 0) := by
    rw [e]
    unfold readS
    simp only [Bool.false_eq_true, if_false]
    rw [if_pos ⟨by omega, by show (i : Int) < ((done s.safe (keptW ks s.pend 0)).length : Int); rw [done_len]; omega⟩]; rfl
  rw [e2]
  refine ⟨rfl, fun ht => ?_⟩
  show (done s.safe (keptW ks s.pend 0)).getD i ByteArray.empty = _
  rw [done_at _ _ _ (fun p hp he => ?_)]
  · exact h.safe i ht hw
  · have := (h.pend p (keptW_sub ks _ _ p hp)).2
    rw [he, ht] at this; cases this
end Go.Proofs.Ytebhmbdblifddaa.Dk
