/- Chapter 3: merkle.Holds. -/
import Derived.Test.YthpnppfpmhlkaaaMkI
import Derived.DeepKeys
namespace Go.Proofs.Ythpnppfpmhlkaaa.Sha
open Go.RowKit Go.Proofs.Ythpnppfpmhlkaaa.X Go.Proofs.YthpnppfpmhlkaaaW.PrintWords Go.Proofs.YthpnppfpmhlkaaaW.PrintLast Go.Proofs.YthpnppfpmhlkaaaW.PrintMore
set_option linter.unusedVariables false
set_option linter.unusedSimpArgs false

theorem mapM_all {α β : Type} {f : α → Option β} {g : α → β} : ∀ (xs : List α), (∀ x ∈ xs, f x = some (g x)) → xs.mapM f = some (xs.map g)
  | [], _ => rfl
  | x :: xs, h => by
    rw [List.mapM_cons, h x List.mem_cons_self, mapM_all xs (fun y hy => h y (List.mem_cons_of_mem _ hy))]; rfl
theorem wf8 (c : UInt8) : (Lit.int .u8 (c.toNat : Int)).wf = true := by
  have := c.toNat_lt
  simp [Lit.wf, IntKind.min, IntKind.max, IntKind.signed, IntKind.bits]; omega
theorem lits32 (l : List UInt8) (hl : l.length = 32) : Try.prog.keyLits 2 23 (B32 l).cells.toList = some (l.map fun c => Lit.int .u8 c.toNat) := by
  have hc23 : Try.prog.cellsOf 23 = 32 := by kernel_rfl
  have hc5 : Try.prog.cellsOf 5 = 1 := by kernel_rfl
  have hcs : (B32 l).cells.toList = l.map fun c => Value.int .u8 c.toNat := rfl
  rw [hcs]
  unfold Program.keyLits
  rw [Try.underlying23]
  show (if (l.map fun c => Value.int .u8 c.toNat).length = Try.prog.cellsOf 23 then ((List.range 32).mapM fun i => Try.prog.keyLits 1 5 (((l.map fun c => Value.int .u8 c.toNat).drop (i * Try.prog.cellsOf 5)).take (Try.prog.cellsOf 5))).map List.flatten else none) = _
  rw [if_pos (by rw [List.length_map, hc23]; exact hl), hc5]
  rw [mapM_all (g := fun i => [Lit.int .u8 (l.getD i 0).toNat]) (List.range 32) (fun i hi => by
    have h32 : i < 32 := List.mem_range.1 hi
    have e : ((l.map fun c => Value.int .u8 c.toNat).drop (i * 1)).take 1 = [Value.int .u8 (l.getD i 0).toNat] := by
      rw [Nat.mul_one, List.drop_eq_getElem_cons (by rw [List.length_map]; omega), List.take_succ_cons, List.take_zero, List.getElem_map, List.getD_eq_getElem?_getD, List.getElem?_eq_getElem (by omega)]
      rfl
    rw [e]
    unfold Program.keyLits
    rw [Try.underlying5]
    have hb := (l.getD i 0).toNat_lt
    show (if IntKind.u8 = IntKind.u8 ∧ (Lit.int .u8 ((l.getD i 0).toNat : Int)).wf = true then some [Lit.int .u8 ((l.getD i 0).toNat : Int)] else none) = _
    rw [if_pos ⟨rfl, wf8 _⟩])]
  rw [Option.map_some]
  congr 1
  have hm : ∀ xs : List Nat, (xs.map fun i => [Lit.int .u8 ((l.getD i 0).toNat : Int)]).flatten = xs.map fun i => Lit.int .u8 ((l.getD i 0).toNat : Int) := by
    intro xs
    induction xs with
    | nil => rfl
    | cons x xs ih => rw [List.map_cons, List.flatten_cons, ih]; rfl
  rw [hm]
  apply List.ext_getElem
  · simp [hl]
  · intro i h1 h2
    rw [List.getElem_map, List.getElem_map, List.getElem_range, List.getD_eq_getElem?_getD, List.getElem?_eq_getElem (by simpa using h2)]; rfl
theorem map_inj8 : ∀ (x y : List UInt8), (x.map fun c => Lit.int .u8 (c.toNat : Int)) = (y.map fun c => Lit.int .u8 (c.toNat : Int)) → x = y
  | [], [], _ => rfl
  | [], _ :: _, h => by simp at h
  | _ :: _, [], h => by simp at h
  | a :: x, b :: y, h => by
    rw [List.map_cons, List.map_cons] at h
    injection h with h1 h2
    have h3 : (a.toNat : Int) = (b.toNat : Int) := by injection h1
    have e : a = b := UInt8.toNat_inj.1 (by omega)
    rw [e, map_inj8 x y h2]
theorem key23 : Try.prog.keyTypeAt 2 23 = true := by kernel_rfl
theorem formed32 (l : List UInt8) (hl : l.length = 32) : (B32 l).formed Try.prog 23 = true := by
  have hc23 : Try.prog.cellsOf 23 = 32 := by kernel_rfl
  unfold B32 Value.formed
  rw [Try.underlying23]
  show ((l.map fun c => Value.int .u8 c.toNat).toArray.size == Try.prog.cellsOf 23) = true
  rw [hc23, List.size_toArray, List.length_map, hl]; rfl
/-- Two hashes are compared. -/
theorem eq32 (x y : List UInt8) (hx : x.length = 32) (hy : y.length = 32) (W : World) : (Op.equalIn 10000 23 (B32 x) (B32 y)).run Try.prog W = .ok (decide (x = y)) W := by
  obtain ⟨r, hr, hiff⟩ := run_equalIn_deep (P := Try.prog) 9998 2 23 key23 W 2 2 (B32 x) (B32 y) _ _ (formed32 x hx) (formed32 y hy) (lits32 x hx) (lits32 y hy)
  have e : r = decide (x = y) := by
    apply Bool.eq_iff_iff.2
    rw [hiff, decide_eq_true_iff]
    constructor
    · intro h
      exact map_inj8 x y h
    · intro h; rw [h]
  rw [← e]
  exact hr

def hdA.T10 : Bool × List (List Nat × List Nat) := (true, [([], []), ([], []), ([1], [1]), ([2], [2]), ([0, 3], [0, 3]), ([4, 4, 0, 1, 2, 3, 4], [4])])
def hdA.B10 : List Nat := [0, 0, 2, 6, 15, 31]
theorem hdA.tab10 : rtab .any (opsOf Try.f19 10) = hdA.T10 := by kernel_rfl
theorem hdA.bits10 : waitsOk hdA.T10.2 hdA.B10 = true := by kernel_rfl
def hdB.T11 : Bool × List (List Nat × List Nat) := (true, [([], []), ([0], [0]), ([1], [1]), ([], []), ([2, 3], [2, 3]), ([4, 4, 0, 1, 2, 3, 4], [4])])
def hdB.B11 : List Nat := [0, 1, 3, 0, 15, 31]
theorem hdB.tab11 : rtab .any (opsOf Try.f19 11) = hdB.T11 := by kernel_rfl
theorem hdB.bits11 : waitsOk hdB.T11.2 hdB.B11 = true := by kernel_rfl
/-- What comes of a hash on its way up. -/
def hld : Nat → Nat → Nat → List UInt8 → List (List UInt8) → Option (List UInt8 × List (List UInt8))
  | 0, _, _, h, hs => some (h, hs)
  | f + 1, n, i, h, hs => if 1 < n then
      (if sib i < n then
        (match hs with
        | [] => none
        | x :: r => hld f (n / 2 + n % 2) (i / 2) (if i % 2 = 0 then nodeF h x else nodeF x h) r)
      else hld f (n / 2 + n % 2) (i / 2) h hs)
    else some (h, hs)
/-- The steps are enough: no more than n. -/
theorem hld_enough : ∀ (f g n i : Nat) (h : List UInt8) (hs : List (List UInt8)), n ≤ f → n ≤ g → hld f n i h hs = hld g n i h hs
  | 0, 0, _, _, _, _, _, _ => rfl
  | 0, g + 1, n, i, h, hs, h1, _ => by
    have e : ¬ 1 < n := by omega
    unfold hld; rw [if_neg e]
  | f + 1, 0, n, i, h, hs, _, h1 => by
    have e : ¬ 1 < n := by omega
    unfold hld; rw [if_neg e]
  | f + 1, g + 1, n, i, h, hs, h1, h2 => by
    unfold hld
    by_cases e : 1 < n
    · rw [if_pos e, if_pos e]
      by_cases s : sib i < n
      · rw [if_pos s, if_pos s]
        cases hs with
        | nil => rfl
        | cons x r => exact hld_enough f g _ _ _ r (by omega) (by omega)
      · rw [if_neg s, if_neg s]
        exact hld_enough f g _ _ _ hs (by omega) (by omega)
    · rw [if_neg e, if_neg e]
/-- From n places, place i. -/
def hl (n i : Nat) (h : List UInt8) (hs : List (List UInt8)) : Option (List UInt8 × List (List UInt8)) := hld n n i h hs
theorem hl_one (n i : Nat) (h : List UInt8) (hs : List (List UInt8)) (h1 : ¬ 1 < n) : hl n i h hs = some (h, hs) := by
  unfold hl
  cases n with
  | zero => rfl
  | succ n => unfold hld; rw [if_neg h1]
theorem hl_none (n i : Nat) (h : List UInt8) (h1 : 1 < n) (hs : sib i < n) : hl n i h [] = none := by
  unfold hl
  cases n with
  | zero => omega
  | succ n => unfold hld; rw [if_pos h1, if_pos hs]
theorem hl_more (n i : Nat) (h x : List UInt8) (r : List (List UInt8)) (h1 : 1 < n) (hs : sib i < n) : hl n i h (x :: r) = hl (n / 2 + n % 2) (i / 2) (if i % 2 = 0 then nodeF h x else nodeF x h) r := by
  unfold hl
  cases n with
  | zero => omega
  | succ n =>
    conv => lhs; unfold hld
    rw [if_pos h1, if_pos hs]
    exact hld_enough _ _ _ _ _ _ (by omega) (Nat.le_refl _)
theorem hl_skip (n i : Nat) (h : List UInt8) (r : List (List UInt8)) (h1 : 1 < n) (hs : ¬ sib i < n) : hl n i h r = hl (n / 2 + n % 2) (i / 2) h r := by
  unfold hl
  cases n with
  | zero => omega
  | succ n =>
    conv => lhs; unfold hld
    rw [if_pos h1, if_neg hs]
    exact hld_enough _ _ _ _ _ _ (by omega) (Nat.le_refl _)
/-- What Holds answers. -/
def told (root : List UInt8) (o : Option (List UInt8 × List (List UInt8))) : Bool := match o with
  | some (h, []) => decide (h = root)
  | _ => false
def holdsF (root : List UInt8) (n i : Int) (s : ByteArray) (hs : List (List UInt8)) : Bool := if 0 ≤ i ∧ i < n then told root (hl n.toNat i.toNat (leafF s.data.toList) hs) else false
theorem sib_bits' (i : Nat) (h : i < 9223372036854775807) : bits .xor .i64 (i : Int) 1 = ((sib i : Nat) : Int) := by
  have hs : sib i ≤ i + 1 := by unfold sib; split <;> omega
  show IntKind.i64.wrap ((BitVec.ofInt 64 (i : Int) ^^^ BitVec.ofInt 64 ((1 : Nat) : Int)).toNat : Int) = _
  rw [BitVec.toNat_xor, ofInt_u64 i (by omega), ofInt_u64 1 (by decide), xor_one, IntKind.wrap_i64]
  omega
theorem hread_head {ad : Addr} {x : List UInt8} {r : List (List UInt8)} {W : World} (h : HRead (some ad) (x :: r) W) : ∀ i, i < 32 → W.cell? (ad.add i) = some (.int .u8 (x.getD i 0).toNat) := by
  intro i hi
  obtain ⟨a', e, hc⟩ := h.2 (by simp)
  injection e with e
  subst e
  have := hc 0 i (by simp) hi
  rw [Nat.zero_mul, Nat.zero_add] at this
  exact this
theorem hread_tail {ad : Addr} {x : List UInt8} {r : List (List UInt8)} {W : World} (h : HRead (some ad) (x :: r) W) : HRead (some (ad.add 32)) r W := by
  refine ⟨fun y hy => h.1 y (List.mem_cons_of_mem _ hy), fun h0 => ⟨_, rfl, fun j i hj hi => ?_⟩⟩
  obtain ⟨a', e, hc⟩ := h.2 (by simp)
  injection e with e
  subst e
  have := hc (j + 1) i (by simpa using hj) hi
  rw [Addr.add_add, show 32 + (j * 32 + i) = (j + 1) * 32 + i by omega]
  exact this
theorem cut31_from (A : Option Addr) (n c j : Nat) (hj : j ≤ n) (W : World) : (Instr.slice 31 (.slice A n c) (some (.int .i64 (j : Int))) none none).run Try.prog W = .ok (.slice (if c = j then A else A.map fun x => x.add (j * 32)) (n - j) (c - j)) W := by
  obtain ⟨i0, hi, hzz⟩ := Option.map_eq_some_iff.1 info23
  simp only [Prod.mk.injEq] at hzz
  obtain ⟨hz0, hz1, hz2⟩ := hzz
  have hel : Try.prog.elem 31 = 23 := by simp [Program.elem, Try.underlying31]
  rw [run_slice_l W 31 A n c (by rw [hel]; exact Try.underlying31) .i64 (j : Int) (by omega) (by omega), hel]
  by_cases e : c = j
  · simp [sizeOf, typeInfo, hi, hz1, sliced, Result.andThen, e]
  · have e2 : ¬ c ≤ j ∨ True := .inr trivial
    simp [sizeOf, typeInfo, hi, hz1, sliced, Result.andThen, e]
theorem cut31_to (A : Option Addr) (n c j : Nat) (hj : j ≤ c) (W : World) : (Instr.slice 31 (.slice A n c) none (some (.int .i64 (j : Int))) none).run Try.prog W = .ok (.slice A j c) W := by
  obtain ⟨i0, hi, hzz⟩ := Option.map_eq_some_iff.1 info23
  simp only [Prod.mk.injEq] at hzz
  obtain ⟨hz0, hz1, hz2⟩ := hzz
  have hel : Try.prog.elem 31 = 23 := by simp [Program.elem, Try.underlying31]
  have ha : (A.map fun x => x.add 0) = A := by cases A <;> simp [Addr.add]
  rw [run_slice_h W 31 A n c (by rw [hel]; exact Try.underlying31) .i64 (j : Int) (by omega) (by omega), hel]
  simp [sizeOf, typeInfo, hi, hz1, sliced, Result.andThen, ha]
set_option maxHeartbeats 8000000 in
set_option maxRecDepth 100000 in
theorem holds_calls (root : List UInt8) (hroot : root.length = 32) (n i : Int) (hn : n ≤ 9223372036854775807) (s : ByteArray) (hs : s.size ≤ 140737488355000) (A : Option Addr) (c : Nat) (ps : List (List UInt8)) (w : World) (hc : ps.length ≤ c) (hp : HRead A ps w) :
    Calls Try.prog 19 #[.agg (brw 32 root), .int .i64 n, .int .i64 i, .string s, .slice A ps.length c] w fun e w' => e = .returned (.bool (holdsF root n i s ps)) ∧ Below w.heap.size w w' := by
  have i23 : (Try.prog.info? 23).map (·.size) = some 32 := by kernel_rfl
  have hz0 : (brw 32 []).size = 32 := rfl
  have hzr : (brw 32 root).size = 32 := brw_size 32 root (by omega)
  have HPS := Aside0.mk hp
  clear hp
  go_enter Try.func19, Try.ntmps19
  go_upto_region 1 with (fail)
  change Code.wp _ _ _ _ (w.alloc (.cells (brw 32 root) 23))
  have C5 : Aside0 ((w.alloc (.cells (brw 32 root) 23)).heap[w.heap.size]? = some (.cells (brw 32 root) 23 (0, 0))) := ⟨blk_new _ _⟩
  have D0 := Aside0.mk (below_alloc (Below.refl w.heap.size w) (.cells (brw 32 root) 23))
  generalize w.alloc (.cells (brw 32 root) 23) = w1 at C5 D0 ⊢
  obtain ⟨g5, hg5⟩ : ∃ g, g = w.heap.size := ⟨_, rfl⟩
  have P5 : (Value.pointer (some ⟨w.heap.size, 0, none⟩)) = .pointer (some ⟨g5, 0, none⟩) := by rw [hg5]
  rw [P5]
  rw [← hg5] at C5
  have G5 : Aside0 (w.heap.size ≤ g5) := ⟨by omega⟩
  clear P5 hg5
  by_cases h0 : i < 0
  · have q1 : (i < 0) = True := eq_true h0
    have E : Aside0 (holdsF root n i s ps = false) := ⟨by unfold holdsF; rw [if_neg (by omega)]⟩
    go_wp2
    go_ret
    exact ⟨by rw [E.out]; rfl, D0.out⟩
  by_cases h1 : n ≤ i
  · have q1 : (i < 0) = False := eq_false h0
    have q2 : (n ≤ i) = True := eq_true h1
    have E : Aside0 (holdsF root n i s ps = false) := ⟨by unfold holdsF; rw [if_neg (by omega)]⟩
    go_wp2
    go_ret
    exact ⟨by rw [E.out]; rfl, D0.out⟩
  obtain ⟨m0, rfl⟩ : ∃ j : Nat, n = (j : Int) := ⟨n.toNat, by omega⟩
  obtain ⟨j0, rfl⟩ : ∃ j : Nat, i = (j : Int) := ⟨i.toNat, by omega⟩
  have q1 : (((j0 : Nat) : Int) < 0) = False := eq_false h0
  have q2 : ((m0 : Int) ≤ (j0 : Int)) = False := eq_false h1
  have q3 : (m0 ≤ j0) = False := eq_false (by omega)
  have hj0 : j0 < m0 := by omega
  have hm0 : m0 ≤ 9223372036854775807 := by omega
  obtain ⟨L, hL⟩ : ∃ L, L = leafF s.data.toList := ⟨_, rfl⟩
  have hL32 : L.length = 32 := by rw [hL]; exact leafF_len _
  have HC : ∀ W : World, Calls Try.prog 12 #[.string s] W fun e w' => e = .returned (.agg (brw 32 L)) ∧ Below W.heap.size W w' := fun W => by
    have := leaf_calls s.data.toList W (by rw [Array.length_toList]; exact hs)
    rw [tx_toList, ← hL, B32_brw L hL32] at this
    exact this
  have E : Aside0 (holdsF root (m0 : Int) (j0 : Int) s ps = told root (hl m0 j0 L ps)) := ⟨by unfold holdsF; rw [if_pos (by omega), hL]; rfl⟩
  have hzL : (brw 32 L).size = 32 := brw_size 32 L (by omega)
  clear hL h0 h1 hn
  go_wp2_with (first
    | (go_at_call 12; (with_reducible refine (HC _).mono ?_); rintro e w4 ⟨rfl, hb⟩; have n_C5 := Aside0.mk (blk_below C5.out hb); have n_D0 := Aside0.mk (below_then D0.out D0.out.size hb); clear C5 D0 hb; have C5 := n_C5; have D0 := n_D0; clear n_C5 n_D0)
    | ((with_reducible refine gate_store rfl ?_); refine wpList_store_row rfl 23 (.tmp 11) (.tmp 20) rfl w4.heap.size (brw 32 L) rfl rfl 23 (brw 32 []) (blk_new _ _) (by rw [hzL]; exact i23) (by rw [hzL, hz0]) (brw_one _ _) ?_))
  dsimp only [Act.put]
  change Code.wp _ _ _ _ ((w4.alloc (.cells (brw 32 []) 23)).setRow w4.heap.size (brw 32 L))
  have hq := below_setRow (below_alloc (Below.refl w4.heap.size w4) (.cells (brw 32 []) 23)) (Nat.le_refl _) (brw 32 L)
  have C11 := Aside0.mk (setRow_heap _ w4.heap.size _ (brw 32 L) _ _ (blk_new w4 (.cells (brw 32 []) 23)))
  have n_C5 := Aside0.mk (blk_below C5.out hq)
  have n_D0 := Aside0.mk (below_setRow (below_alloc D0.out (.cells (brw 32 []) 23)) D0.out.size (brw 32 L))
  have NE : Aside0 (g5 ≠ w4.heap.size) := ⟨by have := blk_lt C5.out; omega⟩
  have G11 : Aside0 (w.heap.size ≤ w4.heap.size) := ⟨D0.out.size⟩
  clear C5 D0 hq
  have C5 := n_C5
  have D0 := n_D0
  clear n_C5 n_D0
  obtain ⟨g11, hg11⟩ : ∃ g, g = w4.heap.size := ⟨_, rfl⟩
  have P11 : (Value.pointer (some ⟨w4.heap.size, 0, none⟩)) = .pointer (some ⟨g11, 0, none⟩) := by rw [hg11]
  rw [P11]
  generalize (w4.alloc (.cells (brw 32 []) 23)).setRow w4.heap.size (brw 32 L) = w5 at C5 C11 D0 ⊢
  rw [← hg11] at C11 NE G11
  clear P11 hg11
  go_loopw [1, 2, 4] (fun v1 v2 v4 W => ∃ (n i : Nat) (h : List UInt8) (hs : List (List UInt8)) (B : Option Addr) (c : Nat), v1 = .int .i64 n ∧ v2 = .int .i64 i ∧ v4 = .slice B hs.length c ∧ i < n ∧ n ≤ 9223372036854775807 ∧ h.length = 32 ∧ hs.length ≤ c ∧ Aside0 (HRead B hs w) ∧ Aside0 (W.heap[g5]? = some (.cells (brw 32 root) 23 (0, 0))) ∧ Aside0 (W.heap[g11]? = some (.cells (brw 32 h) 23 (0, 0))) ∧ Aside0 (hl n i h hs = hl m0 j0 L ps) ∧ Aside0 (Below w.heap.size w W)) (fun v1 _ _ _ => (intOf v1).toNat)
  case atStart => exact ⟨m0, j0, L, ps, A, c, rfl, rfl, rfl, hj0, hm0, hL32, hc, HPS, C5, C11, ⟨rfl⟩, D0⟩
  case round =>
    clear C5 C11 D0 q1 q2 q3
    obtain ⟨n, i, h, hs, B, c, rfl, rfl, rfl, hi, hn, hh, hc, HIN, C5, C11, HE, D0⟩ := hrel
    have hzh : (brw 32 h).size = 32 := brw_size 32 h (by omega)
    by_cases hlt : 1 < n
    · have q4 : ((1 : Int) < (n : Int)) = True := eq_true (by omega)
      have q5 : (1 < n) = True := eq_true hlt
      have hxb := sib_bits' i (by omega)
      by_cases hsb : sib i < n
      · cases hs with
        | nil =>
          have EN : Aside0 (told root (hl m0 j0 L ps) = false) := ⟨by rw [← HE.out, hl_none n i h hlt hsb]; rfl⟩
          clear HE HIN
          generalize sib i = sb at hxb hsb
          have q6 : ((n : Int) ≤ (sb : Int)) = False := eq_false (by omega)
          have q7 : (n ≤ sb) = False := eq_false (by omega)
          go_wp2
          go_ret
          exact ⟨by rw [E.out, EN.out]; rfl, D0.out⟩
        | cons x r =>
          have HE2 := Aside0.mk (hl_more n i h x r hlt hsb)
          generalize sib i = sb at hxb hsb
          have q6 : ((n : Int) ≤ (sb : Int)) = False := eq_false (by omega)
          have q7 : (n ≤ sb) = False := eq_false (by omega)
          have hA := HIN.out.2 (show 0 < (x :: r).length from Nat.succ_pos _)
          obtain ⟨ad, rfl, _⟩ := hA
          have hx : x.length = 32 := HIN.out.1 x List.mem_cons_self
          have hcl : (x :: r).length = r.length + 1 := rfl
          have HT : Aside0 (HRead (if c = 1 then some ad else some { block := ad.block, off := ad.off + 32 }) r w) := ⟨by
            split
            · have : r = [] := List.eq_nil_of_length_eq_zero (by omega)
              subst this
              exact ⟨fun _ h => (by cases h), fun h => (by simp at h)⟩
            · exact hread_tail HIN.out⟩
          have h10 : ((((r.length : Nat) : Int) + 1 = 0)) = False := eq_false (by omega)
          by_cases hev : i % 2 = 0
          · have q8 : ((i : Int) % 2 = 0) = True := eq_true (by omega)
            obtain ⟨S, hS⟩ : ∃ S, S = nodeF h x := ⟨_, rfl⟩
            have hS32 : S.length = 32 := by rw [hS]; exact nodeF_len _ _
            have hzS : (brw 32 S).size = 32 := brw_size 32 S (by omega)
            have HN : ∀ W : World, Calls Try.prog 14 #[.agg (brw 32 h), .agg (brw 32 x)] W fun e w' => e = .returned (.agg (brw 32 S)) ∧ Below W.heap.size W w' := fun W => by
              rw [← B32_brw h hh, ← B32_brw x hx, ← B32_brw S hS32, hS]; exact node_calls _ _ hh hx W
            have HE3 : Aside0 (hl (n / 2 + n % 2) (i / 2) S r = hl m0 j0 L ps) := ⟨by rw [← HE.out, HE2.out, if_pos hev, hS]⟩
            clear hS HE HE2
            go_upto_region 10 with (fail)
            refine start_ (n := 6) (S := fun W => W.heap[g11]? = some (.cells (brw 32 h) 23 (0, 0)) ∧ HRead (some ad) (x :: r) W) (ds := [5]) #[false, false, false, false, false, false] (by kernel_rfl) rfl rfl ⟨blk_drew C11.out, hread_below HIN.out (below_drew1 D0.out)⟩ (fun hHeld => ?_); refine with_tabW hdA.tab10 hdA.bits10 (fun HT_ HW_ => ?_)
            have n_C5 := Aside0.mk (blk_drew C5.out)
            have n_C11 := Aside0.mk (blk_drew C11.out)
            have n_D0 := Aside0.mk (below_drew1 D0.out)
            clear C5 C11 D0
            have C5 := n_C5
            have C11 := n_C11
            have D0 := n_D0
            clear n_C5 n_C11 n_D0
            generalize World.drew _ = wR at C5 C11 D0 hHeld ⊢
            refine take_ (i := 0) (N := some 40) (v := ?_) (a' := ?_) #[true, false, false, false, false, false] rfl rfl (take_ofW HT_.out HW_.out (by kernel_rfl)) (fun _ _ _ h => h) (Or.inl ⟨by rfl, ?_⟩) hHeld ?_ ?_
            rotate_left
            · rintro w' ⟨s0, s1⟩
              refine exec_load_row 23 (.tmp 11) ?_ g11 ?_ 23 (brw 32 h) (0, 0) _ s0 Try.underlying23 ?_ (by rw [hzh]; exact i23) <;> rfl
            rotate_left
            · simp only [Act.put, List.setIfInBounds_toArray, List.set_cons_zero, List.set_cons_succ, i64_w, i32_w]
              rfl
            refine pure_ (i := 1) (N := some 41) (v := ?_) (a' := ?_) #[true, true, false, false, false, false] rfl rfl (any_of HT_.out (by kernel_rfl)) (fun _ _ _ h => h) (Or.inl ⟨by rfl, ?_⟩) ?_ ?_
            rotate_left
            · intro w'
              go_simp
              with_reducible rfl
            rotate_left
            · simp only [Act.put, List.setIfInBounds_toArray, List.set_cons_zero, List.set_cons_succ, i64_w, i32_w]
              rfl
            refine pure_ (i := 2) (N := some 42) (v := ?_) (a' := ?_) #[true, true, true, false, false, false] rfl rfl (any_of HT_.out (by kernel_rfl)) (fun _ _ _ h => h) (Or.inl ⟨by rfl, ?_⟩) ?_ ?_
            rotate_left
            · intro w'
              go_simp
              with_reducible rfl
            rotate_left
            · simp only [Act.put, List.setIfInBounds_toArray, List.set_cons_zero, List.set_cons_succ, i64_w, i32_w]
              rfl
            refine take_ (i := 3) (N := some 43) (v := ?_) (a' := ?_) #[true, true, true, true, false, false] rfl rfl (take_ofW HT_.out HW_.out (by kernel_rfl)) (fun _ _ _ h => h) (Or.inl ⟨by rfl, ?_⟩) hHeld ?_ ?_
            rotate_left
            · rintro w' ⟨s0, s1⟩
              refine exec_load_hash (.tmp 42) ?_ ad ?_ x hx (hread_head s1) <;> rfl
            rotate_left
            · simp only [Act.put, List.setIfInBounds_toArray, List.set_cons_zero, List.set_cons_succ, i64_w, i32_w]
              rfl
            refine one_ (i := 4) (N := some 44) #[true, true, true, true, true, false] rfl rfl (one_of HT_.out (by kernel_rfl)) (by decide) (fun K hK => ?_)
            refine goes_ Try.func14 (by kernel_rfl) rfl #[.agg (brw 32 h), .agg (brw 32 x)] (by rfl) rfl rfl (by (try simp only [List.map_toArray, List.map_cons, List.map_nil]); first | done | rfl) ?_
            with_reducible refine (HN _).mono ?_
            rintro e w2 ⟨rfl, hb⟩
            refine ⟨_, rfl, ?_⟩
            have n_C5 := Aside0.mk (blk_below C5.out hb)
            have n_C11 := Aside0.mk (blk_below C11.out hb)
            have n_D0 := Aside0.mk (below_then D0.out D0.out.size hb)
            clear C5 C11 D0
            have C5 := n_C5
            have C11 := n_C11
            have D0 := n_D0
            clear n_C5 n_C11 n_D0
            clear hb
            refine hK.out _ _ ⟨C11.out, hread_below HIN.out D0.out⟩ (fun hHeld => ?_)
            clear hK K
            refine norm_ (a' := ?_) ?_ ?_
            rotate_left
            · show Act.put _ (some 44) _ = _
              simp only [Act.put, List.setIfInBounds_toArray, List.set_cons_zero, List.set_cons_succ, i64_w, i32_w]
              rfl
            refine last_ (i := 5) (N := none) #[true, true, true, true, true, true] rfl rfl (one_of HT_.out (by kernel_rfl)) (by decide) (fun K hK => ?_)
            rw [if_pos (by rfl)]
            refine wp_store_row 23 (.tmp 11) (.tmp 44) rfl g11 (brw 32 S) rfl rfl 23 _ C11.out (by rw [hzS]; exact i23) (by rw [hzS, hzh]) (brw_one _ _) ?_
            refine hK.out _ _ ?_
            clear hK K
            refine norm_ (a' := ?_) ?_ ?_
            rotate_left
            · show Act.put _ (none) _ = _
              simp only [Act.put]
              rfl
            refine done_ (done_of HT_.out (by kernel_rfl)) ?_
            have C11' := Aside0.mk (setRow_heap _ g11 _ (brw 32 S) _ _ C11.out)
            have C5' := Aside0.mk ((setRow_other _ g11 g5 (brw 32 S) NE.out).trans C5.out)
            have D0' := Aside0.mk (below_setRow D0.out G11.out (brw 32 S))
            clear C11 C5 D0
            go_wp2
            go_roundw
            case rel => exact ⟨n / 2 + n % 2, i / 2, S, r, _, c - 1, by go_num, by go_num, rfl, by omega, by omega, hS32, by simp at hc; omega, HT, C5', C11', HE3, D0'⟩
            case measure => simp [intOf]; omega
          · have q8 : ((i : Int) % 2 = 0) = False := eq_false (by omega)
            obtain ⟨S, hS⟩ : ∃ S, S = nodeF x h := ⟨_, rfl⟩
            have hS32 : S.length = 32 := by rw [hS]; exact nodeF_len _ _
            have hzS : (brw 32 S).size = 32 := brw_size 32 S (by omega)
            have HN : ∀ W : World, Calls Try.prog 14 #[.agg (brw 32 x), .agg (brw 32 h)] W fun e w' => e = .returned (.agg (brw 32 S)) ∧ Below W.heap.size W w' := fun W => by
              rw [← B32_brw h hh, ← B32_brw x hx, ← B32_brw S hS32, hS]; exact node_calls _ _ hx hh W
            have HE3 : Aside0 (hl (n / 2 + n % 2) (i / 2) S r = hl m0 j0 L ps) := ⟨by rw [← HE.out, HE2.out, if_neg hev, hS]⟩
            clear hS HE HE2
            go_upto_region 11 with (fail)
            refine start_ (n := 6) (S := fun W => W.heap[g11]? = some (.cells (brw 32 h) 23 (0, 0)) ∧ HRead (some ad) (x :: r) W) (ds := [5]) #[false, false, false, false, false, false] (by kernel_rfl) rfl rfl ⟨blk_drew C11.out, hread_below HIN.out (below_drew1 D0.out)⟩ (fun hHeld => ?_); refine with_tabW hdB.tab11 hdB.bits11 (fun HT_ HW_ => ?_)
            have n_C5 := Aside0.mk (blk_drew C5.out)
            have n_C11 := Aside0.mk (blk_drew C11.out)
            have n_D0 := Aside0.mk (below_drew1 D0.out)
            clear C5 C11 D0
            have C5 := n_C5
            have C11 := n_C11
            have D0 := n_D0
            clear n_C5 n_C11 n_D0
            generalize World.drew _ = wR at C5 C11 D0 hHeld ⊢
            refine pure_ (i := 0) (N := some 45) (v := ?_) (a' := ?_) #[true, false, false, false, false, false] rfl rfl (any_of HT_.out (by kernel_rfl)) (fun _ _ _ h => h) (Or.inl ⟨by rfl, ?_⟩) ?_ ?_
            rotate_left
            · intro w'
              go_simp
              with_reducible rfl
            rotate_left
            · simp only [Act.put, List.setIfInBounds_toArray, List.set_cons_zero, List.set_cons_succ, i64_w, i32_w]
              rfl
            refine pure_ (i := 1) (N := some 46) (v := ?_) (a' := ?_) #[true, true, false, false, false, false] rfl rfl (any_of HT_.out (by kernel_rfl)) (fun _ _ _ h => h) (Or.inl ⟨by rfl, ?_⟩) ?_ ?_
            rotate_left
            · intro w'
              go_simp
              with_reducible rfl
            rotate_left
            · simp only [Act.put, List.setIfInBounds_toArray, List.set_cons_zero, List.set_cons_succ, i64_w, i32_w]
              rfl
            refine take_ (i := 2) (N := some 47) (v := ?_) (a' := ?_) #[true, true, true, false, false, false] rfl rfl (take_ofW HT_.out HW_.out (by kernel_rfl)) (fun _ _ _ h => h) (Or.inl ⟨by rfl, ?_⟩) hHeld ?_ ?_
            rotate_left
            · rintro w' ⟨s0, s1⟩
              refine exec_load_hash (.tmp 46) ?_ ad ?_ x hx (hread_head s1) <;> rfl
            rotate_left
            · simp only [Act.put, List.setIfInBounds_toArray, List.set_cons_zero, List.set_cons_succ, i64_w, i32_w]
              rfl
            refine take_ (i := 3) (N := some 48) (v := ?_) (a' := ?_) #[true, true, true, true, false, false] rfl rfl (take_ofW HT_.out HW_.out (by kernel_rfl)) (fun _ _ _ h => h) (Or.inl ⟨by rfl, ?_⟩) hHeld ?_ ?_
            rotate_left
            · rintro w' ⟨s0, s1⟩
              refine exec_load_row 23 (.tmp 11) ?_ g11 ?_ 23 (brw 32 h) (0, 0) _ s0 Try.underlying23 ?_ (by rw [hzh]; exact i23) <;> rfl
            rotate_left
            · simp only [Act.put, List.setIfInBounds_toArray, List.set_cons_zero, List.set_cons_succ, i64_w, i32_w]
              rfl
            refine one_ (i := 4) (N := some 49) #[true, true, true, true, true, false] rfl rfl (one_of HT_.out (by kernel_rfl)) (by decide) (fun K hK => ?_)
            refine goes_ Try.func14 (by kernel_rfl) rfl #[.agg (brw 32 x), .agg (brw 32 h)] (by rfl) rfl rfl (by (try simp only [List.map_toArray, List.map_cons, List.map_nil]); first | done | rfl) ?_
            with_reducible refine (HN _).mono ?_
            rintro e w2 ⟨rfl, hb⟩
            refine ⟨_, rfl, ?_⟩
            have n_C5 := Aside0.mk (blk_below C5.out hb)
            have n_C11 := Aside0.mk (blk_below C11.out hb)
            have n_D0 := Aside0.mk (below_then D0.out D0.out.size hb)
            clear C5 C11 D0
            have C5 := n_C5
            have C11 := n_C11
            have D0 := n_D0
            clear n_C5 n_C11 n_D0
            clear hb
            refine hK.out _ _ ⟨C11.out, hread_below HIN.out D0.out⟩ (fun hHeld => ?_)
            clear hK K
            refine norm_ (a' := ?_) ?_ ?_
            rotate_left
            · show Act.put _ (some 49) _ = _
              simp only [Act.put, List.setIfInBounds_toArray, List.set_cons_zero, List.set_cons_succ, i64_w, i32_w]
              rfl
            refine last_ (i := 5) (N := none) #[true, true, true, true, true, true] rfl rfl (one_of HT_.out (by kernel_rfl)) (by decide) (fun K hK => ?_)
            rw [if_pos (by rfl)]
            refine wp_store_row 23 (.tmp 11) (.tmp 49) rfl g11 (brw 32 S) rfl rfl 23 _ C11.out (by rw [hzS]; exact i23) (by rw [hzS, hzh]) (brw_one _ _) ?_
            refine hK.out _ _ ?_
            clear hK K
            refine norm_ (a' := ?_) ?_ ?_
            rotate_left
            · show Act.put _ (none) _ = _
              simp only [Act.put]
              rfl
            refine done_ (done_of HT_.out (by kernel_rfl)) ?_
            have C11' := Aside0.mk (setRow_heap _ g11 _ (brw 32 S) _ _ C11.out)
            have C5' := Aside0.mk ((setRow_other _ g11 g5 (brw 32 S) NE.out).trans C5.out)
            have D0' := Aside0.mk (below_setRow D0.out G11.out (brw 32 S))
            clear C11 C5 D0
            go_wp2
            go_roundw
            case rel => exact ⟨n / 2 + n % 2, i / 2, S, r, _, c - 1, by go_num, by go_num, rfl, by omega, by omega, hS32, by simp at hc; omega, HT, C5', C11', HE3, D0'⟩
            case measure => simp [intOf]; omega
      · have HE2 := Aside0.mk (hl_skip n i h hs hlt hsb)
        generalize sib i = sb at hxb hsb
        have q6 : ((n : Int) ≤ (sb : Int)) = True := eq_true (by omega)
        have q7 : (n ≤ sb) = True := eq_true (by omega)
        go_wp2
        go_roundw
        case rel => exact ⟨n / 2 + n % 2, i / 2, h, hs, B, c, by go_num, by go_num, rfl, by omega, by omega, hh, hc, HIN, C5, C11, ⟨by rw [← HE2.out]; exact HE.out⟩, D0⟩
        case measure => simp [intOf]; omega
    · have q4 : ((1 : Int) < (n : Int)) = False := eq_false (by omega)
      have q5 : (1 < n) = False := eq_false hlt
      rw [hl_one n i h hs hlt] at HE
      cases hs with
      | nil =>
        have EN : Aside0 (told root (hl m0 j0 L ps) = decide (h = root)) := ⟨by rw [← HE.out]; rfl⟩
        have heq := eq32 h root hh hroot
        rw [B32_brw h hh, B32_brw root hroot] at heq
        generalize decide (h = root) = bb at EN heq
        clear HE
        go_wp2_with (first
          | ((with_reducible refine gate_dst (N := 56) rfl ?_); refine gate_guard (by rfl) ?_; refine wpList_load_row rfl 23 (.tmp 11) rfl g11 rfl 23 (brw 32 h) (0, 0) _ C11.out Try.underlying23 rfl (by rw [hzh]; exact i23) ?_)
          | ((with_reducible refine gate_dst (N := 57) rfl ?_); refine gate_guard (by rfl) ?_; refine wpList_load_row rfl 23 (.tmp 5) rfl g5 rfl 23 (brw 32 root) (0, 0) _ C5.out Try.underlying23 rfl (by rw [hzr]; exact i23) ?_))
        go_ret
        exact ⟨by rw [E.out, EN.out]; rfl, D0.out⟩
      | cons x r =>
        have EN : Aside0 (told root (hl m0 j0 L ps) = false) := ⟨by rw [← HE.out]; rfl⟩
        have hcl : (x :: r).length = r.length + 1 := rfl
        have h10 : ((((r.length : Nat) : Int) + 1 = 0)) = False := eq_false (by omega)
        clear HE
        go_wp2
        go_ret
        exact ⟨by rw [E.out, EN.out]; rfl, D0.out⟩
end Go.Proofs.Ythpnppfpmhlkaaa.Sha
