/- Chapter 2: what a writer holds; hash.Sum. -/
import Derived.Test.YthpnppfpmhlkaaaShaS
namespace Go.Proofs.Ythpnppfpmhlkaaa.Sha
open Go.RowKit Go.Proofs.Ythpnppfpmhlkaaa.X Go.Proofs.YthpnppfpmhlkaaaW.PrintWords Go.Proofs.YthpnppfpmhlkaaaW.PrintLast Go.Proofs.YthpnppfpmhlkaaaW.PrintMore
set_option linter.unusedVariables false
set_option linter.unusedSimpArgs false

def B32 (l : List UInt8) : Value := .agg ((l.map fun c => Value.int .u8 c.toNat).toArray)
/-- A writer that was given l. -/
def Held (g : Nat) (l : List UInt8) (W : World) : Prop := W.heap[g]? = some (.cells (wc (blk8 H0 l).1 (blk8 H0 l).2 ((BitVec.ofNat 64 l.length).toNat : Int)) 59 (0, 0))
theorem held_new (w : World) : Calls Try.prog 28 #[] w fun e w' => ∃ g, e = .returned (.pointer (some ⟨g, 0, none⟩)) ∧ w.heap.size ≤ g ∧ Held g [] w' ∧ Below w.heap.size w w' := by
  refine (new_calls w).mono ?_
  rintro e w' ⟨g, rfl, h1, h2, h3⟩
  refine ⟨g, rfl, h1, ?_, h3⟩
  unfold Held
  rw [blk8_short H0 [] (by decide)]
  exact h2
theorem held_write (g : Nat) (l t : List UInt8) (w : World) (h : Held g l w) (ht : t.length ≤ 4611686018427387904) :
    Calls Try.prog 29 #[.pointer (some ⟨g, 0, none⟩), .string (tx t)] w fun e w' => e = .returned (.tuple #[]) ∧ Held g (l ++ t) w' ∧ Own g w w' := by
  refine (write_calls g _ _ _ t w h ⟨?_, ht⟩).mono ?_
  · rw [blk8_mod]; exact Nat.mod_lt _ (by decide)
  · rintro e w' ⟨rfl, h1, h2⟩
    refine ⟨rfl, ?_, h2⟩
    unfold Held
    rw [blk8_append] at h1
    rw [h1]
    have e : wadd ((BitVec.ofNat 64 l.length).toNat : Int) t = ((BitVec.ofNat 64 (l ++ t).length).toNat : Int) := by
      unfold wadd
      have w : ∀ n : Int, IntKind.u64.wrap n = n % 18446744073709551616 := fun _ => rfl
      rw [w, BitVec.toNat_ofNat, BitVec.toNat_ofNat, List.length_append]
      show ((l.length % 18446744073709551616 : Nat) + (t.length : Int)) % 18446744073709551616 = (((l.length + t.length) % 18446744073709551616 : Nat) : Int)
      omega
    rw [e]
theorem eight (m : Nat) : (8 : BitVec 64) * BitVec.ofNat 64 m = BitVec.ofNat 64 (8 * m) := by
  apply BitVec.eq_of_toNat_eq
  rw [BitVec.toNat_mul, BitVec.toNat_ofNat, BitVec.toNat_ofNat]
  show 8 * (m % 18446744073709551616) % 18446744073709551616 = 8 * m % 18446744073709551616
  omega
theorem held_sum (g : Nat) (l : List UInt8) (w : World) (h : Held g l w) :
    Calls Try.prog 30 #[.pointer (some ⟨g, 0, none⟩)] w fun e w' => e = .returned (B32 (sumF l)) ∧ Below w.heap.size w w' := by
  refine (wsum_calls g _ _ (BitVec.ofNat 64 l.length) w h ?_).mono ?_
  · rw [blk8_mod]; exact Nat.mod_lt _ (by decide)
  · rintro e w' ⟨rfl, h1⟩
    refine ⟨?_, h1⟩
    unfold B32 sumF
    rw [eight, sum_pieces]
theorem sumF_len (l : List UInt8) : (sumF l).length = 32 := out8_len _
theorem row_of_bytes (l : List UInt8) (h : l.length = 32) : (l.map fun c => Value.int .u8 c.toNat).toArray = brw 32 l := (brw_full 32 l h).symm
set_option maxHeartbeats 8000000 in
set_option maxRecDepth 100000 in
theorem sum_calls (l : List UInt8) (w : World) (hl : l.length ≤ 4611686018427387904) :
    Calls Try.prog 22 #[.string (tx l)] w fun e w' => e = .returned (B32 (sumF l)) ∧ Below w.heap.size w w' := by
  have i24 : (Try.prog.info? 23).map (·.size) = some 32 := by kernel_rfl
  obtain ⟨S, hS⟩ : ∃ S, S = sumF l := ⟨_, rfl⟩
  have hS32 : S.length = 32 := by rw [hS]; exact sumF_len l
  have HSUM : ∀ (g : Nat) (W : World), Held g l W → Calls Try.prog 30 #[.pointer (some ⟨g, 0, none⟩)] W fun e w' => e = .returned (B32 S) ∧ Below W.heap.size W w' := fun g W h => by rw [hS]; exact held_sum g l W h
  have hB : B32 S = .agg (brw 32 S) := by unfold B32; rw [row_of_bytes S hS32]
  have hz : (brw 32 S).size = 32 := brw_size 32 S (by omega)
  rw [← hS]
  have HS := Aside0.mk hS
  clear hS
  rw [hB] at HSUM ⊢
  clear hB
  have HL := Aside0.mk hl
  clear hl
  go_enter Try.func22, Try.ntmps22
  go_upto_region 1 with (fail)
  change Code.wp _ _ _ _ (w.alloc (.cells (brw 32 []) 23))
  have C2 : Aside0 ((w.alloc (.cells (brw 32 []) 23)).heap[w.heap.size]? = some (.cells (brw 32 []) 23 (0, 0))) := ⟨blk_new _ _⟩
  have D0 := Aside0.mk (below_alloc (Below.refl w.heap.size w) (.cells (brw 32 []) 23))
  have S1 : Aside0 (w.heap.size < (w.alloc (.cells (brw 32 []) 23)).heap.size) := ⟨blk_lt C2.out⟩
  generalize w.alloc (.cells (brw 32 []) 23) = w1 at C2 D0 S1 ⊢
  go_wp2_with (first
    | (go_at_call 28; (with_reducible refine (held_new _).mono ?_); rintro e w2 ⟨g, rfl, hg, hh, hb⟩; have HG := Aside0.mk hg; have HH := Aside0.mk hh; have n_C2 := Aside0.mk (blk_below C2.out hb); have n_D0 := Aside0.mk (below_then D0.out (Nat.le_of_lt S1.out) hb); clear C2 D0 hg hh hb; have C2 := n_C2; have D0 := n_D0; clear n_C2 n_D0)
    | (go_at_call 29; (with_reducible refine (held_write g [] l _ HH.out HL.out).mono ?_); rintro e w3 ⟨rfl, hh, hb⟩; have H3 : Aside0 (Held g l w3) := ⟨hh⟩; have n_C2 := Aside0.mk (hb.other _ _ (by have := HG.out; have := S1.out; omega) C2.out); have n_D0 := Aside0.mk (D0.out.trans (hb.below _ (by have := HG.out; have := S1.out; omega) D0.out.size)); clear C2 D0 hh hb HH; have C2 := n_C2; have D0 := n_D0; clear n_C2 n_D0)
    | (go_at_call 30; (with_reducible refine (HSUM g _ H3.out).mono ?_); rintro e w4 ⟨rfl, hb⟩; have n_C2 := Aside0.mk (blk_below C2.out hb); have n_D0 := Aside0.mk (below_then D0.out D0.out.size hb); clear C2 D0 hb; have C2 := n_C2; have D0 := n_D0; clear n_C2 n_D0)
    | ((with_reducible refine gate_store rfl ?_); refine wpList_store_row rfl 23 (.tmp 2) (.tmp 9) rfl w.heap.size (brw 32 S) rfl rfl 23 _ C2.out (by rw [hz]; exact i24) (by rw [hz]; rfl) (brw_one _ _) ?_))
  refine bodyPost_ret (results_cell_row (fn := Try.f22) rfl _ _ w.heap.size 23 (brw 32 S) (0, 0) _ rfl (setRow_heap _ w.heap.size _ _ 23 _ C2.out) Try.underlying23 rfl (by rw [hz]; exact i24)) rfl ?_
  exact ⟨rfl, below_setRow D0.out (Nat.le_refl _) _⟩
end Go.Proofs.Ythpnppfpmhlkaaa.Sha
