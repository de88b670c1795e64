-- By a program of this session (wip/xprint.py over the kit's print).
import Derived.Test.YtfagljigaippiaaX0
namespace Go.Proofs.Ytfagljigaippiaa.X
open Go.RowKit Go.Proofs.YtfagljigaippiaaW.PrintWords Go.Proofs.YtfagljigaippiaaW.PrintLast Go.Proofs.YtfagljigaippiaaW.PrintMore
attribute [local go_sem] max2_int min2_int max_two min_two max_three min_three max_four min_four Go.Proofs.Ytfagljigaippiaa.Z.leq_string Go.Proofs.Ytfagljigaippiaa.Z.gtr_string Go.Proofs.Ytfagljigaippiaa.Z.geq_string   -- for this text's walks alone
set_option linter.unusedVariables false
set_option linter.unusedSimpArgs false

/-! ### sum_On: function 70 -/
def hstep (x : Int) : Int := if Go.bits .and .u64 x 1 = 1 then Go.bits .xor .u64 (x / 2) 14514072000185962306 else x / 2
def hsteps : Nat → Int → Int
  | 0, x => x
  | m + 1, x => hstep (hsteps m x)
def hcell (k j : Nat) : Value := .int .u64 (if j < k then hsteps 4 j else 0)
def hcells (k : Nat) : Array Value := #[hcell k 0, hcell k 1, hcell k 2, hcell k 3, hcell k 4, hcell k 5, hcell k 6, hcell k 7, hcell k 8, hcell k 9, hcell k 10, hcell k 11, hcell k 12, hcell k 13, hcell k 14, hcell k 15]
def hzero : Obj := Obj.cells #[Value.int IntKind.u64 0, Value.int IntKind.u64 0, Value.int IntKind.u64 0, Value.int IntKind.u64 0,
          Value.int IntKind.u64 0, Value.int IntKind.u64 0, Value.int IntKind.u64 0, Value.int IntKind.u64 0,
          Value.int IntKind.u64 0, Value.int IntKind.u64 0, Value.int IntKind.u64 0, Value.int IntKind.u64 0,
          Value.int IntKind.u64 0, Value.int IntKind.u64 0, Value.int IntKind.u64 0, Value.int IntKind.u64 0] 121
theorem hcells_zero : hcells 0 = #[Value.int IntKind.u64 0, Value.int IntKind.u64 0, Value.int IntKind.u64 0, Value.int IntKind.u64 0,
          Value.int IntKind.u64 0, Value.int IntKind.u64 0, Value.int IntKind.u64 0, Value.int IntKind.u64 0,
          Value.int IntKind.u64 0, Value.int IntKind.u64 0, Value.int IntKind.u64 0, Value.int IntKind.u64 0,
          Value.int IntKind.u64 0, Value.int IntKind.u64 0, Value.int IntKind.u64 0, Value.int IntKind.u64 0] := rfl
theorem hcells_size (k : Nat) : (hcells k).size = 16 := rfl
theorem hcells_get (k j : Nat) (h : j < 16) : (hcells k)[j]? = some (hcell k j) := by
  have : j = 0 ∨ j = 1 ∨ j = 2 ∨ j = 3 ∨ j = 4 ∨ j = 5 ∨ j = 6 ∨ j = 7 ∨ j = 8 ∨ j = 9 ∨ j = 10 ∨ j = 11 ∨ j = 12 ∨ j = 13 ∨ j = 14 ∨ j = 15 := by omega
  rcases this with rfl | rfl | rfl | rfl | rfl | rfl | rfl | rfl | rfl | rfl | rfl | rfl | rfl | rfl | rfl | rfl <;> rfl
theorem hcells_set (k : Nat) (h : k < 16) : (hcells k).setIfInBounds k (.int .u64 (hsteps 4 k)) = hcells (k + 1) := by
  apply Array.ext_getElem?
  intro j
  by_cases hj : j < 16
  · rw [Array.getElem?_setIfInBounds, hcells_get _ _ hj, hcells_get _ _ hj, hcells_size]
    by_cases e : k = j
    · subst e; simp [h, hcell]
    · rw [if_neg e]; unfold hcell
      by_cases h1 : j < k
      · rw [if_pos h1, if_pos (by omega)]
      · rw [if_neg h1, if_neg (by omega)]
  · rw [Array.getElem?_eq_none (by rw [Array.size_setIfInBounds, hcells_size]; omega), Array.getElem?_eq_none (by rw [hcells_size]; omega)]

theorem hcells_all : hcells 16 = #[.int .u64 (hsteps 4 0), .int .u64 (hsteps 4 1), .int .u64 (hsteps 4 2), .int .u64 (hsteps 4 3), .int .u64 (hsteps 4 4), .int .u64 (hsteps 4 5), .int .u64 (hsteps 4 6), .int .u64 (hsteps 4 7), .int .u64 (hsteps 4 8), .int .u64 (hsteps 4 9), .int .u64 (hsteps 4 10), .int .u64 (hsteps 4 11), .int .u64 (hsteps 4 12), .int .u64 (hsteps 4 13), .int .u64 (hsteps 4 14), .int .u64 (hsteps 4 15)] := rfl
theorem hcells_one : (hcells 16).all (·.oneCell') = true := by simp [hcells, hcell, Value.oneCell']
set_option maxHeartbeats 400000 in
theorem halves_calls (w : World) :
    Calls Try.prog 73 #[] w fun e w' => e = .returned (.agg (hcells 16)) ∧ Below w.heap.size w w' := by
  go_enter Try.func73, Try.ntmps73
  go_wp2
  go_loopw [5] (fun v wr => ∃ k : Nat, k ≤ 16 ∧ v = .int .i64 k ∧ wr = (w.alloc hzero).alloc (.cells (hcells k) 121)) (fun v _ => 16 - (intOf v).toNat)
  case atStart => exact ⟨0, by omega, rfl, rfl⟩
  case round =>
    obtain ⟨k, hk, rfl, rfl⟩ := hrel
    by_cases hlt : k < 16
    · go_wp2
      go_loop [3, 10] (fun v x => ∃ m : Nat, m ≤ 4 ∧ x = .int .i64 m ∧ v = .int .u64 (hsteps m k)) (fun _ x => 4 - (intOf x).toNat)
      case atStart => exact ⟨0, by omega, rfl, rfl⟩
      case round =>
        obtain ⟨m, hm, rfl, rfl⟩ := hrel
        by_cases hlm : m < 4
        · by_cases hb : Go.bits .and .u64 (hsteps m k) 1 = 1
          · have hs : hsteps (m + 1) k = Go.bits .xor .u64 (hsteps m k / 2) 14514072000185962306 := by show hstep _ = _; unfold hstep; rw [if_pos hb]
            have HS := Aside0.mk hs; clear hs
            go_wp2
            go_round
            case rel => exact ⟨m + 1, by omega, by go_num, by rw [HS.out]⟩
            case measure => simp [intOf]; omega
          · have hs : hsteps (m + 1) k = hsteps m k / 2 := by show hstep _ = _; unfold hstep; rw [if_neg hb]
            have HS := Aside0.mk hs; clear hs
            have hb' : (Go.bits .and .u64 (hsteps m k) 1 == 1) = false := by simpa using hb
            go_wp2
            go_round
            case rel => exact ⟨m + 1, by omega, by go_num, by rw [HS.out]⟩
            case measure => simp [intOf]; omega
        · obtain rfl : m = 4 := by omega
          have HC := Aside0.mk (hcells_set k hlt)
          have hg := hcells_get k k hlt
          go_wp2
          go_roundw
          case rel => exact ⟨k + 1, by omega, by go_num, by rw [← HC.out]⟩
          case measure => simp [intOf]; omega
    · obtain rfl : k = 16 := by omega
      have hg1 : ((w.alloc hzero).alloc (.cells (hcells 16) 121)).heap[w.heap.size + 1]? = some (.cells (hcells 16) 121 (0, 0)) := heap_alloc2_new w _ _
      have hg0 : ((w.alloc hzero).alloc (.cells (hcells 16) 121)).heap[w.heap.size]? = some (.cells (hcells 0) 121 (0, 0)) := heap_alloc2_old w _ _
      have hB : Below w.heap.size w ((w.alloc hzero).alloc (.cells (hcells 16) 121)) := ((Below.refl _ _).alloc (Nat.le_refl _) _).alloc (by simp) _
      have HG1 := Aside0.mk hg1
      have HG0 := Aside0.mk hg0
      clear hg1 hg0
      generalize (w.alloc hzero).alloc (.cells (hcells 16) 121) = W at *
      go_wp2_with (first | (refine wpList_load_row rfl 121 _ rfl (w.heap.size + 1) rfl 121 _ (0, 0) _ HG1.out Try.underlying121 rfl (by kernel_rfl) ?_) | (refine wpList_store_row rfl 121 _ _ rfl w.heap.size (hcells 16) rfl rfl 121 _ HG0.out (by kernel_rfl) rfl hcells_one ?_))
      refine bodyPost_ret (v := .agg (hcells 16)) (results_cell_row rfl _ _ w.heap.size 121 _ (0, 0) _ rfl (setRow_heap _ _ _ _ _ _ HG0.out) Try.underlying121 rfl (by kernel_rfl)) rfl ⟨rfl, below_setRow hB (Nat.le_refl _) _⟩

def hlow (y : Int) : Int := Go.bits .and .u64 y 15
theorem hlow_lt (y : Int) : 0 ≤ hlow y ∧ hlow y < 16 := by
  have e : hlow y = ((BitVec.ofInt 64 y &&& 15#64).toNat : Int) := by
    show (IntKind.u64.wrap ((BitVec.ofInt 64 y &&& BitVec.ofInt 64 15).toNat : Int)) = _
    have hl := (BitVec.ofInt 64 y &&& 15#64).isLt
    show (((BitVec.ofInt 64 y &&& 15#64).toNat : Int) % 2 ^ 64) = _
    omega
  have : (BitVec.ofInt 64 y &&& 15#64).toNat ≤ 15 := by
    rw [BitVec.toNat_and]; exact Nat.and_le_right
  rw [e]; omega
def hnib (y : Int) : Int := Go.bits .xor .u64 (y / 16) (hsteps 4 (hlow y))
def hbyte (x c : Int) : Int := hnib (hnib (Go.bits .xor .u64 x c))
def hfold (s : ByteArray) : Nat → Int → Int
  | 0, x => x
  | k + 1, x => hbyte (hfold s k x) (IntKind.u64.wrap (bt s k))
def sum_On.f (a0 : Int) (a1 : ByteArray) : Option Int := if (a1.size : Int) ≤ 9223372036854775807 then some (Go.bits .xor .u64 18446744073709551615 (hfold a1 a1.size (Go.bits .xor .u64 18446744073709551615 a0))) else none
set_option maxHeartbeats 400000 in
theorem sum_On.calls (a0 : Int) (a1 : ByteArray) (r : Int) (w : World) (h : sum_On.f a0 a1 = some r) :
    Calls Try.prog 70 #[.int .u64 a0, .string a1] w fun e w' => e = .returned (.int .u64 r) ∧ Below w.heap.size w w' := by
  have hsz : a1.size ≤ 9223372036854775807 := by
    unfold sum_On.f at h
    by_cases hz : (a1.size : Int) ≤ 9223372036854775807
    · omega
    · rw [if_neg hz] at h; simp at h
  unfold sum_On.f at h
  rw [if_pos (by omega)] at h
  obtain rfl := Option.some.inj h
  clear h
  go_enter Try.func70, Try.ntmps70
  go_wp2_with (first | (go_at_call 73; refine (halves_calls _).mono ?_; rintro e w1 ⟨rfl, hb⟩) | (refine wpList_store_row rfl 121 _ _ rfl _ (hcells 16) rfl rfl 121 _ (heap_alloc_new _ _) (by kernel_rfl) rfl hcells_one ?_))
  have HG := Aside0.mk (setRow_heap (w1.alloc hzero) w1.heap.size (hcells 0) (hcells 16) 121 (0, 0) (heap_alloc_new w1 hzero))
  have hB : Below w.heap.size w ((w1.alloc hzero).setRow w1.heap.size (hcells 16)) := below_setRow (hb.alloc hb.size _) hb.size _
  unfold hzero at HG hB
  generalize (w1.alloc _).setRow w1.heap.size (hcells 16) = W at *
  generalize w1.heap.size = g at *
  clear hb
  generalize hy : bits .xor .u64 IntKind.u64.max a0 = y0 at *
  have HY := Aside0.mk hy
  clear hy
  have hcell : ∀ y : Int, W.cell? ⟨g, (hlow y).toNat, none⟩ = some (.int .u64 (hsteps 4 (hlow y))) := by
    intro y
    have hl := hlow_lt y
    rw [cell_of_row W g _ _ _ _ HG.out, hcells_get _ _ (by omega)]
    unfold hcell
    rw [if_pos (by omega), Int.toNat_of_nonneg (by omega)]
  have HC := Aside0.mk hcell
  clear hcell
  go_loop [6, 13] (fun v x => ∃ m : Nat, m ≤ a1.size ∧ x = .int .i64 m ∧ v = .int .u64 (hfold a1 m y0)) (fun _ x => a1.size - (intOf x).toNat)
  case atStart => exact ⟨0, by omega, rfl, rfl⟩
  case round =>
    obtain ⟨m, hm, rfl, rfl⟩ := hrel
    by_cases hlt : m < a1.size
    · have hs : hfold a1 (m + 1) y0 = hbyte (hfold a1 m y0) (IntKind.u64.wrap ((a1[m]'hlt).toNat : Int)) := by
        show hbyte (hfold a1 m y0) (IntKind.u64.wrap (bt a1 m)) = _
        rw [← bt_at a1 m (by simpa using hlt)]
        rfl
      have HS := Aside0.mk hs
      clear hs
      have h1 := HC.out (bits .xor .u64 (hfold a1 m y0) (IntKind.u64.wrap ((a1[m]'hlt).toNat : Int)))
      have h2 := HC.out (hnib (bits .xor .u64 (hfold a1 m y0) (IntKind.u64.wrap ((a1[m]'hlt).toNat : Int))))
      have l1 := hlow_lt (bits .xor .u64 (hfold a1 m y0) (IntKind.u64.wrap ((a1[m]'hlt).toNat : Int)))
      have l2 := hlow_lt (hnib (bits .xor .u64 (hfold a1 m y0) (IntKind.u64.wrap ((a1[m]'hlt).toNat : Int))))
      unfold hbyte at HS
      unfold hnib at h2 l2 HS
      unfold hlow at h1 h2 l1 l2 HS
      obtain ⟨l1a, l1b⟩ := l1
      obtain ⟨l2a, l2b⟩ := l2
      generalize hfold a1 m y0 = z0 at *
      go_wp2
      go_round
      case rel => exact ⟨m + 1, by omega, by go_num, by rw [HS.out]⟩
      case measure => simp [intOf]; omega
    · obtain rfl : m = a1.size := by omega
      go_wp2
      go_ret
      exact ⟨by rw [← HY.out]; rfl, hB⟩

end Go.Proofs.Ytfagljigaippiaa.X
