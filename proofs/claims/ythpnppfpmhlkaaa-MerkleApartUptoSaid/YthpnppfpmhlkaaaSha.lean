/- Chapter 2: the hash in plain words: numbers of 32 bits. -/
import Derived.Test.YthpnppfpmhlkaaaX0
import Derived.Test.YthpnppfpmhlkaaaX5
namespace Go.Proofs.Ythpnppfpmhlkaaa.Sha
open Go.RowKit Go.Proofs.Ythpnppfpmhlkaaa.X Go.Proofs.YthpnppfpmhlkaaaW.PrintWords Go.Proofs.YthpnppfpmhlkaaaW.PrintLast Go.Proofs.YthpnppfpmhlkaaaW.PrintMore
set_option linter.unusedVariables false
set_option linter.unusedSimpArgs false

def enc (x : BitVec 32) : Int := (x.toNat : Int)
theorem enc_lt (x : BitVec 32) : 0 ≤ enc x ∧ enc x < 4294967296 := by
  have := x.isLt; unfold enc; omega
theorem wrap_mod (n : Int) : IntKind.u32.wrap n = n % 4294967296 := rfl
theorem of_enc (x : BitVec 32) : BitVec.ofInt 32 (enc x) = x := by
  apply BitVec.eq_of_toNat_eq
  have := x.isLt
  rw [BitVec.toNat_ofInt]; unfold enc; omega
theorem wrap_enc (x : BitVec 32) : IntKind.u32.wrap (x.toNat : Int) = enc x := by
  have := x.isLt
  rw [wrap_mod]; unfold enc; omega
theorem xor_enc (x y : BitVec 32) : Go.bits .xor .u32 (enc x) (enc y) = enc (x ^^^ y) := by
  have l : Go.bits .xor .u32 (enc x) (enc y) = IntKind.u32.wrap ((BitVec.ofInt 32 (enc x) ^^^ BitVec.ofInt 32 (enc y)).toNat : Int) := rfl
  rw [l, of_enc, of_enc, wrap_enc]
theorem and_enc (x y : BitVec 32) : Go.bits .and .u32 (enc x) (enc y) = enc (x &&& y) := by
  have l : Go.bits .and .u32 (enc x) (enc y) = IntKind.u32.wrap ((BitVec.ofInt 32 (enc x) &&& BitVec.ofInt 32 (enc y)).toNat : Int) := rfl
  rw [l, of_enc, of_enc, wrap_enc]
theorem or_enc (x y : BitVec 32) : Go.bits .or .u32 (enc x) (enc y) = enc (x ||| y) := by
  have l : Go.bits .or .u32 (enc x) (enc y) = IntKind.u32.wrap ((BitVec.ofInt 32 (enc x) ||| BitVec.ofInt 32 (enc y)).toNat : Int) := rfl
  rw [l, of_enc, of_enc, wrap_enc]
theorem not_enc (x : BitVec 32) : Go.bits .xor .u32 4294967295 (enc x) = enc (~~~ x) := by
  have e : (4294967295 : Int) = enc (BitVec.allOnes 32) := by decide
  rw [e, xor_enc, BitVec.allOnes_xor]
theorem add_enc (x y : BitVec 32) : IntKind.u32.wrap (enc x + enc y) = enc (x + y) := by
  rw [wrap_mod]; unfold enc; rw [BitVec.toNat_add]; omega
theorem shl_enc (x : BitVec 32) (k : Nat) : IntKind.u32.wrap (enc x * 2 ^ k) = enc (x <<< k) := by
  rw [wrap_mod]; unfold enc; rw [BitVec.toNat_shiftLeft, Nat.shiftLeft_eq]
  have h1 : ((x.toNat : Int) * 2 ^ k) = ((x.toNat * 2 ^ k : Nat) : Int) := by push_cast; rfl
  rw [h1]
  omega
theorem shr_enc (x : BitVec 32) (k : Nat) : enc x / 2 ^ k = enc (x >>> k) := by
  unfold enc; rw [BitVec.toNat_ushiftRight, Nat.shiftRight_eq_div_pow]
  push_cast; rfl
/-- Turned right. -/
def rr (n : Nat) (x : BitVec 32) : BitVec 32 := x >>> n ||| x <<< (32 - n)
theorem rot_f (x : BitVec 32) (n : Nat) (h0 : 0 < n) (h : n < 32) (he : Go.bits .and .u64 (IntKind.u64.wrap (-(n : Int))) 31 = ((32 - n : Nat) : Int)) : bits_RotateLeft32.f (enc x) (-(n : Int)) = some (enc (rr n x)) := by
  unfold bits_RotateLeft32.f
  have w : IntKind.u64.wrap (32 - ((32 - n : Nat) : Int)) = (n : Int) := by
    have w : ∀ n : Int, IntKind.u64.wrap n = n % 18446744073709551616 := fun _ => rfl
    rw [w]; omega
  rw [he, w, if_pos (by omega), if_pos (by omega)]
  have e1 : shl .u32 (enc x) ((32 - n : Nat) : Int) = enc (x <<< (32 - n)) := by
    show IntKind.u32.wrap (enc x * 2 ^ min ((32 - n : Nat) : Int).toNat 32) = _
    rw [Int.toNat_natCast, Nat.min_eq_left (by omega), shl_enc]
  have e2 : shr .u32 (enc x) (n : Int) = enc (x >>> n) := by
    show enc x / 2 ^ min ((n : Int)).toNat 32 = _
    rw [Int.toNat_natCast, Nat.min_eq_left (by omega), shr_enc]
  rw [e1, e2, or_enc]
  unfold rr; rw [BitVec.or_comm]
def s0w (x : BitVec 32) : BitVec 32 := rr 7 x ^^^ rr 18 x ^^^ x >>> 3
def s1w (x : BitVec 32) : BitVec 32 := rr 17 x ^^^ rr 19 x ^^^ x >>> 10
/-- Number t of a block: of its bytes, or of the numbers ahead. -/
def byte (b : List UInt8) (i : Nat) : BitVec 32 := BitVec.ofNat 32 (b.getD i 0).toNat
def word (b : List UInt8) (t : Nat) : BitVec 32 := byte b (4 * t) <<< 24 ||| byte b (4 * t + 1) <<< 16 ||| byte b (4 * t + 2) <<< 8 ||| byte b (4 * t + 3)
def nx (w : List (BitVec 32)) (t : Nat) : BitVec 32 := s1w (w.getD (t - 2) 0) + w.getD (t - 7) 0 + s0w (w.getD (t - 15) 0) + w.getD (t - 16) 0
def wl (b : List UInt8) : Nat → List (BitVec 32)
  | 0 => []
  | t + 1 => wl b t ++ [if t < 16 then word b t else nx (wl b t) t]
theorem wl_succ (b : List UInt8) (t : Nat) : wl b (t + 1) = wl b t ++ [if t < 16 then word b t else nx (wl b t) t] := rfl
theorem wl_len (b : List UInt8) : ∀ t, (wl b t).length = t
  | 0 => rfl
  | t + 1 => by unfold wl; rw [List.length_append, wl_len b t]; rfl
/-- A row of 64 numbers, of which the first are written. -/
def row (n : Nat) (ws : List (BitVec 32)) : Array Value := (ws.map (fun x => Value.int .u32 (enc x)) ++ List.replicate (n - ws.length) (Value.int .u32 0)).toArray
theorem row_at (n : Nat) (ws : List (BitVec 32)) (i : Nat) (h : i < ws.length) : (row n ws)[i]? = some (.int .u32 (enc (ws.getD i 0))) := by
  unfold row
  rw [List.getElem?_toArray, List.getElem?_append_left (by rw [List.length_map]; exact h), List.getElem?_map, List.getElem?_eq_getElem h, List.getD_eq_getElem?_getD, List.getElem?_eq_getElem h]; rfl
theorem row_new (n : Nat) (ws : List (BitVec 32)) (i : Nat) (h : ws.length ≤ i) (hn : i < n) : (row n ws)[i]? = some (.int .u32 0) := by
  unfold row
  rw [List.getElem?_toArray, List.getElem?_append_right (by rw [List.length_map]; exact h), List.getElem?_replicate, if_pos (by rw [List.length_map]; omega)]
theorem row_set (n : Nat) (ws : List (BitVec 32)) (x : BitVec 32) (h : ws.length < n) : (row n ws).setIfInBounds ws.length (.int .u32 (enc x)) = row n (ws ++ [x]) := by
  unfold row
  rw [List.setIfInBounds_toArray, List.set_append_right _ _ (by rw [List.length_map]; exact Nat.le_refl _), List.length_map, Nat.sub_self]
  obtain ⟨m, hm⟩ : ∃ m, n - ws.length = m + 1 := ⟨n - ws.length - 1, by omega⟩
  rw [hm, List.replicate_succ, List.set_cons_zero, List.map_append, List.length_append]
  rw [show n - (ws.length + [x].length) = m by simp; omega, List.append_assoc]; rfl
theorem wrap_of_enc (x : BitVec 32) : IntKind.u32.wrap (enc x) = enc x := wrap_enc x
theorem wrap_shl (x : BitVec 32) (k : Nat) (m : Int) (h : m = 2 ^ k) : IntKind.u32.wrap (enc x * m) = enc (x <<< k) := by rw [h, shl_enc]
theorem shl8 (x : BitVec 32) : IntKind.u32.wrap (enc x * 256) = enc (x <<< 8) := wrap_shl x 8 256 rfl
theorem shl16 (x : BitVec 32) : IntKind.u32.wrap (enc x * 65536) = enc (x <<< 16) := wrap_shl x 16 65536 rfl
theorem shl24 (x : BitVec 32) : IntKind.u32.wrap (enc x * 16777216) = enc (x <<< 24) := wrap_shl x 24 16777216 rfl
theorem shr3 (x : BitVec 32) : enc x / (8 : Int) = enc (x >>> (3 : Nat)) := shr_enc x 3
theorem shr10 (x : BitVec 32) : enc x / (1024 : Int) = enc (x >>> (10 : Nat)) := shr_enc x 10
theorem enc_byte (b : ByteArray) (i : Nat) (h : i < b.size) : ((b[i]'h).toNat : Int) = enc (byte b.data.toList i) := by
  unfold enc byte
  have : (b[i]'h) = b.data.toList[i]'(by exact h) := rfl
  rw [BitVec.toNat_ofNat, List.getD_eq_getElem?_getD, List.getElem?_eq_getElem (by exact h), this]
  have := (b.data.toList[i]'(by exact h)).toNat_lt
  simp only [Option.getD_some]
  omega
theorem rot_calls7 (x : BitVec 32) (w : World) : Calls Try.prog 44 #[.int .u32 (enc x), .int .i64 (-7)] w fun e w' => e = .returned (.int .u32 (enc (rr 7 x))) ∧ Below w.heap.size w w' := by
  refine (bits_RotateLeft32.calls (enc x) (-7) (enc (rr 7 x)) w (rot_f x 7 (by decide) (by decide) (by kernel_rfl))).mono ?_
  rintro e w' ⟨rfl, h⟩
  exact ⟨rfl, h.below⟩
theorem rot_calls18 (x : BitVec 32) (w : World) : Calls Try.prog 44 #[.int .u32 (enc x), .int .i64 (-18)] w fun e w' => e = .returned (.int .u32 (enc (rr 18 x))) ∧ Below w.heap.size w w' := by
  refine (bits_RotateLeft32.calls (enc x) (-18) (enc (rr 18 x)) w (rot_f x 18 (by decide) (by decide) (by kernel_rfl))).mono ?_
  rintro e w' ⟨rfl, h⟩
  exact ⟨rfl, h.below⟩
theorem rot_calls17 (x : BitVec 32) (w : World) : Calls Try.prog 44 #[.int .u32 (enc x), .int .i64 (-17)] w fun e w' => e = .returned (.int .u32 (enc (rr 17 x))) ∧ Below w.heap.size w w' := by
  refine (bits_RotateLeft32.calls (enc x) (-17) (enc (rr 17 x)) w (rot_f x 17 (by decide) (by decide) (by kernel_rfl))).mono ?_
  rintro e w' ⟨rfl, h⟩
  exact ⟨rfl, h.below⟩
theorem rot_calls19 (x : BitVec 32) (w : World) : Calls Try.prog 44 #[.int .u32 (enc x), .int .i64 (-19)] w fun e w' => e = .returned (.int .u32 (enc (rr 19 x))) ∧ Below w.heap.size w w' := by
  refine (bits_RotateLeft32.calls (enc x) (-19) (enc (rr 19 x)) w (rot_f x 19 (by decide) (by decide) (by kernel_rfl))).mono ?_
  rintro e w' ⟨rfl, h⟩
  exact ⟨rfl, h.below⟩
theorem rot_calls6 (x : BitVec 32) (w : World) : Calls Try.prog 44 #[.int .u32 (enc x), .int .i64 (-6)] w fun e w' => e = .returned (.int .u32 (enc (rr 6 x))) ∧ Below w.heap.size w w' := by
  refine (bits_RotateLeft32.calls (enc x) (-6) (enc (rr 6 x)) w (rot_f x 6 (by decide) (by decide) (by kernel_rfl))).mono ?_
  rintro e w' ⟨rfl, h⟩
  exact ⟨rfl, h.below⟩
theorem rot_calls11 (x : BitVec 32) (w : World) : Calls Try.prog 44 #[.int .u32 (enc x), .int .i64 (-11)] w fun e w' => e = .returned (.int .u32 (enc (rr 11 x))) ∧ Below w.heap.size w w' := by
  refine (bits_RotateLeft32.calls (enc x) (-11) (enc (rr 11 x)) w (rot_f x 11 (by decide) (by decide) (by kernel_rfl))).mono ?_
  rintro e w' ⟨rfl, h⟩
  exact ⟨rfl, h.below⟩
theorem rot_calls25 (x : BitVec 32) (w : World) : Calls Try.prog 44 #[.int .u32 (enc x), .int .i64 (-25)] w fun e w' => e = .returned (.int .u32 (enc (rr 25 x))) ∧ Below w.heap.size w w' := by
  refine (bits_RotateLeft32.calls (enc x) (-25) (enc (rr 25 x)) w (rot_f x 25 (by decide) (by decide) (by kernel_rfl))).mono ?_
  rintro e w' ⟨rfl, h⟩
  exact ⟨rfl, h.below⟩
theorem rot_calls2 (x : BitVec 32) (w : World) : Calls Try.prog 44 #[.int .u32 (enc x), .int .i64 (-2)] w fun e w' => e = .returned (.int .u32 (enc (rr 2 x))) ∧ Below w.heap.size w w' := by
  refine (bits_RotateLeft32.calls (enc x) (-2) (enc (rr 2 x)) w (rot_f x 2 (by decide) (by decide) (by kernel_rfl))).mono ?_
  rintro e w' ⟨rfl, h⟩
  exact ⟨rfl, h.below⟩
theorem rot_calls13 (x : BitVec 32) (w : World) : Calls Try.prog 44 #[.int .u32 (enc x), .int .i64 (-13)] w fun e w' => e = .returned (.int .u32 (enc (rr 13 x))) ∧ Below w.heap.size w w' := by
  refine (bits_RotateLeft32.calls (enc x) (-13) (enc (rr 13 x)) w (rot_f x 13 (by decide) (by decide) (by kernel_rfl))).mono ?_
  rintro e w' ⟨rfl, h⟩
  exact ⟨rfl, h.below⟩
theorem rot_calls22 (x : BitVec 32) (w : World) : Calls Try.prog 44 #[.int .u32 (enc x), .int .i64 (-22)] w fun e w' => e = .returned (.int .u32 (enc (rr 22 x))) ∧ Below w.heap.size w w' := by
  refine (bits_RotateLeft32.calls (enc x) (-22) (enc (rr 22 x)) w (rot_f x 22 (by decide) (by decide) (by kernel_rfl))).mono ?_
  rintro e w' ⟨rfl, h⟩
  exact ⟨rfl, h.below⟩
theorem row_at' (n : Nat) (ws more : List (BitVec 32)) (i : Nat) (h : i < ws.length) : (row n (ws ++ more))[i]? = some (.int .u32 (enc (ws.getD i 0))) := by
  rw [row_at n _ i (by rw [List.length_append]; omega), List.getD_eq_getElem?_getD, List.getD_eq_getElem?_getD, List.getElem?_append_left h]
theorem alloc_second (w : World) (o o' : Obj) : ((w.alloc o).alloc o').heap[w.heap.size + 1]? = some o' := by
  have hs : (w.alloc o).heap.size = w.heap.size + 1 := Array.size_push ..
  rw [← hs]; exact blk_new _ _
theorem below_set' {b : Nat} {w W : World} {g j : Nat} {v : Value} (h : Below b w W) (hg : b ≤ g) : Below b w (W.setCell ⟨g, j, none⟩ v) := h.setCell hg _
theorem nx_val (y2 y7 y15 y16 : BitVec 32) : IntKind.u32.wrap (IntKind.u32.wrap (IntKind.u32.wrap (Go.bits .xor .u32 (enc (rr 17 y2 ^^^ rr 19 y2)) (enc y2 / 1024) + enc y7) + Go.bits .xor .u32 (enc (rr 7 y15 ^^^ rr 18 y15)) (enc y15 / 8)) + enc y16) = enc (s1w y2 + y7 + s0w y15 + y16) := by
  rw [shr10, shr3, xor_enc, xor_enc, add_enc, add_enc, add_enc]; rfl
theorem nx_get (ws : List (BitVec 32)) (n m2 m7 m15 m16 : Nat) (h2 : m2 = n - 2) (h7 : m7 = n - 7) (h15 : m15 = n - 15) (h16 : m16 = n - 16) : s1w (ws[m2]?.getD 0#32) + ws[m7]?.getD 0#32 + s0w (ws[m15]?.getD 0#32) + ws[m16]?.getD 0#32 = nx ws n := by
  subst h2 h7 h15 h16
  unfold nx
  simp only [List.getD_eq_getElem?_getD]; rfl
theorem row_size (n : Nat) (ws : List (BitVec 32)) (h : ws.length ≤ n) : (row n ws).size = n := by
  unfold row; rw [List.size_toArray, List.length_append, List.length_map, List.length_replicate]; omega
theorem row_one (n : Nat) (ws : List (BitVec 32)) : (row n ws).all (·.oneCell') = true := by
  unfold row
  rw [List.all_toArray, List.all_append, List.all_map, List.all_replicate]
  have h1 : ws.all ((fun x => x.oneCell') ∘ fun x => Value.int .u32 (enc x)) = true := List.all_eq_true.2 fun _ _ => rfl
  rw [h1]; simp [Value.oneCell']
def vals (ws : List (BitVec 32)) : Array Value := (ws.map (fun x => Value.int .u32 (enc x))).toArray
theorem row_full (n : Nat) (ws : List (BitVec 32)) (h : ws.length = n) : row n ws = vals ws := by
  unfold row vals; rw [h, Nat.sub_self, List.replicate_zero, List.append_nil]
end Go.Proofs.Ythpnppfpmhlkaaa.Sha
