/- Chapter 2: hash.Hex and hash.Parse. -/
import Derived.Test.YtcmjpdfkacmogaaShaH
import Derived.Test.YtcmjpdfkacmogaaShelf
namespace Go.Proofs.Ytcmjpdfkacmogaa.Sha
open Go.RowKit Go.Proofs.Ytcmjpdfkacmogaa.X Go.Proofs.YtcmjpdfkacmogaaW.PrintWords Go.Proofs.YtcmjpdfkacmogaaW.PrintLast Go.Proofs.YtcmjpdfkacmogaaW.PrintMore
set_option linter.unusedVariables false
set_option linter.unusedSimpArgs false

/-- The sixteen digits. -/
def dig : List UInt8 := [48, 49, 50, 51, 52, 53, 54, 55, 56, 57, 97, 98, 99, 100, 101, 102]
def digs : ByteArray := ⟨#[48, 49, 50, 51, 52, 53, 54, 55, 56, 57, 97, 98, 99, 100, 101, 102]⟩
def hexd (k : Nat) : UInt8 := dig.getD k 0
def hex1 (c : UInt8) : List UInt8 := [hexd (c.toNat / 16), hexd (c.toNat % 16)]
/-- A hash's digits. -/
def hexF (l : List UInt8) : List UInt8 := l.flatMap hex1
theorem hexF_len (l : List UInt8) : (hexF l).length = 2 * l.length := by
  induction l with
  | nil => rfl
  | cons c l ih =>
    unfold hexF at ih ⊢
    rw [List.flatMap_cons, List.length_append, ih, List.length_cons]
    show 2 + 2 * l.length = _
    omega
theorem hexF_snoc (l : List UInt8) (c : UInt8) : hexF (l ++ [c]) = hexF l ++ [hexd (c.toNat / 16)] ++ [hexd (c.toNat % 16)] := by
  unfold hexF
  rw [List.flatMap_append, List.append_assoc]
  congr 1
theorem run_index24 (l : List UInt8) (n : Nat) (hl : l.length = 32) (hn : n < 32) (W : World) : (Instr.index 24 (.agg (brw 32 l)) (.int .i64 n)).run Try.prog W = .ok (.int .u8 (l.getD n 0).toNat) W := by
  have hv := brw_at 32 l n (by omega)
  simp [Instr.index, run_underlying Try.underlying24, asIntOf, go_sem, hn, hv]
theorem run_index_str (s : ByteArray) (n : Nat) (h : n < s.size) (k : IntKind) (W : World) (x : UInt8) (hx : s[n]'h = x) : (Instr.index 9 (.string s) (.int k n)).run Try.prog W = .ok (.int .u8 x.toNat) W := by
  subst hx
  simp [Instr.index, run_underlying Try.underlying9, asIntOf, go_sem, h]
theorem digs_at (k : Nat) (hk : k < digs.size) : digs[k]'hk = hexd k := by
  have h : k < 16 := hk
  have cases : k = 0 ∨ k = 1 ∨ k = 2 ∨ k = 3 ∨ k = 4 ∨ k = 5 ∨ k = 6 ∨ k = 7 ∨ k = 8 ∨ k = 9 ∨ k = 10 ∨ k = 11 ∨ k = 12 ∨ k = 13 ∨ k = 14 ∨ k = 15 := by omega
  rcases cases with rfl | rfl | rfl | rfl | rfl | rfl | rfl | rfl | rfl | rfl | rfl | rfl | rfl | rfl | rfl | rfl <;> rfl
theorem run_digit (k : Nat) (hk : k < 16) (i : Int) (hi : i = (k : Int)) (W : World) : (Instr.index 9 (.string ⟨#[48, 49, 50, 51, 52, 53, 54, 55, 56, 57, 97, 98, 99, 100, 101, 102]⟩) (.int .u8 i)).run Try.prog W = .ok (.int .u8 (hexd k).toNat) W := by
  subst hi
  exact run_index_str digs k hk .u8 W _ (digs_at k hk)
theorem and15 (c : UInt8) : Go.bits .and .u8 (c.toNat : Int) 15 = ((c.toNat % 16 : Nat) : Int) := by
  have l : Go.bits .and .u8 (c.toNat : Int) 15 = IntKind.u8.wrap ((BitVec.ofInt 8 (c.toNat : Int) &&& 15#8).toNat : Int) := rfl
  have e : BitVec.ofInt 8 (c.toNat : Int) = c.toBitVec := by
    apply BitVec.eq_of_toNat_eq
    have := c.toNat_lt
    rw [BitVec.toNat_ofInt]
    show ((c.toNat : Int) % 256).toNat = c.toNat
    omega
  rw [l, e, BitVec.toNat_and]
  have h2 : c.toBitVec.toNat &&& (15#8).toNat = c.toNat % 16 := Nat.and_two_pow_sub_one_eq_mod c.toNat 4
  rw [h2]
  have w : ∀ n : Int, IntKind.u8.wrap n = n % 256 := fun _ => rfl
  rw [w]; omega
def BU (B b : Nat) (l : List UInt8) (w : World) : Prop := Lib.IsBuilder 62 5 B b (Lib.byteCells l) w
theorem bu_new (w : World) : BU w.heap.size w.heap.size [] (w.alloc (.cells #[.pointer none, .slice none 0 0] 62)) := Lib.fresh_isBuilder 62 5 w
theorem bu_byte (B b : Nat) (l : List UInt8) (c : UInt8) (w : World) (h : BU B b l w) (hl : l.length + 1 ≤ 140737488355328) (hB : B ≤ w.heap.size) :
    Calls Try.prog 27 #[.pointer (some ⟨b, 0, none⟩), .int .u8 (c.toNat : Int)] w fun e w' => e = .returned .nilIface ∧ BU B b (l ++ [c]) w' ∧ Below B w w' := by
  refine (Try.Builder_WriteByte B b (Lib.byteCells l) (c.toNat : Int) w h (by rw [Lib.byteCells_length]; exact hl) hB).mono ?_
  rintro e w' ⟨rfl, h1, h2⟩
  refine ⟨rfl, .inr ?_, h2⟩
  have e : Lib.byteCells (l ++ [c]) = Lib.byteCells l ++ [.int .u8 (c.toNat : Int)] := by simp [Lib.byteCells]
  rw [e]; exact h1
theorem bu_any (B b : Nat) (l : List UInt8) (w : World) (h : BU B b l w) (hB : B ≤ w.heap.size) :
    Calls Try.prog 28 #[.pointer (some ⟨b, 0, none⟩)] w fun e w' => e = .returned (.string ⟨l.toArray⟩) ∧ Below B w w' := Try.Builder_String_any B b l w h hB
set_option maxHeartbeats 8000000 in
set_option maxRecDepth 100000 in
theorem hex_calls (l : List UInt8) (hl : l.length = 32) (w : World) :
    Calls Try.prog 18 #[B32 l] w fun e w' => e = .returned (.string (tx (hexF l))) ∧ Below w.heap.size w w' := by
  have i24 : (Try.prog.info? 24).map (·.size) = some 32 := by kernel_rfl
  have hB : B32 l = .agg (brw 32 l) := by unfold B32; rw [row_of_bytes l hl]
  have hz : (brw 32 l).size = 32 := brw_size 32 l (by omega)
  rw [hB]
  clear hB
  go_enter Try.func18, Try.ntmps18
  go_upto_region 1 with (fail)
  change Code.wp _ _ _ _ (w.alloc (.cells (brw 32 l) 24))
  have C1 : Aside0 ((w.alloc (.cells (brw 32 l) 24)).heap[w.heap.size]? = some (.cells (brw 32 l) 24 (0, 0))) := ⟨blk_new _ _⟩
  have D1 := Aside0.mk (below_alloc (Below.refl w.heap.size w) (.cells (brw 32 l) 24))
  generalize w.alloc (.cells (brw 32 l) 24) = w1 at C1 D1 ⊢
  have BN : Aside0 (BU w1.heap.size w1.heap.size [] (w1.alloc (.cells #[.pointer none, .slice none 0 0] 62))) := ⟨bu_new w1⟩
  have DN : Aside0 (Below w1.heap.size w1 (w1.alloc (.cells #[.pointer none, .slice none 0 0] 62))) := ⟨below_alloc (Below.refl _ _) _⟩
  go_wp2_with ((with_reducible refine gate_dst (N := 6) rfl ?_); go_loud (refine wpList_load_row rfl 24 (.tmp 1) rfl w.heap.size rfl 24 (brw 32 l) (0, 0) _ (blk_below C1.out DN.out) Try.underlying24 rfl (by rw [hz]; exact i24) ?_))
  generalize w1.alloc (.cells #[.pointer none, .slice none 0 0] 62) = w2 at BN DN ⊢
  go_loopw [7] (fun v W => ∃ i : Nat, i ≤ 32 ∧ v = .int .i64 i ∧ Aside0 (BU w1.heap.size w1.heap.size (hexF (l.take i)) W) ∧ Aside0 (Below w1.heap.size w1 W)) (fun v _ => 32 - (intOf v).toNat)
  case atStart => exact ⟨0, Nat.zero_le _, rfl, BN, DN⟩
  case round =>
    clear BN DN
    obtain ⟨i, hi, rfl, HB, HD⟩ := hrel
    by_cases hlt : i < 32
    · have q : ((i : Int) < 32) = True := eq_true (by omega)
      have q2 : (32 ≤ i) = False := eq_false (by omega)
      have hx := run_index24 l i hl hlt
      obtain ⟨c, hc⟩ : ∃ c, c = l.getD i 0 := ⟨_, rfl⟩
      rw [← hc] at hx
      have hcl := c.toNat_lt
      have h1 := run_digit (c.toNat / 16) (by omega) ((c.toNat : Int) / 16) (by omega)
      have h2 := run_digit (c.toNat % 16) (by omega) ((c.toNat : Int) % 16) (by omega)
      have ha := and15 c
      have HS : Aside0 (hexF (l.take (i + 1)) = hexF (l.take i) ++ [hexd (c.toNat / 16)] ++ [hexd (c.toNat % 16)]) := ⟨by
        rw [← hexF_snoc]; congr 1
        rw [List.take_add_one, hc, List.getD_eq_getElem?_getD, List.getElem?_eq_getElem (by omega)]; rfl⟩
      have HN : Aside0 ((hexF (l.take i)).length ≤ 64) := ⟨by rw [hexF_len, List.length_take]; omega⟩
      clear hc
      obtain ⟨d1, hd1⟩ : ∃ d, d = hexd (c.toNat / 16) := ⟨_, rfl⟩
      obtain ⟨d2, hd2⟩ : ∃ d, d = hexd (c.toNat % 16) := ⟨_, rfl⟩
      rw [← hd1] at h1
      rw [← hd2] at h2
      rw [← hd1, ← hd2] at HS
      clear hd1 hd2
      obtain ⟨L0, hL0⟩ : ∃ L, L = hexF (l.take i) := ⟨_, rfl⟩
      rw [← hL0] at HB HN HS
      clear hL0
      go_wp2_with (first
        | (go_at_call 27; (with_reducible refine (bu_byte w1.heap.size w1.heap.size L0 d1 _ HB.out (by have := HN.out; omega) HD.out.size).mono ?_); rintro e w4 ⟨rfl, hb, hd⟩; have HB1 := Aside0.mk hb; have HD1 := Aside0.mk (HD.out.trans hd); clear hb hd HB HD)
        | (go_at_call 27; (with_reducible refine (bu_byte w1.heap.size w1.heap.size (L0 ++ [d1]) d2 _ HB1.out (by have := HN.out; rw [List.length_append, List.length_singleton]; omega) HD1.out.size).mono ?_); rintro e w5 ⟨rfl, hb, hd⟩; have HB2 := Aside0.mk hb; have HD2 := Aside0.mk (HD1.out.trans hd); clear hb hd HB1 HD1))
      go_roundw
      case rel => exact ⟨i + 1, by omega, by go_num, ⟨by rw [HS.out]; exact HB2.out⟩, HD2⟩
      case measure => simp [intOf]; omega
    · obtain rfl : i = 32 := by omega
      have HE : Aside0 (hexF (l.take 32) = hexF l) := ⟨by rw [List.take_of_length_le (by omega)]⟩
      go_wp2_with (go_at_call 28; (with_reducible refine (bu_any w1.heap.size w1.heap.size _ _ HB.out HD.out.size).mono ?_); rintro e w4 ⟨rfl, hd⟩; have HD1 := Aside0.mk (HD.out.trans hd); clear hd HD)
      go_ret
      refine ⟨by rw [HE.out]; rfl, below_then D1.out D1.out.size HD1.out⟩
end Go.Proofs.Ytcmjpdfkacmogaa.Sha
