/- Chapter 2: HashSums and HashDigits, walked. -/
import Derived.Test.YtcmjpdfkacmogaaShaV
import Derived.DeepKeys
namespace Go.Proofs.Ytcmjpdfkacmogaa.Sha
open Go.RowKit Go.Proofs.Ytcmjpdfkacmogaa.X Go.Proofs.YtcmjpdfkacmogaaW.PrintWords Go.Proofs.YtcmjpdfkacmogaaW.PrintLast Go.Proofs.YtcmjpdfkacmogaaW.PrintMore
set_option linter.unusedVariables false
set_option linter.unusedSimpArgs false

theorem tx_of (s : ByteArray) : ∃ l : List UInt8, s = tx l ∧ l.length = s.size := ⟨s.data.toList, (tx_toList s).symm, Array.length_toList⟩
theorem mapM_all {α β : Type} {f : α → Option β} {g : α → β} : ∀ (xs : List α), (∀ x ∈ xs, f x = some (g x)) → xs.mapM f = some (xs.map g)
  | [], _ => rfl
  | x :: xs, h => by
    rw [List.mapM_cons, h x List.mem_cons_self, mapM_all xs (fun y hy => h y (List.mem_cons_of_mem _ hy))]; rfl
theorem wf8 (c : UInt8) : (Lit.int .u8 (c.toNat : Int)).wf = true := by
  have := c.toNat_lt
  simp [Lit.wf, IntKind.min, IntKind.max, IntKind.signed, IntKind.bits]; omega
theorem lits32 (l : List UInt8) (hl : l.length = 32) : Try.prog.keyLits 2 24 (B32 l).cells.toList = some (l.map fun c => Lit.int .u8 c.toNat) := by
  have hc24 : Try.prog.cellsOf 24 = 32 := by kernel_rfl
  have hc5 : Try.prog.cellsOf 5 = 1 := by kernel_rfl
  have hcs : (B32 l).cells.toList = l.map fun c => Value.int .u8 c.toNat := rfl
  rw [hcs]
  unfold Program.keyLits
  rw [Try.underlying24]
  show (if (l.map fun c => Value.int .u8 c.toNat).length = Try.prog.cellsOf 24 then ((List.range 32).mapM fun i => Try.prog.keyLits 1 5 (((l.map fun c => Value.int .u8 c.toNat).drop (i * Try.prog.cellsOf 5)).take (Try.prog.cellsOf 5))).map List.flatten else none) = _
  rw [if_pos (by rw [List.length_map, hc24]; exact hl), hc5]
  rw [mapM_all (g := fun i => [Lit.int .u8 (l.getD i 0).toNat]) (List.range 32) (fun i hi => by
    have h32 : i < 32 := List.mem_range.1 hi
    have e : ((l.map fun c => Value.int .u8 c.toNat).drop (i * 1)).take 1 = [Value.int .u8 (l.getD i 0).toNat] := by
      rw [Nat.mul_one, List.drop_eq_getElem_cons (by rw [List.length_map]; omega), List.take_succ_cons, List.take_zero, List.getElem_map, List.getD_eq_getElem?_getD, List.getElem?_eq_getElem (by omega)]
      rfl
    rw [e]
    unfold Program.keyLits
    rw [Try.underlying5]
    have hb := (l.getD i 0).toNat_lt
    show (if IntKind.u8 = IntKind.u8 ∧ (Lit.int .u8 ((l.getD i 0).toNat : Int)).wf = true then some [Lit.int .u8 ((l.getD i 0).toNat : Int)] else none) = _
    rw [if_pos ⟨rfl, wf8 _⟩])]
  rw [Option.map_some]
  congr 1
  have hm : ∀ xs : List Nat, (xs.map fun i => [Lit.int .u8 ((l.getD i 0).toNat : Int)]).flatten = xs.map fun i => Lit.int .u8 ((l.getD i 0).toNat : Int) := by
    intro xs
    induction xs with
    | nil => rfl
    | cons x xs ih => rw [List.map_cons, List.flatten_cons, ih]; rfl
  rw [hm]
  apply List.ext_getElem
  · simp [hl]
  · intro i h1 h2
    rw [List.getElem_map, List.getElem_map, List.getElem_range, List.getD_eq_getElem?_getD, List.getElem?_eq_getElem (by simpa using h2)]; rfl
theorem map_inj8 : ∀ (x y : List UInt8), (x.map fun c => Lit.int .u8 (c.toNat : Int)) = (y.map fun c => Lit.int .u8 (c.toNat : Int)) → x = y
  | [], [], _ => rfl
  | [], _ :: _, h => by simp at h
  | _ :: _, [], h => by simp at h
  | a :: x, b :: y, h => by
    rw [List.map_cons, List.map_cons] at h
    injection h with h1 h2
    have h3 : (a.toNat : Int) = (b.toNat : Int) := by injection h1
    have e : a = b := UInt8.toNat_inj.1 (by omega)
    rw [e, map_inj8 x y h2]
theorem key24 : Try.prog.keyTypeAt 2 24 = true := by kernel_rfl
theorem formed32 (l : List UInt8) (hl : l.length = 32) : (B32 l).formed Try.prog 24 = true := by
  have hc24 : Try.prog.cellsOf 24 = 32 := by kernel_rfl
  unfold B32 Value.formed
  rw [Try.underlying24]
  show ((l.map fun c => Value.int .u8 c.toNat).toArray.size == Try.prog.cellsOf 24) = true
  rw [hc24, List.size_toArray, List.length_map, hl]; rfl
/-- Two hashes are compared. -/
theorem eq32 (x y : List UInt8) (hx : x.length = 32) (hy : y.length = 32) (W : World) : (Op.equalIn 10000 24 (B32 x) (B32 y)).run Try.prog W = .ok (decide (x = y)) W := by
  obtain ⟨r, hr, hiff⟩ := run_equalIn_deep (P := Try.prog) 9998 2 24 key24 W 2 2 (B32 x) (B32 y) _ _ (formed32 x hx) (formed32 y hy) (lits32 x hx) (lits32 y hy)
  have e : r = decide (x = y) := by
    apply Bool.eq_iff_iff.2
    rw [hiff, decide_eq_true_iff]
    constructor
    · intro h
      exact map_inj8 x y h
    · intro h; rw [h]
  rw [← e]
  exact hr
set_option maxHeartbeats 8000000 in
set_option maxRecDepth 100000 in
theorem sums_walk (s : ByteArray) (t : Int) (w : World) (hs : s.size ≤ 140737488351232) :
    Calls Try.prog 3 #[.string s, .int .i64 t] w fun e w' => e = .returned (.bool true) ∧ Below w.heap.size w w' := by
  obtain ⟨r, hr, HG⟩ := grown_calls s t
  obtain ⟨l, rfl, hl⟩ := tx_of r
  have HS : ∀ W : World, Calls Try.prog 11 #[.string (tx l)] W fun e w' => e = .returned (B32 (sumF l)) ∧ Below W.heap.size W w' := fun W => sum_calls l W (by omega)
  have HR : ∀ W : World, Calls Try.prog 12 #[.string (tx l)] W fun e w' => e = .returned (B32 (sumF l)) ∧ Below W.heap.size W w' := fun W => rsum_calls l W (by omega)
  clear hr hl hs
  obtain ⟨S, hS⟩ : ∃ S, S = sumF l := ⟨_, rfl⟩
  rw [← hS] at HS HR
  have hl2 : S.length = 32 := by rw [hS]; exact sumF_len l
  clear hS
  have heq := eq32 S S hl2 hl2
  rw [decide_eq_true rfl] at heq
  unfold B32 at HS HR heq
  obtain ⟨V, hV⟩ : ∃ V, V = (S.map fun c => Value.int .u8 c.toNat).toArray := ⟨_, rfl⟩
  rw [← hV] at HS HR heq
  clear hV
  go_enter Try.func3, Try.ntmps3
  go_wp2_with (first
    | (go_at_call 9; (with_reducible refine (head_calls _).mono ?_); rintro e w1 ⟨rfl, hb⟩; have D1 := Aside0.mk hb; clear hb)
    | (go_at_call 10; (with_reducible refine (HG _).mono ?_); rintro e w2 ⟨rfl, hb⟩; have D2 := Aside0.mk (below_then D1.out D1.out.size hb); clear hb D1)
    | (go_at_call 11; (with_reducible refine (HS _).mono ?_); rintro e w3 ⟨rfl, hb⟩; have D3 := Aside0.mk (below_then D2.out D2.out.size hb); clear hb D2)
    | (go_at_call 12; (with_reducible refine (HR _).mono ?_); rintro e w4 ⟨rfl, hb⟩; have D4 := Aside0.mk (below_then D3.out D3.out.size hb); clear hb D3))
  go_ret
  exact ⟨rfl, D4.out⟩
end Go.Proofs.Ytcmjpdfkacmogaa.Sha
