/- Small laws of this session for the printed walks: strings compared by <=, >, >=. -/
import Derived.WalkKit
import Derived.Test.YtfagljigaippiaaWWords
namespace Go.Proofs.Ytfagljigaippiaa.Z
open Go
theorem less_irrefl : ∀ a : List UInt8, Op.bytesLess a a = false
  | [] => rfl
  | x :: a => by simp [Op.bytesLess, less_irrefl a]
theorem less_or_eq : ∀ a b : List UInt8, (Op.bytesLess a b || a == b) = !(Op.bytesLess b a)
  | [], [] => rfl
  | [], y :: b => rfl
  | x :: a, [] => rfl
  | x :: a, y :: b => by
    have ih := less_or_eq a b
    simp only [Op.bytesLess]
    by_cases h1 : x < y
    · have h2 : ¬ y < x := fun h => by
        rw [UInt8.lt_iff_toNat_lt] at h1 h; omega
      have h3 : ¬ y = x := fun h => by rw [h, UInt8.lt_iff_toNat_lt] at h1; omega
      simp [h1, h2, h3]
    · by_cases h2 : x = y
      · subst h2
        have h4 : ¬ x < x := by rw [UInt8.lt_iff_toNat_lt]; omega
        have e : (x :: a == x :: b) = (a == b) := by
          rw [Bool.eq_iff_iff, beq_iff_eq, beq_iff_eq]; simp
        rw [e]
        simp only [h4, decide_false, beq_self_eq_true, Bool.true_and, Bool.false_or]
        exact ih
      · have h3 : y < x := by
          rw [UInt8.lt_iff_toNat_lt] at h1 ⊢
          have : x.toNat ≠ y.toNat := fun h => h2 (UInt8.toNat_inj.1 h)
          omega
        have e : (x :: a == y :: b) = false := by
          rw [beq_eq_false_iff_ne]; intro h; exact h2 (List.cons.inj h).1
        have e2 : (x == y) = false := by rw [beq_eq_false_iff_ne]; exact h2
        simp [h1, h3, e2]
theorem leq_string (t : TypeId) (a b : ByteArray) : binOp .leq t (.string a) (.string b) = pure (.bool !(Op.bytesLess b.toList a.toList)) := by
  simp only [binOp, Op.stringOp, ← less_or_eq]
theorem gtr_string (t : TypeId) (a b : ByteArray) : binOp .gtr t (.string a) (.string b) = pure (.bool (Op.bytesLess b.toList a.toList)) := by
  simp only [binOp, Op.stringOp, less_or_eq, Bool.not_not]
theorem geq_string (t : TypeId) (a b : ByteArray) : binOp .geq t (.string a) (.string b) = pure (.bool !(Op.bytesLess a.toList b.toList)) := by
  simp only [binOp, Op.stringOp]
theorem bne_nil (l : List UInt8) : (l != ([] : List UInt8)) = !l.isEmpty := by cases l <;> rfl
theorem beq_nil (l : List UInt8) : (l == ([] : List UInt8)) = l.isEmpty := by cases l <;> rfl
section
open Go.RowKit Go.Proofs.YtfagljigaippiaaW.PrintWords
variable {P : Program} {ops : Array Oper} {o : Oper} {a : Act} {Q : Exit → Act → World → Prop} {Kc : Act → World → Prop}
/-- append([]byte, s...), s a string, as one step of a region that draws its order. -/
theorem append_str_step {w0 W : World} (base : Nat) (hw : Region.wanted o (yielded ops a.tmps) = true) (s x : Operand) (t u e : TypeId)
    (ho : o.op = .call { callee := .builtin .append, args := #[s, x], argTypes := #[t, u] })
    (ht : P.underlying t = some (.slice e)) (hu : P.underlying u = some .string) (hinfo : (P.info? e).map (fun i => (i.zero, i.size, i.bytes)) = some (some (.int .u8 0), 1, 1))
    (v : Value) (xs : List Int) (y : ByteArray) (hs : a.eval s = v) (hx : a.eval x = .string y)
    (HO : W.ownsRow base e 1 v xs.length (nums .u8 xs)) (HB : Below base w0 W) (hbase : base ≤ W.heap.size) (hl : xs.length + y.size ≤ 140737488355328)
    (h : ∀ v1 w1, w1.ownsRow base e 1 v1 (xs ++ bytesOf y).length (nums .u8 (xs ++ bytesOf y)) → Below base w0 w1 → W.grownBy w1 v.ownBlock → Kc (a.put o.dst v1) w1) :
    if Region.wanted o (yielded ops a.tmps) = true then Oper.wp P o a W Kc Q else Kc (a.put o.dst undef) W := by
  obtain ⟨i0, hi, hzz⟩ := Option.map_eq_some_iff.1 hinfo
  simp only [Prod.mk.injEq] at hzz
  obtain ⟨hz0, hz1, hz2⟩ := hzz
  obtain ⟨v1, w1, hr, hown, hg, _⟩ := Lib.run_append_own_string (P := P) W base t u o.type e i0 ht hu hi hz0 hz1 hz2 v xs.length (nums .u8 xs) HO y (by simp only [maxLen]; omega) hl hbase
  have hl2 : (xs ++ bytesOf y).length = xs.length + y.size := by rw [List.length_append, bytesOf_length]
  have hc : nums .u8 (xs ++ bytesOf y) = nums .u8 xs ++ Lib.strCells y := by
    rw [nums_append]
    congr 1
    simp [nums, bytesOf, Lib.strCells]
  rw [if_pos hw]
  unfold Oper.wp execOp
  simp only [ho, resolve, invoke, builtin, Sem.run_bind, Sem.run_pure, Result.andThen_ok, List.map_toArray, List.map_cons, List.map_nil, hs, hx, hr]
  exact h v1 w1 (by rw [hl2, hc]; exact hown) (HB.grown hg hbase (own_base HO)) hg
end
open Go.RowKit Go.Proofs.YtfagljigaippiaaW.PrintWords
/-- The beginning of a row, told out of the row. -/
theorem R_took {α : Type} {d : Kd α} {e : Nat} {w : World} {base : Nat} {ok : Nat → Prop} {A : Option Addr} {n c m : Nat} {xs ys : List α} (hy : ys = xs.take m) (h : d.R e w base ok (.slice A n c) xs) : d.R e w base ok (.slice A ys.length c) ys := by
  subst hy
  by_cases hm : m ≤ xs.length
  · have := Kd.R_take h hm
    rwa [List.length_take, Nat.min_eq_left hm]
  · rw [List.take_of_length_le (by omega), ← (Kd.R_reads' h).1]; exact h
/-- The row l with m behind it, in the room that the slice has still. -/
def Spare {α : Type} (d : Kd α) (e : TypeId) (W : World) (base : Nat) (v : Value) (l : List α) (m : α) : Prop := ∃ A c, v = .slice A l.length c ∧ Kd.R d e W base (fun _ => True) (.slice A (l ++ [m]).length c) (l ++ [m])
/-- A cut up to any number that the room bears. -/
theorem cut_wide {P : Program} (t e : TypeId) (kh : IntKind) {i : TypeInfo} (ht : P.underlying t = some (.slice e)) (hi : P.info? e = some i) (A : Option Addr) (n c : Nat) (j : Int) (h0 : 0 ≤ j) (hm : j ≤ c) :
    ∀ W : World, (Instr.slice t (.slice A n c) none (some (.int kh j)) none).run P W = .ok (.slice A j.toNat c) W := by
  intro W
  have hel : P.elem t = e := by simp [Program.elem, ht]
  have hu : P.underlying t = some (.slice (P.elem t)) := by rw [hel]; exact ht
  have ha : (A.map fun x => x.add 0) = A := by cases A <;> simp [Addr.add]
  rw [run_slice_h W t A n c hu kh j h0 (by omega), hel]
  simp [sizeOf, typeInfo, hi, sliced, Result.andThen, ha]
end Go.Proofs.Ytfagljigaippiaa.Z
