/- make([]T, 0, c): a row of one's own without elements, with room. -/
import Derived.Test.YtffgodpmmipnkaaWWords
import Derived.Test.YtffgodpmmipnkaaWLast
import Derived.Laws.MakeOwn
namespace Go.Proofs.Ytffgodpmmipnkaa.Z
set_option linter.unusedVariables false
set_option linter.unusedSimpArgs false
open Go.RowKit Go.Proofs.YtffgodpmmipnkaaW.PrintWords
section
variable {P : Program} {ops : Array Oper} {rest : List Oper} {o : Oper} {a : Act} {Q : Exit → Act → World → Prop} {α : Type}
theorem R_make0 (d : Kd α) {w0 W : World} (base e : Nat) (hgd : o.guard = none) {N : Tmp} (hd : o.dst = some N) (t : TypeId) (x y : Operand) (ho : o.op = .makeSlice t x y) (n : Int) (hx : a.eval x = .int .i64 0) (hy : a.eval y = .int .i64 n)
    (ht : P.underlying t = some (.slice e)) (z : Value) (bytes : Nat) (hinfo : (P.info? e).map (fun i => (i.zero, i.size, i.bytes)) = some (some z, d.sz, bytes)) (hz : z.cells.size = d.sz) (hs0 : 0 < d.sz) (hb0 : 0 < bytes)
    (z0 : α) {ok okp : Nat → Prop} (hzero : d.M W base okp z0 z.cells.toList) (hok : ∀ k, okp k → ok k) (hfresh : ok W.heap.size) (h0 : 0 ≤ n) (hl : n.toNat * bytes ≤ 281474976710656) (HB : Below base w0 W) (hbase : base ≤ W.heap.size)
    (h : ∀ v1 w1, d.R e w1 base ok v1 (List.replicate 0 z0) → Below base w0 w1 → W.grownBy w1 none → (∃ b, v1.ownBlock = some b ∧ W.heap.size ≤ b) → wpList P ops Q rest (a.put o.dst v1) w1) : wpList P ops Q (o :: rest) a W := by
  obtain ⟨c, rfl⟩ := Int.eq_ofNat_of_zero_le h0
  rw [Int.toNat_natCast] at hl
  have hc : c ≤ 281474976710656 := Nat.le_trans (Nat.le_mul_of_pos_right _ hb0) hl
  obtain ⟨i0, hi, hzz⟩ := Option.map_eq_some_iff.1 hinfo
  simp only [Prod.mk.injEq] at hzz
  obtain ⟨hz0, hz1, hz2⟩ := hzz
  obtain ⟨w1, hr, hown, hg⟩ := run_make_own (P := P) (w := W) base t e i0 z d.sz ht hi hz0 hz1 .i64 .i64 c (by rw [hz2, Nat.mul_comm]; exact hl) (by simp only [maxLen]; omega) hbase
  have hR : d.R e w1 base ok (.slice (some ⟨W.heap.size, 0, none⟩) 0 c) [] := ⟨fun k hk => by
    have : W.heap.size = k := by simpa [Value.ownBlock] using hk
    exact this ▸ hfresh, [], hown, ⟨by simp, fun j p hj => by simp at hj⟩⟩
  have hk := h _ w1 hR (HB.grown hg hbase (by simp [Value.ownBlock])) hg ⟨W.heap.size, by simp [Value.ownBlock], Nat.le_refl _⟩
  refine Kd.event_run hgd ?_ hk
  simp [execOp, ho, hx, hy, hr]
end
end Go.Proofs.Ytffgodpmmipnkaa.Z
