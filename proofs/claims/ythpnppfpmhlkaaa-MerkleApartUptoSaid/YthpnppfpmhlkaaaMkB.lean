/- Chapter 3: rows of hashes: what lies in them, one hash more, a hash read. -/
import Derived.Test.YthpnppfpmhlkaaaMkA
import Derived.Deep.MidRow
import Derived.Great.BuildSlice
namespace Go.Proofs.Ythpnppfpmhlkaaa.Sha
open Go.RowKit Go.Proofs.Ythpnppfpmhlkaaa.X Go.Proofs.YthpnppfpmhlkaaaW.PrintWords Go.Proofs.YthpnppfpmhlkaaaW.PrintLast Go.Proofs.YthpnppfpmhlkaaaW.PrintMore
set_option linter.unusedVariables false
set_option linter.unusedSimpArgs false

theorem info23 : (Try.prog.info? 23).map (fun i => (i.zero, i.size, i.bytes)) = some (some (.agg (brw 32 [])), 32, 32) := by kernel_rfl
def bc (x : List UInt8) : List Value := x.map fun c => Value.int .u8 c.toNat
theorem bc_len (x : List UInt8) : (bc x).length = x.length := List.length_map _
/-- The cells of a row of hashes. -/
def hc (rows : List (List UInt8)) : List Value := rows.flatMap bc
theorem hc_append (a b : List (List UInt8)) : hc (a ++ b) = hc a ++ hc b := List.flatMap_append
theorem hc_len : ∀ (rows : List (List UInt8)), (∀ x ∈ rows, x.length = 32) → (hc rows).length = rows.length * 32
  | [], _ => rfl
  | x :: rows, h => by
    have e : hc (x :: rows) = bc x ++ hc rows := rfl
    rw [e, List.length_append, bc_len, h x List.mem_cons_self, hc_len rows (fun y hy => h y (List.mem_cons_of_mem _ hy)), List.length_cons]; omega
theorem hc_at : ∀ (rows : List (List UInt8)) (j i : Nat), (∀ x ∈ rows, x.length = 32) → j < rows.length → i < 32 → (hc rows)[j * 32 + i]? = some (.int .u8 ((rows.getD j []).getD i 0).toNat)
  | [], _, _, _, hj, _ => absurd hj (by simp)
  | x :: rows, 0, i, h, _, hi => by
    have e : hc (x :: rows) = bc x ++ hc rows := rfl
    have hx := h x List.mem_cons_self
    rw [e, Nat.zero_mul, Nat.zero_add, List.getElem?_append_left (by rw [bc_len]; omega)]
    unfold bc
    rw [List.getElem?_map, List.getElem?_eq_getElem (by omega)]
    show some (Value.int .u8 (x[i]'(by omega)).toNat) = some (.int .u8 (x.getD i 0).toNat)
    rw [List.getD_eq_getElem?_getD, List.getElem?_eq_getElem (by omega)]; rfl
  | x :: rows, j + 1, i, h, hj, hi => by
    have e : hc (x :: rows) = bc x ++ hc rows := rfl
    have hx := h x List.mem_cons_self
    rw [e, List.getElem?_append_right (by rw [bc_len, hx]; omega), bc_len, hx, show (j + 1) * 32 + i - 32 = j * 32 + i by omega]
    exact hc_at rows j i (fun y hy => h y (List.mem_cons_of_mem _ hy)) (by simpa using hj) hi
/-- A row of hashes of one's own, nil or not. -/
def HRow (base : Nat) (v : Value) (rows : List (List UInt8)) (W : World) : Prop := W.ownsRow base 23 32 v rows.length (hc rows) ∧ ∀ x ∈ rows, x.length = 32
/-- A row of hashes that is read. -/
def HRead (A : Option Addr) (rows : List (List UInt8)) (W : World) : Prop :=
  (∀ x ∈ rows, x.length = 32) ∧ (0 < rows.length → ∃ ad, A = some ad ∧ ∀ j i, j < rows.length → i < 32 → W.cell? (ad.add (j * 32 + i)) = some (.int .u8 ((rows.getD j []).getD i 0).toNat))
theorem hrow_nil (base : Nat) (W : World) : HRow base (.slice none 0 0) [] W := ⟨World.ownsRow_nil W base 23 32, fun _ h => by cases h⟩
theorem hrow_below {base : Nat} {v : Value} {rows : List (List UInt8)} {W W' : World} (h : HRow base v rows W) (hb : Below W.heap.size W W') : HRow base v rows W' := by
  obtain ⟨⟨h0, h1⟩, h2⟩ := h
  refine ⟨⟨h0, ?_⟩, h2⟩
  rcases h1 with ⟨h1, h3⟩ | ⟨g, cap, cur, h1, h3, h4, h5⟩
  · exact .inl ⟨h1, h3⟩
  · exact .inr ⟨g, cap, cur, h1, h3, blk_below h4 hb, h5⟩
theorem hrow_read {base : Nat} {v : Value} {rows : List (List UInt8)} {W : World} (h : HRow base v rows W) : ∃ A c, v = .slice A rows.length c ∧ rows.length ≤ c ∧ HRead A rows W := by
  obtain ⟨⟨h0, h1⟩, h2⟩ := h
  rcases h1 with ⟨rfl, h3⟩ | ⟨g, cap, cur, rfl, hg, hh, hcap, hmax, hsz, htk⟩
  · exact ⟨none, 0, by rw [h3], by omega, h2, fun h => by omega⟩
  · refine ⟨_, cap, rfl, hcap, h2, fun _ => ⟨_, rfl, fun j i hj hi => ?_⟩⟩
    have hadd : (⟨g, 0, none⟩ : Addr).add (j * 32 + i) = ⟨g, j * 32 + i, none⟩ := by unfold Addr.add; split <;> simp_all
    have hlt : j * 32 + i < rows.length * 32 := by omega
    have h3 : (cur.toList.take (rows.length * 32))[j * 32 + i]? = (hc rows)[j * 32 + i]? := by rw [htk]
    rw [List.getElem?_take, if_pos hlt] at h3
    rw [hadd, blk_cell hh, ← Array.getElem?_toList, h3]
    exact hc_at rows j i h2 hj hi
theorem hread_below {A : Option Addr} {rows : List (List UInt8)} {W W' : World} (h : HRead A rows W) (hb : Below W.heap.size W W') : HRead A rows W' := by
  refine ⟨h.1, fun h0 => ?_⟩
  obtain ⟨ad, e, hc⟩ := h.2 h0
  refine ⟨ad, e, fun j i hj hi => ?_⟩
  have h1 := hc j i hj hi
  rw [hb.cell (World.block_lt_of_cell? W _ h1)]
  exact h1
theorem hrow_own {base : Nat} {v : Value} {rows : List (List UInt8)} {W : World} (h : HRow base v rows W) (k : Nat) (hk : v.ownBlock = some k) : base ≤ k := by
  rcases h.1.2 with ⟨rfl, _⟩ | ⟨g, cap, cur, rfl, hg, _⟩
  · simp [Value.ownBlock] at hk
  · have : g = k := by simpa [Value.ownBlock] using hk
    omega
/-- append(row, hash): one hash more. -/
theorem append_hrow (base : Nat) (v : Value) (rows : List (List UInt8)) (x : List UInt8) (hx : x.length = 32) (w0 W : World) (gb c : Nat) (hr : HRow base v rows W) (hB : Below base w0 W) (hbase : base ≤ W.heap.size) (hu : W.heap[gb]? = some (.cells (brw 32 x) 23 (0, 0))) (hl : rows.length ≤ 1099511627776) :
    ∃ v' W', (Builtin.append_ #[31, 31] 31 #[v, .slice (some ⟨gb, 0, none⟩) 1 c]).run Try.prog W = .ok v' W' ∧ HRow base v' (rows ++ [x]) W' ∧ Below base w0 W' := by
  obtain ⟨i0, hi, hzz⟩ := Option.map_eq_some_iff.1 info23
  simp only [Prod.mk.injEq] at hzz
  obtain ⟨hz0, hz1, hz2⟩ := hzz
  have hone : ∀ u ∈ bc x, u.oneCell' = true := by
    intro u hu
    unfold bc at hu
    rw [List.mem_map] at hu
    obtain ⟨b, _, rfl⟩ := hu
    rfl
  obtain ⟨v', W', h1, h2, h3, _⟩ := run_append_own_wide (P := Try.prog) W base 31 31 23 i0 (.agg (brw 32 [])) 32 32 Try.underlying31 hi hz0 hz1 hz2 rfl (by omega) v rows.length (hc rows) hr.1 ⟨gb, 0, none⟩ 1 c (bc x) (by rw [bc_len, hx]) (fun j u hj => by
    have hadd : (⟨gb, 0, none⟩ : Addr).add j = ⟨gb, j, none⟩ := by unfold Addr.add; split <;> simp_all
    rw [hadd, blk_cell hu, brw_full 32 x hx, List.getElem?_toArray]
    exact hj) hone (by simp only [maxLen]; omega) (by omega) hbase
  refine ⟨v', W', h1, ⟨?_, fun y hy => ?_⟩, hB.grown h3 hbase (fun k hk => hrow_own hr k hk)⟩
  · have e : hc (rows ++ [x]) = hc rows ++ bc x := by rw [hc_append]; show hc rows ++ (bc x ++ []) = _; rw [List.append_nil]
    rw [List.length_append, e]
    exact h2
  · rcases List.mem_append.1 hy with h | h
    · exact hr.2 y h
    · rw [List.mem_singleton.1 h]; exact hx
/-- A hash is read. -/
theorem run_load_hash {W : World} (a : Addr) (x : List UInt8) (hx : x.length = 32) (h : ∀ i, i < 32 → W.cell? (a.add i) = some (.int .u8 (x.getD i 0).toNat)) : (Instr.loadAt 23 (.pointer (some a))).run Try.prog W = .ok (.agg (brw 32 x)) W := by
  have hl : (loadCells a (bc x).length).run Try.prog W = .ok (bc x).toArray W := run_loadCells_list (P := Try.prog) W a (bc x) (fun j v hv => by
    have hj : j < 32 := by
      have := (List.getElem?_eq_some_iff.1 hv).1
      rw [bc_len, hx] at this; exact this
    rw [h j hj]
    unfold bc at hv
    rw [List.getElem?_map, List.getElem?_eq_getElem (by omega)] at hv
    rw [List.getD_eq_getElem?_getD, List.getElem?_eq_getElem (by omega)]
    exact hv)
  rw [bc_len, hx] at hl
  have i23 : (Try.prog.info? 23).map (·.size) = some 32 := by kernel_rfl
  have hagg : (isAgg 23).run Try.prog W = .ok true W := by
    unfold isAgg
    rw [Sem.run_bind, run_underlying Try.underlying23 W]
    rfl
  have hb : (bc x).toArray = brw 32 x := (brw_full 32 x hx).symm
  rw [hb] at hl
  cases hq : Try.prog.info? 23 with
  | none => simp [hq] at i23
  | some i =>
    have hs : i.size = 32 := by simpa [hq] using i23
    simp [Instr.loadAt, Instr.sureAddr, loadVar, Sem.run_bind, hagg, sizeOf, typeInfo, hq, hs, hl]
theorem exec_load_hash {o : Oper} {f : Operand → Value} {W : World} (p : Operand) (ho : o.op = .load 23 p) (a : Addr) (hp : f p = .pointer (some a)) (x : List UInt8) (hx : x.length = 32) (h : ∀ i, i < 32 → W.cell? (a.add i) = some (.int .u8 (x.getD i 0).toNat)) : (execOp f o).run Try.prog W = .ok (.value (.agg (brw 32 x))) W := by
  unfold execOp
  simp only [ho, hp, Sem.run_bind, Sem.run_pure, Result.andThen_ok, run_load_hash a x hx h]
theorem wpList_load_hash {ops : Array Oper} {rest : List Oper} {op : Oper} {act : Act} {W : World} {Q : Exit → Act → World → Prop} (hgd : op.guard = none) (p : Operand) (ho : op.op = .load 23 p) (a : Addr) (hp : act.eval p = .pointer (some a)) (x : List UInt8) (hx : x.length = 32) (h : ∀ i, i < 32 → W.cell? (a.add i) = some (.int .u8 (x.getD i 0).toNat))
    (hk : wpList Try.prog ops Q rest (act.put op.dst (.agg (brw 32 x))) W) : wpList Try.prog ops Q (op :: rest) act W :=
  Kd.event_run hgd (v := .agg (brw 32 x)) (w1 := W) (exec_load_hash p ho a hp x hx h) hk
theorem hread_at {rows : List (List UInt8)} {W : World} {ad : Addr} (h : HRead (some ad) rows W) (j : Nat) (hj : j < rows.length) : ∀ i, i < 32 → W.cell? ((ad.add (j * 32)).add i) = some (.int .u8 ((rows.getD j []).getD i 0).toNat) := by
  intro i hi
  obtain ⟨ad', e, hc⟩ := h.2 (by omega)
  injection e with e
  subst e
  rw [Addr.add_add]
  exact hc j i hj hi
theorem hread_len {A : Option Addr} {rows : List (List UInt8)} {W : World} (h : HRead A rows W) (j : Nat) (hj : j < rows.length) : (rows.getD j []).length = 32 := by
  rw [List.getD_eq_getElem?_getD, List.getElem?_eq_getElem hj]
  exact h.1 _ (List.getElem_mem hj)
theorem exec_append31 {o : Oper} {f : Operand → Value} {W W' : World} {v' : Value} (s x : Operand) (ho : o.op = .call { callee := .builtin .append, args := #[s, x], argTypes := #[31, 31] }) (hty : o.type = 31) (v u : Value) (hs : f s = v) (hx : f x = u)
    (hr : (Builtin.append_ #[31, 31] 31 #[v, u]).run Try.prog W = .ok v' W') : (execOp f o).run Try.prog W = .ok (.value v') W' := by
  unfold execOp
  simp only [ho, hty, resolve, invoke, builtin, Sem.run_bind, Sem.run_pure, Result.andThen_ok, List.map_toArray, List.map_cons, List.map_nil, hs, hx, hr]
end Go.Proofs.Ythpnppfpmhlkaaa.Sha
