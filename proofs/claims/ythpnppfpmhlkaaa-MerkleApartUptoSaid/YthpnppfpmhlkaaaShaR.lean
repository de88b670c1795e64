/- Chapter 2: a row of bytes, marks or none, and one byte more. -/
import Derived.Test.YthpnppfpmhlkaaaShaX
import Derived.ArgAppend
namespace Go.Proofs.Ythpnppfpmhlkaaa.Sha
open Go.RowKit Go.Proofs.Ythpnppfpmhlkaaa.X Go.Proofs.YthpnppfpmhlkaaaW.PrintWords Go.Proofs.YthpnppfpmhlkaaaW.PrintLast Go.Proofs.YthpnppfpmhlkaaaW.PrintMore
set_option linter.unusedVariables false
set_option linter.unusedSimpArgs false

/-- A row of bytes of one's own: its block lies behind base, no cell of it is frozen. -/
def BRow (base : Nat) (v : Value) (l : List UInt8) (W : World) : Prop :=
  ∃ g cap cs fr, v = .slice (some ⟨g, 0, none⟩) l.length cap ∧ base ≤ g ∧ W.heap[g]? = some (.cells cs 5 fr) ∧ (∀ j, j < cs.size → W.frozen? ⟨g, j, none⟩ = false) ∧ cs.size = cap ∧ l.length ≤ cap ∧ cs.toList.take l.length = Lib.byteCells l
theorem bytes_brow (W : World) (l : List UInt8) : BRow W.heap.size (.slice (some ⟨W.heap.size, 0, none⟩) l.length (grownCap W l.length 0 5)) l (Lib.bytesWorld W 5 (tx l)) := by
  have hz : (tx l).size = l.length := tx_size l
  have hcs : (Lib.bytesCells W 5 (tx l)).size = grownCap W l.length 0 5 := by
    unfold Lib.bytesCells
    rw [hz]
    have hg := grownCap_ge W l.length 0 5
    simp [tx]
    omega
  refine ⟨W.heap.size, _, Lib.bytesCells W 5 (tx l), _, rfl, Nat.le_refl _, Lib.bytesWorld_at_new W 5 (tx l), ?_, hcs, ?_, ?_⟩
  · intro j hj
    unfold World.frozen?
    rw [Lib.bytesWorld_at_new W 5 (tx l)]
    simp
    omega
  · exact grownCap_ge W l.length 0 5
  · unfold Lib.bytesCells
    rw [Array.toList_append, List.take_append_of_le_length (by simp [tx])]
    simp [tx, Lib.byteCells]
    exact List.take_of_length_le (by simp)
/-- One byte goes into the room. -/
theorem run_append_in (P : Program) (w : World) (t ty e : TypeId) (i : TypeInfo) (ht : P.underlying t = some (.slice e)) (hi : P.info? e = some i) (h1 : i.size = 1)
    (g sLen sCap : Nat) (a : Addr) (c : Nat) (u : Value) (hu : w.cell? a = some u) (ho : u.oneCell' = true) (hroom : sLen + 1 ≤ sCap)
    (hc : (w.cell? ⟨g, sLen, none⟩).isSome = true) (hf : w.frozen? ⟨g, sLen, none⟩ = false) :
    (Builtin.append_ #[t, t] ty #[.slice (some ⟨g, 0, none⟩) sLen sCap, .slice (some a) 1 c]).run P w = .ok (.slice (some ⟨g, 0, none⟩) (sLen + 1) sCap) (w.setCell ⟨g, sLen, none⟩ u) := by
  have ha : a.add 0 = a := by unfold Addr.add; cases a; simp
  have hfc := run_firstCells_some (P := P) w i.size 1 a 1 c [u] (by rw [h1]; rfl) (fun j v hv => by
    cases j with
    | zero => simp at hv; subst hv; rw [ha]; exact hu
    | succ j => simp at hv)
  have hst := run_storeCells_cells (P := P) g sLen [u] 0 w (fun j hj => by
    have : j = 0 := by simpa using hj
    subst this; simpa using hc) (fun j hj => by
    have : j = 0 := by simpa using hj
    subst this; simpa using hf) (fun v hv => by
    have : v = u := by simpa using hv
    subst this; exact ho)
  simp only [Nat.add_zero] at hst
  simp [Builtin.append_, run_underlying ht, sizeOf, typeInfo, hi, Builtin.lenOf, hroom, hfc, Addr.add_lit, hst, h1]
  rw [h1] at hfc
  rw [hfc]
  simp only [Result.andThen_ok]
  rw [hst]
  rfl
/-- append(row, byte): a row of one byte more. -/
theorem append_brow (base : Nat) (v : Value) (l : List UInt8) (c0 : UInt8) (w0 W : World) (a : Addr) (c : Nat) (hr : BRow base v l W) (hB : Below base w0 W) (hbase : base ≤ W.heap.size) (hu : W.cell? a = some (.int .u8 c0.toNat)) (hl : l.length + 1 ≤ 140737488355328) :
    ∃ v' W', (Builtin.append_ #[44, 44] 44 #[v, .slice (some a) 1 c]).run Try.prog W = .ok v' W' ∧ BRow base v' (l ++ [c0]) W' ∧ Below base w0 W' ∧ ∀ (i : Nat) (o : Obj), i < base → W.heap[i]? = some o → W'.heap[i]? = some o := by
  obtain ⟨g, cap, cs, fr, rfl, hg, hh, hf, hs, hlc, ht⟩ := hr
  obtain ⟨i0, hi, hz0, hz1, hz2⟩ := info_parts info5
  by_cases hroom : l.length + 1 ≤ cap
  · have hlt : l.length < cs.size := by omega
    have hcell : W.cell? ⟨g, l.length, none⟩ = cs[l.length]? := cell_of_row W g l.length cs 5 fr hh
    have hc : (W.cell? ⟨g, l.length, none⟩).isSome = true := by rw [hcell, Array.getElem?_eq_getElem hlt]; rfl
    refine ⟨_, _, run_append_in Try.prog W 44 44 5 i0 Try.underlying44 hi hz1 g l.length cap a c _ hu rfl hroom hc (hf _ hlt), ?_, hB.setCell hg _, fun i o hi2 hw => (Below.heap_setCell W ⟨g, l.length, none⟩ _ i (by show i ≠ g; omega)).trans hw⟩
    have hh' : (W.setCell ⟨g, l.length, none⟩ (.int .u8 c0.toNat)).heap[g]? = some (.cells (cs.setIfInBounds l.length (.int .u8 c0.toNat)) 5 fr) := by
      simp [World.setCell, Array.getElem?_modify, hh]
    refine ⟨g, cap, _, fr, by rw [List.length_append]; rfl, hg, hh', fun j hj => ?_, by rw [Array.size_setIfInBounds]; exact hs, by rw [List.length_append]; exact hroom, ?_⟩
    · have h1 := hf j (by rw [Array.size_setIfInBounds] at hj; exact hj)
      unfold World.frozen? at h1 ⊢
      rw [hh']; rw [hh] at h1; exact h1
    · rw [Array.toList_setIfInBounds, List.set_eq_take_append_cons_drop, if_pos (by rw [Array.length_toList]; exact hlt), List.length_append, ht, List.length_singleton]
      rw [List.take_append, List.take_of_length_le (by rw [Lib.byteCells_length]; omega), Lib.byteCells_length]
      rw [show l.length + 1 - l.length = 1 by omega]
      simp [Lib.byteCells]
  · have hcells : ∀ j u, (Lib.byteCells l)[j]? = some u → W.cell? ((⟨g, 0, none⟩ : Addr).add j) = some u := by
      intro j u hj
      have hadd : (⟨g, 0, none⟩ : Addr).add j = ⟨g, j, none⟩ := by unfold Addr.add; split <;> simp_all
      rw [hadd, cell_of_row W g j cs 5 fr hh, ← Array.getElem?_toList]
      rw [← ht] at hj
      rw [List.getElem?_take] at hj
      split at hj
      · exact hj
      · cases hj
    have hnew : ∀ j u, ([Value.int .u8 c0.toNat] : List Value)[j]? = some u → W.cell? (a.add j) = some u := by
      intro j u hj
      cases j with
      | zero => simp at hj; subst hj; have ha : a.add 0 = a := by (unfold Addr.add; cases a; simp)
                rw [ha]; exact hu
      | succ j => simp at hj
    obtain ⟨v', W', hrun, hown, hgr⟩ := run_append_arg_grows (P := Try.prog) W 44 44 5 i0 (.int .u8 0) 1 1 Try.underlying44 hi hz0 hz1 hz2 rfl (by omega) ⟨g, 0, none⟩ l.length cap (Lib.byteCells l) (by rw [Lib.byteCells_length, Nat.mul_one]) hcells a 1 c [.int .u8 c0.toNat] rfl hnew (by omega) (by simp only [maxLen]; omega) (by omega)
    refine ⟨v', W', hrun, ?_, hB.grown hgr hbase (by simp), fun i o hi2 hw => ?_⟩
    · rcases hown.2 with ⟨_, h0⟩ | ⟨g', cap', cur, rfl, hb', hh', hn', hm', hsz', htk'⟩
      · omega
      · refine ⟨g', cap', cur, (0, 0), by rw [List.length_append]; rfl, Nat.le_trans hbase hb', hh', fun j hj => by unfold World.frozen?; rw [hh']; simp, by omega, by rw [List.length_append]; exact hn', ?_⟩
        rw [List.length_append, List.length_singleton]
        rw [Nat.mul_one] at htk'
        rw [htk']; simp [Lib.byteCells]
    · exact blk_grown (o := o) hw hgr (by simp)
theorem wpList_append_brow {ops : Array Oper} {rest : List Oper} {o : Oper} {act : Act} {W : World} {Q : Exit → Act → World → Prop} (hgd : o.guard = none) (s x : Operand) (ho : o.op = .call { callee := .builtin .append, args := #[s, x], argTypes := #[44, 44] }) (hty : o.type = 44)
    (base : Nat) (v : Value) (l : List UInt8) (c0 : UInt8) (w0 : World) (a : Addr) (c : Nat) (hs : act.eval s = v) (hx : act.eval x = .slice (some a) 1 c) (hr : BRow base v l W) (hB : Below base w0 W) (hbase : base ≤ W.heap.size) (hu : W.cell? a = some (.int .u8 c0.toNat)) (hl : l.length + 1 ≤ 140737488355328)
    (h : ∀ v' W', BRow base v' (l ++ [c0]) W' → Below base w0 W' → wpList Try.prog ops Q rest (act.put o.dst v') W') : wpList Try.prog ops Q (o :: rest) act W := by
  obtain ⟨v', W', hr1, hr2, hr3, _⟩ := append_brow base v l c0 w0 W a c hr hB hbase hu hl
  refine Kd.event_run hgd (v := v') (w1 := W') ?_ (h v' W' hr2 hr3)
  unfold execOp
  simp only [ho, hty, resolve, invoke, builtin, Sem.run_bind, Sem.run_pure, Result.andThen_ok, List.map_toArray, List.map_cons, List.map_nil, hs, hx, hr1]
theorem brow_below {base : Nat} {v : Value} {l : List UInt8} {W W' : World} (h : BRow base v l W) (hb : Below W.heap.size W W') : BRow base v l W' := by
  obtain ⟨g, cap, cs, fr, e, hg, hh, hf, hs, hl, ht⟩ := h
  have hh' := blk_below hh hb
  refine ⟨g, cap, cs, fr, e, hg, hh', fun j hj => ?_, hs, hl, ht⟩
  have h1 := hf j hj
  unfold World.frozen? at h1 ⊢
  rw [hh']; rw [hh] at h1; exact h1
theorem brow_len {base : Nat} {v : Value} {l : List UInt8} {W : World} (h : BRow base v l W) : ∃ A c, v = .slice A l.length c := by
  obtain ⟨g, cap, cs, fr, e, _⟩ := h
  exact ⟨_, _, e⟩
def slLen : Value → Nat
  | .slice _ n _ => n
  | _ => 0
/-- An array of n bytes, of which the first are written. -/
def brw (n : Nat) (ws : List UInt8) : Array Value := (ws.map (fun x => Value.int .u8 x.toNat) ++ List.replicate (n - ws.length) (Value.int .u8 0)).toArray
theorem brw_new (n : Nat) (ws : List UInt8) (i : Nat) (h : ws.length ≤ i) (hn : i < n) : (brw n ws)[i]? = some (.int .u8 0) := by
  unfold brw
  rw [List.getElem?_toArray, List.getElem?_append_right (by rw [List.length_map]; exact h), List.getElem?_replicate, if_pos (by rw [List.length_map]; omega)]
theorem brw_at (n : Nat) (ws : List UInt8) (i : Nat) (h : i < ws.length) : (brw n ws)[i]? = some (.int .u8 (ws.getD i 0).toNat) := by
  unfold brw
  rw [List.getElem?_toArray, List.getElem?_append_left (by rw [List.length_map]; exact h), List.getElem?_map, List.getElem?_eq_getElem h, List.getD_eq_getElem?_getD, List.getElem?_eq_getElem h]; rfl
theorem brw_set (n : Nat) (ws : List UInt8) (x : UInt8) (h : ws.length < n) : (brw n ws).setIfInBounds ws.length (.int .u8 x.toNat) = brw n (ws ++ [x]) := by
  unfold brw
  rw [List.setIfInBounds_toArray, List.set_append_right _ _ (by rw [List.length_map]; exact Nat.le_refl _), List.length_map, Nat.sub_self]
  obtain ⟨m, hm⟩ : ∃ m, n - ws.length = m + 1 := ⟨n - ws.length - 1, by omega⟩
  rw [hm, List.replicate_succ, List.set_cons_zero, List.map_append, List.length_append]
  rw [show n - (ws.length + [x].length) = m by simp; omega, List.append_assoc]; rfl
theorem brw_size (n : Nat) (ws : List UInt8) (h : ws.length ≤ n) : (brw n ws).size = n := by
  unfold brw; rw [List.size_toArray, List.length_append, List.length_map, List.length_replicate]; omega
theorem brw_one (n : Nat) (ws : List UInt8) : (brw n ws).all (·.oneCell') = true := by
  unfold brw
  rw [List.all_toArray, List.all_append, List.all_map, List.all_replicate]
  have h1 : ws.all ((fun x => x.oneCell') ∘ fun x => Value.int .u8 x.toNat) = true := List.all_eq_true.2 fun _ _ => rfl
  rw [h1]; simp [Value.oneCell']
theorem brw_full (n : Nat) (ws : List UInt8) (h : ws.length = n) : brw n ws = (ws.map fun x => Value.int .u8 x.toNat).toArray := by
  unfold brw; rw [h, Nat.sub_self, List.replicate_zero, List.append_nil]
end Go.Proofs.Ythpnppfpmhlkaaa.Sha
