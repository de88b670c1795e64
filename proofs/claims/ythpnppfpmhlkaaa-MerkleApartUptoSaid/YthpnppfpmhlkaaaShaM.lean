/- Chapter 2: the document's padded text. -/
import Derived.Test.YthpnppfpmhlkaaaShaS
import Derived.Deep.DeepAppendWide
import Derived.Lib.AppendStr
namespace Go.Proofs.Ythpnppfpmhlkaaa.Sha
open Go.RowKit Go.Proofs.Ythpnppfpmhlkaaa.X Go.Proofs.YthpnppfpmhlkaaaW.PrintWords Go.Proofs.YthpnppfpmhlkaaaW.PrintLast Go.Proofs.YthpnppfpmhlkaaaW.PrintMore
set_option linter.unusedVariables false
set_option linter.unusedSimpArgs false

/-- A row of bytes of one's own, nil or not. -/
def ORow (base : Nat) (v : Value) (l : List UInt8) (W : World) : Prop := W.ownsRow base 5 1 v l.length (Lib.byteCells l)
theorem orow_nil (base : Nat) (W : World) : ORow base (.slice none 0 0) [] W := World.ownsRow_nil W base 5 1
theorem orow_below {base : Nat} {v : Value} {l : List UInt8} {W W' : World} (h : ORow base v l W) (hb : Below W.heap.size W W') : ORow base v l W' := by
  refine ⟨h.1, ?_⟩
  rcases h.2 with ⟨h1, h2⟩ | ⟨g, cap, cur, h1, h2, h3, h4⟩
  · exact .inl ⟨h1, h2⟩
  · exact .inr ⟨g, cap, cur, h1, h2, blk_below h3 hb, h4⟩
theorem orow_len {base : Nat} {v : Value} {l : List UInt8} {W : World} (h : ORow base v l W) : ∃ A c, v = .slice A l.length c := own_slice h
theorem orow_own {base : Nat} {v : Value} {l : List UInt8} {W : World} (h : ORow base v l W) (k : Nat) (hk : v.ownBlock = some k) : base ≤ k := by
  rcases h.2 with ⟨rfl, _⟩ | ⟨g, cap, cur, rfl, hg, _⟩
  · simp [Value.ownBlock] at hk
  · have : g = k := by simpa [Value.ownBlock] using hk
    omega
/-- append(row, bytes ...): some bytes more. -/
theorem append_orow (base : Nat) (v : Value) (l t : List UInt8) (w0 W : World) (a : Addr) (c : Nat) (hr : ORow base v l W) (hB : Below base w0 W) (hbase : base ≤ W.heap.size) (hu : ∀ j u, (Lib.byteCells t)[j]? = some u → W.cell? (a.add j) = some u) (hl : l.length + t.length ≤ 140737488356000) :
    ∃ v' W', (Builtin.append_ #[44, 44] 44 #[v, .slice (some a) t.length c]).run Try.prog W = .ok v' W' ∧ ORow base v' (l ++ t) W' ∧ Below base w0 W' := by
  obtain ⟨i0, hi, hz0, hz1, hz2⟩ := info_parts info5
  obtain ⟨v', W', h1, h2, h3, _⟩ := run_append_own_wide (P := Try.prog) W base 44 44 5 i0 (.int .u8 0) 1 1 Try.underlying44 hi hz0 hz1 hz2 rfl (by omega) v l.length (Lib.byteCells l) hr a t.length c (Lib.byteCells t) (by rw [Lib.byteCells_length, Nat.mul_one]) hu (by
    intro u hu
    simp only [Lib.byteCells, List.mem_map] at hu
    obtain ⟨b, _, rfl⟩ := hu
    rfl) (by simp only [maxLen]; omega) (by omega) hbase
  refine ⟨v', W', h1, ?_, hB.grown h3 hbase (fun k hk => orow_own hr k hk)⟩
  unfold ORow
  have e : Lib.byteCells (l ++ t) = Lib.byteCells l ++ Lib.byteCells t := by simp [Lib.byteCells]
  rw [List.length_append, e]
  exact h2
theorem append_ostr (base : Nat) (v : Value) (l t : List UInt8) (w0 W : World) (hr : ORow base v l W) (hB : Below base w0 W) (hbase : base ≤ W.heap.size) (hl : l.length + t.length ≤ 140737488355328) :
    ∃ v' W', (Builtin.append_ #[44, 9] 44 #[v, .string (tx t)]).run Try.prog W = .ok v' W' ∧ ORow base v' (l ++ t) W' ∧ Below base w0 W' := by
  obtain ⟨i0, hi, hz0, hz1, hz2⟩ := info_parts info5
  have hts := tx_size t
  obtain ⟨v', W', h1, h2, h3, _⟩ := Lib.run_append_own_string (P := Try.prog) W base 44 9 44 5 i0 Try.underlying44 Try.underlying9 hi hz0 hz1 hz2 v l.length (Lib.byteCells l) hr (tx t) (by simp only [maxLen]; omega) (by omega) hbase
  refine ⟨v', W', h1, ?_, hB.grown h3 hbase (fun k hk => orow_own hr k hk)⟩
  unfold ORow
  have e : Lib.byteCells (l ++ t) = Lib.byteCells l ++ Lib.strCells (tx t) := by simp [Lib.byteCells, Lib.strCells, tx]
  rw [List.length_append, e, ← hts]
  exact h2
theorem wpList_append_orow {ops : Array Oper} {rest : List Oper} {o : Oper} {act : Act} {W : World} {Q : Exit → Act → World → Prop} (hgd : o.guard = none) (s x : Operand) (ho : o.op = .call { callee := .builtin .append, args := #[s, x], argTypes := #[44, 44] }) (hty : o.type = 44)
    (base : Nat) (v : Value) (l t : List UInt8) (w0 : World) (a : Addr) (c : Nat) (hs : act.eval s = v) (hx : act.eval x = .slice (some a) t.length c) (hr : ORow base v l W) (hB : Below base w0 W) (hbase : base ≤ W.heap.size) (hu : ∀ j u, (Lib.byteCells t)[j]? = some u → W.cell? (a.add j) = some u) (hl : l.length + t.length ≤ 140737488356000)
    (h : ∀ v' W', ORow base v' (l ++ t) W' → Below base w0 W' → wpList Try.prog ops Q rest (act.put o.dst v') W') : wpList Try.prog ops Q (o :: rest) act W := by
  obtain ⟨v', W', hr1, hr2, hr3⟩ := append_orow base v l t w0 W a c hr hB hbase hu hl
  refine Kd.event_run hgd (v := v') (w1 := W') ?_ (h v' W' hr2 hr3)
  unfold execOp
  simp only [ho, hty, resolve, invoke, builtin, Sem.run_bind, Sem.run_pure, Result.andThen_ok, List.map_toArray, List.map_cons, List.map_nil, hs, hx, hr1]
theorem wpList_append_ostr {ops : Array Oper} {rest : List Oper} {o : Oper} {act : Act} {W : World} {Q : Exit → Act → World → Prop} (hgd : o.guard = none) (s x : Operand) (ho : o.op = .call { callee := .builtin .append, args := #[s, x], argTypes := #[44, 9] }) (hty : o.type = 44)
    (base : Nat) (v : Value) (l t : List UInt8) (w0 : World) (hs : act.eval s = v) (hx : act.eval x = .string (tx t)) (hr : ORow base v l W) (hB : Below base w0 W) (hbase : base ≤ W.heap.size) (hl : l.length + t.length ≤ 140737488355328)
    (h : ∀ v' W', ORow base v' (l ++ t) W' → Below base w0 W' → wpList Try.prog ops Q rest (act.put o.dst v') W') : wpList Try.prog ops Q (o :: rest) act W := by
  obtain ⟨v', W', hr1, hr2, hr3⟩ := append_ostr base v l t w0 W hr hB hbase hl
  refine Kd.event_run hgd (v := v') (w1 := W') ?_ (h v' W' hr2 hr3)
  unfold execOp
  simp only [ho, hty, resolve, invoke, builtin, Sem.run_bind, Sem.run_pure, Result.andThen_ok, List.map_toArray, List.map_cons, List.map_nil, hs, hx, hr1]
theorem one_cell {W : World} {a : Addr} {b : UInt8} (h : W.cell? a = some (.int .u8 b.toNat)) : ∀ j u, (Lib.byteCells [b])[j]? = some u → W.cell? (a.add j) = some u := by
  intro j u hj
  cases j with
  | zero =>
    simp [Lib.byteCells] at hj; subst hj
    have ha : a.add 0 = a := by unfold Addr.add; cases a; simp
    rw [ha]; exact h
  | succ j => simp [Lib.byteCells] at hj
theorem be_val (v : BitVec 64) (j : Nat) (m : Int) (hm : m = (2 : Int) ^ (8 * (7 - j))) : (v.toNat : Int) / m % 256 = ((UInt8.ofNat (v.toNat / 2 ^ (8 * (7 - j)) % 256)).toNat : Int) := by
  rw [hm, UInt8.toNat_ofNat_of_lt' (Nat.mod_lt _ (by decide)), Int.natCast_emod, Int.natCast_ediv, Int.natCast_pow]
  rfl
theorem be_val7 (v : BitVec 64) : (v.toNat : Int) % 256 = ((UInt8.ofNat (v.toNat / 2 ^ (8 * (7 - 7)) % 256)).toNat : Int) := by
  rw [← be_val v 7 1 rfl, Int.ediv_one]
theorem be_val0 (v : BitVec 64) : (v.toNat : Int) / 72057594037927936 = ((UInt8.ofNat (v.toNat / 2 ^ (8 * (7 - 0)) % 256)).toNat : Int) := by
  rw [← be_val v 0 72057594037927936 rfl]
  have := v.isLt
  omega
theorem wrap8 (n : Nat) : IntKind.u64.wrap (IntKind.u64.wrap (n : Int) * 8) = ((BitVec.ofNat 64 (8 * n)).toNat : Int) := by
  have w : ∀ n : Int, IntKind.u64.wrap n = n % 18446744073709551616 := fun _ => rfl
  rw [w, w, BitVec.toNat_ofNat]
  show _ = ((8 * n % 18446744073709551616 : Nat) : Int)
  omega
set_option maxHeartbeats 8000000 in
set_option maxRecDepth 100000 in
theorem padded_calls (l : List UInt8) (w : World) (hl : l.length ≤ 140737488355328) :
    Calls Try.prog 32 #[.string (tx l)] w fun e w' => ∃ v, e = .returned v ∧ ORow w.heap.size v (l ++ tailOf l.length (BitVec.ofNat 64 (8 * l.length))) w' ∧ Below w.heap.size w w' := by
  have hts := tx_size l
  have HL := Aside0.mk hl
  have RN : Aside0 (ORow w.heap.size (.slice none 0 0) [] w) := ⟨orow_nil _ _⟩
  clear hl
  go_enter Try.func32, Try.ntmps32
  go_wp2_with (first
    | ((with_reducible refine gate_builtin (b := .append) (xs := #[.const (.slice none 0 0), .tmp 6]) rfl ?_); go_loud (refine wpList_append_ostr rfl (.const (.slice none 0 0)) (.tmp 6) rfl rfl w.heap.size _ [] l w rfl rfl RN.out (Below.refl _ _) (Nat.le_refl _) (by have := HL.out; simpa using this) ?_); intro v1 w1 hr hb; have R1 : Aside0 (ORow w.heap.size v1 l w1) := ⟨hr⟩; have E1 := Aside0.mk hb; clear hr hb RN)
    | ((with_reducible refine gate_builtin (b := .append) (xs := #[.tmp 8, .tmp 9]) rfl ?_); go_loud (refine wpList_append_orow rfl (.tmp 8) (.tmp 9) rfl rfl w.heap.size _ l [128] w ⟨_, 0, none⟩ _ rfl rfl (orow_below R1.out (below_alloc (Below.refl _ _) _)) (below_alloc E1.out _) (below_alloc E1.out _).size (one_cell ((blk_cell (blk_new _ _) 0).trans rfl)) (by have := HL.out; rw [List.length_singleton]; omega) ?_); intro v2 w2 hr hb; have R2 := Aside0.mk hr; have E2 := Aside0.mk hb; clear hr hb R1 E1))
  go_loopw [3] (fun v W => ∃ z, z ≤ pz l.length ∧ Aside0 (ORow w.heap.size v (l ++ [128] ++ List.replicate z 0) W) ∧ Aside0 (Below w.heap.size w W)) (fun v _ => l.length + 200 - slLen v)
  case atStart => exact ⟨0, Nat.zero_le _, ⟨by rw [List.replicate_zero, List.append_nil]; exact R2.out⟩, E2⟩
  case round =>
    clear R2 E2
    obtain ⟨z, hz, R1, E1⟩ := hrel
    obtain ⟨A, c, ev⟩ := orow_len R1.out
    subst ev
    obtain ⟨L, hL⟩ : ∃ L, L = l ++ [128] ++ List.replicate z 0 := ⟨_, rfl⟩
    rw [← hL] at R1
    rw [← hL]
    have hLl : L.length = l.length + 1 + z := by rw [hL]; simp; omega
    have hmod := pz_mod l.length
    have hplt := pz_lt l.length
    by_cases hlt : z < pz l.length
    · have q1 : (((L.length : Int) % 64) != 56) = true := bne_iff_ne.mpr (by omega)
      have hLs : Aside0 (L.length + [(0 : UInt8)].length ≤ 140737488356000) := ⟨by have := HL.out; rw [List.length_singleton]; omega⟩
      have HLE := Aside0.mk hL
      have HLL := Aside0.mk hLl
      clear hL hLl hmod hplt
      go_wp2_with ((with_reducible refine gate_builtin (b := .append) (xs := #[.tmp 15, .tmp 16]) rfl ?_); go_loud (refine wpList_append_orow rfl (.tmp 15) (.tmp 16) rfl rfl w.heap.size _ L [0] w ⟨_, 0, none⟩ _ rfl rfl (orow_below R1.out (below_alloc (Below.refl _ _) _)) (below_alloc E1.out _) (below_alloc E1.out _).size (one_cell ((blk_cell (blk_new _ _) 0).trans rfl)) hLs.out ?_); intro v2 w2 hr2 hb2; have R2 := Aside0.mk hr2; have E2 := Aside0.mk hb2; clear hr2 hb2)
      obtain ⟨A2, c2, ev2⟩ := orow_len R2.out
      refine ⟨⟨z + 1, by omega, ⟨?_⟩, E2⟩, ?_⟩
      · have h := R2.out
        rw [HLE.out, List.append_assoc (l ++ [128]), ← List.replicate_succ'] at h
        exact h
      · rw [ev2]
        show l.length + 200 - (L ++ [0]).length < l.length + 200 - L.length
        have h1 := HLL.out
        have h2 := pz_lt l.length
        rw [List.length_append, List.length_singleton]; omega
    · have q1 : (((L.length : Int) % 64) != 56) = false := bne_eq_false_iff_eq.mpr (by omega)
      obtain rfl : z = pz l.length := by omega
      have HLE := Aside0.mk hL
      have HLL := Aside0.mk hLl
      clear hL hLl hmod hplt hlt hz
      go_wp2
      have hw8 := wrap8 l.length
      rw [hw8]
      obtain ⟨N, hN⟩ : ∃ N, N = BitVec.ofNat 64 (8 * l.length) := ⟨_, rfl⟩
      rw [← hN]
      have HN := Aside0.mk hN
      clear hw8 hN
      go_loopw [3, 5] (fun v k W => ∃ j : Nat, j ≤ 8 ∧ k = .int .i64 (7 - (j : Int)) ∧ Aside0 (ORow w.heap.size v (L ++ (be8 N).take j) W) ∧ Aside0 (Below w.heap.size w W)) (fun v _ _ => l.length + 200 - slLen v)
      case atStart => exact ⟨0, Nat.zero_le _, rfl, ⟨by rw [List.take_zero, List.append_nil]; exact R1.out⟩, E1⟩
      case round =>
        clear R1 E1
        obtain ⟨j, hj, rfl, R1, E1⟩ := hrel
        obtain ⟨A, c, ev⟩ := orow_len R1.out
        subst ev
        have cases : j = 0 ∨ j = 1 ∨ j = 2 ∨ j = 3 ∨ j = 4 ∨ j = 5 ∨ j = 6 ∨ j = 7 ∨ j = 8 := by omega
        rcases cases with rfl | rfl | rfl | rfl | rfl | rfl | rfl | rfl | rfl
        · have hLs : Aside0 ((L ++ (be8 N).take 0).length + [(0 : UInt8)].length ≤ 140737488356000) := ⟨by have h1 := HLL.out; have h2 := pz_lt l.length; have h3 := HL.out; rw [List.length_append, List.length_take, List.length_singleton]; omega⟩
          go_wp2_with ((with_reducible refine gate_builtin (b := .append) (xs := #[.tmp 26, .tmp 33]) rfl ?_); go_loud (refine wpList_append_orow rfl (.tmp 26) (.tmp 33) rfl rfl w.heap.size _ (L ++ (be8 N).take 0) [UInt8.ofNat (N.toNat / 2 ^ (8 * (7 - 0)) % 256)] w ⟨_, 0, none⟩ _ rfl rfl (orow_below R1.out (below_alloc (Below.refl _ _) _)) (below_alloc E1.out _) (below_alloc E1.out _).size (one_cell ((blk_cell (blk_new _ _) 0).trans (congrArg some (congrArg (Value.int .u8) (be_val0 N))))) hLs.out ?_); intro v2 w2 hr2 hb2; have R2 := Aside0.mk hr2; have E2 := Aside0.mk hb2; clear hr2 hb2)
          obtain ⟨A2, c2, ev2⟩ := orow_len R2.out
          refine ⟨⟨1, by omega, rfl, ⟨?_⟩, E2⟩, ?_⟩
          · have h := R2.out
            rw [List.append_assoc L, ← be8_step N 0 (by decide)] at h
            exact h
          · rw [ev2]
            show l.length + 200 - (L ++ (be8 N).take 0 ++ [_]).length < l.length + 200 - (L ++ (be8 N).take 0).length
            have h1 := HLL.out
            have h2 := pz_lt l.length
            rw [List.length_append, List.length_singleton, List.length_append, List.length_take]; omega
        · have hLs : Aside0 ((L ++ (be8 N).take 1).length + [(0 : UInt8)].length ≤ 140737488356000) := ⟨by have h1 := HLL.out; have h2 := pz_lt l.length; have h3 := HL.out; rw [List.length_append, List.length_take, List.length_singleton]; omega⟩
          go_wp2_with ((with_reducible refine gate_builtin (b := .append) (xs := #[.tmp 26, .tmp 33]) rfl ?_); go_loud (refine wpList_append_orow rfl (.tmp 26) (.tmp 33) rfl rfl w.heap.size _ (L ++ (be8 N).take 1) [UInt8.ofNat (N.toNat / 2 ^ (8 * (7 - 1)) % 256)] w ⟨_, 0, none⟩ _ rfl rfl (orow_below R1.out (below_alloc (Below.refl _ _) _)) (below_alloc E1.out _) (below_alloc E1.out _).size (one_cell ((blk_cell (blk_new _ _) 0).trans (congrArg some (congrArg (Value.int .u8) (be_val N 1 281474976710656 rfl))))) hLs.out ?_); intro v2 w2 hr2 hb2; have R2 := Aside0.mk hr2; have E2 := Aside0.mk hb2; clear hr2 hb2)
          obtain ⟨A2, c2, ev2⟩ := orow_len R2.out
          refine ⟨⟨2, by omega, rfl, ⟨?_⟩, E2⟩, ?_⟩
          · have h := R2.out
            rw [List.append_assoc L, ← be8_step N 1 (by decide)] at h
            exact h
          · rw [ev2]
            show l.length + 200 - (L ++ (be8 N).take 1 ++ [_]).length < l.length + 200 - (L ++ (be8 N).take 1).length
            have h1 := HLL.out
            have h2 := pz_lt l.length
            rw [List.length_append, List.length_singleton, List.length_append, List.length_take]; omega
        · have hLs : Aside0 ((L ++ (be8 N).take 2).length + [(0 : UInt8)].length ≤ 140737488356000) := ⟨by have h1 := HLL.out; have h2 := pz_lt l.length; have h3 := HL.out; rw [List.length_append, List.length_take, List.length_singleton]; omega⟩
          go_wp2_with ((with_reducible refine gate_builtin (b := .append) (xs := #[.tmp 26, .tmp 33]) rfl ?_); go_loud (refine wpList_append_orow rfl (.tmp 26) (.tmp 33) rfl rfl w.heap.size _ (L ++ (be8 N).take 2) [UInt8.ofNat (N.toNat / 2 ^ (8 * (7 - 2)) % 256)] w ⟨_, 0, none⟩ _ rfl rfl (orow_below R1.out (below_alloc (Below.refl _ _) _)) (below_alloc E1.out _) (below_alloc E1.out _).size (one_cell ((blk_cell (blk_new _ _) 0).trans (congrArg some (congrArg (Value.int .u8) (be_val N 2 1099511627776 rfl))))) hLs.out ?_); intro v2 w2 hr2 hb2; have R2 := Aside0.mk hr2; have E2 := Aside0.mk hb2; clear hr2 hb2)
          obtain ⟨A2, c2, ev2⟩ := orow_len R2.out
          refine ⟨⟨3, by omega, rfl, ⟨?_⟩, E2⟩, ?_⟩
          · have h := R2.out
            rw [List.append_assoc L, ← be8_step N 2 (by decide)] at h
            exact h
          · rw [ev2]
            show l.length + 200 - (L ++ (be8 N).take 2 ++ [_]).length < l.length + 200 - (L ++ (be8 N).take 2).length
            have h1 := HLL.out
            have h2 := pz_lt l.length
            rw [List.length_append, List.length_singleton, List.length_append, List.length_take]; omega
        · have hLs : Aside0 ((L ++ (be8 N).take 3).length + [(0 : UInt8)].length ≤ 140737488356000) := ⟨by have h1 := HLL.out; have h2 := pz_lt l.length; have h3 := HL.out; rw [List.length_append, List.length_take, List.length_singleton]; omega⟩
          go_wp2_with ((with_reducible refine gate_builtin (b := .append) (xs := #[.tmp 26, .tmp 33]) rfl ?_); go_loud (refine wpList_append_orow rfl (.tmp 26) (.tmp 33) rfl rfl w.heap.size _ (L ++ (be8 N).take 3) [UInt8.ofNat (N.toNat / 2 ^ (8 * (7 - 3)) % 256)] w ⟨_, 0, none⟩ _ rfl rfl (orow_below R1.out (below_alloc (Below.refl _ _) _)) (below_alloc E1.out _) (below_alloc E1.out _).size (one_cell ((blk_cell (blk_new _ _) 0).trans (congrArg some (congrArg (Value.int .u8) (be_val N 3 4294967296 rfl))))) hLs.out ?_); intro v2 w2 hr2 hb2; have R2 := Aside0.mk hr2; have E2 := Aside0.mk hb2; clear hr2 hb2)
          obtain ⟨A2, c2, ev2⟩ := orow_len R2.out
          refine ⟨⟨4, by omega, rfl, ⟨?_⟩, E2⟩, ?_⟩
          · have h := R2.out
            rw [List.append_assoc L, ← be8_step N 3 (by decide)] at h
            exact h
          · rw [ev2]
            show l.length + 200 - (L ++ (be8 N).take 3 ++ [_]).length < l.length + 200 - (L ++ (be8 N).take 3).length
            have h1 := HLL.out
            have h2 := pz_lt l.length
            rw [List.length_append, List.length_singleton, List.length_append, List.length_take]; omega
        · have hLs : Aside0 ((L ++ (be8 N).take 4).length + [(0 : UInt8)].length ≤ 140737488356000) := ⟨by have h1 := HLL.out; have h2 := pz_lt l.length; have h3 := HL.out; rw [List.length_append, List.length_take, List.length_singleton]; omega⟩
          go_wp2_with ((with_reducible refine gate_builtin (b := .append) (xs := #[.tmp 26, .tmp 33]) rfl ?_); go_loud (refine wpList_append_orow rfl (.tmp 26) (.tmp 33) rfl rfl w.heap.size _ (L ++ (be8 N).take 4) [UInt8.ofNat (N.toNat / 2 ^ (8 * (7 - 4)) % 256)] w ⟨_, 0, none⟩ _ rfl rfl (orow_below R1.out (below_alloc (Below.refl _ _) _)) (below_alloc E1.out _) (below_alloc E1.out _).size (one_cell ((blk_cell (blk_new _ _) 0).trans (congrArg some (congrArg (Value.int .u8) (be_val N 4 16777216 rfl))))) hLs.out ?_); intro v2 w2 hr2 hb2; have R2 := Aside0.mk hr2; have E2 := Aside0.mk hb2; clear hr2 hb2)
          obtain ⟨A2, c2, ev2⟩ := orow_len R2.out
          refine ⟨⟨5, by omega, rfl, ⟨?_⟩, E2⟩, ?_⟩
          · have h := R2.out
            rw [List.append_assoc L, ← be8_step N 4 (by decide)] at h
            exact h
          · rw [ev2]
            show l.length + 200 - (L ++ (be8 N).take 4 ++ [_]).length < l.length + 200 - (L ++ (be8 N).take 4).length
            have h1 := HLL.out
            have h2 := pz_lt l.length
            rw [List.length_append, List.length_singleton, List.length_append, List.length_take]; omega
        · have hLs : Aside0 ((L ++ (be8 N).take 5).length + [(0 : UInt8)].length ≤ 140737488356000) := ⟨by have h1 := HLL.out; have h2 := pz_lt l.length; have h3 := HL.out; rw [List.length_append, List.length_take, List.length_singleton]; omega⟩
          go_wp2_with ((with_reducible refine gate_builtin (b := .append) (xs := #[.tmp 26, .tmp 33]) rfl ?_); go_loud (refine wpList_append_orow rfl (.tmp 26) (.tmp 33) rfl rfl w.heap.size _ (L ++ (be8 N).take 5) [UInt8.ofNat (N.toNat / 2 ^ (8 * (7 - 5)) % 256)] w ⟨_, 0, none⟩ _ rfl rfl (orow_below R1.out (below_alloc (Below.refl _ _) _)) (below_alloc E1.out _) (below_alloc E1.out _).size (one_cell ((blk_cell (blk_new _ _) 0).trans (congrArg some (congrArg (Value.int .u8) (be_val N 5 65536 rfl))))) hLs.out ?_); intro v2 w2 hr2 hb2; have R2 := Aside0.mk hr2; have E2 := Aside0.mk hb2; clear hr2 hb2)
          obtain ⟨A2, c2, ev2⟩ := orow_len R2.out
          refine ⟨⟨6, by omega, rfl, ⟨?_⟩, E2⟩, ?_⟩
          · have h := R2.out
            rw [List.append_assoc L, ← be8_step N 5 (by decide)] at h
            exact h
          · rw [ev2]
            show l.length + 200 - (L ++ (be8 N).take 5 ++ [_]).length < l.length + 200 - (L ++ (be8 N).take 5).length
            have h1 := HLL.out
            have h2 := pz_lt l.length
            rw [List.length_append, List.length_singleton, List.length_append, List.length_take]; omega
        · have hLs : Aside0 ((L ++ (be8 N).take 6).length + [(0 : UInt8)].length ≤ 140737488356000) := ⟨by have h1 := HLL.out; have h2 := pz_lt l.length; have h3 := HL.out; rw [List.length_append, List.length_take, List.length_singleton]; omega⟩
          go_wp2_with ((with_reducible refine gate_builtin (b := .append) (xs := #[.tmp 26, .tmp 33]) rfl ?_); go_loud (refine wpList_append_orow rfl (.tmp 26) (.tmp 33) rfl rfl w.heap.size _ (L ++ (be8 N).take 6) [UInt8.ofNat (N.toNat / 2 ^ (8 * (7 - 6)) % 256)] w ⟨_, 0, none⟩ _ rfl rfl (orow_below R1.out (below_alloc (Below.refl _ _) _)) (below_alloc E1.out _) (below_alloc E1.out _).size (one_cell ((blk_cell (blk_new _ _) 0).trans (congrArg some (congrArg (Value.int .u8) (be_val N 6 256 rfl))))) hLs.out ?_); intro v2 w2 hr2 hb2; have R2 := Aside0.mk hr2; have E2 := Aside0.mk hb2; clear hr2 hb2)
          obtain ⟨A2, c2, ev2⟩ := orow_len R2.out
          refine ⟨⟨7, by omega, rfl, ⟨?_⟩, E2⟩, ?_⟩
          · have h := R2.out
            rw [List.append_assoc L, ← be8_step N 6 (by decide)] at h
            exact h
          · rw [ev2]
            show l.length + 200 - (L ++ (be8 N).take 6 ++ [_]).length < l.length + 200 - (L ++ (be8 N).take 6).length
            have h1 := HLL.out
            have h2 := pz_lt l.length
            rw [List.length_append, List.length_singleton, List.length_append, List.length_take]; omega
        · have hLs : Aside0 ((L ++ (be8 N).take 7).length + [(0 : UInt8)].length ≤ 140737488356000) := ⟨by have h1 := HLL.out; have h2 := pz_lt l.length; have h3 := HL.out; rw [List.length_append, List.length_take, List.length_singleton]; omega⟩
          go_wp2_with ((with_reducible refine gate_builtin (b := .append) (xs := #[.tmp 26, .tmp 33]) rfl ?_); go_loud (refine wpList_append_orow rfl (.tmp 26) (.tmp 33) rfl rfl w.heap.size _ (L ++ (be8 N).take 7) [UInt8.ofNat (N.toNat / 2 ^ (8 * (7 - 7)) % 256)] w ⟨_, 0, none⟩ _ rfl rfl (orow_below R1.out (below_alloc (Below.refl _ _) _)) (below_alloc E1.out _) (below_alloc E1.out _).size (one_cell ((blk_cell (blk_new _ _) 0).trans (congrArg some (congrArg (Value.int .u8) (be_val7 N))))) hLs.out ?_); intro v2 w2 hr2 hb2; have R2 := Aside0.mk hr2; have E2 := Aside0.mk hb2; clear hr2 hb2)
          obtain ⟨A2, c2, ev2⟩ := orow_len R2.out
          refine ⟨⟨8, by omega, rfl, ⟨?_⟩, E2⟩, ?_⟩
          · have h := R2.out
            rw [List.append_assoc L, ← be8_step N 7 (by decide)] at h
            exact h
          · rw [ev2]
            show l.length + 200 - (L ++ (be8 N).take 7 ++ [_]).length < l.length + 200 - (L ++ (be8 N).take 7).length
            have h1 := HLL.out
            have h2 := pz_lt l.length
            rw [List.length_append, List.length_singleton, List.length_append, List.length_take]; omega
        · have e8 : Aside0 (L ++ List.take 8 (be8 N) = l ++ tailOf l.length N) := ⟨by rw [HLE.out, List.take_of_length_le (by unfold be8; simp)]; unfold tailOf; simp only [List.append_assoc]⟩
          go_wp2
          go_ret
          refine ⟨_, rfl, ?_, E1.out⟩
          rw [← HN.out, ← e8.out]
          exact R1.out
end Go.Proofs.Ythpnppfpmhlkaaa.Sha
