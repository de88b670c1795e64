/- Chapter 7 (the disk): Crash, On. -/
import Derived.Test.YtfagljigaippiaaDkE
import Derived.Maps.Own
import Derived.Maps.OwnOps
import Derived.Maps.Views
namespace Go.Proofs.Ytfagljigaippiaa.Dk
open Go.RowKit Go.Maps Go.Proofs.Ytfagljigaippiaa.X Go.Proofs.YtfagljigaippiaaW.PrintWords Go.Proofs.YtfagljigaippiaaW.PrintLast Go.Proofs.YtfagljigaippiaaW.PrintMore
set_option linter.unusedVariables false
set_option linter.unusedSimpArgs false

def dcr.T11 : Bool × List (List Nat × List Nat) := (true, [([], []), ([0], [0]), ([1], [1]), ([2], [2]), ([], []), ([4], [4]), ([], []), ([6], [6]), ([3, 5, 0, 1, 2, 3, 4, 5, 6, 7], [3, 5]), ([8, 7, 0, 1, 2, 3, 4, 5, 6, 7], [7, 8])])
def dcr.B11 : List Nat := [0, 1, 3, 7, 0, 16, 0, 64, 255, 511]
theorem dcr.tab11 : rtab .any (opsOf Try.f20 11) = dcr.T11 := by kernel_rfl
theorem dcr.bits11 : waitsOk dcr.T11.2 dcr.B11 = true := by kernel_rfl
theorem law3 : Keyed Try.prog 3 := int_keyed Try.underlying3
theorem zero3 (w : World) : (zeroValue 3).run Try.prog w = .ok (.int .i64 0) w := by kernel_rfl
/-- A map that counts. -/
def Count (b : Nat) (ks : List Int) (W : World) : Prop := ∃ (D : DataW Unit) (n : Nat), n ≤ ks.length ∧ W.ownsMap Try.prog 3 (plainElem Try.prog 3) b n D ∧ IsMap D ∧ ∀ a : Int, (Lit.int .i64 a).wf = true → D.atKey (.int .i64 a) (.lit (.int .i64 0)) = .lit (.int .i64 (ks.count a : Nat))
theorem many_map {base : Nat} {L : Nat → Sl} {N : Nat} {W W' : World} (h : Many base L N W) {b : Nat} {ks : List Int} (hc : Count b ks W) (hg : W.grownBy W' (some b)) : Many base L N W' := by
  obtain ⟨D, n, _, ⟨es, clock, hm, _⟩, _⟩ := hc
  refine ⟨fun t ht => own_other (h.1 t ht) hg ?_, h.2⟩
  cases e : (L t).v.ownBlock with
  | none => exact .inl rfl
  | some k =>
    refine .inr fun e2 => ?_
    injection e2 with e2
    subst e2
    rcases (h.1 t ht).2 with ⟨e3, _⟩ | ⟨g', cap', cur, e3, _, hh, _⟩
    · rw [e3] at e; cases e
    · rw [e3] at e
      have : g' = k := by simpa [Value.ownBlock] using e
      subst this
      rw [hh] at hm; cases hm
theorem count_kept {b : Nat} {ks : List Int} {W W' : World} (h : Count b ks W) {row : Option Nat} (hg : W.grownBy W' row) (hne : some b ≠ row) : Count b ks W' := by
  obtain ⟨D, n, h1, h2, h3⟩ := h
  exact ⟨D, n, h1, h2.kept hg hne, h3⟩
theorem ints_at {W : World} {A : Option Addr} {n : Nat} {ks : List Int} (h : Kd.C (Kd.int .i64) W A n ks) (j : Nat) (x : Int) (hj : ks[j]? = some x) : ∃ ad : Addr, A = some ad ∧ W.cell? (ad.add j) = some (.int .i64 x) := by
  have hjl := (List.getElem?_eq_some_iff.1 hj).1
  obtain ⟨h1, _, h3⟩ := h
  obtain ⟨ad, e, h4⟩ := h3 (by omega)
  obtain ⟨c, hc, hk, hcell⟩ := h4 j x hj
  have e2 : c = [.int .i64 x] := hk
  subst e2
  have := hcell 0 (.int .i64 x) rfl
  have e3 : j * (Kd.int .i64).sz + 0 = j := by show j * 1 + 0 = j; omega
  rw [e3] at this
  exact ⟨ad, e, this⟩
theorem count_made (w : World) : Count w.heap.size [] (w.alloc (.map #[] 0)) := ⟨.map [], 0, Nat.le_refl _, World.ownsMap_made _ _ _ _, isMap_empty, fun a _ => rfl⟩
theorem count_step {b : Nat} {ks : List Int} {W1 : World} {D : DataW Unit} {n : Nat} {x c1 : Int} (hn : n ≤ ks.length) (hkl : ks.length ≤ 549755813888) (hmap : IsMap D) (hat : ∀ a : Int, (Lit.int .i64 a).wf = true → D.atKey (.int .i64 a) (.lit (.int .i64 0)) = .lit (.int .i64 (ks.count a : Nat))) (hx : (Lit.int .i64 x).wf = true)
    (h1 : D.atKey (.int .i64 x) (.lit (.int .i64 0)) = .lit (.int .i64 c1)) (hown : W1.ownsMap Try.prog 3 (plainElem Try.prog 3) b (n + 1) (D.put (.int .i64 x) (.lit (.int .i64 (wrap64 (c1 + 1)))))) : Count b (ks ++ [x]) W1 := by
  have e : c1 = (ks.count x : Nat) := by
    rw [hat x hx] at h1
    injection h1 with h1
    injection h1 with _ h1
    exact h1.symm
  have hc : ks.count x ≤ ks.length := List.count_le_length
  have hw : wrap64 (c1 + 1) = ((ks.count x + 1 : Nat) : Int) := by rw [e]; unfold wrap64; omega
  refine ⟨_, n + 1, by rw [List.length_append]; show n + 1 ≤ ks.length + 1; omega, hown, ?_, fun a ha => ?_⟩
  · obtain ⟨es, rfl⟩ := hmap
    exact ⟨_, rfl⟩
  · rw [List.count_append]
    by_cases e2 : a = x
    · subst e2
      rw [atKey_put_same hmap (show WideAt.IsKeyLit (.int .i64 a) from trivial), hw]
      simp
    · rw [atKey_put_other (fun h => e2 (by injection h))]
      rw [hat a ha, List.count_singleton, if_neg (by simpa using fun h => e2 h.symm)]; rfl
theorem count_ne {b g : Nat} {ks : List Int} {W : World} {cur : Array Value} {e : TypeId} {f : Nat × Nat} (h : Count b ks W) (hg : W.heap[g]? = some (.cells cur e f)) : some b ≠ some g := by
  obtain ⟨D, n, _, ⟨es, clock, hm, _⟩, _⟩ := h
  intro e
  injection e with e
  subst e
  rw [hg] at hm; cases hm
theorem wf_nat (k : Nat) (h : k ≤ 549755813888) : (Lit.int .i64 (k : Int)).wf = true := by
  simp only [Lit.wf, IntKind.min, IntKind.max, IntKind.signed, IntKind.bits, Bool.and_eq_true, decide_eq_true_eq, if_true]
  omega
/-- The pending writes that are kept. -/
def keptW (ks : List Int) : List (Int × ByteArray) → Nat → List (Int × ByteArray)
  | [], _ => []
  | p :: r, j => if (j : Int) ∈ ks then p :: keptW ks r (j + 1) else keptW ks r (j + 1)
theorem keptW_snoc (ks : List Int) (p : Int × ByteArray) : ∀ (ps : List (Int × ByteArray)) (j : Nat), keptW ks (ps ++ [p]) j = keptW ks ps j ++ (if ((j + ps.length : Nat) : Int) ∈ ks then [p] else [])
  | [], j => by
    show (if (j : Int) ∈ ks then p :: [] else []) = _
    simp [keptW]
  | q :: r, j => by
    show (if (j : Int) ∈ ks then q :: keptW ks (r ++ [p]) (j + 1) else keptW ks (r ++ [p]) (j + 1)) = _
    have ih := keptW_snoc ks p r (j + 1)
    rw [show j + 1 + r.length = j + (q :: r).length by rw [List.length_cons]; omega] at ih
    rw [ih]
    show _ = (if (j : Int) ∈ ks then q :: keptW ks r (j + 1) else keptW ks r (j + 1)) ++ _
    split <;> simp
/-- What Crash does. -/
def crashS (s : DS) (ks : List Int) : DS := if s.off = true ∧ s.opn = false then s else { seen := done s.safe (keptW ks s.pend 0), safe := done s.safe (keptW ks s.pend 0), pend := [], fall := 0, off := true, opn := false }
theorem obj6 {base : Nat} {L : Nat → Sl} {N : Nat} {W : World} (h : Many base L N W) (t : Nat) (ht : t < N) (g T : Nat) (a b c d e f : Value) (hL : L t = osl g T [a, b, c, d, e, f]) : W.cell? ⟨g, 0, none⟩ = some a ∧ W.cell? ⟨g, 1, none⟩ = some b ∧ W.cell? ⟨g, 2, none⟩ = some c ∧ W.cell? ⟨g, 3, none⟩ = some d ∧ W.cell? ⟨g, 4, none⟩ = some e ∧ W.cell? ⟨g, 5, none⟩ = some f ∧ ∀ j, j < 6 → W.frozen? ⟨g, j, none⟩ = false :=
  ⟨(obj_cell h t ht g T _ hL 0 (by show 0 < 6; decide)).1, (obj_cell h t ht g T _ hL 1 (by show 1 < 6; decide)).1, (obj_cell h t ht g T _ hL 2 (by show 2 < 6; decide)).1, (obj_cell h t ht g T _ hL 3 (by show 3 < 6; decide)).1, (obj_cell h t ht g T _ hL 4 (by show 4 < 6; decide)).1, (obj_cell h t ht g T _ hL 5 (by show 5 < 6; decide)).1, fun j hj => (obj_cell h t ht g T _ hL j hj).2.1⟩
theorem own_lower {w : World} {base base' : Nat} {e : TypeId} {size n : Nat} {v : Value} {xs : List Value} (h : w.ownsRow base e size v n xs) (hb : base' ≤ base) : w.ownsRow base' e size v n xs := by
  obtain ⟨h1, h2 | ⟨g, cap, cur, e1, e2, e3⟩⟩ := h
  · exact ⟨h1, .inl h2⟩
  · exact ⟨h1, .inr ⟨g, cap, cur, e1, Nat.le_trans hb e2, e3⟩⟩
theorem many_put2 {base : Nat} {L : Nat → Sl} {N : Nat} {W W' : World} (h : Many base L N W) (s : Nat) (hs : s < N) (x : Sl) (hb : Below W.heap.size W W') (hx : x.here base W') (ho : ∀ k, x.v.ownBlock = some k → W.heap.size ≤ k) : Many base (upd L s x) N W' := by
  cases e : x.v.ownBlock with
  | none => exact many_nil (many_below h hb) s hs x hx e
  | some k => exact many_put h s hs x (grown_of_below hb _) hx (.inr ⟨k, e, ho k e⟩)
theorem disk_seen_new {L : Nat → Sl} {i g : Nat} {s : DS} (hd : Disk L i g s) (v' : Value) (xs : List ByteArray) : Disk (upd (upd L (i + 1) (ssl v' xs)) i (osl g 73 ([(L (i + 1)).v, (L (i + 2)).v, (L (i + 3)).v, .int .i64 s.fall, .bool s.off, .bool s.opn].set 0 v'))) i g { s with seen := xs } ∧ Else L (upd (upd L (i + 1) (ssl v' xs)) i (osl g 73 ([(L (i + 1)).v, (L (i + 2)).v, (L (i + 3)).v, .int .i64 s.fall, .bool s.off, .bool s.opn].set 0 v'))) i := by
  obtain ⟨h0, h1, h2, h3⟩ := hd
  refine ⟨⟨?_, ?_, ?_, ?_⟩, fun j hj => by rw [upd_ne (by omega), upd_ne (by omega)]⟩
  · rw [upd_at, upd_ne (by omega), upd_at, upd_ne (by omega), upd_ne (by omega), upd_ne (by omega), upd_ne (by omega)]; rfl
  · rw [upd_ne (by omega), upd_at]; rfl
  · rw [upd_ne (by omega), upd_ne (by omega)]; exact h2
  · rw [upd_ne (by omega), upd_ne (by omega)]; exact h3
set_option maxHeartbeats 8000000 in
set_option maxRecDepth 100000 in
theorem crash_calls {base : Nat} {L : Nat → Sl} {N i g : Nat} {s : DS} {w : World} (A : Option Addr) (c : Nat) (ks : List Int) (hk : Kd.C (Kd.int .i64) w A ks.length ks) (hkl : ks.length ≤ 549755813888) (hkw : ∀ a ∈ ks, (Lit.int .i64 a).wf = true)
    (h : Many base L N w) (hd : Disk L i g s) (hi : i + 4 ≤ N) (hbase : base ≤ w.heap.size) (hp : s.pend.length ≤ 549755813888) (hsl : s.safe.length ≤ 549755813888) (hok : ∀ p ∈ s.pend, 0 ≤ p.1 ∧ p.1 < s.safe.length) :
    Calls Try.prog 20 #[.pointer (some ⟨g, 0, none⟩), .slice A ks.length c] w fun e w' => e = .returned (.tuple #[]) ∧ ∃ L', Many base L' N w' ∧ Disk L' i g (crashS s ks) ∧ Else L L' i ∧ Below base w w' := by
  obtain ⟨_, _, _, _, h4, h5, _, _⟩ := disk_cells h hd hi
  have hmm := @run_makeMap Try.prog
  have HM := Aside0.mk h
  have HD := Aside0.mk hd
  have HBS := Aside0.mk hbase
  have HOK := Aside0.mk hok
  have HK := Aside0.mk hk
  have HKW := Aside0.mk hkw
  clear h hd hbase hok hk hkw
  go_enter Try.func20, Try.ntmps20
  by_cases hoo : s.off = true ∧ s.opn = false
  · have E : Aside0 (crashS s ks = s) := ⟨by unfold crashS; rw [if_pos hoo]⟩
    rw [hoo.1] at h4
    rw [hoo.2] at h5
    go_wp2
    refine bodyPost_ret (results_none rfl _ _ _) rfl ?_
    exact ⟨rfl, L, HM.out, by rw [E.out]; exact HD.out, fun _ _ => rfl, below_refl_at _ base⟩
  have E : Aside0 (crashS s ks = { seen := done s.safe (keptW ks s.pend 0), safe := done s.safe (keptW ks s.pend 0), pend := [], fall := 0, off := true, opn := false }) := ⟨by unfold crashS; rw [if_neg hoo]⟩
  have hst : (s.off = false) ∨ (s.off = true ∧ s.opn = true) := by
    cases h1 : s.off with
    | false => exact .inl rfl
    | true =>
      cases h2 : s.opn with
      | true => exact .inr ⟨rfl, rfl⟩
      | false => exact (hoo ⟨h1, h2⟩).elim
  clear hoo
  rcases hst with hof | ⟨hof, hop⟩
  · rw [hof] at h4
    go_upto_region 1 with (fail)
    clear h4 h5 hof
    go_wp2
    go_loopw [23] (fun v23 W => ∃ k : Nat, k ≤ ks.length ∧ v23 = .int .i64 k ∧ Aside0 (Count w.heap.size (ks.take k) W) ∧ Aside0 (Below w.heap.size w W)) (fun v23 _ => ks.length - (intOf v23).toNat)
    case atStart => exact ⟨0, Nat.zero_le _, rfl, ⟨count_made w⟩, ⟨(Below.refl _ _).alloc (Nat.le_refl _) _⟩⟩
    case round =>
      obtain ⟨k, hk, rfl, HC, DW⟩ := hrel
      by_cases hlt : k < ks.length
      · have q1 : ((k : Int) < (ks.length : Int)) = True := eq_true (by omega)
        have q2 : (k < ks.length) = True := eq_true hlt
        have q3 : (ks.length ≤ k) = False := eq_false (by omega)
        obtain ⟨x, hx⟩ : ∃ x, ks[k]? = some x := ⟨_, List.getElem?_eq_getElem hlt⟩
        obtain ⟨ad, rfl, hc⟩ := ints_at HK.out k x hx
        have hcx := below_cell' DW.out hc
        have hxw := HKW.out x (List.mem_of_getElem? hx)
        have hkey : keyOf Try.prog 3 (.int .i64 x) = some (.int .i64 x) := keyOf_int_mk Try.underlying3 hxw
        obtain ⟨D0, n, hn, hown, hmap, hat⟩ := HC.out
        have htl : (ks.take k).length = k := by rw [List.length_take]; omega
        clear hc
        go_wp2_with (first
          | (at_lookup; refine wpList_lookup_own_int _ rfl _ _ 97 rfl 3 3 .i64 law3 Try.underlying97 Try.underlying3 (zero3 _) w.heap.size n D0 rfl hown _ _ rfl hkey ?_; intro c1 hat1 hwc)
          | (at_mapUpdate; refine wpList_mapUpdate_own _ rfl _ _ _ 97 rfl 3 3 law3 Try.underlying97 _ w.heap.size n D0 rfl hown (by unfold maxLen; omega) _ _ _ rfl rfl hkey _ [] (plainElem_int Try.underlying3 (wrap64_wf _)) ?_; intro w1 hown1 hgrow1))
        have HC1 := Aside0.mk (count_step hn (by omega) hmap hat hxw hat1 hown1)
        rw [← take_snoc ks k x hx] at HC1
        go_roundw
        case rel => exact ⟨k + 1, by omega, by go_num, HC1, ⟨DW.out.grown hgrow1 DW.out.size (fun j hj => by cases hj; exact Nat.le_refl _)⟩⟩
        case measure => simp [intOf]; omega
      · have q1 : ((k : Int) < (ks.length : Int)) = False := eq_false (by omega)
        obtain rfl : k = ks.length := by omega
        rw [List.take_length] at HC
        have M0 := Aside0.mk (many_below HM.out DW.out)
        have B0 := Aside0.mk (below_then (below_refl_at w base) HBS.out DW.out)
        obtain ⟨b, hb⟩ : ∃ b, b = w.heap.size := ⟨_, rfl⟩
        rw [← hb] at HC
        have PB : (Value.map (some w.heap.size)) = .map (some b) := by rw [hb]
        rw [PB]
        clear PB hb DW hlt hk
        obtain ⟨_, _, ⟨Ap, cp, h2, hvp, hcp⟩, _⟩ := disk_cells M0.out HD.out hi
        go_wp2
        clear h2
        go_loopw [37] (fun v37 W => ∃ (k : Nat) (L2 : Nat → Sl), k ≤ s.pend.length ∧ v37 = .int .i64 k ∧ Aside0 (Many base L2 N W) ∧ Aside0 (Disk L2 i g { s with safe := done s.safe (keptW ks (s.pend.take k) 0) }) ∧ Aside0 (Else L L2 i) ∧ Aside0 (L2 (i + 3) = L (i + 3)) ∧ Aside0 (Count b ks W) ∧ Aside0 (Below base w W)) (fun v37 _ => s.pend.length - (intOf v37).toNat)
        case atStart => exact ⟨0, L, Nat.zero_le _, rfl, M0, HD, ⟨fun _ _ => rfl⟩, ⟨rfl⟩, HC, B0⟩
        case round =>
          clear M0 HC B0
          obtain ⟨k, L2, hk, rfl, M2, D2, E2, P2, HC, B2⟩ := hrel
          by_cases hlt : k < s.pend.length
          · have q1 : ((k : Int) < (s.pend.length : Int)) = True := eq_true (by omega)
            have q2 : (k < s.pend.length) = True := eq_true hlt
            have q3 : (s.pend.length ≤ k) = False := eq_false (by omega)
            obtain ⟨p, hpk⟩ : ∃ p, s.pend[k]? = some p := ⟨_, List.getElem?_eq_getElem hlt⟩
            obtain ⟨hp0, hp1⟩ := HOK.out p (List.mem_of_getElem? hpk)
            obtain ⟨pn, x⟩ := p
            obtain ⟨n, rfl⟩ : ∃ n : Nat, pn = n := ⟨pn.toNat, by omega⟩
            obtain ⟨gp, cp', e2, hc0, hc1⟩ := row_pend M2.out (by omega) D2.out.2.2.2 k _ hpk
            have e2' : (L (i + 3)).v = .slice (some ⟨gp, 0, none⟩) s.pend.length cp' := by rw [← P2.out]; exact e2
            obtain ⟨rfl, rfl⟩ : Ap = some ⟨gp, 0, none⟩ ∧ cp = cp' := by rw [hvp] at e2'; injection e2' with a b c; exact ⟨a, c⟩
            obtain ⟨l, hl⟩ : ∃ l, l = done s.safe (keptW ks (s.pend.take k) 0) := ⟨_, rfl⟩
            have hll : l.length = s.safe.length := by rw [hl, done_len]
            have hkt : (s.pend.take k).length = k := by rw [List.length_take]; omega
            have HNX : Aside0 (done s.safe (keptW ks (s.pend.take (k + 1)) 0) = if (k : Int) ∈ ks then l.set n x else l) := ⟨by
              rw [take_snoc _ _ _ hpk, keptW_snoc, hkt, Nat.zero_add]
              split
              · rw [done_snoc, ← hl]; rfl
              · rw [List.append_nil, hl]⟩
            rw [← hl] at D2
            have hns : n < l.length := by rw [hll]; omega
            clear hl
            go_upto_region 10 with (fail)
            clear hc0 hc1
            have hal := below_alloc (Below.refl wr.heap.size wr) (.cells #[Value.int .i64 (n : Int), Value.string x] 96)
            have M5 := Aside0.mk (many_below M2.out hal)
            have HC5 := Aside0.mk (count_kept HC.out (grown_of_below hal none) (by simp))
            have B5 := Aside0.mk (below_then B2.out (Nat.le_trans HBS.out B2.out.size) hal)
            have K2 : Aside0 ((wr.alloc (.cells #[Value.int .i64 (n : Int), Value.string x] 96)).cell? ⟨wr.heap.size, 0, none⟩ = some (.int .i64 (n : Int))) := ⟨by rw [blk_cell (blk_new _ _)]; rfl⟩
            have K3 : Aside0 ((wr.alloc (.cells #[Value.int .i64 (n : Int), Value.string x] 96)).cell? ⟨wr.heap.size, 1, none⟩ = some (.string x)) := ⟨by rw [blk_cell (blk_new _ _)]; rfl⟩
            obtain ⟨_, ⟨As, cs0, h1, hv1, _⟩, _⟩ := disk_cells M5.out D2.out hi
            obtain ⟨gs, cs, hvs, _, _, hbs⟩ := row_text M5.out (t := i + 2) (by omega) D2.out.2.2.1 n hns
            have hsafe := D2.out.2.2.1
            have K1 : Aside0 ((wr.alloc (.cells #[Value.int .i64 (n : Int), Value.string x] 96)).cell? ⟨g, 1, none⟩ = some (.slice (some ⟨gs, 0, none⟩) l.length cs)) := ⟨by rw [h1, ← hv1, hvs]⟩
            clear h1 hv1 hal
            obtain ⟨gn, hgn⟩ : ∃ gn, gn = wr.heap.size := ⟨_, rfl⟩
            rw [← hgn] at K2 K3
            have PN : (Value.pointer (some ⟨wr.heap.size, 0, none⟩)) = .pointer (some ⟨gn, 0, none⟩) := by rw [hgn]
            rw [PN]
            generalize wr.alloc (.cells #[Value.int .i64 (n : Int), Value.string x] 96) = w5 at M5 B5 HC5 K1 K2 K3 ⊢
            clear hgn PN M2 B2 HC
            have hkw := wf_nat k (by omega)
            have hkey : keyOf Try.prog 3 (.int .i64 (k : Int)) = some (.int .i64 (k : Int)) := keyOf_int_mk Try.underlying3 hkw
            obtain ⟨D0, nn, hnn, hown, hmap, hat⟩ := HC5.out
            have hatk := hat k hkw
            clear hat hmap hkw
            have r2 : (n < l.length) = True := eq_true hns
            have r3 : (l.length ≤ n) = False := eq_false (by omega)
            by_cases hmem : (k : Int) ∈ ks
            · have hcp : 0 < ks.count (k : Int) := List.count_pos_iff.2 hmem
              go_upto_region 11 with (at_lookup; refine wpList_lookup_own_int _ rfl _ _ 97 rfl 3 3 .i64 law3 Try.underlying97 Try.underlying3 (zero3 _) b nn D0 rfl hown _ _ rfl hkey ?_; intro c1 hat1 hwc; have hcc : c1 = ((ks.count (k : Int) : Nat) : Int) := (by rw [hatk] at hat1; injection hat1 with e1; injection e1 with _ e1; exact e1.symm); have q9 : ((0 : Int) < c1) = True := eq_true (by omega))
              clear hown hatk
              refine start_ (n := 10) (S := fun W => Below w5.heap.size w5 W) (ds := [9]) #[false, false, false, false, false, false, false, false, false, false] (by kernel_rfl) rfl rfl (below_drew1 (Below.refl _ _)) (fun hHeld => ?_); refine with_tabW dcr.tab11 dcr.bits11 (fun HT_ HW_ => ?_)
              generalize World.drew _ = wR at hHeld ⊢
              refine pure_ (i := 0) (N := some 46) (v := ?_) (a' := ?_) #[true, false, false, false, false, false, false, false, false, false] rfl rfl (any_of HT_.out (by kernel_rfl)) (fun _ _ _ h => h) (Or.inl ⟨by rfl, ?_⟩) ?_ ?_
              rotate_left
              · intro w'
                go_simp
                with_reducible rfl
              rotate_left
              · simp only [Act.put, List.setIfInBounds_toArray, List.set_cons_zero, List.set_cons_succ, i64_w, i32_w]
                rfl
              refine pure_ (i := 1) (N := some 47) (v := ?_) (a' := ?_) #[true, true, false, false, false, false, false, false, false, false] rfl rfl (any_of HT_.out (by kernel_rfl)) (fun _ _ _ h => h) (Or.inl ⟨by rfl, ?_⟩) ?_ ?_
              rotate_left
              · intro w'
                go_simp
                with_reducible rfl
              rotate_left
              · simp only [Act.put, List.setIfInBounds_toArray, List.set_cons_zero, List.set_cons_succ, i64_w, i32_w]
                rfl
              refine pure_ (i := 2) (N := some 48) (v := ?_) (a' := ?_) #[true, true, true, false, false, false, false, false, false, false] rfl rfl (any_of HT_.out (by kernel_rfl)) (fun _ _ _ h => h) (Or.inl ⟨by rfl, ?_⟩) ?_ ?_
              rotate_left
              · intro w'
                go_simp
                with_reducible rfl
              rotate_left
              · simp only [Act.put, List.setIfInBounds_toArray, List.set_cons_zero, List.set_cons_succ, i64_w, i32_w]
                rfl
              refine take_ (i := 3) (N := some 49) (v := ?_) (a' := ?_) #[true, true, true, true, false, false, false, false, false, false] rfl rfl (take_ofW HT_.out HW_.out (by kernel_rfl)) (fun _ _ _ h => h) (Or.inl ⟨by rfl, ?_⟩) hHeld ?_ ?_
              rotate_left
              · rintro w' s0
                have hK := below_cell' s0 K1.out
                go_simp
                with_reducible rfl
              rotate_left
              · simp only [Act.put, List.setIfInBounds_toArray, List.set_cons_zero, List.set_cons_succ, i64_w, i32_w]
                rfl
              refine pure_ (i := 4) (N := some 50) (v := ?_) (a' := ?_) #[true, true, true, true, true, false, false, false, false, false] rfl rfl (any_of HT_.out (by kernel_rfl)) (fun _ _ _ h => h) (Or.inl ⟨by rfl, ?_⟩) ?_ ?_
              rotate_left
              · intro w'
                go_simp
                with_reducible rfl
              rotate_left
              · simp only [Act.put, List.setIfInBounds_toArray, List.set_cons_zero, List.set_cons_succ, i64_w, i32_w]
                rfl
              refine take_ (i := 5) (N := some 51) (v := ?_) (a' := ?_) #[true, true, true, true, true, true, false, false, false, false] rfl rfl (take_ofW HT_.out HW_.out (by kernel_rfl)) (fun _ _ _ h => h) (Or.inl ⟨by rfl, ?_⟩) hHeld ?_ ?_
              rotate_left
              · rintro w' s0
                have hK := below_cell' s0 K2.out
                go_simp
                with_reducible rfl
              rotate_left
              · simp only [Act.put, List.setIfInBounds_toArray, List.set_cons_zero, List.set_cons_succ, i64_w, i32_w]
                rfl
              refine pure_ (i := 6) (N := some 52) (v := ?_) (a' := ?_) #[true, true, true, true, true, true, true, false, false, false] rfl rfl (any_of HT_.out (by kernel_rfl)) (fun _ _ _ h => h) (Or.inl ⟨by rfl, ?_⟩) ?_ ?_
              rotate_left
              · intro w'
                go_simp
                with_reducible rfl
              rotate_left
              · simp only [Act.put, List.setIfInBounds_toArray, List.set_cons_zero, List.set_cons_succ, i64_w, i32_w]
                rfl
              refine take_ (i := 7) (N := some 53) (v := ?_) (a' := ?_) #[true, true, true, true, true, true, true, true, false, false] rfl rfl (take_ofW HT_.out HW_.out (by kernel_rfl)) (fun _ _ _ h => h) (Or.inl ⟨by rfl, ?_⟩) hHeld ?_ ?_
              rotate_left
              · rintro w' s0
                have hK := below_cell' s0 K3.out
                go_simp
                with_reducible rfl
              rotate_left
              · simp only [Act.put, List.setIfInBounds_toArray, List.set_cons_zero, List.set_cons_succ, i64_w, i32_w]
                rfl
              refine pure_ (i := 8) (N := some 54) (v := ?_) (a' := ?_) #[true, true, true, true, true, true, true, true, true, false] rfl rfl (any_of HT_.out (by kernel_rfl)) (fun _ _ _ h => h) (Or.inl ⟨by rfl, ?_⟩) ?_ ?_
              rotate_left
              · intro w'
                go_simp
                with_reducible rfl
              rotate_left
              · simp only [Act.put, List.setIfInBounds_toArray, List.set_cons_zero, List.set_cons_succ, i64_w, i32_w]
                rfl
              have HMR := many_below M5.out hHeld
              obtain ⟨gs', cs', es', hcs', hzs', hbs'⟩ := row_text HMR (t := i + 2) (by omega) hsafe n hns
              obtain ⟨rfl, rfl⟩ : gs = gs' ∧ cs = cs' := by rw [hvs] at es'; injection es' with a b c; injection a with a; injection a with a; exact ⟨a, c⟩
              obtain ⟨cur, hcu, hfit⟩ := row_blk HMR (t := i + 2) (by omega) hsafe gs cs hvs n hns
              refine last_ (i := 9) (N := none) #[true, true, true, true, true, true, true, true, true, true] rfl rfl (one_of HT_.out (by kernel_rfl)) (by decide) (fun K hK => ?_)
              rw [if_pos (by rfl)]
              refine wp_store_cell info9s (.tmp 54) (.tmp 53) rfl gs n cur 9 (.string x) rfl rfl hcu hfit rfl ?_
              refine hK.out _ _ ?_
              clear hK K
              refine norm_ (a' := ?_) ?_ ?_
              rotate_left
              · show Act.put _ (none) _ = _
                simp only [Act.put]
                rfl
              refine done_ (done_of HT_.out (by kernel_rfl)) ?_
              have M6 := Aside0.mk (text_set HMR (i + 2) (by omega) gs cs l hsafe hvs n x)
              obtain ⟨D6a, E6a⟩ := disk_safe D2.out (l.set n x)
              have D6 := Aside0.mk D6a
              have E6 := Aside0.mk (else_trans E2.out E6a)
              have HCR := count_kept HC5.out (grown_of_below hHeld none) (by simp)
              have HC6 := Aside0.mk (count_kept HCR (grown_cell wR ⟨gs, n, none⟩ (.string x)) (count_ne HCR hcu))
              have B6 := Aside0.mk ((below_then B5.out (Nat.le_trans HBS.out B5.out.size) hHeld).setCell (p := ⟨gs, n, none⟩) (by exact hbs) (.string x))
              clear HMR D6a E6a hcu hcs' hzs' hbs' hHeld HCR
              go_wp2
              go_roundw
              case rel => exact ⟨k + 1, _, by omega, by go_num, M6, ⟨by rw [HNX.out, if_pos hmem]; exact D6.out⟩, E6, ⟨by rw [upd_ne (by omega)]; exact P2.out⟩, HC6, B6⟩
              case measure => simp [intOf]; omega
            · have hcp : ks.count (k : Int) = 0 := List.count_eq_zero.2 hmem
              go_wp2_with (at_lookup; refine wpList_lookup_own_int _ rfl _ _ 97 rfl 3 3 .i64 law3 Try.underlying97 Try.underlying3 (zero3 _) b nn D0 rfl hown _ _ rfl hkey ?_; intro c1 hat1 hwc; have hcc : c1 = ((ks.count (k : Int) : Nat) : Int) := (by rw [hatk] at hat1; injection hat1 with e1; injection e1 with _ e1; exact e1.symm); have q9 : ((0 : Int) < c1) = False := eq_false (by omega))
              go_roundw
              case rel => exact ⟨k + 1, L2, by omega, by go_num, M5, ⟨by rw [HNX.out, if_neg hmem]; exact D2.out⟩, E2, P2, HC5, B5⟩
              case measure => simp [intOf]; omega
          · have q1 : ((k : Int) < (s.pend.length : Int)) = False := eq_false (by omega)
            obtain rfl : k = s.pend.length := by omega
            rw [List.take_length] at D2
            obtain ⟨l, hl⟩ : ∃ l, l = done s.safe (keptW ks s.pend 0) := ⟨_, rfl⟩
            have hll : l.length = s.safe.length := by rw [hl, done_len]
            rw [← hl] at D2 E
            clear hl
            obtain ⟨_, ⟨As, cs, h1, hvs, _⟩, _, _, _, _, hbg, _⟩ := disk_cells M2.out D2.out hi
            replace h1 : _ = some (Value.slice As l.length cs) := h1
            replace hvs : (L2 (i + 2)).v = .slice As l.length cs := hvs
            have HCL := clone_calls M2.out (t := i + 2) (by omega) D2.out.2.2.1 (by show l.length ≤ _; omega)
            rw [hvs] at HCL
            have HB2 := B2.out.size
            clear hll
            go_wp2_with (go_at_call 31; (with_reducible refine HCL.mono ?_); rintro e w6 ⟨v6, rfl, hr6, hb6⟩; have M6 := many_put2 M2.out (i + 1) (by omega) (ssl v6 l) hb6 (own_lower hr6 (Nat.le_trans HBS.out HB2)) (fun k hk => (hr6.lt k hk).1); obtain ⟨A6, c6, e6, _⟩ := many_val M6 (i + 1) (by omega); rw [upd_at] at e6; have e6' : v6 = .slice A6 l.length c6 := e6; subst e6'; obtain ⟨y0, _, y2, y3, y4, y5, HO⟩ := obj6 M6 i (by omega) g 73 _ _ _ _ _ _ (by rw [upd_ne (by omega)]; exact D2.out.1); have z0 := HO 0 (by decide); have z2 := HO 2 (by decide); have z3 := HO 3 (by decide); have z4 := HO 4 (by decide); have z5 := HO 5 (by decide); have M6a := Aside0.mk M6; have B6 := Aside0.mk (below_then B2.out (Nat.le_trans HBS.out HB2) hb6); clear M6 e6 hr6 hb6 HO)
            have M7 := obj_set M6a.out i (by omega) g 73 _ (by rw [upd_ne (by omega)]; exact D2.out.1) 0 (.slice A6 l.length c6)
            obtain ⟨D7, E7⟩ := disk_seen_new D2.out (.slice A6 l.length c6) l
            have M8 := many_nil M7 (i + 3) (by omega) (wsl 96 (.slice none 0 0) []) (World.ownsRow_nil _ base 96 2) rfl
            have M9 := obj_set M8 i (by omega) g 73 _ (by rw [upd_ne (by omega)]; exact D7.1) 2 (.slice none 0 0)
            obtain ⟨D9, E9⟩ := disk_pend D7 (.slice none 0 0) []
            obtain ⟨La, ma, da, ea⟩ := disk_set M9 D9 hi 3 (.int .i64 0) { seen := l, safe := l, pend := [], fall := 0, off := s.off, opn := s.opn } ⟨rfl, rfl, rfl⟩ (fun _ _ _ => rfl)
            obtain ⟨Lb, mb, db, eb⟩ := disk_set ma da hi 4 (.bool true) { seen := l, safe := l, pend := [], fall := 0, off := true, opn := s.opn } ⟨rfl, rfl, rfl⟩ (fun _ _ _ => rfl)
            obtain ⟨Lc, mc, dc, ec⟩ := disk_set mb db hi 5 (.bool false) { seen := l, safe := l, pend := [], fall := 0, off := true, opn := false } ⟨rfl, rfl, rfl⟩ (fun _ _ _ => rfl)
            go_end0
            exact ⟨rfl, Lc, mc, by rw [E.out]; exact dc, else_trans (else_trans (else_trans (else_trans (else_trans E2.out E7) E9) ea) eb) ec, ((((B6.out.setCell (by exact hbg) _).setCell (by exact hbg) _).setCell (by exact hbg) _).setCell (by exact hbg) _).setCell (by exact hbg) _⟩
  · rw [hof] at h4
    rw [hop] at h5
    go_upto_region 1 with (fail)
    clear h4 h5 hof hop
    go_wp2
    go_loopw [23] (fun v23 W => ∃ k : Nat, k ≤ ks.length ∧ v23 = .int .i64 k ∧ Aside0 (Count w.heap.size (ks.take k) W) ∧ Aside0 (Below w.heap.size w W)) (fun v23 _ => ks.length - (intOf v23).toNat)
    case atStart => exact ⟨0, Nat.zero_le _, rfl, ⟨count_made w⟩, ⟨(Below.refl _ _).alloc (Nat.le_refl _) _⟩⟩
    case round =>
      obtain ⟨k, hk, rfl, HC, DW⟩ := hrel
      by_cases hlt : k < ks.length
      · have q1 : ((k : Int) < (ks.length : Int)) = True := eq_true (by omega)
        have q2 : (k < ks.length) = True := eq_true hlt
        have q3 : (ks.length ≤ k) = False := eq_false (by omega)
        obtain ⟨x, hx⟩ : ∃ x, ks[k]? = some x := ⟨_, List.getElem?_eq_getElem hlt⟩
        obtain ⟨ad, rfl, hc⟩ := ints_at HK.out k x hx
        have hcx := below_cell' DW.out hc
        have hxw := HKW.out x (List.mem_of_getElem? hx)
        have hkey : keyOf Try.prog 3 (.int .i64 x) = some (.int .i64 x) := keyOf_int_mk Try.underlying3 hxw
        obtain ⟨D0, n, hn, hown, hmap, hat⟩ := HC.out
        have htl : (ks.take k).length = k := by rw [List.length_take]; omega
        clear hc
        go_wp2_with (first
          | (at_lookup; refine wpList_lookup_own_int _ rfl _ _ 97 rfl 3 3 .i64 law3 Try.underlying97 Try.underlying3 (zero3 _) w.heap.size n D0 rfl hown _ _ rfl hkey ?_; intro c1 hat1 hwc)
          | (at_mapUpdate; refine wpList_mapUpdate_own _ rfl _ _ _ 97 rfl 3 3 law3 Try.underlying97 _ w.heap.size n D0 rfl hown (by unfold maxLen; omega) _ _ _ rfl rfl hkey _ [] (plainElem_int Try.underlying3 (wrap64_wf _)) ?_; intro w1 hown1 hgrow1))
        have HC1 := Aside0.mk (count_step hn (by omega) hmap hat hxw hat1 hown1)
        rw [← take_snoc ks k x hx] at HC1
        go_roundw
        case rel => exact ⟨k + 1, by omega, by go_num, HC1, ⟨DW.out.grown hgrow1 DW.out.size (fun j hj => by cases hj; exact Nat.le_refl _)⟩⟩
        case measure => simp [intOf]; omega
      · have q1 : ((k : Int) < (ks.length : Int)) = False := eq_false (by omega)
        obtain rfl : k = ks.length := by omega
        rw [List.take_length] at HC
        have M0 := Aside0.mk (many_below HM.out DW.out)
        have B0 := Aside0.mk (below_then (below_refl_at w base) HBS.out DW.out)
        obtain ⟨b, hb⟩ : ∃ b, b = w.heap.size := ⟨_, rfl⟩
        rw [← hb] at HC
        have PB : (Value.map (some w.heap.size)) = .map (some b) := by rw [hb]
        rw [PB]
        clear PB hb DW hlt hk
        obtain ⟨_, _, ⟨Ap, cp, h2, hvp, hcp⟩, _⟩ := disk_cells M0.out HD.out hi
        go_wp2
        clear h2
        go_loopw [37] (fun v37 W => ∃ (k : Nat) (L2 : Nat → Sl), k ≤ s.pend.length ∧ v37 = .int .i64 k ∧ Aside0 (Many base L2 N W) ∧ Aside0 (Disk L2 i g { s with safe := done s.safe (keptW ks (s.pend.take k) 0) }) ∧ Aside0 (Else L L2 i) ∧ Aside0 (L2 (i + 3) = L (i + 3)) ∧ Aside0 (Count b ks W) ∧ Aside0 (Below base w W)) (fun v37 _ => s.pend.length - (intOf v37).toNat)
        case atStart => exact ⟨0, L, Nat.zero_le _, rfl, M0, HD, ⟨fun _ _ => rfl⟩, ⟨rfl⟩, HC, B0⟩
        case round =>
          clear M0 HC B0
          obtain ⟨k, L2, hk, rfl, M2, D2, E2, P2, HC, B2⟩ := hrel
          by_cases hlt : k < s.pend.length
          · have q1 : ((k : Int) < (s.pend.length : Int)) = True := eq_true (by omega)
            have q2 : (k < s.pend.length) = True := eq_true hlt
            have q3 : (s.pend.length ≤ k) = False := eq_false (by omega)
            obtain ⟨p, hpk⟩ : ∃ p, s.pend[k]? = some p := ⟨_, List.getElem?_eq_getElem hlt⟩
            obtain ⟨hp0, hp1⟩ := HOK.out p (List.mem_of_getElem? hpk)
            obtain ⟨pn, x⟩ := p
            obtain ⟨n, rfl⟩ : ∃ n : Nat, pn = n := ⟨pn.toNat, by omega⟩
            obtain ⟨gp, cp', e2, hc0, hc1⟩ := row_pend M2.out (by omega) D2.out.2.2.2 k _ hpk
            have e2' : (L (i + 3)).v = .slice (some ⟨gp, 0, none⟩) s.pend.length cp' := by rw [← P2.out]; exact e2
            obtain ⟨rfl, rfl⟩ : Ap = some ⟨gp, 0, none⟩ ∧ cp = cp' := by rw [hvp] at e2'; injection e2' with a b c; exact ⟨a, c⟩
            obtain ⟨l, hl⟩ : ∃ l, l = done s.safe (keptW ks (s.pend.take k) 0) := ⟨_, rfl⟩
            have hll : l.length = s.safe.length := by rw [hl, done_len]
            have hkt : (s.pend.take k).length = k := by rw [List.length_take]; omega
            have HNX : Aside0 (done s.safe (keptW ks (s.pend.take (k + 1)) 0) = if (k : Int) ∈ ks then l.set n x else l) := ⟨by
              rw [take_snoc _ _ _ hpk, keptW_snoc, hkt, Nat.zero_add]
              split
              · rw [done_snoc, ← hl]; rfl
              · rw [List.append_nil, hl]⟩
            rw [← hl] at D2
            have hns : n < l.length := by rw [hll]; omega
            clear hl
            go_upto_region 10 with (fail)
            clear hc0 hc1
            have hal := below_alloc (Below.refl wr.heap.size wr) (.cells #[Value.int .i64 (n : Int), Value.string x] 96)
            have M5 := Aside0.mk (many_below M2.out hal)
            have HC5 := Aside0.mk (count_kept HC.out (grown_of_below hal none) (by simp))
            have B5 := Aside0.mk (below_then B2.out (Nat.le_trans HBS.out B2.out.size) hal)
            have K2 : Aside0 ((wr.alloc (.cells #[Value.int .i64 (n : Int), Value.string x] 96)).cell? ⟨wr.heap.size, 0, none⟩ = some (.int .i64 (n : Int))) := ⟨by rw [blk_cell (blk_new _ _)]; rfl⟩
            have K3 : Aside0 ((wr.alloc (.cells #[Value.int .i64 (n : Int), Value.string x] 96)).cell? ⟨wr.heap.size, 1, none⟩ = some (.string x)) := ⟨by rw [blk_cell (blk_new _ _)]; rfl⟩
            obtain ⟨_, ⟨As, cs0, h1, hv1, _⟩, _⟩ := disk_cells M5.out D2.out hi
            obtain ⟨gs, cs, hvs, _, _, hbs⟩ := row_text M5.out (t := i + 2) (by omega) D2.out.2.2.1 n hns
            have hsafe := D2.out.2.2.1
            have K1 : Aside0 ((wr.alloc (.cells #[Value.int .i64 (n : Int), Value.string x] 96)).cell? ⟨g, 1, none⟩ = some (.slice (some ⟨gs, 0, none⟩) l.length cs)) := ⟨by rw [h1, ← hv1, hvs]⟩
            clear h1 hv1 hal
            obtain ⟨gn, hgn⟩ : ∃ gn, gn = wr.heap.size := ⟨_, rfl⟩
            rw [← hgn] at K2 K3
            have PN : (Value.pointer (some ⟨wr.heap.size, 0, none⟩)) = .pointer (some ⟨gn, 0, none⟩) := by rw [hgn]
            rw [PN]
            generalize wr.alloc (.cells #[Value.int .i64 (n : Int), Value.string x] 96) = w5 at M5 B5 HC5 K1 K2 K3 ⊢
            clear hgn PN M2 B2 HC
            have hkw := wf_nat k (by omega)
            have hkey : keyOf Try.prog 3 (.int .i64 (k : Int)) = some (.int .i64 (k : Int)) := keyOf_int_mk Try.underlying3 hkw
            obtain ⟨D0, nn, hnn, hown, hmap, hat⟩ := HC5.out
            have hatk := hat k hkw
            clear hat hmap hkw
            have r2 : (n < l.length) = True := eq_true hns
            have r3 : (l.length ≤ n) = False := eq_false (by omega)
            by_cases hmem : (k : Int) ∈ ks
            · have hcp : 0 < ks.count (k : Int) := List.count_pos_iff.2 hmem
              go_upto_region 11 with (at_lookup; refine wpList_lookup_own_int _ rfl _ _ 97 rfl 3 3 .i64 law3 Try.underlying97 Try.underlying3 (zero3 _) b nn D0 rfl hown _ _ rfl hkey ?_; intro c1 hat1 hwc; have hcc : c1 = ((ks.count (k : Int) : Nat) : Int) := (by rw [hatk] at hat1; injection hat1 with e1; injection e1 with _ e1; exact e1.symm); have q9 : ((0 : Int) < c1) = True := eq_true (by omega))
              clear hown hatk
              refine start_ (n := 10) (S := fun W => Below w5.heap.size w5 W) (ds := [9]) #[false, false, false, false, false, false, false, false, false, false] (by kernel_rfl) rfl rfl (below_drew1 (Below.refl _ _)) (fun hHeld => ?_); refine with_tabW dcr.tab11 dcr.bits11 (fun HT_ HW_ => ?_)
              generalize World.drew _ = wR at hHeld ⊢
              refine pure_ (i := 0) (N := some 46) (v := ?_) (a' := ?_) #[true, false, false, false, false, false, false, false, false, false] rfl rfl (any_of HT_.out (by kernel_rfl)) (fun _ _ _ h => h) (Or.inl ⟨by rfl, ?_⟩) ?_ ?_
              rotate_left
              · intro w'
                go_simp
                with_reducible rfl
              rotate_left
              · simp only [Act.put, List.setIfInBounds_toArray, List.set_cons_zero, List.set_cons_succ, i64_w, i32_w]
                rfl
              refine pure_ (i := 1) (N := some 47) (v := ?_) (a' := ?_) #[true, true, false, false, false, false, false, false, false, false] rfl rfl (any_of HT_.out (by kernel_rfl)) (fun _ _ _ h => h) (Or.inl ⟨by rfl, ?_⟩) ?_ ?_
              rotate_left
              · intro w'
                go_simp
                with_reducible rfl
              rotate_left
              · simp only [Act.put, List.setIfInBounds_toArray, List.set_cons_zero, List.set_cons_succ, i64_w, i32_w]
                rfl
              refine pure_ (i := 2) (N := some 48) (v := ?_) (a' := ?_) #[true, true, true, false, false, false, false, false, false, false] rfl rfl (any_of HT_.out (by kernel_rfl)) (fun _ _ _ h => h) (Or.inl ⟨by rfl, ?_⟩) ?_ ?_
              rotate_left
              · intro w'
                go_simp
                with_reducible rfl
              rotate_left
              · simp only [Act.put, List.setIfInBounds_toArray, List.set_cons_zero, List.set_cons_succ, i64_w, i32_w]
                rfl
              refine take_ (i := 3) (N := some 49) (v := ?_) (a' := ?_) #[true, true, true, true, false, false, false, false, false, false] rfl rfl (take_ofW HT_.out HW_.out (by kernel_rfl)) (fun _ _ _ h => h) (Or.inl ⟨by rfl, ?_⟩) hHeld ?_ ?_
              rotate_left
              · rintro w' s0
                have hK := below_cell' s0 K1.out
                go_simp
                with_reducible rfl
              rotate_left
              · simp only [Act.put, List.setIfInBounds_toArray, List.set_cons_zero, List.set_cons_succ, i64_w, i32_w]
                rfl
              refine pure_ (i := 4) (N := some 50) (v := ?_) (a' := ?_) #[true, true, true, true, true, false, false, false, false, false] rfl rfl (any_of HT_.out (by kernel_rfl)) (fun _ _ _ h => h) (Or.inl ⟨by rfl, ?_⟩) ?_ ?_
              rotate_left
              · intro w'
                go_simp
                with_reducible rfl
              rotate_left
              · simp only [Act.put, List.setIfInBounds_toArray, List.set_cons_zero, List.set_cons_succ, i64_w, i32_w]
                rfl
              refine take_ (i := 5) (N := some 51) (v := ?_) (a' := ?_) #[true, true, true, true, true, true, false, false, false, false] rfl rfl (take_ofW HT_.out HW_.out (by kernel_rfl)) (fun _ _ _ h => h) (Or.inl ⟨by rfl, ?_⟩) hHeld ?_ ?_
              rotate_left
              · rintro w' s0
                have hK := below_cell' s0 K2.out
                go_simp
                with_reducible rfl
              rotate_left
              · simp only [Act.put, List.setIfInBounds_toArray, List.set_cons_zero, List.set_cons_succ, i64_w, i32_w]
                rfl
              refine pure_ (i := 6) (N := some 52) (v := ?_) (a' := ?_) #[true, true, true, true, true, true, true, false, false, false] rfl rfl (any_of HT_.out (by kernel_rfl)) (fun _ _ _ h => h) (Or.inl ⟨by rfl, ?_⟩) ?_ ?_
              rotate_left
              · intro w'
                go_simp
                with_reducible rfl
              rotate_left
              · simp only [Act.put, List.setIfInBounds_toArray, List.set_cons_zero, List.set_cons_succ, i64_w, i32_w]
                rfl
              refine take_ (i := 7) (N := some 53) (v := ?_) (a' := ?_) #[true, true, true, true, true, true, true, true, false, false] rfl rfl (take_ofW HT_.out HW_.out (by kernel_rfl)) (fun _ _ _ h => h) (Or.inl ⟨by rfl, ?_⟩) hHeld ?_ ?_
              rotate_left
              · rintro w' s0
                have hK := below_cell' s0 K3.out
                go_simp
                with_reducible rfl
              rotate_left
              · simp only [Act.put, List.setIfInBounds_toArray, List.set_cons_zero, List.set_cons_succ, i64_w, i32_w]
                rfl
              refine pure_ (i := 8) (N := some 54) (v := ?_) (a' := ?_) #[true, true, true, true, true, true, true, true, true, false] rfl rfl (any_of HT_.out (by kernel_rfl)) (fun _ _ _ h => h) (Or.inl ⟨by rfl, ?_⟩) ?_ ?_
              rotate_left
              · intro w'
                go_simp
                with_reducible rfl
              rotate_left
              · simp only [Act.put, List.setIfInBounds_toArray, List.set_cons_zero, List.set_cons_succ, i64_w, i32_w]
                rfl
              have HMR := many_below M5.out hHeld
              obtain ⟨gs', cs', es', hcs', hzs', hbs'⟩ := row_text HMR (t := i + 2) (by omega) hsafe n hns
              obtain ⟨rfl, rfl⟩ : gs = gs' ∧ cs = cs' := by rw [hvs] at es'; injection es' with a b c; injection a with a; injection a with a; exact ⟨a, c⟩
              obtain ⟨cur, hcu, hfit⟩ := row_blk HMR (t := i + 2) (by omega) hsafe gs cs hvs n hns
              refine last_ (i := 9) (N := none) #[true, true, true, true, true, true, true, true, true, true] rfl rfl (one_of HT_.out (by kernel_rfl)) (by decide) (fun K hK => ?_)
              rw [if_pos (by rfl)]
              refine wp_store_cell info9s (.tmp 54) (.tmp 53) rfl gs n cur 9 (.string x) rfl rfl hcu hfit rfl ?_
              refine hK.out _ _ ?_
              clear hK K
              refine norm_ (a' := ?_) ?_ ?_
              rotate_left
              · show Act.put _ (none) _ = _
                simp only [Act.put]
                rfl
              refine done_ (done_of HT_.out (by kernel_rfl)) ?_
              have M6 := Aside0.mk (text_set HMR (i + 2) (by omega) gs cs l hsafe hvs n x)
              obtain ⟨D6a, E6a⟩ := disk_safe D2.out (l.set n x)
              have D6 := Aside0.mk D6a
              have E6 := Aside0.mk (else_trans E2.out E6a)
              have HCR := count_kept HC5.out (grown_of_below hHeld none) (by simp)
              have HC6 := Aside0.mk (count_kept HCR (grown_cell wR ⟨gs, n, none⟩ (.string x)) (count_ne HCR hcu))
              have B6 := Aside0.mk ((below_then B5.out (Nat.le_trans HBS.out B5.out.size) hHeld).setCell (p := ⟨gs, n, none⟩) (by exact hbs) (.string x))
              clear HMR D6a E6a hcu hcs' hzs' hbs' hHeld HCR
              go_wp2
              go_roundw
              case rel => exact ⟨k + 1, _, by omega, by go_num, M6, ⟨by rw [HNX.out, if_pos hmem]; exact D6.out⟩, E6, ⟨by rw [upd_ne (by omega)]; exact P2.out⟩, HC6, B6⟩
              case measure => simp [intOf]; omega
            · have hcp : ks.count (k : Int) = 0 := List.count_eq_zero.2 hmem
              go_wp2_with (at_lookup; refine wpList_lookup_own_int _ rfl _ _ 97 rfl 3 3 .i64 law3 Try.underlying97 Try.underlying3 (zero3 _) b nn D0 rfl hown _ _ rfl hkey ?_; intro c1 hat1 hwc; have hcc : c1 = ((ks.count (k : Int) : Nat) : Int) := (by rw [hatk] at hat1; injection hat1 with e1; injection e1 with _ e1; exact e1.symm); have q9 : ((0 : Int) < c1) = False := eq_false (by omega))
              go_roundw
              case rel => exact ⟨k + 1, L2, by omega, by go_num, M5, ⟨by rw [HNX.out, if_neg hmem]; exact D2.out⟩, E2, P2, HC5, B5⟩
              case measure => simp [intOf]; omega
          · have q1 : ((k : Int) < (s.pend.length : Int)) = False := eq_false (by omega)
            obtain rfl : k = s.pend.length := by omega
            rw [List.take_length] at D2
            obtain ⟨l, hl⟩ : ∃ l, l = done s.safe (keptW ks s.pend 0) := ⟨_, rfl⟩
            have hll : l.length = s.safe.length := by rw [hl, done_len]
            rw [← hl] at D2 E
            clear hl
            obtain ⟨_, ⟨As, cs, h1, hvs, _⟩, _, _, _, _, hbg, _⟩ := disk_cells M2.out D2.out hi
            replace h1 : _ = some (Value.slice As l.length cs) := h1
            replace hvs : (L2 (i + 2)).v = .slice As l.length cs := hvs
            have HCL := clone_calls M2.out (t := i + 2) (by omega) D2.out.2.2.1 (by show l.length ≤ _; omega)
            rw [hvs] at HCL
            have HB2 := B2.out.size
            clear hll
            go_wp2_with (go_at_call 31; (with_reducible refine HCL.mono ?_); rintro e w6 ⟨v6, rfl, hr6, hb6⟩; have M6 := many_put2 M2.out (i + 1) (by omega) (ssl v6 l) hb6 (own_lower hr6 (Nat.le_trans HBS.out HB2)) (fun k hk => (hr6.lt k hk).1); obtain ⟨A6, c6, e6, _⟩ := many_val M6 (i + 1) (by omega); rw [upd_at] at e6; have e6' : v6 = .slice A6 l.length c6 := e6; subst e6'; obtain ⟨y0, _, y2, y3, y4, y5, HO⟩ := obj6 M6 i (by omega) g 73 _ _ _ _ _ _ (by rw [upd_ne (by omega)]; exact D2.out.1); have z0 := HO 0 (by decide); have z2 := HO 2 (by decide); have z3 := HO 3 (by decide); have z4 := HO 4 (by decide); have z5 := HO 5 (by decide); have M6a := Aside0.mk M6; have B6 := Aside0.mk (below_then B2.out (Nat.le_trans HBS.out HB2) hb6); clear M6 e6 hr6 hb6 HO)
            have M7 := obj_set M6a.out i (by omega) g 73 _ (by rw [upd_ne (by omega)]; exact D2.out.1) 0 (.slice A6 l.length c6)
            obtain ⟨D7, E7⟩ := disk_seen_new D2.out (.slice A6 l.length c6) l
            have M8 := many_nil M7 (i + 3) (by omega) (wsl 96 (.slice none 0 0) []) (World.ownsRow_nil _ base 96 2) rfl
            have M9 := obj_set M8 i (by omega) g 73 _ (by rw [upd_ne (by omega)]; exact D7.1) 2 (.slice none 0 0)
            obtain ⟨D9, E9⟩ := disk_pend D7 (.slice none 0 0) []
            obtain ⟨La, ma, da, ea⟩ := disk_set M9 D9 hi 3 (.int .i64 0) { seen := l, safe := l, pend := [], fall := 0, off := s.off, opn := s.opn } ⟨rfl, rfl, rfl⟩ (fun _ _ _ => rfl)
            obtain ⟨Lb, mb, db, eb⟩ := disk_set ma da hi 4 (.bool true) { seen := l, safe := l, pend := [], fall := 0, off := true, opn := s.opn } ⟨rfl, rfl, rfl⟩ (fun _ _ _ => rfl)
            obtain ⟨Lc, mc, dc, ec⟩ := disk_set mb db hi 5 (.bool false) { seen := l, safe := l, pend := [], fall := 0, off := true, opn := false } ⟨rfl, rfl, rfl⟩ (fun _ _ _ => rfl)
            go_end0
            exact ⟨rfl, Lc, mc, by rw [E.out]; exact dc, else_trans (else_trans (else_trans (else_trans (else_trans E2.out E7) E9) ea) eb) ec, ((((B6.out.setCell (by exact hbg) _).setCell (by exact hbg) _).setCell (by exact hbg) _).setCell (by exact hbg) _).setCell (by exact hbg) _⟩
end Go.Proofs.Ytfagljigaippiaa.Dk
