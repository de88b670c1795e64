/- Rows of a stack: a range over slices.Backward. -/
import Derived.RangeFuncNested
import Derived.RangeFuncBox
import Derived.RangeFuncLeaves
import Derived.Shelf.Abstract
import Derived.OwnWalkIn
import Derived.TacticsInMore
import Derived.LoopNIn
import Derived.LoopIn
import Derived.Maps.AppendAt
import Derived.Deep.AppendLies
import Derived.Test.YtmgiolijjheodaaX0
import Derived.Test.YtmgiolijjheodaaPlace
namespace Go.Proofs.Ytmgiolijjheodaa.X
open Go.RowKit Go.Shelf Go.Proofs.YtmgiolijjheodaaW.PrintWords Go.Proofs.YtmgiolijjheodaaW.PrintLast
attribute [local go_sem] Oper.semAt_some
set_option linter.unusedVariables false
set_option linter.unusedSimpArgs false
/-- What comes: the place, and where the pairs of the version lie. -/
abbrev Elt := Nat × Option Addr × Nat
def encE (l0 : List S25) (x : Elt) : Array Value := #[.int .i64 (x.1 : Int), aggV (rd_T25 l0 (x.1 : Int)) x.2.1 x.2.2]
def down (n k : Nat) : List Nat := (List.range k).map fun j => n - 1 - j
theorem down_succ (n k : Nat) : down n (k + 1) = down n k ++ [n - 1 - k] := by simp [down, List.range_succ]
/-- What a round keeps: all that lay below, and the block where the slice lies. -/
def KpR (n0 Bs : Nat) (W W' : World) : Prop := Below n0 W W' ∧ W'.heap[Bs]? = W.heap[Bs]?
theorem KpR.trans {n0 Bs : Nat} {A B C : World} (h : KpR n0 Bs A B) (k : KpR n0 Bs B C) : KpR n0 Bs A C := ⟨h.1.trans k.1, k.2.trans h.2⟩
theorem back_calls (A0 : Option Addr) (n c0 : Nat) (w : World) :
    Calls Try.prog 44 #[.slice A0 n c0] w fun e w' => e = .returned (.func (.func 49) #[] #[.pointer (some ⟨w.heap.size, 0, none⟩)]) ∧ w' = w.alloc (.cells #[.slice A0 n c0] 22) := by
  have hmf : ∀ (fn : Fn) (first cap : Array Value) (w : World), (Instr.makeFunc fn first cap).run Try.prog w = .ok (.func fn first cap) w := fun _ _ _ _ => rfl
  go_enter Try.func44, Try.ntmps44
  go_wp2
  go_ret
  exact ⟨rfl, rfl⟩
set_option maxRecDepth 100000 in
set_option maxHeartbeats 4000000 in
theorem back1_in (F : Fence) (m : Nat) (h49 : F.fn 49) (hro : F.round = none) (hm : 1 ≤ m) (l Bs : Nat) (A0 : Option Addr) (c0 : Nat) (l0 : List S25) (w : World) (hlen : l0.length ≤ 9223372036854775807) (hr : Kd.C k25 w A0 l0.length l0) (J Jx : List Elt → World → Prop)
    (hY : ∀ pre x W, J pre W → pre.length < l0.length → YieldAt F (m - 1) Try.prog l (encE l0 x) W fun e W' =>
      (e = .returned (.bool true) ∧ J (pre ++ [x]) W' ∧ KpR w.heap.size Bs W W') ∨ (e = .returned (.bool false) ∧ Jx (pre ++ [x]) W'))
    (W : World) (hW : Below w.heap.size w W) (hBs : W.heap[Bs]? = some (.cells #[.slice A0 l0.length c0] 22 (0, 0))) (h0 : J [] W) :
    CallsIn F m Try.prog 49 (#[.func (.yield l) #[] #[]] ++ #[.pointer (some ⟨Bs, 0, none⟩)]) W fun e W' => (∃ v, e = .returned v) ∧
      ((∃ ys : List Elt, ys.map (·.1) = down l0.length l0.length ∧ J ys W') ∨ (∃ pre, True ∧ Jx pre W')) := by
  refine callsIn_of_wp Try.func49 rfl h49 ?_ hro
  simp only [Try.ntmps49, List.size_toArray, List.length_cons, List.length_nil, Nat.reduceAdd, Nat.reduceSub, Array.replicate_succ, Array.replicate_zero, List.push_toArray, List.append_toArray, List.nil_append, List.cons_append]
  have hBc := (Boxed.cell (t := 22) hBs)
  gi_wp2
  gi_loopw [3] (fun i wr => ∃ (k : Nat) (z : Int) (pre : List Elt), k ≤ l0.length ∧ i = .int .i64 z ∧ Aside0 (z = (l0.length : Int) - 1 - k) ∧ Aside0 (pre.map (·.1) = down l0.length k) ∧ J pre wr ∧ Aside0 (KpR w.heap.size Bs W wr))
    (fun i _ => (intOf i + 1).toNat)
  case atStart => exact ⟨0, _, [], by omega, rfl, ⟨by simp⟩, ⟨rfl⟩, h0, ⟨⟨Below.refl _ _, rfl⟩⟩⟩
  case round =>
    clear hBc h0
    obtain ⟨k, z, pre, hk, rfl, HZ, HP, hJ, HK⟩ := hrel
    have hz := HZ.out
    have hBr := (Boxed.cell (t := 22) (show Boxed wr Bs 22 (.slice A0 l0.length c0) from HK.out.2.trans hBs))
    have hb := hW.trans HK.out.1
    have hpl : pre.length = k := by have := congrArg List.length HP.out; simpa [down] using this
    by_cases hlt : k < l0.length
    · obtain ⟨j, hj⟩ : ∃ j : Nat, z = (j : Int) := ⟨l0.length - 1 - k, by omega⟩
      have hjd : j = l0.length - 1 - k := by omega
      subst hj
      obtain ⟨ad, A4, c4, e, hx0, hx1, hx2, hx3, hx4, hl4, hi4⟩ := at_T25 hr (j : Int) (by omega) (by omega)
      subst e
      replace hx0 := (hb.cell (World.block_lt_of_cell? w _ hx0)).trans hx0
      replace hx1 := (hb.cell (World.block_lt_of_cell? w _ hx1)).trans hx1
      replace hx2 := (hb.cell (World.block_lt_of_cell? w _ hx2)).trans hx2
      replace hx3 := (hb.cell (World.block_lt_of_cell? w _ hx3)).trans hx3
      replace hx4 := (hb.cell (World.block_lt_of_cell? w _ hx4)).trans hx4
      rw [Int.toNat_natCast] at hx0 hx1 hx2 hx3 hx4
      obtain ⟨fn, tmps, assign, body, hy, hR⟩ := hY pre (j, A4, c4) wr hJ (by omega)
      unfold encE aggV at hy
      dsimp only at hy
      have hjn : j < l0.length := by omega
      have HD := Aside0.mk (show (pre ++ [((j, A4, c4) : Elt)]).map (·.1) = down l0.length (k + 1) by rw [List.map_append, HP.out, down_succ, hjd]; rfl)
      have HH := Aside0.mk (⟨hW, hr⟩ : _ ∧ _)
      clear hY hjd hz HP hl4 hi4 hb hW hBs hpl
      generalize rd_T25 l0 (j : Int) = x at *
      gi_wp2
      refine hR.mono ?_
      rintro e W3 (⟨rfl, hJ3, hk3⟩ | ⟨rfl, hJx3⟩)
      · gi_wp2
        go_roundw
        case rel => exact ⟨k + 1, _, _, by omega, rfl, ⟨by have := HZ.out; omega⟩, HD, hJ3, ⟨HK.out.trans hk3⟩⟩
        case measure => simp [intOf]
      · gi_wp2
        refine bodyPost_ret (results_none rfl _ _ _) rfl ?_
        exact ⟨⟨_, rfl⟩, .inr ⟨_, trivial, hJx3⟩⟩
    · obtain rfl : k = l0.length := by omega
      have hz' : z < 0 := by omega
      clear hz HZ
      gi_wp2
      go_end0
      exact ⟨⟨_, rfl⟩, .inl ⟨_, HP.out, hJ⟩⟩
/-- Backward's value hands all of a list over, the last one first. -/
theorem back_stops (F : Fence) (m : Nat) (h49 : F.fn 49) (hro : F.round = none) (hm : 1 ≤ m) (Bs : Nat) (A0 : Option Addr) (c0 : Nat) (l0 : List S25) (w W0 : World) (hlen : l0.length ≤ 9223372036854775807) (hr : Kd.C k25 w A0 l0.length l0) (hW : Below w.heap.size w W0) (hBs : W0.heap[Bs]? = some (.cells #[.slice A0 l0.length c0] 22 (0, 0))) :
    SeqStopsK F m Try.prog 49 #[.pointer (some ⟨Bs, 0, none⟩)] (encE l0) (KpR w.heap.size Bs) (fun xs => xs.map (·.1) = down l0.length l0.length) (fun _ => True) l0.length W0 := fun l J Jx W hB _ _ hY h0 => by
  have hlt := (Array.getElem?_eq_some_iff.1 hBs).1
  refine (back1_in F m h49 hro hm l Bs A0 c0 l0 w hlen hr J Jx hY W (hW.trans (hB.mono hW.size)) ((hB.block Bs hlt).trans hBs) h0).mono ?_
  rintro e W' ⟨he, ⟨ys, h1, h2⟩ | ⟨pre, _, h2⟩⟩
  · exact ⟨he, .inl ⟨ys, h1, h2⟩⟩
  · exact ⟨he, .inr ⟨pre, trivial, h2⟩⟩
def rowOf (x : S25) : S43 := ⟨x.f0, x.f1, x.f2, (x.f3.size : Int)⟩
def rowCells (x : S43) : List Value := [.string x.f0, .int .i64 x.f1, .bool x.f2, .int .i64 x.f3]
/-- The rows that have come. -/
def rowsOf (l0 : List S25) (xs : List Elt) : List S43 := xs.map fun x => rowOf (rd_T25 l0 (x.1 : Int))
theorem rows_reps (w : World) (base : Nat) (ok : Nat → Prop) (rs : List S43) : Reps (k43.M w base ok) 4 rs (rs.flatMap rowCells) := by
  obtain ⟨n, hn⟩ : ∃ n, rs.length = n := ⟨_, rfl⟩
  induction n generalizing rs with
  | zero =>
    obtain rfl := List.eq_nil_of_length_eq_zero hn
    exact Reps.none _ _
  | succ n ih =>
    have hne : rs ≠ [] := fun e => by rw [e] at hn; cases hn
    rw [← List.dropLast_concat_getLast hne, List.flatMap_append]
    have := (ih rs.dropLast (by rw [List.length_dropLast]; omega)).snoc (k43_mkM w base ok (rs.getLast hne)) rfl
    simpa [rowCells] using this
theorem rows_eq (l0 : List S25) (xs : List Elt) (h : xs.map (·.1) = down l0.length l0.length) : rowsOf l0 xs = l0.reverse.map rowOf := by
  have e : rowsOf l0 xs = (xs.map (·.1)).map (fun (j : Nat) => rowOf (rd_T25 l0 (j : Int))) := by simp [rowsOf]
  rw [e, h]
  apply List.ext_getElem
  · simp [down]
  · intro i h1 h2
    have hi : i < l0.length := by simpa [down] using h1
    simp only [down, List.getElem_map, List.getElem_range, List.getElem_reverse]
    congr 1
    unfold rd_T25
    rw [Int.toNat_natCast, List.getD_eq_getElem?_getD, List.getElem?_eq_getElem (by omega)]; rfl
set_option maxRecDepth 100000 in
set_option maxHeartbeats 8000000 in
theorem rows_calls (A0 : Option Addr) (c0 : Nat) (l0 : List S25) (w : World) (hlen : l0.length ≤ 1954687338268) (hr : Kd.C k25 w A0 l0.length l0) :
    Calls Try.prog 22 #[.slice A0 l0.length c0] w fun e w' => ∃ v0_ : Value, e = .returned v0_ ∧ Kd.R k43 43 w' w.heap.size (fun _ => True) v0_ (l0.reverse.map rowOf) ∧ Below w.heap.size w w' := by
  refine (callsIn_wide (n := 9)).1 ?_
  refine callsIn_of_wp_marks Try.func22 rfl trivial ?_ rfl
  simp only [Try.ntmps22, List.size_toArray, List.length_cons, List.length_nil, Nat.reduceAdd, Nat.reduceSub, Array.replicate_succ, Array.replicate_zero, List.push_toArray, List.append_toArray, List.nil_append, List.cons_append]
  gi_wp2_with (refine ⟨trivial, ?_⟩; gi_at_call 44; refine (callsIn_wide.2 (back_calls A0 l0.length c0 _)).mono ?_; rintro e w' ⟨rfl, rfl⟩)
  obtain ⟨i0, hi, hz0, hz1, hz2⟩ := info_parts info43
  have bO := (Boxed.new w 40 (.slice none 0 0)).alloc (.cells #[.slice A0 l0.length c0] 22)
  have bS := Boxed.new (w.alloc (.cells #[.slice none 0 0] 40)) 22 (.slice A0 l0.length c0)
  simp only [World.size_alloc] at bS
  have hB0 : Below w.heap.size w ((w.alloc (.cells #[.slice none 0 0] 40)).alloc (.cells #[.slice A0 l0.length c0] 22)) := ((Below.refl _ w).alloc (Nat.le_refl _) _).alloc (by simp) _
  have hsz : ((w.alloc (.cells #[.slice none 0 0] 40)).alloc (.cells #[.slice A0 l0.length c0] 22)).heap.size = w.heap.size + 2 := by simp
  obtain ⟨W0, hW0⟩ : ∃ W0, (w.alloc (.cells #[.slice none 0 0] 40)).alloc (.cells #[.slice A0 l0.length c0] 22) = W0 := ⟨_, rfl⟩
  rw [hW0] at bO bS hB0 hsz ⊢
  clear hW0
  have hI : OwnFrom W0.heap.size (fun (pre : List Elt) W => ((∃ v, Boxed W w.heap.size 40 v ∧ W.ownsRow w.heap.size 43 4 v pre.length ((rowsOf l0 pre).flatMap rowCells) ∧ True) ∧ Boxed W (w.heap.size + 1) 22 (.slice A0 l0.length c0)) ∧ Below w.heap.size w W) :=
    OwnFrom.and (OwnFrom.and (Own.from (holdsRow_own w.heap.size w.heap.size 40 43 4 (fun pre => pre.length) (fun pre => (rowsOf l0 pre).flatMap rowCells) (fun _ _ => True)) _) (Own.from (boxed_own _ _ _) _)) (ownFrom_below (Nat.le_refl _) (by omega))
  refine wpIn_rangeFunc_ownH rfl (by decide) (gf := 49) (lb := #[.pointer (some ⟨w.heap.size + 1, 0, none⟩)]) rfl trivial (enters_of Try.func49 (by kernel_rfl) rfl)
    (back_stops Fence.wide (9 - 1) trivial rfl (by decide) (w.heap.size + 1) A0 c0 l0 w W0 (by omega) hr hB0 bS) KpR.trans
    (fun W l o o' hl ho h1 h2 => ⟨belowK_b (w := W0) (by omega) W l o o' hl ho h1 h2, World.putObj_heap_other (by omega)⟩) (Below.refl _ _) (fun _ => rfl)
    (fun pre W => ((∃ v, Boxed W w.heap.size 40 v ∧ W.ownsRow w.heap.size 43 4 v pre.length ((rowsOf l0 pre).flatMap rowCells) ∧ True) ∧ Boxed W (w.heap.size + 1) 22 (.slice A0 l0.length c0)) ∧ Below w.heap.size w W)
    (fun _ _ _ => False) hI (fun _ _ _ _ _ hs _ _ => hs)
    ⟨⟨⟨_, bO, ⟨rfl, .inl ⟨rfl, rfl⟩⟩, trivial⟩, bS⟩, hB0⟩
    (fun x a' W => ∃ Bx, w.heap.size + 1 < Bx ∧ W.heap[Bx]? = some (.cells #[.string (rd_T25 l0 (x.1 : Int)).f0, .int .i64 (rd_T25 l0 (x.1 : Int)).f1, .bool (rd_T25 l0 (x.1 : Int)).f2, .string (rd_T25 l0 (x.1 : Int)).f3, .slice x.2.1 (rd_T25 l0 (x.1 : Int)).f4.length x.2.2] 25 (0, 0)) ∧ a' = { tmps := #[.slice A0 l0.length c0, undef, .slice none 0 0, .pointer (some ⟨w.heap.size, 0, none⟩), undef, .pointer (some ⟨Bx, 0, none⟩), .slice A0 l0.length c0, .func (.func 49) #[] #[.pointer (some ⟨w.heap.size + 1, 0, none⟩)], .int .i64 (x.1 : Int), aggV (rd_T25 l0 (x.1 : Int)) x.2.1 x.2.2, undef, undef, undef, undef, undef, undef, undef, undef, undef, undef, undef, undef, undef, undef], defers := [] })
    (fun x a' _ X Y row hs hg hr => by
      obtain ⟨Bx, h1, h2, h3⟩ := hs
      refine ⟨Bx, h1, (hg.block Bx (Array.getElem?_eq_some_iff.1 h2).1 (fun e => ?_)).trans h2, h3⟩
      obtain ⟨_, o, ho, hc⟩ := hr Bx e.symm
      rw [h2] at ho; cases ho; cases hc)
    ?assign ?body ?done ?stop
  case assign =>
    rintro l pre x W K hI1 hK
    have hB1 := hI1.2
    have hs1 : w.heap.size + 2 ≤ W.heap.size := by
      have := hI1.1.2.lt; omega
    have hQ := hI.alloc (.cells #[.string (rd_T25 l0 (x.1 : Int)).f0, .int .i64 (rd_T25 l0 (x.1 : Int)).f1, .bool (rd_T25 l0 (x.1 : Int)).f2, .string (rd_T25 l0 (x.1 : Int)).f3, .slice x.2.1 (rd_T25 l0 (x.1 : Int)).f4.length x.2.2] 25) hI1
    have HQ := Aside0.mk hQ
    clear hQ hI
    unfold encE
    unfold aggV
    gi_wp2
    exact hK _ _ ((KeepsOthers.alloc _ _).from _) ⟨(Below.refl _ W).alloc hB1.size _, Below.heap_alloc W _ _ (by omega)⟩ HQ.out ⟨W.heap.size, by omega, heap_alloc_new W _, rfl⟩
  case body =>
    rintro l pre x a' W hl ⟨r, hr1⟩ ⟨⟨⟨v, hv, hrow, _⟩, hBs1⟩, hB1⟩ ⟨Bx, hBx, bX, rfl⟩ hlt
    have hs1 : w.heap.size + 2 ≤ W.heap.size := by have := hBs1.lt; omega
    have hvc := hv.cell
    have hvf := hv.frozen
    have x0 := (blk_cell bX 0).trans rfl
    have x1 := (blk_cell bX 1).trans rfl
    have x2 := (blk_cell bX 2).trans rfl
    have x3 := (blk_cell bX 3).trans rfl
    have x4 := (blk_cell bX 4).trans rfl
    obtain ⟨y, hy⟩ : ∃ y, rd_T25 l0 (x.1 : Int) = y := ⟨_, rfl⟩
    rw [hy] at x0 x1 x2 x3 x4 ⊢
    have HY := Aside0.mk hy
    clear hy hI bX
    gi_wp2_with (gi_at_builtin; refine wpListIn_append_own _ rfl _ _ 40 rfl w.heap.size 43 i0 _ 4 40 Try.underlying40 hi hz0 hz1 hz2 rfl (by decide) _ _ _ rfl (hrow.alloc _) ⟨W.heap.size, 0, none⟩ 1 1 [.string y.f0, .int .i64 y.f1, .bool y.f2, .int .i64 (y.f3.size : Int)] rfl rfl (World.news_of_block (cs := #[.string y.f0, .int .i64 y.f1, .bool y.f2, .int .i64 (y.f3.size : Int)]) (t := 43) (fr := (0, 0)) (heap_alloc_new W _)) (by simp [Value.oneCell']) (by unfold maxLen; omega) (by omega) (by have := hB1.size; simp; omega) ?_; intro v' w1 hown' hgrow _; obtain ⟨g', cap', rfl⟩ := ownsRow_succ hown'; obtain ⟨hv1, hv2, hr2, hk2, hb2⟩ := hv.appended (by decide) hrow hB1.size (Nat.le_refl _) hown' hgrow; have hc1 := hv1.cell; have hf1 := hv1.frozen)
    have hBs2 : Boxed (w1.setCell ⟨w.heap.size, 0, none⟩ (.slice (some ⟨g', 0, none⟩) (pre.length + 1) cap')) (w.heap.size + 1) 22 (.slice A0 l0.length c0) := ((hBs1.alloc _).kept hgrow (hBs1.not_row (by decide) hrow)).other (by omega) _
    have hce : (rowsOf l0 (pre ++ [x])).flatMap rowCells = (rowsOf l0 pre).flatMap rowCells ++ [.string y.f0, .int .i64 y.f1, .bool y.f2, .int .i64 (y.f3.size : Int)] := by
      simp [rowsOf, HY.out, rowOf, rowCells]
    exact ⟨hk2.from _, ⟨hb2, hBs2.trans hBs1.symm⟩, ⟨⟨_, hv2, by rw [hce, List.length_append]; exact hr2, trivial⟩, hBs2⟩, hB1.trans hb2⟩
  case done =>
    rintro D xs W hD hS hIx hK
    obtain ⟨v, hv, hrow, _⟩ := hIx.1.1
    have hvc := hv.cell
    have HIX := Aside0.mk hIx
    have HS := Aside0.mk hS
    clear hIx hS hI
    gi_wp2
    refine ⟨by simp, .inl ⟨_, _, rfl, run_takeDeferred hK, ?_⟩⟩
    have hrow2 : (W.putObj D (.deferred none)).ownsRow w.heap.size 43 4 v xs.length ((rowsOf l0 xs).flatMap rowCells) := by
      refine hrow.kept (grownBy_putObj' W D _) ?_
      rcases hrow.2 with ⟨rfl, _⟩ | ⟨g, cap, cur, rfl, _, hgb, _⟩
      · exact .inl rfl
      · refine .inr fun e' => ?_
        have : g = D := by simpa [Value.ownBlock] using e'
        rw [← this, hgb] at hK; cases hK
    have hre := rows_eq l0 xs HS.out
    have hle : xs.length = (l0.reverse.map rowOf).length := by rw [← hre]; simp [rowsOf]
    refine ⟨_, results_tmp rfl _ _ _, v, rfl, ⟨fun _ _ => trivial, (l0.reverse.map rowOf).flatMap rowCells, ?_, ?_⟩, HIX.out.2.trans (belowK_b (w := w) (Nat.le_refl _) W D _ _ (by omega) hK rfl rfl)⟩
    · rw [← hle, ← hre]; exact hrow2
    · exact rows_reps _ _ _ _
  case stop => rintro D c pre W hD _ h; exact h.elim
def stack_Rows.f (l0 : List (S25)) : Option (List (S43)) := if l0.length ≤ 1954687338268 then some (l0.reverse.map rowOf) else none
theorem stack_Rows.calls (A0 : Option Addr) (c0 : Nat) (l0 : List (S25)) (r : List (S43)) (w : World) (hr0 : Kd.C k25 w A0 l0.length l0) (hc0 : l0.length ≤ c0) (h : stack_Rows.f l0 = some r) :
    Calls Try.prog 22 #[.slice A0 l0.length c0] w fun e w' => ∃ v0_ : Value, e = .returned (v0_) ∧ Kd.R k43 43 w' w.heap.size (fun _ => True) v0_ r ∧ Below w.heap.size w w' := by
  unfold stack_Rows.f at h
  by_cases hz : l0.length ≤ 1954687338268
  · rw [if_pos hz] at h
    obtain rfl := Option.some.inj h
    exact rows_calls A0 c0 l0 w hz hr0
  · rw [if_neg hz] at h; cases h
end Go.Proofs.Ytmgiolijjheodaa.X
