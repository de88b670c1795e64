/- Chapter 5: TupleOrder, walked by hand. -/
import Derived.Test.YtbohpjbcjnapfaaX0
import Derived.Test.YtbohpjbcjnapfaaX20
import Derived.Test.YtbohpjbcjnapfaaX31
import Derived.Test.YtbohpjbcjnapfaaX36
import Derived.Test.YtbohpjbcjnapfaaX56
import Derived.Test.YtbohpjbcjnapfaaX57
import Derived.Test.YtbohpjbcjnapfaaX61
import Derived.Test.YtbohpjbcjnapfaaX62
namespace Go.Proofs.Ytbohpjbcjnapfaa.X
open Go.RowKit Go.Proofs.YtbohpjbcjnapfaaW.PrintWords Go.Proofs.YtbohpjbcjnapfaaW.PrintLast Go.Proofs.YtbohpjbcjnapfaaW.PrintMore
set_option linter.unusedVariables false
set_option linter.unusedSimpArgs false

/-- What the law asks of two lists and their texts. -/
def pairOk (k : Nat) (a b : List S52) (s t : ByteArray) : Prop := ∃ x y : Bool, ∃ v : Int, cofferlaw05_less.f k a b = some x ∧ cofferlaw05_less.f k b a = some y ∧ v = (if y = true then 1 else if x = true then -1 else 0) ∧
  cofferlaw05_order.f s t = some v ∧ tuple_Compare.f k a b = some v ∧ cofferlaw05_equal.f k a b = some (decide (v = 0))
def sl (A : Nat → Option Addr) (c : Nat → Nat) (L : Nat → List S52) (n : Nat) : Value := .slice (A n) (L n).length (c n)
def cs7 (A : Nat → Option Addr) (c : Nat → Nat) (L : Nat → List S52) : Array Value := #[sl A c L 0, sl A c L 1, sl A c L 2]
def cs8 (s : Nat → ByteArray) (n : Nat) : Array Value := #[.string (if 0 < n then s 0 else ⟨#[]⟩), .string (if 1 < n then s 1 else ⟨#[]⟩), .string (if 2 < n then s 2 else ⟨#[]⟩)]
theorem cs7_at (A c L) (n : Nat) (h : n < 3) : (cs7 A c L)[n]? = some (sl A c L n) := by
  have : n = 0 ∨ n = 1 ∨ n = 2 := by omega
  rcases this with rfl | rfl | rfl <;> rfl
theorem cs8_at (s : Nat → ByteArray) (n : Nat) (h : n < 3) : (cs8 s 3)[n]? = some (.string (s n)) := by
  have : n = 0 ∨ n = 1 ∨ n = 2 := by omega
  rcases this with rfl | rfl | rfl <;> rfl
theorem cs8_new (s : Nat → ByteArray) (n : Nat) (h : n < 3) : (cs8 s n)[n]? = some (.string ⟨#[]⟩) := by
  have : n = 0 ∨ n = 1 ∨ n = 2 := by omega
  rcases this with rfl | rfl | rfl <;> rfl
theorem cs8_set (s : Nat → ByteArray) (n : Nat) (h : n < 3) : (cs8 s n).setIfInBounds n (.string (s n)) = cs8 s (n + 1) := by
  have : n = 0 ∨ n = 1 ∨ n = 2 := by omega
  rcases this with rfl | rfl | rfl <;> rfl

def ord.T19 : Bool × List (List Nat × List Nat) := (true, [([], []), ([0], [0]), ([1], [1]), ([], []), ([3], [3]), ([4], [4]), ([2, 5], [2, 5])])
def ord.B19 : List Nat := [0, 1, 3, 0, 8, 24, 63]
theorem ord.tab19 : rtab .any (opsOf Try.f5 19) = ord.T19 := by kernel_rfl
theorem ord.bits19 : waitsOk ord.T19.2 ord.B19 = true := by kernel_rfl
def ord.T21 : Bool × List (List Nat × List Nat) := (true, [([], []), ([0], [0]), ([1], [1]), ([], []), ([3], [3]), ([4], [4]), ([2, 5], [2, 5])])
def ord.B21 : List Nat := [0, 1, 3, 0, 8, 24, 63]
theorem ord.tab21 : rtab .any (opsOf Try.f5 21) = ord.T21 := by kernel_rfl
theorem ord.bits21 : waitsOk ord.T21.2 ord.B21 = true := by kernel_rfl
def ord.T23 : Bool × List (List Nat × List Nat) := (true, [([], []), ([0], [0]), ([1], [1]), ([], []), ([3], [3]), ([4], [4]), ([2, 5], [2, 5]), ([], []), ([6, 7], [6, 7]), ([8, 6], [8]), ([9], [9]), ([10, 9], [9, 10]), ([11, 9], [9, 11]), ([9], [9]), ([13, 9], [9, 13]), ([14, 9], [9, 14]), ([12, 15, 9, 9], [9, 12, 15]), ([9], [9]), ([16, 17, 9], [9, 16, 17]), ([9, 18], [9, 18]), ([19, 16], [19]), ([20], [20]), ([21, 20], [20, 21]), ([20], [20]), ([23, 20], [20, 23]), ([24, 20], [20, 24]), ([20], [20]), ([26, 20], [20, 26]), ([27, 20], [20, 27]), ([25, 28, 20, 20], [20, 25, 28]), ([22, 29, 20], [20, 22, 29]), ([20, 30], [20, 30])])
def ord.B23 : List Nat := [0, 1, 3, 0, 8, 24, 63, 0, 255, 511, 1023, 2047, 4095, 1023, 9215, 25599, 65535, 1023, 262143, 524287, 1048575, 2097151, 4194303, 2097151, 10485759, 27262975, 2097151, 69206015, 203423743, 530579455, 1073741823, 2147483647]
theorem ord.tab23 : rtab .any (opsOf Try.f5 23) = ord.T23 := by kernel_rfl
theorem ord.bits23 : waitsOk ord.T23.2 ord.B23 = true := by kernel_rfl
theorem below_set' {b : Nat} {w W : World} {g j : Nat} {v : Value} (h : Below b w W) (hg : b ≤ g) : Below b w (W.setCell ⟨g, j, none⟩ v) := h.setCell hg _
set_option maxHeartbeats 8000000 in
set_option maxRecDepth 100000 in
theorem order_walk (k : Nat) (A0 : Option Addr) (c0 : Nat) (l0 : List S58) (A1 : Option Addr) (c1 : Nat) (l1 : List S58) (A2 : Option Addr) (c2 : Nat) (l2 : List S58) (w : World)
    (hr0 : Kd.C k58 w A0 l0.length l0) (hc0 : l0.length ≤ c0) (hr1 : Kd.C k58 w A1 l1.length l1) (hc1 : l1.length ≤ c1) (hr2 : Kd.C k58 w A2 l2.length l2) (hc2 : l2.length ≤ c2)
    (L : Nat → List S52) (s : Nat → ByteArray) (hh : cofferlaw05_head.f k = some true) (h0 : cofferlaw05_parts.f k l0 = some (L 0)) (h1 : cofferlaw05_parts.f k l1 = some (L 1)) (h2 : cofferlaw05_parts.f k l2 = some (L 2))
    (hs : ∀ n, n < 3 → tuple_Write.f (L n) = some (s n, 0)) (hp : ∀ n m, n < 3 → m < 3 → pairOk k (L n) (L m) (s n) (s m)) :
    Calls Try.prog 5 #[.slice A0 l0.length c0, .slice A1 l1.length c1, .slice A2 l2.length c2] w fun e w' => e = .returned (.bool true) ∧ Below w.heap.size w w' := by
  have HR0 := Aside0.mk hr0
  have HR1 := Aside0.mk hr1
  have HR2 := Aside0.mk hr2
  have HS := Aside0.mk hs
  have HP := Aside0.mk hp
  clear hr0 hr1 hr2 hs hp
  go_enter Try.func5, Try.ntmps5
  go_upto_if 16 with (go_at_call 10; (with_reducible refine (cofferlaw05_head.calls k true _ hh).mono ?_); rintro e w1 ⟨rfl, hb⟩; have HB1 := Aside0.mk hb; clear hb)
  go_upto_region 3 with (fail)
  go_upto_region 4 with (first
    | (go_at_call 22; (with_reducible refine (cofferlaw05_parts.calls k _ _ l0 _ _ (Kd.C_below HR0.out HB1.out) hc0 h0).mono ?_); rintro e w2 ⟨v0, rfl, ho, hb⟩; obtain ⟨B0, d0, rfl, hd0, hC0⟩ := Kd.R_reads ho; have HB2 := Aside0.mk (below_step HB1.out hb); have HC0 := Aside0.mk hC0; clear ho hb hC0)
    | (go_at_call 22; (with_reducible refine (cofferlaw05_parts.calls k _ _ l1 _ _ (Kd.C_below HR1.out HB2.out) hc1 h1).mono ?_); rintro e w3 ⟨v1, rfl, ho, hb⟩; obtain ⟨B1, d1, rfl, hd1, hC1⟩ := Kd.R_reads ho; have HB3 := Aside0.mk (below_step HB2.out hb); have HC0' := Aside0.mk (Kd.C_below HC0.out hb); have HC1 := Aside0.mk hC1; clear ho hb hC1)
    | (go_at_call 22; (with_reducible refine (cofferlaw05_parts.calls k _ _ l2 _ _ (Kd.C_below HR2.out HB3.out) hc2 h2).mono ?_); rintro e w4 ⟨v2, rfl, ho, hb⟩; obtain ⟨B2, d2, rfl, hd2, hC2⟩ := Kd.R_reads ho; have HB4 := Aside0.mk (below_step HB3.out hb); have HC0'' := Aside0.mk (Kd.C_below HC0'.out hb); have HC1' := Aside0.mk (Kd.C_below HC1.out hb); have HC2 := Aside0.mk hC2; clear ho hb hC2)
    | ((with_reducible refine gate_dst (N := 7) rfl ?_); refine box_event ?hg (N := 7) ?hd (cs := #[.slice none 0 0, .slice none 0 0, .slice none 0 0]) (t := 44) ?hr ?_; (case hd => rfl); (case hg => rfl); (case hr => first | (go_simp; done) | (go_simp; rfl)); intro g7 hg w5 hbox hb; have HB5 := Aside0.mk (below_step HB4.out hb); have BK7 := Aside0.mk hbox; have HG7 := Aside0.mk hg; have HW5 := Aside0.mk hb; have hcz0 : w5.cell? ⟨g7, 0, none⟩ = some (.slice none 0 0) := (blk_cell BK7.out 0).trans rfl; have hcz1 : w5.cell? ⟨g7, 1, none⟩ = some (.slice none 0 0) := (blk_cell BK7.out 1).trans rfl; have hcz2 : w5.cell? ⟨g7, 2, none⟩ = some (.slice none 0 0) := (blk_cell BK7.out 2).trans rfl; have hfz0 := blk_frozen BK7.out 0; have hfz1 := blk_frozen BK7.out 1; have hfz2 := blk_frozen BK7.out 2; clear hg hbox hb))
  clear HR0 HR1 HR2 HB1 HB2 HB3 HC0 HC0' HC1 hcz0 hcz1 hcz2 hfz0 hfz1 hfz2 hc0 hc1 hc2 h0 h1 h2 hh
  obtain ⟨Af, e0, e1, e2⟩ : ∃ Af : Nat → Option Addr, Af 0 = B0 ∧ Af 1 = B1 ∧ Af 2 = B2 := ⟨fun n => if n = 0 then B0 else if n = 1 then B1 else B2, rfl, rfl, rfl⟩
  subst e0 e1 e2
  obtain ⟨cf, e0, e1, e2⟩ : ∃ cf : Nat → Nat, cf 0 = d0 ∧ cf 1 = d1 ∧ cf 2 = d2 := ⟨fun n => if n = 0 then d0 else if n = 1 then d1 else d2, rfl, rfl, rfl⟩
  subst e0 e1 e2
  have HC : Aside0 (∀ n, n < 3 → Kd.C k52 w4 (Af n) (L n).length (L n) ∧ (L n).length ≤ cf n) := ⟨fun n hn => by
    have : n = 0 ∨ n = 1 ∨ n = 2 := by omega
    rcases this with rfl | rfl | rfl
    · exact ⟨HC0''.out, hd0⟩
    · exact ⟨HC1'.out, hd1⟩
    · exact ⟨HC2.out, hd2⟩⟩
  clear HC0'' HC1' HC2 hd0 hd1 hd2
  have B7 := Aside0.mk (blk_put (cs' := cs7 Af cf L) (blk_put (cs' := #[sl Af cf L 0, sl Af cf L 1, .slice none 0 0]) (blk_put (cs' := #[sl Af cf L 0, .slice none 0 0, .slice none 0 0]) BK7.out 0 (sl Af cf L 0) rfl) 1 (sl Af cf L 1) rfl) 2 (sl Af cf L 2) rfl)
  have G4 : Aside0 (w4.heap.size ≤ g7) := ⟨by rw [HG7.out]; exact Nat.le_refl _⟩
  have G0 : Aside0 (w.heap.size ≤ g7) := ⟨Nat.le_trans HB4.out.size G4.out⟩
  have HW6 := Aside0.mk ((((HW5.out.setCell (p := ⟨g7, 0, none⟩) G4.out (sl Af cf L 0)).setCell (p := ⟨g7, 1, none⟩) G4.out (sl Af cf L 1)).setCell (p := ⟨g7, 2, none⟩) G4.out (sl Af cf L 2)))
  have HB6 := Aside0.mk ((((HB5.out.setCell (p := ⟨g7, 0, none⟩) G0.out (sl Af cf L 0)).setCell (p := ⟨g7, 1, none⟩) G0.out (sl Af cf L 1)).setCell (p := ⟨g7, 2, none⟩) G0.out (sl Af cf L 2)))
  change Code.wp _ _ _ _ (((w5.setCell ⟨g7, 0, none⟩ (sl Af cf L 0)).setCell ⟨g7, 1, none⟩ (sl Af cf L 1)).setCell ⟨g7, 2, none⟩ (sl Af cf L 2))
  generalize ((w5.setCell ⟨g7, 0, none⟩ (sl Af cf L 0)).setCell ⟨g7, 1, none⟩ (sl Af cf L 1)).setCell ⟨g7, 2, none⟩ (sl Af cf L 2) = w6 at B7 HW6 HB6 ⊢
  clear BK7 HG7 HW5 HB5 HB4
  go_upto_region 5 with (fail)
  have B7' := Aside0.mk (blk_below B7.out (below_alloc (Below.refl _ _) (.cells #[.string ⟨#[]⟩, .string ⟨#[]⟩, .string ⟨#[]⟩] 45)))
  have B8 : Aside0 ((w6.alloc (.cells #[.string ⟨#[]⟩, .string ⟨#[]⟩, .string ⟨#[]⟩] 45)).heap[w6.heap.size]? = some (.cells (cs8 s 0) 45 (0, 0))) := ⟨blk_new _ _⟩
  have HW7 := Aside0.mk (below_alloc HW6.out (.cells #[.string ⟨#[]⟩, .string ⟨#[]⟩, .string ⟨#[]⟩] 45))
  have HB7 := Aside0.mk (below_alloc HB6.out (.cells #[.string ⟨#[]⟩, .string ⟨#[]⟩, .string ⟨#[]⟩] 45))
  have G8 : Aside0 (w4.heap.size ≤ w6.heap.size) := ⟨HW6.out.size⟩
  have G80 : Aside0 (w.heap.size ≤ w6.heap.size) := ⟨HB6.out.size⟩
  have N87 : Aside0 (g7 ≠ w6.heap.size) := ⟨fun e => by have := blk_lt B7.out; omega⟩
  generalize w6.alloc (.cells #[.string ⟨#[]⟩, .string ⟨#[]⟩, .string ⟨#[]⟩] 45) = w7 at B7' B8 HW7 HB7 ⊢
  generalize w6.heap.size = g8 at B8 G8 G80 N87 ⊢
  clear HW6 HB6 B7 G4 G0
  go_wp2
  go_loopw [9] (fun i W => ∃ n : Nat, n ≤ 3 ∧ i = .int .i64 n ∧ Aside0 (W.heap[g7]? = some (.cells (cs7 Af cf L) 44 (0, 0))) ∧ Aside0 (W.heap[g8]? = some (.cells (cs8 s n) 45 (0, 0))) ∧ Aside0 (Below w4.heap.size w4 W) ∧ Aside0 (Below w.heap.size w W)) (fun i _ => 3 - (intOf i).toNat)
  case atStart => exact ⟨0, by omega, rfl, B7', B8, HW7, HB7⟩
  case round =>
    obtain ⟨n, hn, rfl, C7, C8, D4, D0⟩ := hrel
    clear B7' B8 HW7 HB7
    by_cases hlt : n < 3
    · have hx : wr.cell? ⟨g7, n, none⟩ = some (.slice (Af n) (L n).length (cf n)) := (blk_cell C7.out n).trans (cs7_at Af cf L n hlt)
      have pn : (0 ≤ (n : Int)) = True := eq_true (by omega)
      have qn : ((n : Int) < 3) = True := eq_true (by omega)
      have HCn := Aside0.mk (HC.out n hlt)
      have HSn := Aside0.mk (HS.out n hlt)
      go_upto_region 11 with (go_at_call 15; (with_reducible refine (tuple_Write.calls _ _ (L n) (s n) 0 _ (Kd.C_below HCn.out.1 D4.out) HCn.out.2 HSn.out).mono ?_); rintro e w8 ⟨rfl, hb⟩; have E7 := Aside0.mk (blk_below C7.out hb); have E8 := Aside0.mk (blk_below C8.out hb); have F4 := Aside0.mk (below_step D4.out hb); have F0 := Aside0.mk (below_step D0.out hb); clear hb)
      have hz : w8.cell? ⟨g8, n, none⟩ = some (.string ⟨#[]⟩) := (blk_cell E8.out n).trans (cs8_new s n hlt)
      have hf := blk_frozen E8.out n
      go_wp2
      go_roundw
      case rel => exact ⟨n + 1, by omega, by go_num, ⟨blk_far E7.out (p := ⟨g8, n, none⟩) N87.out _⟩, ⟨blk_put E8.out n _ (cs8_set s n hlt)⟩, ⟨below_set' F4.out G8.out⟩, ⟨below_set' F0.out G80.out⟩⟩
      case measure => simp [intOf]; omega
    · obtain rfl : n = 3 := by omega
      clear hlt hn
      go_wp2
      go_loopw [12] (fun i W => ∃ n : Nat, n ≤ 3 ∧ i = .int .i64 n ∧ Aside0 (W.heap[g7]? = some (.cells (cs7 Af cf L) 44 (0, 0))) ∧ Aside0 (W.heap[g8]? = some (.cells (cs8 s 3) 45 (0, 0))) ∧ Aside0 (Below w4.heap.size w4 W) ∧ Aside0 (Below w.heap.size w W)) (fun i _ => 3 - (intOf i).toNat)
      case atStart => exact ⟨0, by omega, rfl, C7, C8, D4, D0⟩
      case round =>
        clear C7 C8 D4 D0
        obtain ⟨n, hn, rfl, C7, C8, D4, D0⟩ := hrel
        by_cases hlt : n < 3
        · have qn : ((n : Int) < 3) = True := eq_true (by omega)
          have hn3 : n < 3 := hlt
          have pn : (0 ≤ (n : Int)) = True := eq_true (by omega)
          go_wp2
          go_loopw [13] (fun i W => ∃ m : Nat, m ≤ 3 ∧ i = .int .i64 m ∧ Aside0 (W.heap[g7]? = some (.cells (cs7 Af cf L) 44 (0, 0))) ∧ Aside0 (W.heap[g8]? = some (.cells (cs8 s 3) 45 (0, 0))) ∧ Aside0 (Below w4.heap.size w4 W) ∧ Aside0 (Below w.heap.size w W)) (fun i _ => 3 - (intOf i).toNat)
          case atStart => exact ⟨0, by omega, rfl, C7, C8, D4, D0⟩
          case round =>
            clear C7 C8 D4 D0
            obtain ⟨m, hm, rfl, C7, C8, D4, D0⟩ := hrel
            by_cases hlt2 : m < 3
            · have hm3 : m < 3 := hlt2
              have pm : (0 ≤ (m : Int)) = True := eq_true (by omega)
              have qm : ((m : Int) < 3) = True := eq_true (by omega)
              obtain ⟨x, y, v, hx, hy, hv, ho, hc, he⟩ := HP.out n m hn3 hm3
              have HCn := Aside0.mk (HC.out n hn3)
              have HCm := Aside0.mk (HC.out m hm3)
              cases x <;> cases y
              all_goals
                simp at hv
                subst hv
                simp at he
                go_upto_region 19 with (fail)
                refine start_ (n := 7) (S := fun W => W.heap[g7]? = some (.cells (cs7 Af cf L) 44 (0, 0)) ∧ W.heap[g8]? = some (.cells (cs8 s 3) 45 (0, 0))) (ds := []) #[false, false, false, false, false, false, false] (by kernel_rfl) rfl rfl ⟨blk_drew C7.out, blk_drew C8.out⟩ (fun hHeld => ?_); refine with_tabW ord.tab19 ord.bits19 (fun HT_ HW_ => ?_)
                have n_C7 := Aside0.mk (blk_drew C7.out)
                have n_C8 := Aside0.mk (blk_drew C8.out)
                have n_D4 := Aside0.mk (below_drew1 D4.out)
                have n_D0 := Aside0.mk (below_drew1 D0.out)
                clear C7 C8 D4 D0
                have C7 := n_C7
                have C8 := n_C8
                have D4 := n_D4
                have D0 := n_D0
                clear n_C7 n_C8 n_D4 n_D0
                generalize World.drew _ = wR at C7 C8 D4 D0 hHeld ⊢
                refine pure_ (i := 0) (N := some 48) (v := ?_) (a' := ?_) #[true, false, false, false, false, false, false] rfl rfl (any_of HT_.out (by kernel_rfl)) (fun _ _ _ h => h) (Or.inl ⟨by rfl, ?_⟩) ?_ ?_
                rotate_left
                · intro w'
                  go_simp
                  with_reducible rfl
                rotate_left
                · simp only [Act.put, List.setIfInBounds_toArray, List.set_cons_zero, List.set_cons_succ, i64_w, i32_w]
                  rfl
                refine pure_ (i := 1) (N := some 49) (v := ?_) (a' := ?_) #[true, true, false, false, false, false, false] rfl rfl (any_of HT_.out (by kernel_rfl)) (fun _ _ _ h => h) (Or.inl ⟨by rfl, ?_⟩) ?_ ?_
                rotate_left
                · intro w'
                  go_simp
                  with_reducible rfl
                rotate_left
                · simp only [Act.put, List.setIfInBounds_toArray, List.set_cons_zero, List.set_cons_succ, i64_w, i32_w]
                  rfl
                refine pure_ (i := 3) (N := some 51) (v := ?_) (a' := ?_) #[true, true, false, true, false, false, false] rfl rfl (any_of HT_.out (by kernel_rfl)) (fun _ _ _ h => h) (Or.inl ⟨by rfl, ?_⟩) ?_ ?_
                rotate_left
                · intro w'
                  go_simp
                  with_reducible rfl
                rotate_left
                · simp only [Act.put, List.setIfInBounds_toArray, List.set_cons_zero, List.set_cons_succ, i64_w, i32_w]
                  rfl
                refine pure_ (i := 4) (N := some 52) (v := ?_) (a' := ?_) #[true, true, false, true, true, false, false] rfl rfl (any_of HT_.out (by kernel_rfl)) (fun _ _ _ h => h) (Or.inl ⟨by rfl, ?_⟩) ?_ ?_
                rotate_left
                · intro w'
                  go_simp
                  with_reducible rfl
                rotate_left
                · simp only [Act.put, List.setIfInBounds_toArray, List.set_cons_zero, List.set_cons_succ, i64_w, i32_w]
                  rfl
                refine take_ (i := 2) (N := some 50) (v := ?_) (a' := ?_) #[true, true, true, true, true, false, false] rfl rfl (take_ofW HT_.out HW_.out (by kernel_rfl)) (fun _ _ _ h => h) (Or.inl ⟨by rfl, ?_⟩) hHeld ?_ ?_
                rotate_left
                · rintro w' ⟨s0, s1⟩
                  have z0 := (blk_cell s0 n).trans (cs7_at Af cf L n hn3)
                  have z1 := (blk_cell s0 m).trans (cs7_at Af cf L m hm3)
                  have z2 := (blk_cell s1 n).trans (cs8_at s n hn3)
                  have z3 := (blk_cell s1 m).trans (cs8_at s m hm3)
                  unfold sl at z0 z1
                  go_simp
                  with_reducible rfl
                rotate_left
                · simp only [Act.put, List.setIfInBounds_toArray, List.set_cons_zero, List.set_cons_succ, i64_w, i32_w]
                  rfl
                refine take_ (i := 5) (N := some 53) (v := ?_) (a' := ?_) #[true, true, true, true, true, true, false] rfl rfl (take_ofW HT_.out HW_.out (by kernel_rfl)) (fun _ _ _ h => h) (Or.inl ⟨by rfl, ?_⟩) hHeld ?_ ?_
                rotate_left
                · rintro w' ⟨s0, s1⟩
                  have z0 := (blk_cell s0 n).trans (cs7_at Af cf L n hn3)
                  have z1 := (blk_cell s0 m).trans (cs7_at Af cf L m hm3)
                  have z2 := (blk_cell s1 n).trans (cs8_at s n hn3)
                  have z3 := (blk_cell s1 m).trans (cs8_at s m hm3)
                  unfold sl at z0 z1
                  go_simp
                  with_reducible rfl
                rotate_left
                · simp only [Act.put, List.setIfInBounds_toArray, List.set_cons_zero, List.set_cons_succ, i64_w, i32_w]
                  rfl
                refine one_ (i := 6) (N := some 54) #[true, true, true, true, true, true, true] rfl rfl (one_of HT_.out (by kernel_rfl)) (by decide) (fun K hK => ?_)
                refine goes_ Try.func23 (by kernel_rfl) rfl #[.slice (Af n) (L n).length (cf n), .slice (Af m) (L m).length (cf m)] (by rfl) rfl rfl (by (try simp only [List.map_toArray, List.map_cons, List.map_nil]); first | done | rfl) ?_
                with_reducible refine (cofferlaw05_less.calls k _ _ (L n) _ _ (L m) _ _ (Kd.C_below HCn.out.1 D4.out) HCn.out.2 (Kd.C_below HCm.out.1 D4.out) HCm.out.2 hx).mono ?_
                rintro e w11 ⟨rfl, hb⟩
                refine ⟨_, rfl, ?_⟩
                have n_C7 := Aside0.mk (blk_below C7.out hb)
                clear C7
                have C7 := n_C7
                clear n_C7
                have n_C8 := Aside0.mk (blk_below C8.out hb)
                clear C8
                have C8 := n_C8
                clear n_C8
                have n_D4 := Aside0.mk (below_step D4.out hb)
                clear D4
                have D4 := n_D4
                clear n_D4
                have n_D0 := Aside0.mk (below_step D0.out hb)
                clear D0
                have D0 := n_D0
                clear n_D0
                clear hb
                refine hK.out _ _ ⟨C7.out, C8.out⟩ (fun hHeld => ?_)
                clear hK K
                refine norm_ (a' := ?_) ?_ ?_
                rotate_left
                · show Act.put _ (some 54) _ = _
                  simp only [Act.put, List.setIfInBounds_toArray, List.set_cons_zero, List.set_cons_succ, i64_w, i32_w]
                  rfl
                refine done_ (done_of HT_.out (by kernel_rfl)) ?_
                go_upto_region 21 with (fail)
                refine start_ (n := 7) (S := fun W => W.heap[g7]? = some (.cells (cs7 Af cf L) 44 (0, 0)) ∧ W.heap[g8]? = some (.cells (cs8 s 3) 45 (0, 0))) (ds := []) #[false, false, false, false, false, false, false] (by kernel_rfl) rfl rfl ⟨blk_drew C7.out, blk_drew C8.out⟩ (fun hHeld => ?_); refine with_tabW ord.tab21 ord.bits21 (fun HT_ HW_ => ?_)
                have n_C7 := Aside0.mk (blk_drew C7.out)
                have n_C8 := Aside0.mk (blk_drew C8.out)
                have n_D4 := Aside0.mk (below_drew1 D4.out)
                have n_D0 := Aside0.mk (below_drew1 D0.out)
                clear C7 C8 D4 D0
                have C7 := n_C7
                have C8 := n_C8
                have D4 := n_D4
                have D0 := n_D0
                clear n_C7 n_C8 n_D4 n_D0
                generalize World.drew _ = wR at C7 C8 D4 D0 hHeld ⊢
                refine pure_ (i := 0) (N := some 55) (v := ?_) (a' := ?_) #[true, false, false, false, false, false, false] rfl rfl (any_of HT_.out (by kernel_rfl)) (fun _ _ _ h => h) (Or.inl ⟨by rfl, ?_⟩) ?_ ?_
                rotate_left
                · intro w'
                  go_simp
                  with_reducible rfl
                rotate_left
                · simp only [Act.put, List.setIfInBounds_toArray, List.set_cons_zero, List.set_cons_succ, i64_w, i32_w]
                  rfl
                refine pure_ (i := 1) (N := some 56) (v := ?_) (a' := ?_) #[true, true, false, false, false, false, false] rfl rfl (any_of HT_.out (by kernel_rfl)) (fun _ _ _ h => h) (Or.inl ⟨by rfl, ?_⟩) ?_ ?_
                rotate_left
                · intro w'
                  go_simp
                  with_reducible rfl
                rotate_left
                · simp only [Act.put, List.setIfInBounds_toArray, List.set_cons_zero, List.set_cons_succ, i64_w, i32_w]
                  rfl
                refine pure_ (i := 3) (N := some 58) (v := ?_) (a' := ?_) #[true, true, false, true, false, false, false] rfl rfl (any_of HT_.out (by kernel_rfl)) (fun _ _ _ h => h) (Or.inl ⟨by rfl, ?_⟩) ?_ ?_
                rotate_left
                · intro w'
                  go_simp
                  with_reducible rfl
                rotate_left
                · simp only [Act.put, List.setIfInBounds_toArray, List.set_cons_zero, List.set_cons_succ, i64_w, i32_w]
                  rfl
                refine pure_ (i := 4) (N := some 59) (v := ?_) (a' := ?_) #[true, true, false, true, true, false, false] rfl rfl (any_of HT_.out (by kernel_rfl)) (fun _ _ _ h => h) (Or.inl ⟨by rfl, ?_⟩) ?_ ?_
                rotate_left
                · intro w'
                  go_simp
                  with_reducible rfl
                rotate_left
                · simp only [Act.put, List.setIfInBounds_toArray, List.set_cons_zero, List.set_cons_succ, i64_w, i32_w]
                  rfl
                refine take_ (i := 2) (N := some 57) (v := ?_) (a' := ?_) #[true, true, true, true, true, false, false] rfl rfl (take_ofW HT_.out HW_.out (by kernel_rfl)) (fun _ _ _ h => h) (Or.inl ⟨by rfl, ?_⟩) hHeld ?_ ?_
                rotate_left
                · rintro w' ⟨s0, s1⟩
                  have z0 := (blk_cell s0 n).trans (cs7_at Af cf L n hn3)
                  have z1 := (blk_cell s0 m).trans (cs7_at Af cf L m hm3)
                  have z2 := (blk_cell s1 n).trans (cs8_at s n hn3)
                  have z3 := (blk_cell s1 m).trans (cs8_at s m hm3)
                  unfold sl at z0 z1
                  go_simp
                  with_reducible rfl
                rotate_left
                · simp only [Act.put, List.setIfInBounds_toArray, List.set_cons_zero, List.set_cons_succ, i64_w, i32_w]
                  rfl
                refine take_ (i := 5) (N := some 60) (v := ?_) (a' := ?_) #[true, true, true, true, true, true, false] rfl rfl (take_ofW HT_.out HW_.out (by kernel_rfl)) (fun _ _ _ h => h) (Or.inl ⟨by rfl, ?_⟩) hHeld ?_ ?_
                rotate_left
                · rintro w' ⟨s0, s1⟩
                  have z0 := (blk_cell s0 n).trans (cs7_at Af cf L n hn3)
                  have z1 := (blk_cell s0 m).trans (cs7_at Af cf L m hm3)
                  have z2 := (blk_cell s1 n).trans (cs8_at s n hn3)
                  have z3 := (blk_cell s1 m).trans (cs8_at s m hm3)
                  unfold sl at z0 z1
                  go_simp
                  with_reducible rfl
                rotate_left
                · simp only [Act.put, List.setIfInBounds_toArray, List.set_cons_zero, List.set_cons_succ, i64_w, i32_w]
                  rfl
                refine one_ (i := 6) (N := some 61) #[true, true, true, true, true, true, true] rfl rfl (one_of HT_.out (by kernel_rfl)) (by decide) (fun K hK => ?_)
                refine goes_ Try.func23 (by kernel_rfl) rfl #[.slice (Af m) (L m).length (cf m), .slice (Af n) (L n).length (cf n)] (by rfl) rfl rfl (by (try simp only [List.map_toArray, List.map_cons, List.map_nil]); first | done | rfl) ?_
                with_reducible refine (cofferlaw05_less.calls k _ _ (L m) _ _ (L n) _ _ (Kd.C_below HCm.out.1 D4.out) HCm.out.2 (Kd.C_below HCn.out.1 D4.out) HCn.out.2 hy).mono ?_
                rintro e w11 ⟨rfl, hb⟩
                refine ⟨_, rfl, ?_⟩
                have n_C7 := Aside0.mk (blk_below C7.out hb)
                clear C7
                have C7 := n_C7
                clear n_C7
                have n_C8 := Aside0.mk (blk_below C8.out hb)
                clear C8
                have C8 := n_C8
                clear n_C8
                have n_D4 := Aside0.mk (below_step D4.out hb)
                clear D4
                have D4 := n_D4
                clear n_D4
                have n_D0 := Aside0.mk (below_step D0.out hb)
                clear D0
                have D0 := n_D0
                clear n_D0
                clear hb
                refine hK.out _ _ ⟨C7.out, C8.out⟩ (fun hHeld => ?_)
                clear hK K
                refine norm_ (a' := ?_) ?_ ?_
                rotate_left
                · show Act.put _ (some 61) _ = _
                  simp only [Act.put, List.setIfInBounds_toArray, List.set_cons_zero, List.set_cons_succ, i64_w, i32_w]
                  rfl
                refine done_ (done_of HT_.out (by kernel_rfl)) ?_
                go_upto_region 23 with (fail)
                refine start_ (n := 32) (S := fun W => W.heap[g7]? = some (.cells (cs7 Af cf L) 44 (0, 0)) ∧ W.heap[g8]? = some (.cells (cs8 s 3) 45 (0, 0))) (ds := []) #[false, false, false, false, false, false, false, false, false, false, false, false, false, false, false, false, false, false, false, false, false, false, false, false, false, false, false, false, false, false, false, false] (by kernel_rfl) rfl rfl ⟨blk_drew C7.out, blk_drew C8.out⟩ (fun hHeld => ?_); refine with_tabW ord.tab23 ord.bits23 (fun HT_ HW_ => ?_)
                have n_C7 := Aside0.mk (blk_drew C7.out)
                have n_C8 := Aside0.mk (blk_drew C8.out)
                have n_D4 := Aside0.mk (below_drew1 D4.out)
                have n_D0 := Aside0.mk (below_drew1 D0.out)
                clear C7 C8 D4 D0
                have C7 := n_C7
                have C8 := n_C8
                have D4 := n_D4
                have D0 := n_D0
                clear n_C7 n_C8 n_D4 n_D0
                generalize World.drew _ = wR at C7 C8 D4 D0 hHeld ⊢
                refine pure_ (i := 0) (N := some 62) (v := ?_) (a' := ?_) #[true, false, false, false, false, false, false, false, false, false, false, false, false, false, false, false, false, false, false, false, false, false, false, false, false, false, false, false, false, false, false, false] rfl rfl (any_of HT_.out (by kernel_rfl)) (fun _ _ _ h => h) (Or.inl ⟨by rfl, ?_⟩) ?_ ?_
                rotate_left
                · intro w'
                  go_simp
                  with_reducible rfl
                rotate_left
                · simp only [Act.put, List.setIfInBounds_toArray, List.set_cons_zero, List.set_cons_succ, i64_w, i32_w]
                  rfl
                refine pure_ (i := 1) (N := some 63) (v := ?_) (a' := ?_) #[true, true, false, false, false, false, false, false, false, false, false, false, false, false, false, false, false, false, false, false, false, false, false, false, false, false, false, false, false, false, false, false] rfl rfl (any_of HT_.out (by kernel_rfl)) (fun _ _ _ h => h) (Or.inl ⟨by rfl, ?_⟩) ?_ ?_
                rotate_left
                · intro w'
                  go_simp
                  with_reducible rfl
                rotate_left
                · simp only [Act.put, List.setIfInBounds_toArray, List.set_cons_zero, List.set_cons_succ, i64_w, i32_w]
                  rfl
                refine pure_ (i := 3) (N := some 65) (v := ?_) (a' := ?_) #[true, true, false, true, false, false, false, false, false, false, false, false, false, false, false, false, false, false, false, false, false, false, false, false, false, false, false, false, false, false, false, false] rfl rfl (any_of HT_.out (by kernel_rfl)) (fun _ _ _ h => h) (Or.inl ⟨by rfl, ?_⟩) ?_ ?_
                rotate_left
                · intro w'
                  go_simp
                  with_reducible rfl
                rotate_left
                · simp only [Act.put, List.setIfInBounds_toArray, List.set_cons_zero, List.set_cons_succ, i64_w, i32_w]
                  rfl
                refine pure_ (i := 4) (N := some 66) (v := ?_) (a' := ?_) #[true, true, false, true, true, false, false, false, false, false, false, false, false, false, false, false, false, false, false, false, false, false, false, false, false, false, false, false, false, false, false, false] rfl rfl (any_of HT_.out (by kernel_rfl)) (fun _ _ _ h => h) (Or.inl ⟨by rfl, ?_⟩) ?_ ?_
                rotate_left
                · intro w'
                  go_simp
                  with_reducible rfl
                rotate_left
                · simp only [Act.put, List.setIfInBounds_toArray, List.set_cons_zero, List.set_cons_succ, i64_w, i32_w]
                  rfl
                refine pure_ (i := 7) (N := some 69) (v := ?_) (a' := ?_) #[true, true, false, true, true, false, false, true, false, false, false, false, false, false, false, false, false, false, false, false, false, false, false, false, false, false, false, false, false, false, false, false] rfl rfl (any_of HT_.out (by kernel_rfl)) (fun _ _ _ h => h) (Or.inl ⟨by rfl, ?_⟩) ?_ ?_
                rotate_left
                · intro w'
                  go_simp
                  with_reducible rfl
                rotate_left
                · simp only [Act.put, List.setIfInBounds_toArray, List.set_cons_zero, List.set_cons_succ, i64_w, i32_w]
                  rfl
                refine take_ (i := 2) (N := some 64) (v := ?_) (a' := ?_) #[true, true, true, true, true, false, false, true, false, false, false, false, false, false, false, false, false, false, false, false, false, false, false, false, false, false, false, false, false, false, false, false] rfl rfl (take_ofW HT_.out HW_.out (by kernel_rfl)) (fun _ _ _ h => h) (Or.inl ⟨by rfl, ?_⟩) hHeld ?_ ?_
                rotate_left
                · rintro w' ⟨s0, s1⟩
                  have z0 := (blk_cell s0 n).trans (cs7_at Af cf L n hn3)
                  have z1 := (blk_cell s0 m).trans (cs7_at Af cf L m hm3)
                  have z2 := (blk_cell s1 n).trans (cs8_at s n hn3)
                  have z3 := (blk_cell s1 m).trans (cs8_at s m hm3)
                  unfold sl at z0 z1
                  go_simp
                  with_reducible rfl
                rotate_left
                · simp only [Act.put, List.setIfInBounds_toArray, List.set_cons_zero, List.set_cons_succ, i64_w, i32_w]
                  rfl
                refine take_ (i := 5) (N := some 67) (v := ?_) (a' := ?_) #[true, true, true, true, true, true, false, true, false, false, false, false, false, false, false, false, false, false, false, false, false, false, false, false, false, false, false, false, false, false, false, false] rfl rfl (take_ofW HT_.out HW_.out (by kernel_rfl)) (fun _ _ _ h => h) (Or.inl ⟨by rfl, ?_⟩) hHeld ?_ ?_
                rotate_left
                · rintro w' ⟨s0, s1⟩
                  have z0 := (blk_cell s0 n).trans (cs7_at Af cf L n hn3)
                  have z1 := (blk_cell s0 m).trans (cs7_at Af cf L m hm3)
                  have z2 := (blk_cell s1 n).trans (cs8_at s n hn3)
                  have z3 := (blk_cell s1 m).trans (cs8_at s m hm3)
                  unfold sl at z0 z1
                  go_simp
                  with_reducible rfl
                rotate_left
                · simp only [Act.put, List.setIfInBounds_toArray, List.set_cons_zero, List.set_cons_succ, i64_w, i32_w]
                  rfl
                refine one_ (i := 6) (N := some 68) #[true, true, true, true, true, true, true, true, false, false, false, false, false, false, false, false, false, false, false, false, false, false, false, false, false, false, false, false, false, false, false, false] rfl rfl (one_of HT_.out (by kernel_rfl)) (by decide) (fun K hK => ?_)
                refine goes_ Try.func24 (by kernel_rfl) rfl #[.string (s n), .string (s m)] (by rfl) rfl rfl (by (try simp only [List.map_toArray, List.map_cons, List.map_nil]); first | done | rfl) ?_
                with_reducible refine (cofferlaw05_order.calls (s n) (s m) _ _ ho).mono ?_
                rintro e w11 ⟨rfl, hd⟩
                have hb := hd.below
                clear hd
                refine ⟨_, rfl, ?_⟩
                have n_C7 := Aside0.mk (blk_below C7.out hb)
                clear C7
                have C7 := n_C7
                clear n_C7
                have n_C8 := Aside0.mk (blk_below C8.out hb)
                clear C8
                have C8 := n_C8
                clear n_C8
                have n_D4 := Aside0.mk (below_step D4.out hb)
                clear D4
                have D4 := n_D4
                clear n_D4
                have n_D0 := Aside0.mk (below_step D0.out hb)
                clear D0
                have D0 := n_D0
                clear n_D0
                clear hb
                refine hK.out _ _ ⟨C7.out, C8.out⟩ (fun hHeld => ?_)
                clear hK K
                refine norm_ (a' := ?_) ?_ ?_
                rotate_left
                · show Act.put _ (some 68) _ = _
                  simp only [Act.put, List.setIfInBounds_toArray, List.set_cons_zero, List.set_cons_succ, i64_w, i32_w]
                  rfl
                refine pure_ (i := 8) (N := some 70) (v := ?_) (a' := ?_) #[true, true, true, true, true, true, true, true, true, false, false, false, false, false, false, false, false, false, false, false, false, false, false, false, false, false, false, false, false, false, false, false] rfl rfl (any_of HT_.out (by kernel_rfl)) (fun _ _ _ h => h) (Or.inl ⟨by rfl, ?_⟩) ?_ ?_
                rotate_left
                · intro w'
                  go_simp
                  with_reducible rfl
                rotate_left
                · simp only [Act.put, List.setIfInBounds_toArray, List.set_cons_zero, List.set_cons_succ, i64_w, i32_w]
                  rfl
                refine pure_ (i := 9) (N := some 71) (v := ?_) (a' := ?_) #[true, true, true, true, true, true, true, true, true, true, false, false, false, false, false, false, false, false, false, false, false, false, false, false, false, false, false, false, false, false, false, false] rfl rfl (any_of HT_.out (by kernel_rfl)) (fun _ _ _ h => h) (Or.inl ⟨by rfl, ?_⟩) ?_ ?_
                rotate_left
                · intro w'
                  go_simp
                  with_reducible rfl
                rotate_left
                · simp only [Act.put, List.setIfInBounds_toArray, List.set_cons_zero, List.set_cons_succ, i64_w, i32_w]
                  rfl
                refine pure_ (i := 10) (N := some 72) (v := ?_) (a' := ?_) #[true, true, true, true, true, true, true, true, true, true, true, false, false, false, false, false, false, false, false, false, false, false, false, false, false, false, false, false, false, false, false, false] rfl rfl (any_of HT_.out (by kernel_rfl)) (fun _ _ _ h => h) (Or.inl ⟨by rfl, ?_⟩) ?_ ?_
                rotate_left
                · intro w'
                  go_simp
                  with_reducible rfl
                rotate_left
                · simp only [Act.put, List.setIfInBounds_toArray, List.set_cons_zero, List.set_cons_succ, i64_w, i32_w]
                  rfl
                refine pure_ (i := 11) (N := some 73) (v := ?_) (a' := ?_) #[true, true, true, true, true, true, true, true, true, true, true, true, false, false, false, false, false, false, false, false, false, false, false, false, false, false, false, false, false, false, false, false] rfl rfl (any_of HT_.out (by kernel_rfl)) (fun _ _ _ h => h) (Or.inl ⟨by rfl, ?_⟩) ?_ ?_
                rotate_left
                · intro w'
                  go_simp
                  with_reducible rfl
                rotate_left
                · simp only [Act.put, List.setIfInBounds_toArray, List.set_cons_zero, List.set_cons_succ, i64_w, i32_w]
                  rfl
                refine pure_ (i := 13) (N := some 75) (v := ?_) (a' := ?_) #[true, true, true, true, true, true, true, true, true, true, true, true, false, true, false, false, false, false, false, false, false, false, false, false, false, false, false, false, false, false, false, false] rfl rfl (any_of HT_.out (by kernel_rfl)) (fun _ _ _ h => h) (Or.inl ⟨by rfl, ?_⟩) ?_ ?_
                rotate_left
                · intro w'
                  go_simp
                  with_reducible rfl
                rotate_left
                · simp only [Act.put, List.setIfInBounds_toArray, List.set_cons_zero, List.set_cons_succ, i64_w, i32_w]
                  rfl
                refine pure_ (i := 14) (N := some 76) (v := ?_) (a' := ?_) #[true, true, true, true, true, true, true, true, true, true, true, true, false, true, true, false, false, false, false, false, false, false, false, false, false, false, false, false, false, false, false, false] rfl rfl (any_of HT_.out (by kernel_rfl)) (fun _ _ _ h => h) (Or.inl ⟨by rfl, ?_⟩) ?_ ?_
                rotate_left
                · intro w'
                  go_simp
                  with_reducible rfl
                rotate_left
                · simp only [Act.put, List.setIfInBounds_toArray, List.set_cons_zero, List.set_cons_succ, i64_w, i32_w]
                  rfl
                refine pure_ (i := 17) (N := some 79) (v := ?_) (a' := ?_) #[true, true, true, true, true, true, true, true, true, true, true, true, false, true, true, false, false, true, false, false, false, false, false, false, false, false, false, false, false, false, false, false] rfl rfl (any_of HT_.out (by kernel_rfl)) (fun _ _ _ h => h) (Or.inl ⟨by rfl, ?_⟩) ?_ ?_
                rotate_left
                · intro w'
                  go_simp
                  with_reducible rfl
                rotate_left
                · simp only [Act.put, List.setIfInBounds_toArray, List.set_cons_zero, List.set_cons_succ, i64_w, i32_w]
                  rfl
                refine take_ (i := 12) (N := some 74) (v := ?_) (a' := ?_) #[true, true, true, true, true, true, true, true, true, true, true, true, true, true, true, false, false, true, false, false, false, false, false, false, false, false, false, false, false, false, false, false] rfl rfl (take_ofW HT_.out HW_.out (by kernel_rfl)) (fun _ _ _ h => h) (Or.inl ⟨by rfl, ?_⟩) hHeld ?_ ?_
                rotate_left
                · rintro w' ⟨s0, s1⟩
                  have z0 := (blk_cell s0 n).trans (cs7_at Af cf L n hn3)
                  have z1 := (blk_cell s0 m).trans (cs7_at Af cf L m hm3)
                  have z2 := (blk_cell s1 n).trans (cs8_at s n hn3)
                  have z3 := (blk_cell s1 m).trans (cs8_at s m hm3)
                  unfold sl at z0 z1
                  go_simp
                  with_reducible rfl
                rotate_left
                · simp only [Act.put, List.setIfInBounds_toArray, List.set_cons_zero, List.set_cons_succ, i64_w, i32_w]
                  rfl
                refine take_ (i := 15) (N := some 77) (v := ?_) (a' := ?_) #[true, true, true, true, true, true, true, true, true, true, true, true, true, true, true, true, false, true, false, false, false, false, false, false, false, false, false, false, false, false, false, false] rfl rfl (take_ofW HT_.out HW_.out (by kernel_rfl)) (fun _ _ _ h => h) (Or.inl ⟨by rfl, ?_⟩) hHeld ?_ ?_
                rotate_left
                · rintro w' ⟨s0, s1⟩
                  have z0 := (blk_cell s0 n).trans (cs7_at Af cf L n hn3)
                  have z1 := (blk_cell s0 m).trans (cs7_at Af cf L m hm3)
                  have z2 := (blk_cell s1 n).trans (cs8_at s n hn3)
                  have z3 := (blk_cell s1 m).trans (cs8_at s m hm3)
                  unfold sl at z0 z1
                  go_simp
                  with_reducible rfl
                rotate_left
                · simp only [Act.put, List.setIfInBounds_toArray, List.set_cons_zero, List.set_cons_succ, i64_w, i32_w]
                  rfl
                refine one_ (i := 16) (N := some 78) #[true, true, true, true, true, true, true, true, true, true, true, true, true, true, true, true, true, true, false, false, false, false, false, false, false, false, false, false, false, false, false, false] rfl rfl (one_of HT_.out (by kernel_rfl)) (by decide) (fun K hK => ?_)
                refine goes_ Try.func17 (by kernel_rfl) rfl #[.slice (Af n) (L n).length (cf n), .slice (Af m) (L m).length (cf m)] (by rfl) rfl rfl (by (try simp only [List.map_toArray, List.map_cons, List.map_nil]); first | done | rfl) ?_
                with_reducible refine (tuple_Compare.calls k _ _ (L n) _ _ (L m) _ _ (Kd.C_below HCn.out.1 D4.out) HCn.out.2 (Kd.C_below HCm.out.1 D4.out) HCm.out.2 hc).mono ?_
                rintro e w11 ⟨rfl, hb⟩
                refine ⟨_, rfl, ?_⟩
                have n_C7 := Aside0.mk (blk_below C7.out hb)
                clear C7
                have C7 := n_C7
                clear n_C7
                have n_C8 := Aside0.mk (blk_below C8.out hb)
                clear C8
                have C8 := n_C8
                clear n_C8
                have n_D4 := Aside0.mk (below_step D4.out hb)
                clear D4
                have D4 := n_D4
                clear n_D4
                have n_D0 := Aside0.mk (below_step D0.out hb)
                clear D0
                have D0 := n_D0
                clear n_D0
                clear hb
                refine hK.out _ _ ⟨C7.out, C8.out⟩ (fun hHeld => ?_)
                clear hK K
                refine norm_ (a' := ?_) ?_ ?_
                rotate_left
                · show Act.put _ (some 78) _ = _
                  simp only [Act.put, List.setIfInBounds_toArray, List.set_cons_zero, List.set_cons_succ, i64_w, i32_w]
                  rfl
                refine pure_ (i := 18) (N := some 80) (v := ?_) (a' := ?_) #[true, true, true, true, true, true, true, true, true, true, true, true, true, true, true, true, true, true, true, false, false, false, false, false, false, false, false, false, false, false, false, false] rfl rfl (any_of HT_.out (by kernel_rfl)) (fun _ _ _ h => h) (Or.inl ⟨by rfl, ?_⟩) ?_ ?_
                rotate_left
                · intro w'
                  go_simp
                  with_reducible rfl
                rotate_left
                · simp only [Act.put, List.setIfInBounds_toArray, List.set_cons_zero, List.set_cons_succ, i64_w, i32_w]
                  rfl
                refine pure_ (i := 19) (N := some 81) (v := ?_) (a' := ?_) #[true, true, true, true, true, true, true, true, true, true, true, true, true, true, true, true, true, true, true, true, false, false, false, false, false, false, false, false, false, false, false, false] rfl rfl (any_of HT_.out (by kernel_rfl)) (fun _ _ _ h => h) (Or.inl ⟨by rfl, ?_⟩) ?_ ?_
                rotate_left
                · intro w'
                  go_simp
                  with_reducible rfl
                rotate_left
                · simp only [Act.put, List.setIfInBounds_toArray, List.set_cons_zero, List.set_cons_succ, i64_w, i32_w]
                  rfl
                refine pure_ (i := 20) (N := some 82) (v := ?_) (a' := ?_) #[true, true, true, true, true, true, true, true, true, true, true, true, true, true, true, true, true, true, true, true, true, false, false, false, false, false, false, false, false, false, false, false] rfl rfl (any_of HT_.out (by kernel_rfl)) (fun _ _ _ h => h) (Or.inl ⟨by rfl, ?_⟩) ?_ ?_
                rotate_left
                · intro w'
                  go_simp
                  with_reducible rfl
                rotate_left
                · simp only [Act.put, List.setIfInBounds_toArray, List.set_cons_zero, List.set_cons_succ, i64_w, i32_w]
                  rfl
                refine pure_ (i := 21) (N := some 83) (v := ?_) (a' := ?_) #[true, true, true, true, true, true, true, true, true, true, true, true, true, true, true, true, true, true, true, true, true, true, false, false, false, false, false, false, false, false, false, false] rfl rfl (any_of HT_.out (by kernel_rfl)) (fun _ _ _ h => h) (Or.inl ⟨by rfl, ?_⟩) ?_ ?_
                rotate_left
                · intro w'
                  go_simp
                  with_reducible rfl
                rotate_left
                · simp only [Act.put, List.setIfInBounds_toArray, List.set_cons_zero, List.set_cons_succ, i64_w, i32_w]
                  rfl
                refine pure_ (i := 22) (N := some 84) (v := ?_) (a' := ?_) #[true, true, true, true, true, true, true, true, true, true, true, true, true, true, true, true, true, true, true, true, true, true, true, false, false, false, false, false, false, false, false, false] rfl rfl (any_of HT_.out (by kernel_rfl)) (fun _ _ _ h => h) (Or.inl ⟨by rfl, ?_⟩) ?_ ?_
                rotate_left
                · intro w'
                  go_simp
                  with_reducible rfl
                rotate_left
                · simp only [Act.put, List.setIfInBounds_toArray, List.set_cons_zero, List.set_cons_succ, i64_w, i32_w]
                  rfl
                refine pure_ (i := 23) (N := some 85) (v := ?_) (a' := ?_) #[true, true, true, true, true, true, true, true, true, true, true, true, true, true, true, true, true, true, true, true, true, true, true, true, false, false, false, false, false, false, false, false] rfl rfl (any_of HT_.out (by kernel_rfl)) (fun _ _ _ h => h) (Or.inl ⟨by rfl, ?_⟩) ?_ ?_
                rotate_left
                · intro w'
                  go_simp
                  with_reducible rfl
                rotate_left
                · simp only [Act.put, List.setIfInBounds_toArray, List.set_cons_zero, List.set_cons_succ, i64_w, i32_w]
                  rfl
                refine pure_ (i := 24) (N := some 86) (v := ?_) (a' := ?_) #[true, true, true, true, true, true, true, true, true, true, true, true, true, true, true, true, true, true, true, true, true, true, true, true, true, false, false, false, false, false, false, false] rfl rfl (any_of HT_.out (by kernel_rfl)) (fun _ _ _ h => h) (Or.inl ⟨by rfl, ?_⟩) ?_ ?_
                rotate_left
                · intro w'
                  go_simp
                  with_reducible rfl
                rotate_left
                · simp only [Act.put, List.setIfInBounds_toArray, List.set_cons_zero, List.set_cons_succ, i64_w, i32_w]
                  rfl
                refine pure_ (i := 26) (N := some 88) (v := ?_) (a' := ?_) #[true, true, true, true, true, true, true, true, true, true, true, true, true, true, true, true, true, true, true, true, true, true, true, true, true, false, true, false, false, false, false, false] rfl rfl (any_of HT_.out (by kernel_rfl)) (fun _ _ _ h => h) (Or.inl ⟨by rfl, ?_⟩) ?_ ?_
                rotate_left
                · intro w'
                  go_simp
                  with_reducible rfl
                rotate_left
                · simp only [Act.put, List.setIfInBounds_toArray, List.set_cons_zero, List.set_cons_succ, i64_w, i32_w]
                  rfl
                refine pure_ (i := 27) (N := some 89) (v := ?_) (a' := ?_) #[true, true, true, true, true, true, true, true, true, true, true, true, true, true, true, true, true, true, true, true, true, true, true, true, true, false, true, true, false, false, false, false] rfl rfl (any_of HT_.out (by kernel_rfl)) (fun _ _ _ h => h) (Or.inl ⟨by rfl, ?_⟩) ?_ ?_
                rotate_left
                · intro w'
                  go_simp
                  with_reducible rfl
                rotate_left
                · simp only [Act.put, List.setIfInBounds_toArray, List.set_cons_zero, List.set_cons_succ, i64_w, i32_w]
                  rfl
                refine take_ (i := 25) (N := some 87) (v := ?_) (a' := ?_) #[true, true, true, true, true, true, true, true, true, true, true, true, true, true, true, true, true, true, true, true, true, true, true, true, true, true, true, true, false, false, false, false] rfl rfl (take_ofW HT_.out HW_.out (by kernel_rfl)) (fun _ _ _ h => h) (Or.inl ⟨by rfl, ?_⟩) hHeld ?_ ?_
                rotate_left
                · rintro w' ⟨s0, s1⟩
                  have z0 := (blk_cell s0 n).trans (cs7_at Af cf L n hn3)
                  have z1 := (blk_cell s0 m).trans (cs7_at Af cf L m hm3)
                  have z2 := (blk_cell s1 n).trans (cs8_at s n hn3)
                  have z3 := (blk_cell s1 m).trans (cs8_at s m hm3)
                  unfold sl at z0 z1
                  go_simp
                  with_reducible rfl
                rotate_left
                · simp only [Act.put, List.setIfInBounds_toArray, List.set_cons_zero, List.set_cons_succ, i64_w, i32_w]
                  rfl
                refine take_ (i := 28) (N := some 90) (v := ?_) (a' := ?_) #[true, true, true, true, true, true, true, true, true, true, true, true, true, true, true, true, true, true, true, true, true, true, true, true, true, true, true, true, true, false, false, false] rfl rfl (take_ofW HT_.out HW_.out (by kernel_rfl)) (fun _ _ _ h => h) (Or.inl ⟨by rfl, ?_⟩) hHeld ?_ ?_
                rotate_left
                · rintro w' ⟨s0, s1⟩
                  have z0 := (blk_cell s0 n).trans (cs7_at Af cf L n hn3)
                  have z1 := (blk_cell s0 m).trans (cs7_at Af cf L m hm3)
                  have z2 := (blk_cell s1 n).trans (cs8_at s n hn3)
                  have z3 := (blk_cell s1 m).trans (cs8_at s m hm3)
                  unfold sl at z0 z1
                  go_simp
                  with_reducible rfl
                rotate_left
                · simp only [Act.put, List.setIfInBounds_toArray, List.set_cons_zero, List.set_cons_succ, i64_w, i32_w]
                  rfl
                refine one_ (i := 29) (N := some 91) #[true, true, true, true, true, true, true, true, true, true, true, true, true, true, true, true, true, true, true, true, true, true, true, true, true, true, true, true, true, true, false, false] rfl rfl (one_of HT_.out (by kernel_rfl)) (by decide) (fun K hK => ?_)
                refine goes_ Try.func25 (by kernel_rfl) rfl #[.slice (Af n) (L n).length (cf n), .slice (Af m) (L m).length (cf m)] (by rfl) rfl rfl (by (try simp only [List.map_toArray, List.map_cons, List.map_nil]); first | done | rfl) ?_
                with_reducible refine (cofferlaw05_equal.calls k _ _ (L n) _ _ (L m) _ _ (Kd.C_below HCn.out.1 D4.out) HCn.out.2 (Kd.C_below HCm.out.1 D4.out) HCm.out.2 he).mono ?_
                rintro e w11 ⟨rfl, hd⟩
                have hb := hd.below
                clear hd
                refine ⟨_, rfl, ?_⟩
                have n_C7 := Aside0.mk (blk_below C7.out hb)
                clear C7
                have C7 := n_C7
                clear n_C7
                have n_C8 := Aside0.mk (blk_below C8.out hb)
                clear C8
                have C8 := n_C8
                clear n_C8
                have n_D4 := Aside0.mk (below_step D4.out hb)
                clear D4
                have D4 := n_D4
                clear n_D4
                have n_D0 := Aside0.mk (below_step D0.out hb)
                clear D0
                have D0 := n_D0
                clear n_D0
                clear hb
                refine hK.out _ _ ⟨C7.out, C8.out⟩ (fun hHeld => ?_)
                clear hK K
                refine norm_ (a' := ?_) ?_ ?_
                rotate_left
                · show Act.put _ (some 91) _ = _
                  simp only [Act.put, List.setIfInBounds_toArray, List.set_cons_zero, List.set_cons_succ, i64_w, i32_w]
                  rfl
                refine pure_ (i := 30) (N := some 92) (v := ?_) (a' := ?_) #[true, true, true, true, true, true, true, true, true, true, true, true, true, true, true, true, true, true, true, true, true, true, true, true, true, true, true, true, true, true, true, false] rfl rfl (any_of HT_.out (by kernel_rfl)) (fun _ _ _ h => h) (Or.inl ⟨by rfl, ?_⟩) ?_ ?_
                rotate_left
                · intro w'
                  go_simp
                  with_reducible rfl
                rotate_left
                · simp only [Act.put, List.setIfInBounds_toArray, List.set_cons_zero, List.set_cons_succ, i64_w, i32_w]
                  rfl
                refine pure_ (i := 31) (N := some 93) (v := ?_) (a' := ?_) #[true, true, true, true, true, true, true, true, true, true, true, true, true, true, true, true, true, true, true, true, true, true, true, true, true, true, true, true, true, true, true, true] rfl rfl (any_of HT_.out (by kernel_rfl)) (fun _ _ _ h => h) (Or.inl ⟨by rfl, ?_⟩) ?_ ?_
                rotate_left
                · intro w'
                  go_simp
                  with_reducible rfl
                rotate_left
                · simp only [Act.put, List.setIfInBounds_toArray, List.set_cons_zero, List.set_cons_succ, i64_w, i32_w]
                  rfl
                refine done_ (done_of HT_.out (by kernel_rfl)) ?_
                go_wp2
                go_roundw
                case rel => exact ⟨m + 1, by omega, by go_num, C7, C8, D4, D0⟩
                case measure => simp [intOf]; omega
            · have qm : ((m : Int) < 3) = False := eq_false (by omega)
              go_wp2
              go_roundw
              case rel => exact ⟨n + 1, by omega, by go_num, C7, C8, D4, D0⟩
              case measure => simp [intOf]; omega
        · have qn : ((n : Int) < 3) = False := eq_false (by omega)
          go_wp2
          go_ret
          exact ⟨rfl, D0.out⟩
end Go.Proofs.Ytbohpjbcjnapfaa.X
