/- tuple.text and tuple.number: what they write behind a Builder's text; walked by hand over the shelf's contracts. -/
import Derived.Test.YtbohpjbcjnapfaaX0
import Derived.Test.YtbohpjbcjnapfaaShelf
namespace Go.Proofs.Ytbohpjbcjnapfaa.X
open Go.RowKit Go.Proofs.YtbohpjbcjnapfaaW.PrintWords Go.Proofs.YtbohpjbcjnapfaaW.PrintLast Go.Proofs.YtbohpjbcjnapfaaW.PrintMore
set_option linter.unusedVariables false
set_option linter.unusedSimpArgs false

theorem builder_below {T e B b : Nat} {bs : List Value} {w w1 : World} (h : Lib.IsBuilder T e B b bs w) (hb : Below w.heap.size w w1) : Lib.IsBuilder T e B b bs w1 := by
  have g : ∀ p, Lib.BuilderAt T e B b p bs w → Lib.BuilderAt T e B b p bs w1 := by
    intro p h
    have hl := h.lt
    obtain ⟨h0, v, h1, h2, h3⟩ := h
    exact ⟨h0, v, blk_below h1 hb, pw_own_below h2 hb, h3⟩
  rcases h with h | h
  · exact .inl (g _ h)
  · exact .inr (g _ h)
def BU (B b : Nat) (l : List UInt8) (w : World) : Prop := Lib.IsBuilder 65 5 B b (Lib.byteCells l) w
theorem bu_below {B b : Nat} {l : List UInt8} {w w1 : World} (h : BU B b l w) (hb : Below w.heap.size w w1) : BU B b l w1 := builder_below h hb
theorem cells_str (l : List UInt8) (s : ByteArray) : Lib.byteCells l ++ Lib.strCells s = Lib.byteCells (l ++ s.data.toList) := by
  simp [Lib.byteCells, Lib.strCells]
theorem cells_byte (l : List UInt8) (c : UInt8) : Lib.byteCells l ++ [.int .u8 c.toNat] = Lib.byteCells (l ++ [c]) := by simp [Lib.byteCells]
/-- Whatever is neither bytes nor a Builder stays. -/
def Keeps (w w1 : World) : Prop := ∀ (i : Nat) (cells : Array Value) (t : Nat), t ≠ 5 → t ≠ 65 → w.heap[i]? = some (Obj.cells cells t (0, 0)) → w1.heap[i]? = some (Obj.cells cells t (0, 0))
theorem Keeps.refl (w : World) : Keeps w w := fun _ _ _ _ _ h => h
theorem Keeps.trans {a b c : World} (h : Keeps a b) (k : Keeps b c) : Keeps a c := fun i cs t h5 h65 hi => k i cs t h5 h65 (h i cs t h5 h65 hi)
theorem Keeps.below {w w1 : World} (h : Below w.heap.size w w1) : Keeps w w1 := fun i cs t _ _ hi => blk_below hi h
theorem Keeps.set {w : World} {g : Nat} {cs : Array Value} (hb : w.heap[g]? = some (.cells cs 65 (0, 0))) (j : Nat) (u : Value) : Keeps w (w.setCell ⟨g, j, none⟩ u) := fun i cells t _ h65 hi =>
  blk_far hi (p := ⟨g, j, none⟩) (fun e => by
    have e : i = g := e
    subst e; rw [hb] at hi; injection hi with hi; injection hi with _ ht; exact h65 ht.symm) u
theorem Keeps.grown {w w1 : World} {v : Value} {bs : List Value} {n B : Nat} (ho : w.ownsRow B 5 1 v n bs) (hg : w.grownBy w1 v.ownBlock) : Keeps w w1 := fun i cells t h5 _ hi =>
  blk_grown hi hg (fun e => by
    obtain ⟨cs, hc⟩ := own_typed ho i e.symm
    rw [hc] at hi; injection hi with hi; injection hi with _ ht; exact h5 ht.symm)
theorem cc (B b : Nat) (l : List UInt8) (w : World) (h : BU B b l w) :
    Calls Try.prog 44 #[.pointer (some ⟨b, 0, none⟩)] w fun e w' => e = .returned (.tuple #[]) ∧ Lib.BuilderAt 65 5 B b (.pointer (some ⟨b, 0, none⟩)) (Lib.byteCells l) w' ∧ Below B w w' ∧ w.heap.size ≤ w'.heap.size ∧ Keeps w w' := by
  rcases h with h | h
  · refine (Any.Builder_copyCheck_fresh { Try.lays166 with } Try.Builder_Extra_166.toX72 b w h.cell0 h.shape h.frozen0).mono ?_
    rintro e w' ⟨rfl, rfl⟩
    obtain ⟨h0, v, h1, _⟩ := h
    exact ⟨rfl, Lib.BuilderAt.used ⟨h0, v, h1, ‹_›⟩ _, (Below.refl B w).setCell (p := ⟨b, 0, none⟩) h0 _, by simp, Keeps.set h1 0 _⟩
  · refine (Any.Builder_copyCheck_used { Try.lays166 with } Try.Builder_Extra_166.toX72 b w h.cell0).mono ?_
    rintro e w' ⟨rfl, rfl⟩
    exact ⟨rfl, h, Below.refl B _, Nat.le_refl _, Keeps.refl _⟩
theorem cells_nums (l : List UInt8) : Lib.byteCells l = nums .u8 (l.map fun b => (b.toNat : Int)) := by simp [Lib.byteCells, nums]
theorem put_builder {B b : Nat} {v v' : Value} {l' : List UInt8} {w2 : World} (h0 : B ≤ b) (hb : w2.heap[b]? = some (.cells #[.pointer (some ⟨b, 0, none⟩), v] 65 (0, 0))) (ho : w2.ownsRow B 5 1 v' l'.length (Lib.byteCells l')) :
    BU B b l' (w2.setCell ⟨b, 1, none⟩ v') := by
  have hne : v'.ownBlock ≠ some b := fun e => own_ne ho hb (by decide) e.symm
  refine .inr ⟨h0, v', blk_set hb 1 v', ?_, hne⟩
  have hl : (Lib.byteCells l').length = l'.length := Lib.byteCells_length l'
  rw [hl]
  exact own_setCell ho (p := ⟨b, 1, none⟩) (fun e => hne e.symm) v'
def ints (l : List UInt8) : List Int := l.map fun b => (b.toNat : Int)
theorem ints_len (l : List UInt8) : (ints l).length = l.length := by simp [ints]
theorem own_ints {B : Nat} {v : Value} {l : List UInt8} {w : World} (h : w.ownsRow B 5 1 v (Lib.byteCells l).length (Lib.byteCells l)) : w.ownsRow B 5 1 v (ints l).length (nums .u8 (ints l)) := by
  rw [Lib.byteCells_length] at h
  rw [ints_len]; rw [cells_nums] at h; exact h
theorem ints_own {B n : Nat} {v : Value} {l : List UInt8} {xs : List Int} {w : World} (h : w.ownsRow B 5 1 v n (nums .u8 xs)) (e : xs = ints l) : w.ownsRow B 5 1 v l.length (Lib.byteCells l) := by
  subst e
  have hl := h.1
  rw [nums_length, ints_len, Nat.mul_one] at hl
  rw [cells_nums, hl]; exact h
set_option maxHeartbeats 4000000 in
set_option maxRecDepth 100000 in
theorem bu_byte (B b : Nat) (l : List UInt8) (c : Int) (w : World) (h : BU B b l w) (h0 : 0 ≤ c) (h1 : c < 256) (hl : l.length + 1 ≤ 140737488355328) (hB : B ≤ w.heap.size) :
    Calls Try.prog 32 #[.pointer (some ⟨b, 0, none⟩), .int .u8 c] w fun e w' => e = .returned .nilIface ∧ BU B b (l ++ [UInt8.ofNat c.toNat]) w' ∧ Below B w w' ∧ Keeps w w' := by
  have H := Aside0.mk h
  have LM := Aside0.mk hl
  have HBs := Aside0.mk hB
  have HE : Aside0 (ints l ++ [c] = ints (l ++ [UInt8.ofNat c.toNat])) := ⟨by unfold ints; rw [List.map_append, List.map_cons, List.map_nil]; congr 2; simp; omega⟩
  clear h
  go_enter Try.func32, Try.ntmps32
  go_wp2_with (first | (go_at_call 44; (with_reducible refine (cc B b l _ H.out).mono ?_); rintro e w1 ⟨rfl, h1, h2, h3, h4⟩; have HW := Aside0.mk h2; have HZ := Aside0.mk h3; have HK := Aside0.mk h4; obtain ⟨g0, v, hb, ho, hne⟩ := h1; have HO := Aside0.mk (own_ints ho); have HBk := Aside0.mk hb; have G0 := Aside0.mk g0; clear h2 h3 h4 ho hne hb g0; have b1 : w1.cell? ⟨b, 1, none⟩ = some v := (blk_cell HBk.out 1).trans rfl; have f1 := blk_frozen HBk.out 1) | ((with_reducible refine gate_builtin (b := .append) (xs := #[.tmp 11, .tmp 13]) rfl ?_); at_builtin; refine print_append_num (w0 := w) B rfl (.tmp 11) (.tmp 13) 63 5 .u8 1 rfl Try.underlying63 info5 (by decide) v (ints l) c rfl rfl HO.out HW.out ?hb ?hl ?_; (case hb => exact Nat.le_trans HBs.out HZ.out); (case hl => have := LM.out; rw [ints_len]; omega); intro v1 w2 hown hbel hg hat; obtain ⟨A2, c2, e2⟩ := own_slice hown; obtain ⟨n2, hn2⟩ : ∃ n, n = (ints l ++ [c]).length := ⟨_, rfl⟩; rw [← hn2] at e2 hown; clear hn2; subst e2; have HO2 := Aside0.mk hown; have HW2 := Aside0.mk hbel; have HB2 := Aside0.mk (blk_grown HBk.out hg (own_ne HO.out HBk.out (by decide))); have HK2 := Aside0.mk ((HK.out).trans (Keeps.grown HO.out hg)); clear hown hbel hg hat b1 f1; have b1 : w2.cell? ⟨b, 1, none⟩ = some v := (blk_cell HB2.out 1).trans rfl; have f1 := blk_frozen HB2.out 1))
  go_ret
  exact ⟨rfl, put_builder G0.out HB2.out (ints_own HO2.out HE.out), HW2.out.setCell (p := ⟨b, 1, none⟩) G0.out _, HK2.out.trans (Keeps.set HB2.out 1 _)⟩
set_option maxHeartbeats 4000000 in
set_option maxRecDepth 100000 in
theorem bu_str (B b : Nat) (l : List UInt8) (s : ByteArray) (w : World) (h : BU B b l w) (hl : l.length + s.size ≤ 140737488355328) (hB : B ≤ w.heap.size) :
    Calls Try.prog 45 #[.pointer (some ⟨b, 0, none⟩), .string s] w fun e w' => e = .returned (.tuple #[.int .i64 s.size, .nilIface]) ∧ BU B b (l ++ s.data.toList) w' ∧ Below B w w' ∧ Keeps w w' := by
  have H := Aside0.mk h
  have LM := Aside0.mk hl
  have HBs := Aside0.mk hB
  have HE : Aside0 (ints l ++ bytesOf s = ints (l ++ s.data.toList)) := ⟨by unfold ints bytesOf; rw [List.map_append]⟩
  clear h
  go_enter Try.func45, Try.ntmps45
  go_wp2_with (first | (go_at_call 44; (with_reducible refine (cc B b l _ H.out).mono ?_); rintro e w1 ⟨rfl, h1, h2, h3, h4⟩; have HW := Aside0.mk h2; have HZ := Aside0.mk h3; have HK := Aside0.mk h4; obtain ⟨g0, v, hb, ho, hne⟩ := h1; have HO := Aside0.mk (own_ints ho); have HBk := Aside0.mk hb; have G0 := Aside0.mk g0; clear h2 h3 h4 ho hne hb g0; have b1 : w1.cell? ⟨b, 1, none⟩ = some v := (blk_cell HBk.out 1).trans rfl; have f1 := blk_frozen HBk.out 1) | ((with_reducible refine gate_builtin (b := .append) (xs := #[.tmp 12, .tmp 13]) rfl ?_); at_builtin; refine print_append_str (w0 := w) B rfl (.tmp 12) (.tmp 13) 63 9 5 rfl Try.underlying63 Try.underlying9 info5 v (ints l) s rfl rfl HO.out HW.out ?hb ?hl ?_; (case hb => exact Nat.le_trans HBs.out HZ.out); (case hl => have := LM.out; rw [ints_len]; omega); intro v1 w2 hown hbel hg; obtain ⟨A2, c2, e2⟩ := own_slice hown; obtain ⟨n2, hn2⟩ : ∃ n, n = (ints l ++ bytesOf s).length := ⟨_, rfl⟩; rw [← hn2] at e2 hown; clear hn2; subst e2; have HO2 := Aside0.mk hown; have HW2 := Aside0.mk hbel; have HB2 := Aside0.mk (blk_grown HBk.out hg (own_ne HO.out HBk.out (by decide))); have HK2 := Aside0.mk ((HK.out).trans (Keeps.grown HO.out hg)); clear hown hbel hg b1 f1; have b1 : w2.cell? ⟨b, 1, none⟩ = some v := (blk_cell HB2.out 1).trans rfl; have f1 := blk_frozen HB2.out 1))
  go_ret2
  exact ⟨rfl, put_builder G0.out HB2.out (ints_own HO2.out HE.out), HW2.out.setCell (p := ⟨b, 1, none⟩) G0.out _, HK2.out.trans (Keeps.set HB2.out 1 _)⟩
theorem ext_take (s : ByteArray) (n : Nat) : (s.extract 0 n).data.toList = s.data.toList.take n := by
  simp [ByteArray.data_extract, Array.toList_extract, List.extract_eq_take_drop]
theorem ext_drop (s : ByteArray) (n : Nat) : (s.extract n s.size).data.toList = s.data.toList.drop n := by
  simp only [ByteArray.data_extract, Array.toList_extract, List.extract_eq_take_drop]
  exact List.take_of_length_le (by rw [List.length_drop]; exact Nat.le_refl _)
theorem rep_zero (n : Nat) : Lib.repeatL (⟨#[0]⟩ : ByteArray).data.toList n = List.replicate n 0 := by
  induction n with
  | zero => rfl
  | succ n ih => simp only [Lib.repeatL, List.replicate_succ, ih]; rfl
/-- A text in groups. -/
def grp (l : List UInt8) : List UInt8 := if 8 < l.length then l.take 8 ++ 9 :: grp (l.drop 8) else l ++ List.replicate (8 - l.length) 0 ++ [UInt8.ofNat l.length]
termination_by l.length
decreasing_by rw [List.length_drop]; omega
theorem grp_len (l : List UInt8) : (grp l).length ≤ 2 * l.length + 9 := by
  induction hn : l.length using Nat.strongRecOn generalizing l with
  | _ n ih =>
    rw [grp]
    by_cases h : 8 < l.length
    · rw [if_pos h]
      have := ih (l.drop 8).length (by rw [List.length_drop]; omega) (l.drop 8) rfl
      rw [List.length_drop] at this
      simp only [List.length_append, List.length_take, List.length_cons]; omega
    · rw [if_neg h]
      simp only [List.length_append, List.length_replicate, List.length_singleton]; omega
set_option maxHeartbeats 4000000 in
theorem text_calls (B b : Nat) (l : List UInt8) (s : ByteArray) (w : World) (h : BU B b l w) (hl : l.length + (grp s.data.toList).length ≤ 140737488355328) (hB : B ≤ w.heap.size) :
    Calls Try.prog 33 #[.pointer (some ⟨b, 0, none⟩), .string s] w fun e w' => e = .returned (.tuple #[]) ∧ BU B b (l ++ grp s.data.toList) w' ∧ Below B w w' ∧ Keeps w w' := by
  have H := Aside0.mk h
  have LM := Aside0.mk hl
  clear h
  go_enter Try.func33, Try.ntmps33
  go_wp2
  go_loopw [1] (fun v W => ∃ (s' : ByteArray) (l' : List UInt8), v = .string s' ∧ BU B b l' W ∧ Below B w W ∧ Keeps w W ∧ Aside0 (l' ++ grp s'.data.toList = l ++ grp s.data.toList)) (fun v _ => match v with | .string x => x.size | _ => 0)
  case atStart => exact ⟨s, l, rfl, H.out, Below.refl _ _, Keeps.refl _, ⟨rfl⟩⟩
  case round =>
    obtain ⟨s', l', rfl, hb, hw, hk, HE⟩ := hrel
    have HL : Aside0 (l'.length + (grp s'.data.toList).length ≤ 140737488355328) := ⟨by
      have := congrArg List.length HE.out
      rw [List.length_append, List.length_append] at this
      rw [this]; exact LM.out⟩
    have HB := Aside0.mk hb
    have HW := Aside0.mk hw
    have HK := Aside0.mk hk
    clear hb hw hk
    by_cases hlt : 8 < s'.size
    · have hd : decide ((8 : Int) < (s'.size : Int)) = true := decide_eq_true (by omega)
      have HG : Aside0 (grp s'.data.toList = (s'.extract 0 8).data.toList ++ 9 :: grp (s'.extract 8 s'.size).data.toList) := ⟨by
        conv => lhs; rw [grp]
        rw [if_pos (show 8 < s'.data.toList.length from hlt), ext_take, ext_drop]⟩
      have HS : Aside0 ((s'.extract 0 8).size = 8 ∧ (s'.extract 8 s'.size).size = s'.size - 8) := ⟨by rw [ByteArray.size_extract, ByteArray.size_extract]; omega⟩
      go_wp2_with (first
        | (go_at_call 45; (with_reducible refine (bu_str B b l' _ _ HB.out ?hl1 ?hb1).mono ?_); (case hl1 => have := HS.out; have := HL.out; rw [HG.out, List.length_append, Array.length_toList, List.length_cons] at this; change l'.length + ((s'.extract 0 8).size + _) ≤ _ at this; omega); (case hb1 => exact Nat.le_trans hB HW.out.size); rintro e w1 ⟨rfl, h1, h2, h3⟩; have HB1 := Aside0.mk h1; have HW1 := Aside0.mk (HW.out.trans h2); have HK1 := Aside0.mk (HK.out.trans h3); clear h1 h2 h3)
        | (go_at_call 32; (with_reducible refine (bu_byte B b _ 9 _ HB1.out (by omega) (by omega) ?hl2 ?hb2).mono ?_); (case hl2 => have := HS.out; have := HL.out; rw [HG.out, List.length_append, Array.length_toList, List.length_cons] at this; change l'.length + ((s'.extract 0 8).size + _) ≤ _ at this; rw [List.length_append, Array.length_toList]; show l'.length + (s'.extract 0 8).size + 1 ≤ _; omega); (case hb2 => exact Nat.le_trans hB HW1.out.size); rintro e w2 ⟨rfl, h1, h2, h3⟩; have HB2 := Aside0.mk h1; have HW2 := Aside0.mk (HW1.out.trans h2); have HK2 := Aside0.mk (HK1.out.trans h3); clear h1 h2 h3))
      go_roundw
      case rel =>
        refine ⟨_, _, rfl, HB2.out, HW2.out, HK2.out, ⟨?_⟩⟩
        rw [← HE.out, HG.out]
        simp
      case measure =>
        show (s'.extract 8 s'.size).size < s'.size
        have := HS.out; omega
    · have hd : decide ((8 : Int) < (s'.size : Int)) = false := decide_eq_false (by omega)
      have HG : Aside0 (grp s'.data.toList = s'.data.toList ++ List.replicate (8 - s'.size) 0 ++ [UInt8.ofNat s'.size]) := ⟨by
        conv => lhs; rw [grp]
        rw [if_neg (show ¬ 8 < s'.data.toList.length from hlt)]; rfl⟩
      have HL9 : Aside0 (l'.length + 9 ≤ 140737488355328) := ⟨by
        have := HL.out
        rw [HG.out] at this
        simp only [List.length_append, Array.length_toList, List.length_replicate, List.length_singleton] at this
        change l'.length + (s'.size + (8 - s'.size) + 1) ≤ _ at this
        omega⟩
      have HR : Aside0 ((Lib.repeatL (⟨#[0]⟩ : ByteArray).data.toList (8 - s'.size)) = List.replicate (8 - s'.size) 0) := ⟨rep_zero _⟩
      have hsub : ((8 : Int) - (s'.size : Int)) = ((8 - s'.size : Nat) : Int) := by omega
      have HSB := Aside0.mk hsub
      have h8 : s'.size ≤ 8 := by omega
      clear hsub
      go_wp2_with (first
        | (go_at_call 46; rw [HSB.out]; (with_reducible refine (Try.strings_Repeat (⟨#[0]⟩ : ByteArray) (8 - s'.size) _ ?hc ?hl).mono ?_); (case hc => omega); (case hl => show 1 * (8 - s'.size) ≤ _; omega); rintro e w4 ⟨rfl, h1⟩; have HB4 := Aside0.mk (bu_below HB1.out h1); have HW4 := Aside0.mk (below_then HW1.out (Nat.le_trans hB HW1.out.size) h1); have HK4 := Aside0.mk (HK1.out.trans (Keeps.below h1)); clear h1; rw [HR.out])
        | (go_at_call 45; (with_reducible refine (bu_str B b _ ⟨Array.replicate (8 - s'.size) 0⟩ _ HB4.out ?hl2 ?hb2).mono ?_); (case hl2 => have := HL9.out; rw [List.length_append, Array.length_toList]; show l'.length + s'.size + (Array.replicate (8 - s'.size) (0 : UInt8)).size ≤ _; simp; omega); (case hb2 => exact Nat.le_trans hB HW4.out.size); rintro e w5 ⟨rfl, h1, h2, h3⟩; have HB5 := Aside0.mk h1; have HW5 := Aside0.mk (HW4.out.trans h2); have HK5 := Aside0.mk (HK4.out.trans h3); clear h1 h2 h3)
        | (go_at_call 45; (with_reducible refine (bu_str B b l' s' _ HB.out ?hl1 ?hb1).mono ?_); (case hl1 => have := HL9.out; omega); (case hb1 => exact Nat.le_trans hB HW.out.size); rintro e w1 ⟨rfl, h1, h2, h3⟩; have HB1 := Aside0.mk h1; have HW1 := Aside0.mk (HW.out.trans h2); have HK1 := Aside0.mk (HK.out.trans h3); clear h1 h2 h3)
        | (go_at_call 32; (with_reducible refine (bu_byte B b _ (s'.size : Int) _ HB5.out ?h0 ?h1 ?hl2 ?hb2).mono ?_); (case h0 => omega); (case h1 => omega); (case hl2 => have := HL9.out; rw [List.length_append, List.length_append, Array.length_toList]; show l'.length + s'.size + (Array.replicate (8 - s'.size) (0 : UInt8)).toList.length + 1 ≤ _; simp; omega); (case hb2 => exact Nat.le_trans hB HW5.out.size); rintro e w6 ⟨rfl, h1, h2, h3⟩; have HB6 := Aside0.mk h1; have HW6 := Aside0.mk (HW5.out.trans h2); have HK6 := Aside0.mk (HK5.out.trans h3); clear h1 h2 h3))
      refine bodyPost_end (v := .tuple #[]) (by simp [results, Try.results33, go_sem]) rfl ⟨rfl, ?_, HW6.out, HK6.out⟩
      have := HB6.out
      rw [← HE.out, HG.out]
      have e : (UInt8.ofNat (s'.size : Int).toNat) = UInt8.ofNat s'.size := by rw [Int.toNat_natCast]
      rw [e] at this
      simpa only [List.append_assoc, Array.toList_replicate] using this
/-- The first n of a number's eight bytes, the highest first. -/
def be (v : Int) (n : Nat) : List UInt8 := (List.range n).map fun j => UInt8.ofNat ((v / 2 ^ (8 * (7 - j))) % 256).toNat
theorem be_succ (v : Int) (n : Nat) : be v (n + 1) = be v n ++ [UInt8.ofNat ((v / 2 ^ (8 * (7 - n))) % 256).toNat] := by
  unfold be; rw [List.range_succ, List.map_append]; rfl
theorem be_len (v : Int) (n : Nat) : (be v n).length = n := by unfold be; simp
set_option maxHeartbeats 4000000 in
theorem number_calls (B b : Nat) (l : List UInt8) (v : Int) (w : World) (h : BU B b l w) (h0 : 0 ≤ v) (h1 : v < 18446744073709551616) (hl : l.length + 20 ≤ 140737488355328) (hB : B ≤ w.heap.size) :
    Calls Try.prog 34 #[.pointer (some ⟨b, 0, none⟩), .int .u64 v] w fun e w' => e = .returned (.tuple #[]) ∧ BU B b (l ++ be v 8) w' ∧ Below B w w' ∧ Keeps w w' := by
  have H := Aside0.mk h
  have LM := Aside0.mk hl
  clear h
  go_enter Try.func34, Try.ntmps34
  go_wp2
  go_loopw [4] (fun i W => ∃ n : Nat, n ≤ 8 ∧ i = .int .i64 (7 - (n : Int)) ∧ BU B b (l ++ be v n) W ∧ Below B w W ∧ Keeps w W) (fun i _ => (intOf i + 1).toNat)
  case atStart => exact ⟨0, by omega, rfl, by simpa [be] using H.out, Below.refl _ _, Keeps.refl _⟩
  case round =>
    obtain ⟨n, hn, rfl, hb, hw, hk⟩ := hrel
    have HB := Aside0.mk hb
    have HW := Aside0.mk hw
    have HK := Aside0.mk hk
    clear hb hw hk
    by_cases hlt : n < 8
    · have hd : decide ((0 : Int) ≤ 7 - (n : Int)) = true := decide_eq_true (by omega)
      go_wp2_with (go_at_call 32; (with_reducible refine (bu_byte B b (l ++ be v n) (v / 2 ^ (8 * (7 - n)) % 256) _ HB.out (Int.emod_nonneg _ (by omega)) (Int.emod_lt_of_pos _ (by omega)) ?hl1 ?hb1).mono ?_); (case hl1 => have := LM.out; rw [List.length_append, be_len]; omega); (case hb1 => exact Nat.le_trans hB HW.out.size); rintro e w1 ⟨rfl, h1, h2, h3⟩; have HB1 := Aside0.mk h1; have HW1 := Aside0.mk (HW.out.trans h2); have HK1 := Aside0.mk (HK.out.trans h3); clear h1 h2 h3)
      go_roundw
      case rel => exact ⟨n + 1, by omega, by congr 1; omega, by rw [be_succ, ← List.append_assoc]; exact HB1.out, HW1.out, HK1.out⟩
      case measure => simp [intOf]; omega
    · obtain rfl : n = 8 := by omega
      go_wp2
      exact bodyPost_end (v := .tuple #[]) (by simp [results, Try.results34, go_sem]) rfl ⟨rfl, HB.out, HW.out, HK.out⟩
end Go.Proofs.Ytbohpjbcjnapfaa.X
