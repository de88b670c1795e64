/- Chapter 6: DiskKept, walked. -/
import Derived.Test.YtebhmbdblifddaaDkN
import Derived.Test.YtebhmbdblifddaaX37
namespace Go.Proofs.Ytebhmbdblifddaa.Dk
open Go.RowKit Go.Maps Go.Proofs.Ytebhmbdblifddaa.X Go.Proofs.YtebhmbdblifddaaW.PrintWords Go.Proofs.YtebhmbdblifddaaW.PrintLast Go.Proofs.YtebhmbdblifddaaW.PrintMore
set_option linter.unusedVariables false
set_option linter.unusedSimpArgs false

def dkk.T10 : Bool × List (List Nat × List Nat) := (true, [([], []), ([], []), ([0, 1], [0, 1]), ([2], [2]), ([3], [3]), ([4], [4]), ([], []), ([], []), ([6, 7], [6, 7]), ([8], [8]), ([9], [9]), ([5, 0, 1, 2, 3, 4, 5, 6, 7, 8, 9, 10], [5]), ([11, 10, 5, 0, 1, 2, 3, 4, 5, 6, 7, 8, 9, 10], [10, 11])])
def dkk.B10 : List Nat := [0, 0, 3, 7, 15, 31, 0, 0, 192, 448, 960, 2047, 4095]
theorem dkk.tab10 : rtab .any (opsOf Try.f7 10) = dkk.T10 := by kernel_rfl
theorem dkk.bits10 : waitsOk dkk.T10.2 dkk.B10 = true := by kernel_rfl
def dkk.T11 : Bool × List (List Nat × List Nat) := (true, [([], []), ([], []), ([], []), ([1, 2], [1, 2]), ([3], [3]), ([4], [4]), ([5], [5]), ([], []), ([], []), ([7, 8], [7, 8]), ([9], [9]), ([10], [10]), ([11, 6], [11]), ([0, 6, 12, 12], [0, 6, 12]), ([13], [13])])
def dkk.B11 : List Nat := [0, 0, 0, 6, 14, 30, 62, 0, 0, 384, 896, 1920, 4094, 8191, 16383]
theorem dkk.tab11 : rtab .any (opsOf Try.f7 11) = dkk.T11 := by kernel_rfl
theorem dkk.bits11 : waitsOk dkk.T11.2 dkk.B11 = true := by kernel_rfl
theorem info5s : (Try.prog.info? 5).map (·.size) = some 1 := by kernel_rfl
theorem in_loop (ks : List Int) (a : Int) (hl : ks.length ≤ 1048576) : ∀ d i : Nat, i + d = ks.length → cofferlaw06_in.l0 (d + 1) ks a (i : Int) = some (decide (a ∈ ks.drop i))
  | 0, i, h => by
    unfold cofferlaw06_in.l0
    rw [if_neg (by omega), List.drop_eq_nil_of_le (by omega)]; simp
  | d + 1, i, h => by
    have hi : i < ks.length := by omega
    have e1 : rd ks (i : Int) = ks[i] := by simp [rd, hi]
    have e2 : wrap64 ((i : Int) + 1) = ((i + 1 : Nat) : Int) := by unfold wrap64; omega
    unfold cofferlaw06_in.l0
    rw [if_pos (by omega), if_pos (by omega), e1, e2, in_loop ks a hl d (i + 1) (by omega), List.drop_eq_getElem_cons hi]
    by_cases e : ks[i] = a
    · rw [if_pos e]; simp [e]
    · rw [if_neg e]
      congr 1
      exact decide_eq_decide.mpr ⟨fun h => List.mem_cons_of_mem _ h, fun h => (List.mem_cons.1 h).resolve_left (fun e3 => e e3.symm)⟩
theorem in_calls {A : Option Addr} {c : Nat} {ks : List Int} {w : World} (hl : ks.length ≤ 1048576) (hc : ks.length ≤ c) (h : Kd.C (Kd.int .i64) w A ks.length ks) (a : Int) :
    Calls Try.prog 26 #[.slice A ks.length c, .int .i64 a] w fun e w' => e = .returned (.bool (decide (a ∈ ks))) ∧ Below w.heap.size w w' := by
  refine (cofferlaw06_in.calls (ks.length + 1) A c ks a (decide (a ∈ ks)) w h hc (in_loop ks a hl ks.length 0 (by omega))).mono ?_
  rintro e w' ⟨rfl, hd⟩
  exact ⟨rfl, hd.below⟩
/-- Behind k pending writes. -/
structure KInv (s : DS) (W0 Wl : List UInt8) (ks : List Int) (k : Nat) : Prop where
  sv : SInv s
  len : s.pend.length = k
  safe : s.safe = W0.map F
  all : done s.safe (keptW ks s.pend 0) = Wl.map F
theorem kinv_start {s : DS} {W : List UInt8} (h : Good1 s W) (ks : List Int) : KInv { s with safe := W.map F, pend := [] } W W ks 0 := ⟨⟨h.off, h.fall, h.opn⟩, rfl, rfl, rfl⟩
theorem kinv_write {s : DS} {W0 Wl : List UInt8} {ks : List Int} {k : Nat} (h : KInv s W0 Wl ks k) (x : Nat) (hx : x < s.seen.length) (cb : UInt8) : (writeS s x (F cb)).2 = 0 ∧ (writeS s x (F cb)).1.pend.length = k + 1 ∧ (((k : Int) ∈ ks → KInv (writeS s x (F cb)).1 W0 (Wl.set x cb) ks (k + 1)) ∧ ((k : Int) ∉ ks → KInv (writeS s x (F cb)).1 W0 Wl ks (k + 1))) := by
  have hf : fallS s = s := sinv_fall h.sv
  have e : writeS s x (F cb) = ({ s with seen := s.seen.set x (F cb), pend := s.pend ++ [((x : Int), F cb)] }, 0) := by
    unfold writeS
    rw [hf, if_neg (by rw [h.sv.off]; decide), if_neg (fun hn => hn ⟨⟨by omega, by omega⟩, F_size cb⟩), if_neg (by rw [h.sv.off]; decide), Int.toNat_natCast]
  have hl : (s.pend ++ [((x : Int), F cb)]).length = k + 1 := by rw [List.length_append, h.len]; rfl
  have hk := keptW_snoc ks ((x : Int), F cb) s.pend 0
  rw [Nat.zero_add, h.len] at hk
  rw [e]
  refine ⟨rfl, hl, fun hm => ⟨⟨h.sv.off, h.sv.fall, h.sv.opn⟩, hl, h.safe, ?_⟩, fun hm => ⟨⟨h.sv.off, h.sv.fall, h.sv.opn⟩, hl, h.safe, ?_⟩⟩
  · show done s.safe (keptW ks (s.pend ++ [((x : Int), F cb)]) 0) = _
    rw [hk, if_pos hm, done_snoc, h.all, List.map_set]; rfl
  · show done s.safe (keptW ks (s.pend ++ [((x : Int), F cb)]) 0) = _
    rw [hk, if_neg hm, List.append_nil, h.all]
/-- Ahead of the crash; crashed; back. -/
structure KEnd (s : DS) (Wl : List UInt8) (ks : List Int) : Prop where
  nd : ¬ (s.off = true ∧ s.opn = false)
  all : done s.safe (keptW ks s.pend 0) = Wl.map F
def crashed (Wl : List UInt8) : DS := { seen := Wl.map F, safe := Wl.map F, pend := [], fall := 0, off := true, opn := false }
def back (Wl : List UInt8) : DS := { seen := Wl.map F, safe := Wl.map F, pend := [], fall := 0, off := false, opn := false }
theorem kend_crash {s : DS} {Wl : List UInt8} {ks : List Int} (h : KEnd s Wl ks) : crashS s ks = crashed Wl := by
  unfold crashS
  rw [if_neg h.nd, h.all]; rfl
theorem crashed_crash (Wl : List UInt8) (ks : List Int) : crashS (crashed Wl) ks = crashed Wl := by
  unfold crashS
  rw [if_pos ⟨rfl, rfl⟩]
theorem crashed_on (Wl : List UInt8) : onS (crashed Wl) = back Wl := rfl
theorem back_read (Wl : List UInt8) (i : Nat) (c : UInt8) (h : Wl[i]? = some c) : readS (back Wl) i = (F c, 0) := by
  have hi := (List.getElem?_eq_some_iff.1 h).1
  unfold readS back
  simp only [Bool.false_eq_true, if_false, List.length_map]
  rw [if_pos ⟨by omega, by omega⟩, Int.toNat_natCast, List.getD_eq_getElem?_getD, List.getElem?_map, h]; rfl
def fallen (s : DS) : DS := { s with fall := 0, off := true, opn := true }
theorem kinv_fall {s : DS} {W0 Wl : List UInt8} {ks : List Int} {k : Nat} (h : KInv s W0 Wl ks k) : flushS { s with fall := max 0 1 } = (fallen s, 9) := by
  unfold flushS
  have e : fallS { s with fall := max 0 1 } = fallen s := rfl
  rw [e, if_neg (by show ¬ (s.off = true); rw [h.sv.off]; decide), if_pos (show (fallen s).off = true from rfl)]
theorem kend_fallen {s : DS} {W0 Wl : List UInt8} {ks : List Int} {k : Nat} (h : KInv s W0 Wl ks k) : KEnd (fallen s) Wl ks := ⟨fun hh => (by cases hh.2), h.all⟩
theorem kend_plain {s : DS} {W0 Wl : List UInt8} {ks : List Int} {k : Nat} (h : KInv s W0 Wl ks k) : KEnd s Wl ks := ⟨fun hh => (by have := hh.1; rw [h.sv.off] at this; cases this), h.all⟩
section
variable {base : Nat} {L : Nat → Sl} {N i g : Nat} {s : DS} {n m : Nat} {w0 w : World}
theorem at_pending (h : At base L N i g s n m w0 w) (p : Nat) (hp : s.pend.length = p) :
    Calls Try.prog 20 #[.pointer (some ⟨g, 0, none⟩)] w fun e w' => e = .returned (.int .i64 p) ∧ w' = w := by
  have := pending_calls h.many h.disk h.hi
  rw [hp] at this
  exact this
theorem at_off (h : At base L N i g s n m w0 w) (b : Bool) (hp : s.off = b) :
    Calls Try.prog 18 #[.pointer (some ⟨g, 0, none⟩)] w fun e w' => e = .returned (.bool b) ∧ w' = w := by
  have := off_calls h.many h.disk h.hi
  rw [hp] at this
  exact this
theorem at_read (h : At base L N i g s n m w0 w) (k : Nat) (x : ByteArray) (e : readS s k = (x, 0)) :
    Calls Try.prog 17 #[.pointer (some ⟨g, 0, none⟩), .int .i64 (k : Int)] w fun e w' => e = .returned (.tuple #[.string x, .int .i64 0]) ∧ w' = w := by
  have := read_off h (k : Int)
  rw [e] at this
  exact this
theorem at_write0 (h : At base L N i g s n m w0 w) (k : Int) (x : ByteArray) (hm : m + 1 ≤ 549755813887) (h0 : (writeS s k x).2 = 0) :
    Calls Try.prog 11 #[.pointer (some ⟨g, 0, none⟩), .int .i64 k, .string x] w fun e w' => e = .returned (.int .i64 0) ∧ ∃ L', At base L' N i g (writeS s k x).1 n (m + 1) w0 w' ∧ Else L L' i := by
  have := at_write h k x hm
  rw [h0] at this
  exact this
end
set_option maxHeartbeats 16000000 in
set_option maxRecDepth 100000 in
theorem kept_walk (A1 : Option Addr) (c1 : Nat) (bs : List (Int × Int)) (A2 : Option Addr) (c2 : Nat) (fs : List (Int × Int)) (A3 : Option Addr) (c3 : Nat) (ks : List Int) (f : Bool) (w : World)
    (h1 : Kd.C kP w A1 bs.length bs) (h2 : Kd.C kP w A2 fs.length fs) (h3 : Kd.C (Kd.int .i64) w A3 ks.length ks) (hc3 : ks.length ≤ c3) (hb1 : bs.length ≤ 1048576) (hb2 : fs.length ≤ 1048576) (hb3 : ks.length ≤ 1048576)
    (hx1 : ∀ p ∈ bs, 0 ≤ p.2 ∧ p.2 ≤ 255) (hx2 : ∀ p ∈ fs, 0 ≤ p.2 ∧ p.2 ≤ 255) (hx3 : ∀ a ∈ ks, (Lit.int .i64 a).wf = true) :
    Calls Try.prog 7 #[.slice A1 bs.length c1, .slice A2 fs.length c2, .slice A3 ks.length c3, .bool f] w fun e w' => e = .returned (.bool true) ∧ Below w.heap.size w w' := by
  have HP1 := Aside0.mk h1
  have HP2 := Aside0.mk h2
  have HP3 := Aside0.mk h3
  have HX1 := Aside0.mk hx1
  have HX2 := Aside0.mk hx2
  have HX3 := Aside0.mk hx3
  have HC3 := Aside0.mk hc3
  clear h1 h2 h3 hx1 hx2 hx3 hc3
  have HMD : ∀ W : World, Calls Try.prog 9 #[.int .i64 8] W fun e w' => ∃ g L', e = .returned (.pointer (some ⟨g, 0, none⟩)) ∧ At W.heap.size L' 4 0 g (freshS 8) 8 0 W w' := fun W => made_calls (n := 8) W (by decide) (by decide)
  go_enter Try.func7, Try.ntmps7
  go_upto_region 6 with (first
    | (go_at_call 8; (with_reducible refine (head_calls _).mono ?_); rintro e w1 ⟨rfl, hb⟩; have n1 := Aside0.mk (Kd.C_below HP1.out hb); have n2 := Aside0.mk (Kd.C_below HP2.out hb); have n3 := Aside0.mk (Kd.C_below HP3.out hb); have D0 := Aside0.mk hb; clear HP1 HP2 HP3 hb; have HP1 := n1; have HP2 := n2; have HP3 := n3; clear n1 n2 n3)
    | (go_at_call 9; (with_reducible refine (HMD _).mono ?_); rintro e w2 ⟨g, L2, rfl, h'⟩; have H := Aside0.mk h'; clear h'))
  go_upto_region 7 with (fail)
  clear HMD
  change Code.wp _ _ _ _ (w2.alloc (.cells ((List.replicate 8 (0 : UInt8)).map u8v).toArray 58))
  have H5 := Aside0.mk (at_array H.out 58 ((List.replicate 8 (0 : UInt8)).map u8v) (by decide))
  obtain ⟨gW, hgW⟩ : ∃ gW, gW = w2.heap.size := ⟨_, rfl⟩
  have PW : (Value.pointer (some ⟨w2.heap.size, 0, none⟩)) = .pointer (some ⟨gW, 0, none⟩) := by rw [hgW]
  rw [PW]
  rw [← hgW] at H5
  generalize w2.alloc (.cells ((List.replicate 8 (0 : UInt8)).map u8v).toArray 58) = w5 at H5 ⊢
  clear H PW hgW
  have G0 : Aside0 (Good1 (freshS 8) (List.replicate 8 (0 : UInt8))) := ⟨⟨rfl, rfl, rfl, by unfold freshS; rw [List.map_replicate, Z_F], rfl⟩⟩
  go_wp2
  go_loopw [11] (fun v11 W => ∃ (k : Nat) (L : Nat → Sl) (s : DS) (Wl : List UInt8), k ≤ bs.length ∧ v11 = .int .i64 k ∧ Aside0 (At w1.heap.size L 5 0 g s 8 k w1 W) ∧ Aside0 (L 4 = osl gW 58 (Wl.map u8v)) ∧ Aside0 (Wl.length = 8) ∧ Aside0 (Good1 s Wl)) (fun v11 _ => bs.length - (intOf v11).toNat)
  case atStart => exact ⟨0, _, _, _, Nat.zero_le _, rfl, H5, ⟨upd_at _ _ _⟩, ⟨List.length_replicate⟩, G0⟩
  case round =>
    clear H5 G0
    obtain ⟨k, L, s, Wl, hk, rfl, H, HW, HWL, HG⟩ := hrel
    by_cases hlt : k < bs.length
    · have q1 : ((k : Int) < (bs.length : Int)) = True := eq_true (by omega)
      have q2 : (k < bs.length) = True := eq_true hlt
      have q3 : (bs.length ≤ k) = False := eq_false (by omega)
      obtain ⟨⟨a, c⟩, hpk⟩ : ∃ p, bs[k]? = some p := ⟨_, List.getElem?_eq_getElem hlt⟩
      obtain ⟨cb, rfl⟩ := u8_of c (HX1.out _ (List.mem_of_getElem? hpk))
      obtain ⟨ad, rfl, ha, hc⟩ := puts_at (Kd.C_below HP1.out H.out.bel) k a _ hpk
      have KA := Aside0.mk ha
      have KC := Aside0.mk hc
      obtain ⟨hl0, hl1⟩ := least_in a 8 (by decide)
      have HLS := fun W => least_calls a 8 (by decide) (by decide) W
      obtain ⟨x, hx⟩ : ∃ x : Nat, leastF a 8 = x := ⟨(leastF a 8).toNat, by omega⟩
      rw [hx] at HLS
      have hx8 : x < 8 := by omega
      clear hl0 hl1 hx ha hc
      have r1 : (x < 8) = True := eq_true hx8
      have r3 : ((x : Int) < 8) = True := eq_true (by omega)
      have r2 : (8 ≤ x) = False := eq_false (by omega)
      have hlx : x < (Wl.map u8v).length := by rw [List.length_map, HWL.out]; exact hx8
      have FU := fun W => full_calls cb W
      go_upto_region 10 with (fail)
      refine start_ (n := 13) (S := fun W => Below wr.heap.size wr W) (ds := [12]) #[false, false, false, false, false, false, false, false, false, false, false, false, false] (by kernel_rfl) rfl rfl (below_drew1 (Below.refl _ _)) (fun hHeld => ?_); refine with_tabW dkk.tab10 dkk.bits10 (fun HT_ HW_ => ?_)
      generalize World.drew _ = wR at hHeld ⊢
      refine pure_ (i := 0) (N := some 31) (v := ?_) (a' := ?_) #[true, false, false, false, false, false, false, false, false, false, false, false, false] rfl rfl (any_of HT_.out (by kernel_rfl)) (fun _ _ _ h => h) (Or.inl ⟨by rfl, ?_⟩) ?_ ?_
      rotate_left
      · intro w'
        go_simp
        with_reducible rfl
      rotate_left
      · simp only [Act.put, List.setIfInBounds_toArray, List.set_cons_zero, List.set_cons_succ, i64_w, i32_w]
        rfl
      refine pure_ (i := 1) (N := some 32) (v := ?_) (a' := ?_) #[true, true, false, false, false, false, false, false, false, false, false, false, false] rfl rfl (any_of HT_.out (by kernel_rfl)) (fun _ _ _ h => h) (Or.inl ⟨by rfl, ?_⟩) ?_ ?_
      rotate_left
      · intro w'
        go_simp
        with_reducible rfl
      rotate_left
      · simp only [Act.put, List.setIfInBounds_toArray, List.set_cons_zero, List.set_cons_succ, i64_w, i32_w]
        rfl
      refine pure_ (i := 2) (N := some 33) (v := ?_) (a' := ?_) #[true, true, true, false, false, false, false, false, false, false, false, false, false] rfl rfl (any_of HT_.out (by kernel_rfl)) (fun _ _ _ h => h) (Or.inl ⟨by rfl, ?_⟩) ?_ ?_
      rotate_left
      · intro w'
        go_simp
        with_reducible rfl
      rotate_left
      · simp only [Act.put, List.setIfInBounds_toArray, List.set_cons_zero, List.set_cons_succ, i64_w, i32_w]
        rfl
      refine pure_ (i := 3) (N := some 34) (v := ?_) (a' := ?_) #[true, true, true, true, false, false, false, false, false, false, false, false, false] rfl rfl (any_of HT_.out (by kernel_rfl)) (fun _ _ _ h => h) (Or.inl ⟨by rfl, ?_⟩) ?_ ?_
      rotate_left
      · intro w'
        go_simp
        with_reducible rfl
      rotate_left
      · simp only [Act.put, List.setIfInBounds_toArray, List.set_cons_zero, List.set_cons_succ, i64_w, i32_w]
        rfl
      refine take_ (i := 4) (N := some 35) (v := ?_) (a' := ?_) #[true, true, true, true, true, false, false, false, false, false, false, false, false] rfl rfl (take_ofW HT_.out HW_.out (by kernel_rfl)) (fun _ _ _ h => h) (Or.inl ⟨by rfl, ?_⟩) hHeld ?_ ?_
      rotate_left
      · rintro w' s0
        have hK := below_cell' s0 KA.out
        go_simp
        with_reducible rfl
      rotate_left
      · simp only [Act.put, List.setIfInBounds_toArray, List.set_cons_zero, List.set_cons_succ, i64_w, i32_w]
        rfl
      refine pure_ (i := 6) (N := some 37) (v := ?_) (a' := ?_) #[true, true, true, true, true, false, true, false, false, false, false, false, false] rfl rfl (any_of HT_.out (by kernel_rfl)) (fun _ _ _ h => h) (Or.inl ⟨by rfl, ?_⟩) ?_ ?_
      rotate_left
      · intro w'
        go_simp
        with_reducible rfl
      rotate_left
      · simp only [Act.put, List.setIfInBounds_toArray, List.set_cons_zero, List.set_cons_succ, i64_w, i32_w]
        rfl
      refine pure_ (i := 7) (N := some 38) (v := ?_) (a' := ?_) #[true, true, true, true, true, false, true, true, false, false, false, false, false] rfl rfl (any_of HT_.out (by kernel_rfl)) (fun _ _ _ h => h) (Or.inl ⟨by rfl, ?_⟩) ?_ ?_
      rotate_left
      · intro w'
        go_simp
        with_reducible rfl
      rotate_left
      · simp only [Act.put, List.setIfInBounds_toArray, List.set_cons_zero, List.set_cons_succ, i64_w, i32_w]
        rfl
      refine pure_ (i := 8) (N := some 39) (v := ?_) (a' := ?_) #[true, true, true, true, true, false, true, true, true, false, false, false, false] rfl rfl (any_of HT_.out (by kernel_rfl)) (fun _ _ _ h => h) (Or.inl ⟨by rfl, ?_⟩) ?_ ?_
      rotate_left
      · intro w'
        go_simp
        with_reducible rfl
      rotate_left
      · simp only [Act.put, List.setIfInBounds_toArray, List.set_cons_zero, List.set_cons_succ, i64_w, i32_w]
        rfl
      refine pure_ (i := 9) (N := some 40) (v := ?_) (a' := ?_) #[true, true, true, true, true, false, true, true, true, true, false, false, false] rfl rfl (any_of HT_.out (by kernel_rfl)) (fun _ _ _ h => h) (Or.inl ⟨by rfl, ?_⟩) ?_ ?_
      rotate_left
      · intro w'
        go_simp
        with_reducible rfl
      rotate_left
      · simp only [Act.put, List.setIfInBounds_toArray, List.set_cons_zero, List.set_cons_succ, i64_w, i32_w]
        rfl
      refine take_ (i := 10) (N := some 41) (v := ?_) (a' := ?_) #[true, true, true, true, true, false, true, true, true, true, true, false, false] rfl rfl (take_ofW HT_.out HW_.out (by kernel_rfl)) (fun _ _ _ h => h) (Or.inl ⟨by rfl, ?_⟩) hHeld ?_ ?_
      rotate_left
      · rintro w' s0
        have hK := below_cell' s0 KC.out
        go_simp
        with_reducible rfl
      rotate_left
      · simp only [Act.put, List.setIfInBounds_toArray, List.set_cons_zero, List.set_cons_succ, i64_w, i32_w]
        rfl
      refine one_ (i := 5) (N := some 36) #[true, true, true, true, true, true, true, true, true, true, true, false, false] rfl rfl (one_of HT_.out (by kernel_rfl)) (by decide) (fun K hK => ?_)
      refine goes_ Try.func10 (by kernel_rfl) rfl #[.int .i64 a, .int .i64 8] (by rfl) rfl rfl (by (try simp only [List.map_toArray, List.map_cons, List.map_nil]); first | done | rfl) ?_
      with_reducible refine (HLS _).mono ?_
      rintro e wa ⟨rfl, hb⟩
      refine ⟨_, rfl, ?_⟩
      have hb2 := below_then hHeld hHeld.size hb
      refine hK.out _ _ hb2 (fun hHeld => ?_)
      clear hK K
      refine norm_ (a' := ?_) ?_ ?_
      rotate_left
      · show Act.put _ (some 36) _ = _
        simp only [Act.put, List.setIfInBounds_toArray, List.set_cons_zero, List.set_cons_succ, i64_w, i32_w]
        rfl
      clear hb2 hb
      refine pure_ (i := 11) (N := some 42) (v := ?_) (a' := ?_) #[true, true, true, true, true, true, true, true, true, true, true, true, false] rfl rfl (any_of HT_.out (by kernel_rfl)) (fun _ _ _ h => h) (Or.inl ⟨by rfl, ?_⟩) ?_ ?_
      rotate_left
      · intro w'
        go_simp
        with_reducible rfl
      rotate_left
      · simp only [Act.put, List.setIfInBounds_toArray, List.set_cons_zero, List.set_cons_succ, i64_w, i32_w]
        rfl
      have HMR := many_below H.out.many hHeld
      obtain ⟨cur, hcu, hcs⟩ := obj_blk HMR 4 (by omega) gW 58 _ HW.out x hlx
      have H7 := Aside0.mk (at_set (H.out.below hHeld) 4 (by omega) (.inr (by omega)) gW 58 _ HW.out x hlx (.int .u8 cb.toNat))
      refine last_ (i := 12) (N := none) #[true, true, true, true, true, true, true, true, true, true, true, true, true] rfl rfl (one_of HT_.out (by kernel_rfl)) (by decide) (fun K hK => ?_)
      refine wp_store_cell info5s (.tmp 42) (.tmp 41) rfl gW x cur 58 (.int .u8 cb.toNat) rfl rfl hcu hcs rfl ?_
      refine hK.out _ _ ?_
      clear hK K
      refine norm_ (a' := ?_) ?_ ?_
      rotate_left
      · show Act.put _ (none) _ = _
        simp only [Act.put]
        rfl
      refine done_ (done_of HT_.out (by kernel_rfl)) ?_
      clear hHeld KA KC HMR hcu hcs
      generalize World.setCell _ ⟨gW, x, none⟩ (.int .u8 cb.toNat) = w7 at H7 ⊢
      clear H
      obtain ⟨_, e0, ha, hc⟩ := puts_at (Kd.C_below HP1.out H7.out.bel) k a _ hpk
      injection e0 with e0
      subst e0
      have KA := Aside0.mk ha
      have KC := Aside0.mk hc
      obtain ⟨gw, gG⟩ := good_write HG.out x (by rw [HWL.out]; exact hx8) cb
      have HG2 := Aside0.mk gG
      have HL7 : Aside0 (upd L 4 (osl gW 58 ((Wl.map u8v).set x (.int .u8 cb.toNat))) 4 = osl gW 58 ((Wl.set x cb).map u8v)) := ⟨by rw [upd_at, List.map_set]; rfl⟩
      generalize upd L 4 (osl gW 58 ((Wl.map u8v).set x (.int .u8 cb.toNat))) = L7 at H7 HL7
      have H := H7
      clear H7 gG ha hc
      go_upto_region 11 with (fail)
      refine start_ (n := 15) (S := fun W => Below w7.heap.size w7 W) (ds := [13]) #[false, false, false, false, false, false, false, false, false, false, false, false, false, false, false] (by kernel_rfl) rfl rfl (below_drew1 (Below.refl _ _)) (fun hHeld => ?_); refine with_tabW dkk.tab11 dkk.bits11 (fun HT_ HW_ => ?_)
      generalize World.drew _ = wR at hHeld ⊢
      refine pure_ (i := 0) (N := some 43) (v := ?_) (a' := ?_) #[true, false, false, false, false, false, false, false, false, false, false, false, false, false, false] rfl rfl (any_of HT_.out (by kernel_rfl)) (fun _ _ _ h => h) (Or.inl ⟨by rfl, ?_⟩) ?_ ?_
      rotate_left
      · intro w'
        go_simp
        with_reducible rfl
      rotate_left
      · simp only [Act.put, List.setIfInBounds_toArray, List.set_cons_zero, List.set_cons_succ, i64_w, i32_w]
        rfl
      refine pure_ (i := 1) (N := some 44) (v := ?_) (a' := ?_) #[true, true, false, false, false, false, false, false, false, false, false, false, false, false, false] rfl rfl (any_of HT_.out (by kernel_rfl)) (fun _ _ _ h => h) (Or.inl ⟨by rfl, ?_⟩) ?_ ?_
      rotate_left
      · intro w'
        go_simp
        with_reducible rfl
      rotate_left
      · simp only [Act.put, List.setIfInBounds_toArray, List.set_cons_zero, List.set_cons_succ, i64_w, i32_w]
        rfl
      refine pure_ (i := 2) (N := some 45) (v := ?_) (a' := ?_) #[true, true, true, false, false, false, false, false, false, false, false, false, false, false, false] rfl rfl (any_of HT_.out (by kernel_rfl)) (fun _ _ _ h => h) (Or.inl ⟨by rfl, ?_⟩) ?_ ?_
      rotate_left
      · intro w'
        go_simp
        with_reducible rfl
      rotate_left
      · simp only [Act.put, List.setIfInBounds_toArray, List.set_cons_zero, List.set_cons_succ, i64_w, i32_w]
        rfl
      refine pure_ (i := 3) (N := some 46) (v := ?_) (a' := ?_) #[true, true, true, true, false, false, false, false, false, false, false, false, false, false, false] rfl rfl (any_of HT_.out (by kernel_rfl)) (fun _ _ _ h => h) (Or.inl ⟨by rfl, ?_⟩) ?_ ?_
      rotate_left
      · intro w'
        go_simp
        with_reducible rfl
      rotate_left
      · simp only [Act.put, List.setIfInBounds_toArray, List.set_cons_zero, List.set_cons_succ, i64_w, i32_w]
        rfl
      refine pure_ (i := 4) (N := some 47) (v := ?_) (a' := ?_) #[true, true, true, true, true, false, false, false, false, false, false, false, false, false, false] rfl rfl (any_of HT_.out (by kernel_rfl)) (fun _ _ _ h => h) (Or.inl ⟨by rfl, ?_⟩) ?_ ?_
      rotate_left
      · intro w'
        go_simp
        with_reducible rfl
      rotate_left
      · simp only [Act.put, List.setIfInBounds_toArray, List.set_cons_zero, List.set_cons_succ, i64_w, i32_w]
        rfl
      refine take_ (i := 5) (N := some 48) (v := ?_) (a' := ?_) #[true, true, true, true, true, true, false, false, false, false, false, false, false, false, false] rfl rfl (take_ofW HT_.out HW_.out (by kernel_rfl)) (fun _ _ _ h => h) (Or.inl ⟨by rfl, ?_⟩) hHeld ?_ ?_
      rotate_left
      · rintro w' s0
        have hK := below_cell' s0 KA.out
        go_simp
        with_reducible rfl
      rotate_left
      · simp only [Act.put, List.setIfInBounds_toArray, List.set_cons_zero, List.set_cons_succ, i64_w, i32_w]
        rfl
      refine pure_ (i := 7) (N := some 50) (v := ?_) (a' := ?_) #[true, true, true, true, true, true, false, true, false, false, false, false, false, false, false] rfl rfl (any_of HT_.out (by kernel_rfl)) (fun _ _ _ h => h) (Or.inl ⟨by rfl, ?_⟩) ?_ ?_
      rotate_left
      · intro w'
        go_simp
        with_reducible rfl
      rotate_left
      · simp only [Act.put, List.setIfInBounds_toArray, List.set_cons_zero, List.set_cons_succ, i64_w, i32_w]
        rfl
      refine pure_ (i := 8) (N := some 51) (v := ?_) (a' := ?_) #[true, true, true, true, true, true, false, true, true, false, false, false, false, false, false] rfl rfl (any_of HT_.out (by kernel_rfl)) (fun _ _ _ h => h) (Or.inl ⟨by rfl, ?_⟩) ?_ ?_
      rotate_left
      · intro w'
        go_simp
        with_reducible rfl
      rotate_left
      · simp only [Act.put, List.setIfInBounds_toArray, List.set_cons_zero, List.set_cons_succ, i64_w, i32_w]
        rfl
      refine pure_ (i := 9) (N := some 52) (v := ?_) (a' := ?_) #[true, true, true, true, true, true, false, true, true, true, false, false, false, false, false] rfl rfl (any_of HT_.out (by kernel_rfl)) (fun _ _ _ h => h) (Or.inl ⟨by rfl, ?_⟩) ?_ ?_
      rotate_left
      · intro w'
        go_simp
        with_reducible rfl
      rotate_left
      · simp only [Act.put, List.setIfInBounds_toArray, List.set_cons_zero, List.set_cons_succ, i64_w, i32_w]
        rfl
      refine pure_ (i := 10) (N := some 53) (v := ?_) (a' := ?_) #[true, true, true, true, true, true, false, true, true, true, true, false, false, false, false] rfl rfl (any_of HT_.out (by kernel_rfl)) (fun _ _ _ h => h) (Or.inl ⟨by rfl, ?_⟩) ?_ ?_
      rotate_left
      · intro w'
        go_simp
        with_reducible rfl
      rotate_left
      · simp only [Act.put, List.setIfInBounds_toArray, List.set_cons_zero, List.set_cons_succ, i64_w, i32_w]
        rfl
      refine take_ (i := 11) (N := some 54) (v := ?_) (a' := ?_) #[true, true, true, true, true, true, false, true, true, true, true, true, false, false, false] rfl rfl (take_ofW HT_.out HW_.out (by kernel_rfl)) (fun _ _ _ h => h) (Or.inl ⟨by rfl, ?_⟩) hHeld ?_ ?_
      rotate_left
      · rintro w' s0
        have hK := below_cell' s0 KC.out
        go_simp
        with_reducible rfl
      rotate_left
      · simp only [Act.put, List.setIfInBounds_toArray, List.set_cons_zero, List.set_cons_succ, i64_w, i32_w]
        rfl
      refine one_ (i := 6) (N := some 49) #[true, true, true, true, true, true, true, true, true, true, true, true, false, false, false] rfl rfl (one_of HT_.out (by kernel_rfl)) (by decide) (fun K hK => ?_)
      refine goes_ Try.func10 (by kernel_rfl) rfl #[.int .i64 a, .int .i64 8] (by rfl) rfl rfl (by (try simp only [List.map_toArray, List.map_cons, List.map_nil]); first | done | rfl) ?_
      with_reducible refine (HLS _).mono ?_
      rintro e wa ⟨rfl, hb⟩
      refine ⟨_, rfl, ?_⟩
      have hb2 := below_then hHeld hHeld.size hb
      refine hK.out _ _ hb2 (fun hHeld => ?_)
      clear hK K
      refine norm_ (a' := ?_) ?_ ?_
      rotate_left
      · show Act.put _ (some 49) _ = _
        simp only [Act.put, List.setIfInBounds_toArray, List.set_cons_zero, List.set_cons_succ, i64_w, i32_w]
        rfl
      clear hb2 hb
      refine one_ (i := 12) (N := some 55) #[true, true, true, true, true, true, true, true, true, true, true, true, true, false, false] rfl rfl (one_of HT_.out (by kernel_rfl)) (by decide) (fun K hK => ?_)
      refine goes_ Try.func12 (by kernel_rfl) rfl #[.int .u8 (cb.toNat : Int)] (by rfl) rfl rfl (by (try simp only [List.map_toArray, List.map_cons, List.map_nil]); first | done | rfl) ?_
      with_reducible refine (FU _).mono ?_
      rintro e wb ⟨rfl, hb⟩
      refine ⟨_, rfl, ?_⟩
      have hb2 := below_then hHeld hHeld.size hb
      refine hK.out _ _ hb2 (fun hHeld => ?_)
      clear hK K
      refine norm_ (a' := ?_) ?_ ?_
      rotate_left
      · show Act.put _ (some 55) _ = _
        simp only [Act.put, List.setIfInBounds_toArray, List.set_cons_zero, List.set_cons_succ, i64_w, i32_w]
        rfl
      clear hb2 hb
      refine last_ (i := 13) (N := some 56) #[true, true, true, true, true, true, true, true, true, true, true, true, true, true, false] rfl rfl (one_of HT_.out (by kernel_rfl)) (by decide) (fun K hK => ?_)
      refine goes_ Try.func11 (by kernel_rfl) rfl #[.pointer (some ⟨g, 0, none⟩), .int .i64 (x : Int), .string (F cb)] (by rfl) rfl rfl (by (try simp only [List.map_toArray, List.map_cons, List.map_nil]); first | done | rfl) ?_
      with_reducible refine (at_write0 (H.out.below hHeld) (x : Int) (F cb) (by omega) gw).mono ?_
      rintro e wc ⟨rfl, L9, h', e9⟩
      refine ⟨_, rfl, ?_⟩
      have E9 := Aside0.mk (e9 4 (by omega))
      clear e9
      refine hK.out _ _ ?_
      clear hK K
      refine norm_ (a' := ?_) ?_ ?_
      rotate_left
      · show Act.put _ (some 56) _ = _
        simp only [Act.put, List.setIfInBounds_toArray, List.set_cons_zero, List.set_cons_succ, i64_w, i32_w]
        rfl
      refine pure_ (i := 14) (N := some 57) (v := ?_) (a' := ?_) #[true, true, true, true, true, true, true, true, true, true, true, true, true, true, true] rfl rfl (any_of HT_.out (by kernel_rfl)) (fun _ _ _ h => h) (Or.inl ⟨by rfl, ?_⟩) ?_ ?_
      rotate_left
      · intro w'
        go_simp
        with_reducible rfl
      rotate_left
      · simp only [Act.put, List.setIfInBounds_toArray, List.set_cons_zero, List.set_cons_succ, i64_w, i32_w]
        rfl
      refine done_ (done_of HT_.out (by kernel_rfl)) ?_
      clear hHeld
      have n_H := Aside0.mk h'; clear H h'; have H := n_H; clear n_H
      go_wp2
      exact ⟨⟨k + 1, L9, _, _, by omega, by go_num, H, ⟨by rw [E9.out]; exact HL7.out⟩, ⟨by rw [List.length_set]; exact HWL.out⟩, HG2⟩, by simp [intOf]; omega⟩
    · have q1 : ((k : Int) < (bs.length : Int)) = False := eq_false (by omega)
      obtain ⟨gf0, gf1⟩ := good_flush HG.out
      have E2 := Aside0.mk gf1
      clear gf1
      have HK := Aside0.mk (kinv_start HG.out ks)
      go_upto_region 15 with (go_at_call 13; (with_reducible refine (at_flush H.out).mono ?_); rintro e w4 ⟨rfl, L4, h', e4⟩; have n_HW := Aside0.mk ((e4 4 (by omega)).trans HW.out); clear e4 HW; have HW := n_HW; clear n_HW; rw [E2.out] at h'; have n_H := Aside0.mk h'; clear H h'; have H := n_H; clear n_H)
      clear gf0 q1 E2 HG
      generalize ({ s with safe := Wl.map F, pend := [] } : DS) = s0 at H HK
      have hkb : k ≤ 1048576 := by omega
      obtain ⟨k1, hk1⟩ : ∃ k1, k1 = k := ⟨_, rfl⟩
      rw [← hk1] at H hkb
      clear hk1 hk hlt
      go_wp2
      go_loopw [12] (fun v12 W => ∃ (k : Nat) (L : Nat → Sl) (s : DS) (Wk : List UInt8), k ≤ fs.length ∧ v12 = .int .i64 k ∧ Aside0 (At w1.heap.size L 5 0 g s 8 (k1 + k) w1 W) ∧ Aside0 (L 4 = osl gW 58 (Wk.map u8v)) ∧ Aside0 (Wk.length = 8) ∧ Aside0 (KInv s Wl Wk ks k)) (fun v12 _ => fs.length - (intOf v12).toNat)
      case atStart => exact ⟨0, _, _, _, Nat.zero_le _, rfl, H, HW, HWL, HK⟩
      case round =>
        clear H HW HWL HK
        obtain ⟨k, L, s, Wk, hk, rfl, H, HW, HWL, HK⟩ := hrel
        by_cases hlt : k < fs.length
        · have q1 : ((k : Int) < (fs.length : Int)) = True := eq_true (by omega)
          have q2 : (k < fs.length) = True := eq_true hlt
          have q3 : (fs.length ≤ k) = False := eq_false (by omega)
          obtain ⟨⟨a, c⟩, hpk⟩ : ∃ p, fs[k]? = some p := ⟨_, List.getElem?_eq_getElem hlt⟩
          obtain ⟨cb, rfl⟩ := u8_of c (HX2.out _ (List.mem_of_getElem? hpk))
          obtain ⟨ad, rfl, ha, hc⟩ := puts_at (Kd.C_below HP2.out H.out.bel) k a _ hpk
          obtain ⟨hl0, hl1⟩ := least_in a 8 (by decide)
          have HLS := fun W => least_calls a 8 (by decide) (by decide) W
          obtain ⟨x, hx⟩ : ∃ x : Nat, leastF a 8 = x := ⟨(leastF a 8).toNat, by omega⟩
          rw [hx] at HLS
          have hx8 : x < 8 := by omega
          clear hl0 hl1 hx
          have FU := fun W => full_calls cb W
          obtain ⟨kw0, kw1, kw2, kw3⟩ := kinv_write HK.out x (by rw [H.out.ok.seen]; exact hx8) cb
          have KW0 := Aside0.mk kw0
          have KW1 := Aside0.mk kw1
          have KW2 := Aside0.mk kw2
          have KW3 := Aside0.mk kw3
          clear kw0 kw1 kw2 kw3
          by_cases hin : (k : Int) ∈ ks
          · have HIN : Aside0 (∀ W : World, At w1.heap.size L 5 0 g s 8 (k1 + k) w1 W → True) := ⟨fun _ _ => trivial⟩
            have HNI := fun (W : World) (h : Kd.C (Kd.int .i64) W A3 ks.length ks) => in_calls hb3 HC3.out h (k : Int)
            rw [decide_eq_true hin] at HNI
            go_upto_region 22 with (first
              | (go_at_call 10; (with_reducible refine (HLS _).mono ?_); rintro e w6 ⟨rfl, hb⟩; have h' := H.out.below hb; clear hb ha hc; have n_H := Aside0.mk h'; clear H h'; have H := n_H; clear n_H; obtain ⟨_, e0, ha, hc⟩ := puts_at (Kd.C_below HP2.out H.out.bel) k a _ hpk; injection e0 with e0; subst e0)
              | (go_at_call 12; (with_reducible refine (FU _).mono ?_); rintro e w8 ⟨rfl, hb⟩; have h' := H.out.below hb; clear hb ha hc; have n_H := Aside0.mk h'; clear H h'; have H := n_H; clear n_H)
              | (go_at_call 11; (with_reducible refine (at_write0 H.out (x : Int) (F cb) (by omega) KW0.out).mono ?_); rintro e w9 ⟨rfl, L9, h', e9⟩; have n_HW := Aside0.mk ((e9 4 (by omega)).trans HW.out); clear e9 HW; have HW := n_HW; clear n_HW; have n_H := Aside0.mk h'; clear H h'; have H := n_H; clear n_H)
              | (go_at_call 20; (with_reducible refine (at_pending H.out (k + 1) KW1.out).mono ?_); rintro e w' ⟨rfl, rfl⟩)
              | (go_at_call 26; (with_reducible refine (HNI _ (Kd.C_below HP3.out H.out.bel)).mono ?_); rintro e w10 ⟨rfl, hb⟩; have h' := H.out.below hb; clear hb; have n_H := Aside0.mk h'; clear H h'; have H := n_H; clear n_H))
            obtain ⟨_, e0, ha, hc⟩ := puts_at (Kd.C_below HP2.out H.out.bel) k a _ hpk
            injection e0 with e0
            subst e0
            have hlx : x < (Wk.map u8v).length := by rw [List.length_map, HWL.out]; exact hx8
            obtain ⟨hcw, hzw, _⟩ := obj_cell H.out.many 4 (by omega) gW 58 _ HW.out x hlx
            rw [List.getElem?_eq_getElem hlx] at hcw
            have r1 : (x < 8) = True := eq_true hx8
            have r2 : (8 ≤ x) = False := eq_false (by omega)
            have H7 := Aside0.mk (at_set H.out 4 (by omega) (.inr (by omega)) gW 58 _ HW.out x hlx (.int .u8 cb.toNat))
            have HL7 : Aside0 (upd L9 4 (osl gW 58 ((Wk.map u8v).set x (.int .u8 cb.toNat))) 4 = osl gW 58 ((Wk.set x cb).map u8v)) := ⟨by rw [upd_at, List.map_set]; rfl⟩
            have HK2 := Aside0.mk (KW2.out hin)
            clear KW0 KW1 KW2 KW3 HLS FU HNI HIN
            go_wp2
            exact ⟨⟨k + 1, _, _, _, by omega, by go_num, H7, HL7, ⟨by rw [List.length_set]; exact HWL.out⟩, HK2⟩, by simp [intOf]; omega⟩
          · have HNI := fun (W : World) (h : Kd.C (Kd.int .i64) W A3 ks.length ks) => in_calls hb3 HC3.out h (k : Int)
            rw [decide_eq_false hin] at HNI
            go_wp2_with (first
              | (go_at_call 10; (with_reducible refine (HLS _).mono ?_); rintro e w6 ⟨rfl, hb⟩; have h' := H.out.below hb; clear hb ha hc; have n_H := Aside0.mk h'; clear H h'; have H := n_H; clear n_H; obtain ⟨_, e0, ha, hc⟩ := puts_at (Kd.C_below HP2.out H.out.bel) k a _ hpk; injection e0 with e0; subst e0)
              | (go_at_call 12; (with_reducible refine (FU _).mono ?_); rintro e w8 ⟨rfl, hb⟩; have h' := H.out.below hb; clear hb ha hc; have n_H := Aside0.mk h'; clear H h'; have H := n_H; clear n_H)
              | (go_at_call 11; (with_reducible refine (at_write0 H.out (x : Int) (F cb) (by omega) KW0.out).mono ?_); rintro e w9 ⟨rfl, L9, h', e9⟩; have n_HW := Aside0.mk ((e9 4 (by omega)).trans HW.out); clear e9 HW; have HW := n_HW; clear n_HW; have n_H := Aside0.mk h'; clear H h'; have H := n_H; clear n_H)
              | (go_at_call 20; (with_reducible refine (at_pending H.out (k + 1) KW1.out).mono ?_); rintro e w' ⟨rfl, rfl⟩)
              | (go_at_call 26; (with_reducible refine (HNI _ (Kd.C_below HP3.out H.out.bel)).mono ?_); rintro e w10 ⟨rfl, hb⟩; have h' := H.out.below hb; clear hb; have n_H := Aside0.mk h'; clear H h'; have H := n_H; clear n_H))
            have HK2 := Aside0.mk (KW3.out hin)
            exact ⟨⟨k + 1, _, _, _, by omega, by go_num, H, HW, HWL, HK2⟩, by simp [intOf]; omega⟩
        · have q1 : ((k : Int) < (fs.length : Int)) = False := eq_false (by omega)
          have hkf : k = fs.length := by omega
          subst hkf
          clear hlt hk
          cases f with
          | true =>
            obtain ⟨s9, hs9⟩ : ∃ s9, s9 = fallen s := ⟨_, rfl⟩
            have KF : Aside0 (flushS { s with fall := max 0 1 } = (s9, 9)) := ⟨by rw [hs9]; exact kinv_fall HK.out⟩
            have O9 : Aside0 (s9.off = true) := ⟨by rw [hs9]; rfl⟩
            have P9 : Aside0 (s9.pend.length = fs.length) := ⟨by rw [hs9]; exact HK.out.len⟩
            have KE : Aside0 (KEnd s9 Wk ks) := ⟨by rw [hs9]; exact kend_fallen HK.out⟩
            clear HK hs9
            go_upto_region 27 with (first
              | (go_at_call 14; (with_reducible refine (at_fall H.out 1 (by decide)).mono ?_); rintro e w6 ⟨rfl, L6, h', e4⟩; have n_HW := Aside0.mk ((e4 4 (by omega)).trans HW.out); clear e4 HW; have HW := n_HW; clear n_HW; have n_H := Aside0.mk h'; clear H h'; have H := n_H; clear n_H)
              | (go_at_call 13; (with_reducible refine (at_flush H.out).mono ?_); rintro e w8 ⟨rfl, L8, h', e8⟩; have n_HW := Aside0.mk ((e8 4 (by omega)).trans HW.out); clear e8 HW; have HW := n_HW; clear n_HW; rw [KF.out] at h' ⊢; have n_H := Aside0.mk h'; clear H h'; have H := n_H; clear n_H)
              | (go_at_call 18; (with_reducible refine (at_off H.out true O9.out).mono ?_); rintro e w' ⟨rfl, rfl⟩)
              | (go_at_call 20; (with_reducible refine (at_pending H.out fs.length P9.out).mono ?_); rintro e w' ⟨rfl, rfl⟩))
            clear KF O9 P9 q1
            have EC := Aside0.mk (kend_crash KE.out)
            have EC2 := Aside0.mk (crashed_crash Wk [])
            have EO := Aside0.mk (crashed_on Wk)
            have ER := Aside0.mk (back_read Wk)
            have OB : Aside0 ((back Wk).off = false) := ⟨rfl⟩
            have PB : Aside0 ((back Wk).pend.length = 0) := ⟨rfl⟩
            generalize crashed Wk = sc at EC EC2 EO
            generalize back Wk = sb at EO ER OB PB
            clear KE
            go_wp2_with (first
              | (go_at_call 19; (with_reducible refine (at_copy H.out).mono ?_); rintro e w11 ⟨g2, L11, rfl, h', c', e11⟩; have n_HW := Aside0.mk ((e11 4 (by omega)).trans HW.out); clear e11 HW; have HW := n_HW; clear n_HW; have n_H : Aside0 (At w1.heap.size L11 9 0 g s9 8 (k1 + fs.length) w1 w11) := ⟨h'⟩; have HC : Aside0 (At w1.heap.size L11 9 5 g2 s9 8 (k1 + fs.length) w1 w11) := ⟨c'⟩; clear c' h' H; have H := n_H; clear n_H)
              | (go_at_call 15; (with_reducible refine (crash_nil H.out).mono ?_); rintro e w13 ⟨rfl, L13, h', e13⟩; rw [EC2.out] at h'; have c' := at_pair HC.out h' e13 (by omega); have n_HW := Aside0.mk ((e13 4 (by omega)).trans HW.out); clear e13 HW; have HW := n_HW; clear n_HW; have n_H := Aside0.mk h'; clear H h'; have H := n_H; clear n_H; have n_HC := Aside0.mk c'; clear HC c'; have HC := n_HC; clear n_HC)
              | (go_at_call 15; (with_reducible refine (at_crash H.out A3 c3 ks (Kd.C_below HP3.out H.out.bel) (by omega) HX3.out).mono ?_); rintro e w12 ⟨rfl, L12, h', e12⟩; rw [EC.out] at h'; have c' := at_pair HC.out h' e12 (by omega); have n_HW := Aside0.mk ((e12 4 (by omega)).trans HW.out); clear e12 HW; have HW := n_HW; clear n_HW; have n_H := Aside0.mk h'; clear H h'; have H := n_H; clear n_H; have n_HC := Aside0.mk c'; clear HC c'; have HC := n_HC; clear n_HC)
              | (go_at_call 15; (with_reducible refine (at_crash HC.out A3 c3 ks (Kd.C_below HP3.out H.out.bel) (by omega) HX3.out).mono ?_); rintro e w15 ⟨rfl, L15, c', e15⟩; rw [EC.out] at c'; have h' := at_pair H.out c' e15 (by omega); have n_HW := Aside0.mk ((e15 4 (by omega)).trans HW.out); clear e15 HW; have HW := n_HW; clear n_HW; have n_H := Aside0.mk h'; clear H h'; have H := n_H; clear n_H; have n_HC := Aside0.mk c'; clear HC c'; have HC := n_HC; clear n_HC)
              | (go_at_call 16; (with_reducible refine (at_on H.out).mono ?_); rintro e w14 ⟨rfl, L14, h', e14⟩; rw [EO.out] at h'; have c' := at_pair HC.out h' e14 (by omega); have n_HW := Aside0.mk ((e14 4 (by omega)).trans HW.out); clear e14 HW; have HW := n_HW; clear n_HW; have n_H := Aside0.mk h'; clear H h'; have H := n_H; clear n_H; have n_HC := Aside0.mk c'; clear HC c'; have HC := n_HC; clear n_HC)
              | (go_at_call 16; (with_reducible refine (at_on HC.out).mono ?_); rintro e w16 ⟨rfl, L16, c', e16⟩; rw [EO.out] at c'; have h' := at_pair H.out c' e16 (by omega); have n_HW := Aside0.mk ((e16 4 (by omega)).trans HW.out); clear e16 HW; have HW := n_HW; clear n_HW; have n_H := Aside0.mk h'; clear H h'; have H := n_H; clear n_H; have n_HC := Aside0.mk c'; clear HC c'; have HC := n_HC; clear n_HC)
              | (go_at_call 18; (with_reducible refine (at_off H.out false OB.out).mono ?_); rintro e w' ⟨rfl, rfl⟩)
              | (go_at_call 18; (with_reducible refine (at_off HC.out false OB.out).mono ?_); rintro e w' ⟨rfl, rfl⟩)
              | (go_at_call 20; (with_reducible refine (at_pending H.out 0 PB.out).mono ?_); rintro e w' ⟨rfl, rfl⟩)
              | (go_at_call 20; (with_reducible refine (at_pending HC.out 0 PB.out).mono ?_); rintro e w' ⟨rfl, rfl⟩))
            clear OB PB EC EC2 EO
            go_loopw [15] (fun v15 W => ∃ i : Nat, i ≤ 8 ∧ v15 = .int .i64 i ∧ Aside0 (At w1.heap.size L16 9 0 g sb 8 (k1 + fs.length) w1 W) ∧ Aside0 (At w1.heap.size L16 9 5 g2 sb 8 (k1 + fs.length) w1 W)) (fun v15 _ => 8 - (intOf v15).toNat)
            case atStart => exact ⟨0, Nat.zero_le _, rfl, H, HC⟩
            case round =>
              clear H HC
              obtain ⟨i, hi, rfl, H, HC⟩ := hrel
              by_cases hlt : i < 8
              · have q1 : ((i : Int) < 8) = True := eq_true (by omega)
                have q2 : (i < 8) = True := eq_true hlt
                have q3 : (8 ≤ i) = False := eq_false (by omega)
                obtain ⟨cb, hcb⟩ : ∃ cb, Wk[i]? = some cb := ⟨_, List.getElem?_eq_getElem (by rw [HWL.out]; exact hlt)⟩
                obtain ⟨hcw, hzw, _⟩ := obj_cell H.out.many 4 (by omega) gW 58 _ HW.out i (by rw [List.length_map, HWL.out]; exact hlt)
                rw [List.getElem?_map, hcb] at hcw
                replace hcw : _ = some (Value.int .u8 (cb.toNat : Int)) := hcw
                have hrd := Aside0.mk (ER.out i cb hcb)
                have FU := fun W => full_calls cb W
                generalize F cb = fcb at hrd FU
                go_wp2_with (first
                  | (go_at_call 17; (with_reducible refine (at_read H.out i fcb hrd.out).mono ?_); rintro e w' ⟨rfl, rfl⟩)
                  | (go_at_call 17; (with_reducible refine (at_read HC.out i fcb hrd.out).mono ?_); rintro e w' ⟨rfl, rfl⟩)
                  | (go_at_call 12; (with_reducible refine (FU _).mono ?_); rintro e w18 ⟨rfl, hb⟩; have h' := H.out.below hb; have c' := HC.out.below hb; clear hb; have n_H := Aside0.mk h'; clear H h'; have H := n_H; clear n_H; have n_HC := Aside0.mk c'; clear HC c'; have HC := n_HC; clear n_HC))
                exact ⟨⟨i + 1, by omega, by go_num, H, HC⟩, by simp [intOf]; omega⟩
              · have q1 : ((i : Int) < 8) = False := eq_false (by omega)
                go_wp2
                go_ret
                exact ⟨rfl, below_then D0.out D0.out.size H.out.bel⟩
          | false =>
            have KE := Aside0.mk (kend_plain HK.out)
            clear HK
            go_upto_region 27 with (fail)
            clear q1
            have EC := Aside0.mk (kend_crash KE.out)
            have EC2 := Aside0.mk (crashed_crash Wk [])
            have EO := Aside0.mk (crashed_on Wk)
            have ER := Aside0.mk (back_read Wk)
            have OB : Aside0 ((back Wk).off = false) := ⟨rfl⟩
            have PB : Aside0 ((back Wk).pend.length = 0) := ⟨rfl⟩
            generalize crashed Wk = sc at EC EC2 EO
            generalize back Wk = sb at EO ER OB PB
            clear KE
            go_wp2_with (first
              | (go_at_call 19; (with_reducible refine (at_copy H.out).mono ?_); rintro e w11 ⟨g2, L11, rfl, h', c', e11⟩; have n_HW := Aside0.mk ((e11 4 (by omega)).trans HW.out); clear e11 HW; have HW := n_HW; clear n_HW; have n_H : Aside0 (At w1.heap.size L11 9 0 g s 8 (k1 + fs.length) w1 w11) := ⟨h'⟩; have HC : Aside0 (At w1.heap.size L11 9 5 g2 s 8 (k1 + fs.length) w1 w11) := ⟨c'⟩; clear c' h' H; have H := n_H; clear n_H)
              | (go_at_call 15; (with_reducible refine (crash_nil H.out).mono ?_); rintro e w13 ⟨rfl, L13, h', e13⟩; rw [EC2.out] at h'; have c' := at_pair HC.out h' e13 (by omega); have n_HW := Aside0.mk ((e13 4 (by omega)).trans HW.out); clear e13 HW; have HW := n_HW; clear n_HW; have n_H := Aside0.mk h'; clear H h'; have H := n_H; clear n_H; have n_HC := Aside0.mk c'; clear HC c'; have HC := n_HC; clear n_HC)
              | (go_at_call 15; (with_reducible refine (at_crash H.out A3 c3 ks (Kd.C_below HP3.out H.out.bel) (by omega) HX3.out).mono ?_); rintro e w12 ⟨rfl, L12, h', e12⟩; rw [EC.out] at h'; have c' := at_pair HC.out h' e12 (by omega); have n_HW := Aside0.mk ((e12 4 (by omega)).trans HW.out); clear e12 HW; have HW := n_HW; clear n_HW; have n_H := Aside0.mk h'; clear H h'; have H := n_H; clear n_H; have n_HC := Aside0.mk c'; clear HC c'; have HC := n_HC; clear n_HC)
              | (go_at_call 15; (with_reducible refine (at_crash HC.out A3 c3 ks (Kd.C_below HP3.out H.out.bel) (by omega) HX3.out).mono ?_); rintro e w15 ⟨rfl, L15, c', e15⟩; rw [EC.out] at c'; have h' := at_pair H.out c' e15 (by omega); have n_HW := Aside0.mk ((e15 4 (by omega)).trans HW.out); clear e15 HW; have HW := n_HW; clear n_HW; have n_H := Aside0.mk h'; clear H h'; have H := n_H; clear n_H; have n_HC := Aside0.mk c'; clear HC c'; have HC := n_HC; clear n_HC)
              | (go_at_call 16; (with_reducible refine (at_on H.out).mono ?_); rintro e w14 ⟨rfl, L14, h', e14⟩; rw [EO.out] at h'; have c' := at_pair HC.out h' e14 (by omega); have n_HW := Aside0.mk ((e14 4 (by omega)).trans HW.out); clear e14 HW; have HW := n_HW; clear n_HW; have n_H := Aside0.mk h'; clear H h'; have H := n_H; clear n_H; have n_HC := Aside0.mk c'; clear HC c'; have HC := n_HC; clear n_HC)
              | (go_at_call 16; (with_reducible refine (at_on HC.out).mono ?_); rintro e w16 ⟨rfl, L16, c', e16⟩; rw [EO.out] at c'; have h' := at_pair H.out c' e16 (by omega); have n_HW := Aside0.mk ((e16 4 (by omega)).trans HW.out); clear e16 HW; have HW := n_HW; clear n_HW; have n_H := Aside0.mk h'; clear H h'; have H := n_H; clear n_H; have n_HC := Aside0.mk c'; clear HC c'; have HC := n_HC; clear n_HC)
              | (go_at_call 18; (with_reducible refine (at_off H.out false OB.out).mono ?_); rintro e w' ⟨rfl, rfl⟩)
              | (go_at_call 18; (with_reducible refine (at_off HC.out false OB.out).mono ?_); rintro e w' ⟨rfl, rfl⟩)
              | (go_at_call 20; (with_reducible refine (at_pending H.out 0 PB.out).mono ?_); rintro e w' ⟨rfl, rfl⟩)
              | (go_at_call 20; (with_reducible refine (at_pending HC.out 0 PB.out).mono ?_); rintro e w' ⟨rfl, rfl⟩))
            clear OB PB EC EC2 EO
            go_loopw [15] (fun v15 W => ∃ i : Nat, i ≤ 8 ∧ v15 = .int .i64 i ∧ Aside0 (At w1.heap.size L16 9 0 g sb 8 (k1 + fs.length) w1 W) ∧ Aside0 (At w1.heap.size L16 9 5 g2 sb 8 (k1 + fs.length) w1 W)) (fun v15 _ => 8 - (intOf v15).toNat)
            case atStart => exact ⟨0, Nat.zero_le _, rfl, H, HC⟩
            case round =>
              clear H HC
              obtain ⟨i, hi, rfl, H, HC⟩ := hrel
              by_cases hlt : i < 8
              · have q1 : ((i : Int) < 8) = True := eq_true (by omega)
                have q2 : (i < 8) = True := eq_true hlt
                have q3 : (8 ≤ i) = False := eq_false (by omega)
                obtain ⟨cb, hcb⟩ : ∃ cb, Wk[i]? = some cb := ⟨_, List.getElem?_eq_getElem (by rw [HWL.out]; exact hlt)⟩
                obtain ⟨hcw, hzw, _⟩ := obj_cell H.out.many 4 (by omega) gW 58 _ HW.out i (by rw [List.length_map, HWL.out]; exact hlt)
                rw [List.getElem?_map, hcb] at hcw
                replace hcw : _ = some (Value.int .u8 (cb.toNat : Int)) := hcw
                have hrd := Aside0.mk (ER.out i cb hcb)
                have FU := fun W => full_calls cb W
                generalize F cb = fcb at hrd FU
                go_wp2_with (first
                  | (go_at_call 17; (with_reducible refine (at_read H.out i fcb hrd.out).mono ?_); rintro e w' ⟨rfl, rfl⟩)
                  | (go_at_call 17; (with_reducible refine (at_read HC.out i fcb hrd.out).mono ?_); rintro e w' ⟨rfl, rfl⟩)
                  | (go_at_call 12; (with_reducible refine (FU _).mono ?_); rintro e w18 ⟨rfl, hb⟩; have h' := H.out.below hb; have c' := HC.out.below hb; clear hb; have n_H := Aside0.mk h'; clear H h'; have H := n_H; clear n_H; have n_HC := Aside0.mk c'; clear HC c'; have HC := n_HC; clear n_HC))
                exact ⟨⟨i + 1, by omega, by go_num, H, HC⟩, by simp [intOf]; omega⟩
              · have q1 : ((i : Int) < 8) = False := eq_false (by omega)
                go_wp2
                go_ret
                exact ⟨rfl, below_then D0.out D0.out.size H.out.bel⟩
end Go.Proofs.Ytebhmbdblifddaa.Dk
