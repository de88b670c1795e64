/- Chapter 2: equal blocks turned in the kernel's own numbers. -/
import Derived.Test.YtcmjpdfkacmogaaShaP
namespace Go.Proofs.Ytcmjpdfkacmogaa.Sha
open Go Go.RowKit
set_option linter.unusedVariables false
set_option linter.unusedSimpArgs false

abbrev N8 : Type := Nat → Nat → Nat → Nat → Nat → Nat → Nat → Nat → Nat
def s1N (e : Nat) : Nat := (fun X => Nat.mod (Nat.xor (Nat.xor (Nat.shiftRight X 6) (Nat.shiftRight X 11)) (Nat.shiftRight X 25)) 4294967296) (Nat.mul e 4294967297)
def s0N (a : Nat) : Nat := (fun X => Nat.mod (Nat.xor (Nat.xor (Nat.shiftRight X 2) (Nat.shiftRight X 13)) (Nat.shiftRight X 22)) 4294967296) (Nat.mul a 4294967297)
def t1N (e f g h kw : Nat) : Nat := Nat.add (Nat.add h (s1N e)) (Nat.add (Nat.xor (Nat.land e f) (Nat.land (Nat.sub 4294967295 e) g)) kw)
def t2N (a b c : Nat) : Nat := Nat.add (s0N a) (Nat.xor (Nat.xor (Nat.land a b) (Nat.land a c)) (Nat.land b c))
noncomputable def rs (l : List Nat) (K : N8) : N8 :=
  List.rec (motive := fun _ => N8) (fun a b c d e f g h => K a b c d e f g h)
    (fun kw _ ih a b c d e f g h => (fun t1 => ih (Nat.mod (Nat.add t1 (t2N a b c)) 4294967296) a b c (Nat.mod (Nat.add d t1) 4294967296) e f g) (t1N e f g h kw)) l
def kws : List Nat := [2750124281, 3533219314, 388128048, 1259814150, 2595759036, 3142742866, 4087407621, 209567798, 963185657, 1944370274, 2240997151, 3060653860, 3558850261, 3795850079, 4248659976, 587027157, 3667503101, 3854337474, 1109373709, 1449834259, 1332383432, 1811277571, 1402599420, 41923541, 356419487, 2728937732, 4167673427, 1780128268, 3506461443, 1927923708, 3100717738, 957412701, 3211936012, 2525724465, 897656708, 2750766458, 3733122911, 1490448492, 1007131835, 215170638, 199900175, 3051847127, 2546784594, 1198467073, 1121424104, 1993824782, 4206943767, 1385611443, 2838015846, 320495253, 2870002303, 616322403, 3868675357, 810932918, 4192983651, 4114851946, 2567787456, 3518289627, 3043469264, 3431775655, 2875437985, 3700493388, 2838780141, 3572068108]
def plusK (K : N8) (a b c d e f g h : Nat) : N8 := fun a' b' c' d' e' f' g' h' => K (Nat.mod (Nat.add a' a) 4294967296) (Nat.mod (Nat.add b' b) 4294967296) (Nat.mod (Nat.add c' c) 4294967296) (Nat.mod (Nat.add d' d) 4294967296) (Nat.mod (Nat.add e' e) 4294967296) (Nat.mod (Nat.add f' f) 4294967296) (Nat.mod (Nat.add g' g) 4294967296) (Nat.mod (Nat.add h' h) 4294967296)
noncomputable def turnN (K : N8) : N8 := fun a b c d e f g h => rs kws (plusK K a b c d e f g h) a b c d e f g h
noncomputable def itN : Nat → N8 → N8
  | 0, K => K
  | n + 1, K => turnN (itN n K)
/-! ### what it says -/
def un (s : S8) (K : N8) : Nat := K s.a.toNat s.b.toNat s.c.toNat s.d.toNat s.e.toNat s.f.toNat s.g.toNat s.h.toNat
def rk (s : S8) (kw : BitVec 32) : S8 := ⟨(s.h + bs1 s.e + (s.e &&& s.f ^^^ ~~~s.e &&& s.g) + kw) + tt2 s, s.a, s.b, s.c, s.d + (s.h + bs1 s.e + (s.e &&& s.f ^^^ ~~~s.e &&& s.g) + kw), s.e, s.f, s.g⟩
theorem rr_nat (n m : Nat) (hn : n + m = 32) (x : BitVec 32) (p q : Nat) (hp : p = 2 ^ n) (hq : q = 2 ^ m) (ho : ∀ y : Nat, y < 4294967296 → y / p < q ∧ y * q % 4294967296 = q * (y % p) ∧ (y * 4294967297 / p) % 4294967296 = q * (y % p) + y / p) :
    (rr n x).toNat = ((x.toNat * 4294967297) >>> n) % 4294967296 := by
  have hx := x.isLt
  obtain ⟨h1, h2, h3⟩ := ho x.toNat hx
  unfold rr
  rw [BitVec.toNat_or, BitVec.toNat_ushiftRight, BitVec.toNat_shiftLeft, Nat.shiftRight_eq_div_pow, Nat.shiftRight_eq_div_pow, Nat.shiftLeft_eq, show 32 - n = m by omega, ← hp, ← hq]
  show x.toNat / p ||| x.toNat * q % 4294967296 = _
  rw [h2, h3, Nat.or_comm, hq, ← Nat.two_pow_add_eq_or_of_lt (by rw [← hq]; exact h1)]
theorem rr6 (x : BitVec 32) : (rr 6 x).toNat = (x.toNat * 4294967297) >>> 6 % 4294967296 := rr_nat 6 26 rfl x 64 67108864 rfl rfl (fun y hy => ⟨by omega, by omega, by have h : y * 4294967297 / 64 = 67108864 * y + y / 64 := (by omega); rw [h]; omega⟩)
theorem rr11 (x : BitVec 32) : (rr 11 x).toNat = ((x.toNat * 4294967297) >>> 11) % 4294967296 := rr_nat 11 21 rfl x 2048 2097152 rfl rfl (fun y hy => ⟨by omega, by omega, by have h : y * 4294967297 / 2048 = 2097152 * y + y / 2048 := (by omega); rw [h]; omega⟩)
theorem rr25 (x : BitVec 32) : (rr 25 x).toNat = ((x.toNat * 4294967297) >>> 25) % 4294967296 := rr_nat 25 7 rfl x 33554432 128 rfl rfl (fun y hy => ⟨by omega, by omega, by have h : y * 4294967297 / 33554432 = 128 * y + y / 33554432 := (by omega); rw [h]; omega⟩)
theorem rr2 (x : BitVec 32) : (rr 2 x).toNat = ((x.toNat * 4294967297) >>> 2) % 4294967296 := rr_nat 2 30 rfl x 4 1073741824 rfl rfl (fun y hy => ⟨by omega, by omega, by have h : y * 4294967297 / 4 = 1073741824 * y + y / 4 := (by omega); rw [h]; omega⟩)
theorem rr13 (x : BitVec 32) : (rr 13 x).toNat = ((x.toNat * 4294967297) >>> 13) % 4294967296 := rr_nat 13 19 rfl x 8192 524288 rfl rfl (fun y hy => ⟨by omega, by omega, by have h : y * 4294967297 / 8192 = 524288 * y + y / 8192 := (by omega); rw [h]; omega⟩)
theorem rr22 (x : BitVec 32) : (rr 22 x).toNat = ((x.toNat * 4294967297) >>> 22) % 4294967296 := rr_nat 22 10 rfl x 4194304 1024 rfl rfl (fun y hy => ⟨by omega, by omega, by have h : y * 4294967297 / 4194304 = 1024 * y + y / 4194304 := (by omega); rw [h]; omega⟩)
theorem s1_nat (x : BitVec 32) : s1N x.toNat = (bs1 x).toNat := by
  show ((x.toNat * 4294967297) >>> 6 ^^^ ((x.toNat * 4294967297) >>> 11) ^^^ ((x.toNat * 4294967297) >>> 25)) % 2 ^ 32 = _
  unfold bs1
  rw [BitVec.toNat_xor, BitVec.toNat_xor, rr6, rr11, rr25, Nat.xor_mod_two_pow, Nat.xor_mod_two_pow]
theorem s0_nat (x : BitVec 32) : s0N x.toNat = (bs0 x).toNat := by
  show (((x.toNat * 4294967297) >>> 2) ^^^ ((x.toNat * 4294967297) >>> 13) ^^^ ((x.toNat * 4294967297) >>> 22)) % 2 ^ 32 = _
  unfold bs0
  rw [BitVec.toNat_xor, BitVec.toNat_xor, rr2, rr13, rr22, Nat.xor_mod_two_pow, Nat.xor_mod_two_pow]
theorem t1_nat (s : S8) (kw : BitVec 32) : t1N s.e.toNat s.f.toNat s.g.toNat s.h.toNat kw.toNat % 4294967296 = (s.h + bs1 s.e + (s.e &&& s.f ^^^ ~~~s.e &&& s.g) + kw).toNat := by
  have hc : (s.e &&& s.f ^^^ ~~~s.e &&& s.g).toNat = (s.e.toNat &&& s.f.toNat) ^^^ ((4294967295 - s.e.toNat) &&& s.g.toNat) := by
    rw [BitVec.toNat_xor, BitVec.toNat_and, BitVec.toNat_and, BitVec.toNat_not]
  show (s.h.toNat + s1N s.e.toNat + (((s.e.toNat &&& s.f.toNat) ^^^ ((4294967295 - s.e.toNat) &&& s.g.toNat)) + kw.toNat)) % 4294967296 = _
  rw [s1_nat, ← hc, BitVec.toNat_add, BitVec.toNat_add, BitVec.toNat_add]
  omega
theorem t2_nat (s : S8) : t2N s.a.toNat s.b.toNat s.c.toNat % 4294967296 = (tt2 s).toNat := by
  have hc : (s.a &&& s.b ^^^ s.a &&& s.c ^^^ s.b &&& s.c).toNat = (s.a.toNat &&& s.b.toNat) ^^^ (s.a.toNat &&& s.c.toNat) ^^^ (s.b.toNat &&& s.c.toNat) := by
    rw [BitVec.toNat_xor, BitVec.toNat_xor, BitVec.toNat_and, BitVec.toNat_and, BitVec.toNat_and]
  show (s0N s.a.toNat + ((s.a.toNat &&& s.b.toNat) ^^^ (s.a.toNat &&& s.c.toNat) ^^^ (s.b.toNat &&& s.c.toNat))) % 4294967296 = _
  rw [s0_nat, ← hc]
  unfold tt2
  rw [BitVec.toNat_add]
theorem rs_cons (kw : BitVec 32) (l : List Nat) (K : N8) (s : S8) : un s (rs (kw.toNat :: l) K) = un (rk s kw) (rs l K) := by
  have e1 : (t1N s.e.toNat s.f.toNat s.g.toNat s.h.toNat kw.toNat + t2N s.a.toNat s.b.toNat s.c.toNat) % 4294967296 = ((s.h + bs1 s.e + (s.e &&& s.f ^^^ ~~~s.e &&& s.g) + kw) + tt2 s).toNat := by
    rw [BitVec.toNat_add, ← t1_nat, ← t2_nat]; omega
  have e2 : (s.d.toNat + t1N s.e.toNat s.f.toNat s.g.toNat s.h.toNat kw.toNat) % 4294967296 = (s.d + (s.h + bs1 s.e + (s.e &&& s.f ^^^ ~~~s.e &&& s.g) + kw)).toNat := by
    rw [BitVec.toNat_add, ← t1_nat]; omega
  show rs l K ((t1N s.e.toNat s.f.toNat s.g.toNat s.h.toNat kw.toNat + t2N s.a.toNat s.b.toNat s.c.toNat) % 4294967296) s.a.toNat s.b.toNat s.c.toNat ((s.d.toNat + t1N s.e.toNat s.f.toNat s.g.toNat s.h.toNat kw.toNat) % 4294967296) s.e.toNat s.f.toNat s.g.toNat = _
  rw [e1, e2]; rfl
theorem rs_spec : ∀ (l : List (BitVec 32)) (K : N8) (s : S8), un s (rs (l.map fun x => x.toNat) K) = un (l.foldl rk s) K
  | [], _, _ => rfl
  | kw :: l, K, s => by
    rw [List.map_cons, rs_cons, rs_spec l K (rk s kw)]; rfl
theorem rnds_fold (ks ws : List (BitVec 32)) (s : S8) : ∀ n, rnds ks ws s n = ((List.range n).map fun i => ks.getD i 0 + ws.getD i 0).foldl rk s
  | 0 => rfl
  | n + 1 => by
    rw [List.range_succ, List.map_append, List.foldl_append, ← rnds_fold ks ws s n]
    show rnd (rnds ks ws s n) (ks.getD n 0) (ws.getD n 0) = rk (rnds ks ws s n) (ks.getD n 0 + ws.getD n 0)
    unfold rnd rk tt1
    simp only [BitVec.add_assoc]
def eqb : List UInt8 := List.replicate 64 97
set_option maxRecDepth 100000 in
theorem kws_eq : (((List.range 64).map fun i => K0.getD i 0 + (wl eqb 64).getD i 0).map fun x => x.toNat) = kws := by kernel_rfl
theorem add_mod (x y : BitVec 32) : Nat.mod (Nat.add x.toNat y.toNat) 4294967296 = (x + y).toNat := (BitVec.toNat_add x y).symm
theorem plus_spec (K : N8) (r s : S8) : un r (plusK K s.a.toNat s.b.toNat s.c.toNat s.d.toNat s.e.toNat s.f.toNat s.g.toNat s.h.toNat) = un (plus r s) K := by
  unfold un plusK plus
  rw [add_mod, add_mod, add_mod, add_mod, add_mod, add_mod, add_mod, add_mod]
theorem turn_open (K : N8) (s : S8) : un s (turnN K) = un s (rs kws (plusK K s.a.toNat s.b.toNat s.c.toNat s.d.toNat s.e.toNat s.f.toNat s.g.toNat s.h.toNat)) := by
  unfold un turnN; with_reducible rfl
theorem turn_spec (K : N8) (s : S8) : un s (turnN K) = un (turn K0 s eqb) K := by
  rw [turn_open, ← kws_eq, rs_spec, ← rnds_fold, plus_spec]
  unfold turn; with_reducible rfl
/-- Behind one equal block. -/
def turnE (s : S8) : S8 := turn K0 s eqb
theorem turnE_spec (K : N8) (s : S8) : un s (turnN K) = un (turnE s) K := turn_spec K s
/-- Behind n equal blocks. -/
inductive Iter : Nat → S8 → S8 → Prop
  | zero (s : S8) : Iter 0 s s
  | succ {n : Nat} {s t : S8} : Iter n (turnE s) t → Iter (n + 1) s t
theorem Iter.ex : ∀ (n : Nat) (s : S8), ∃ t, Iter n s t
  | 0, s => ⟨s, .zero s⟩
  | n + 1, s => by
    obtain ⟨t, ht⟩ := Iter.ex n (turnE s)
    exact ⟨t, .succ ht⟩
theorem it_spec (K : N8) {n : Nat} {s t : S8} (h : Iter n s t) : un s (itN n K) = un t K := by
  induction h with
  | zero s => rw [itN]
  | succ _ ih => rw [itN, turnE_spec, ih]
theorem Iter.trans {n m : Nat} {s t u : S8} (h : Iter n s t) (k : Iter m t u) : Iter (n + m) s u := by
  induction h with
  | zero s => rw [Nat.zero_add]; exact k
  | succ _ ih => rw [Nat.add_right_comm]; exact .succ (ih k)
def chk (a b c d e f g h : Nat) : N8 := fun a' b' c' d' e' f' g' h' =>
  cond (Nat.beq a' a) (cond (Nat.beq b' b) (cond (Nat.beq c' c) (cond (Nat.beq d' d) (cond (Nat.beq e' e) (cond (Nat.beq f' f) (cond (Nat.beq g' g) (cond (Nat.beq h' h) 1 0) 0) 0) 0) 0) 0) 0) 0
theorem cond_one {b : Bool} {x : Nat} (h : cond b x 0 = 1) : b = true ∧ x = 1 := by cases b <;> simp_all
def of8 (a b c d e f g h : Nat) : S8 := ⟨BitVec.ofNat 32 a, BitVec.ofNat 32 b, BitVec.ofNat 32 c, BitVec.ofNat 32 d, BitVec.ofNat 32 e, BitVec.ofNat 32 f, BitVec.ofNat 32 g, BitVec.ofNat 32 h⟩
theorem bit_of {x : BitVec 32} {a : Nat} (h : Nat.beq x.toNat a = true) : x = BitVec.ofNat 32 a := by
  have := Nat.eq_of_beq_eq_true h
  rw [← this, BitVec.ofNat_toNat, BitVec.setWidth_eq]
theorem chk_spec (s : S8) (a b c d e f g h : Nat) (hc : un s (chk a b c d e f g h) = 1) : s = of8 a b c d e f g h := by
  unfold un chk at hc
  obtain ⟨h1, hc⟩ := cond_one hc
  obtain ⟨h2, hc⟩ := cond_one hc
  obtain ⟨h3, hc⟩ := cond_one hc
  obtain ⟨h4, hc⟩ := cond_one hc
  obtain ⟨h5, hc⟩ := cond_one hc
  obtain ⟨h6, hc⟩ := cond_one hc
  obtain ⟨h7, hc⟩ := cond_one hc
  obtain ⟨h8, hc⟩ := cond_one hc
  unfold of8
  rw [← bit_of h1, ← bit_of h2, ← bit_of h3, ← bit_of h4, ← bit_of h5, ← bit_of h6, ← bit_of h7, ← bit_of h8]
/-- n equal blocks, by one reckoning. -/
theorem step_of (n : Nat) (a b c d e f g h a' b' c' d' e' f' g' h' : Nat) (hb : a < 4294967296 ∧ b < 4294967296 ∧ c < 4294967296 ∧ d < 4294967296 ∧ e < 4294967296 ∧ f < 4294967296 ∧ g < 4294967296 ∧ h < 4294967296)
    (hk : itN n (chk a' b' c' d' e' f' g' h') a b c d e f g h = 1) : Iter n (of8 a b c d e f g h) (of8 a' b' c' d' e' f' g' h') := by
  obtain ⟨t, ht⟩ := Iter.ex n (of8 a b c d e f g h)
  have hue := it_spec (chk a' b' c' d' e' f' g' h') ht
  have hu2 : un (of8 a b c d e f g h) (itN n (chk a' b' c' d' e' f' g' h')) = 1 := by
    unfold un of8
    dsimp only
    rw [BitVec.toNat_ofNat, BitVec.toNat_ofNat, BitVec.toNat_ofNat, BitVec.toNat_ofNat, BitVec.toNat_ofNat, BitVec.toNat_ofNat, BitVec.toNat_ofNat, BitVec.toNat_ofNat]
    rw [Nat.mod_eq_of_lt hb.1, Nat.mod_eq_of_lt hb.2.1, Nat.mod_eq_of_lt hb.2.2.1, Nat.mod_eq_of_lt hb.2.2.2.1, Nat.mod_eq_of_lt hb.2.2.2.2.1, Nat.mod_eq_of_lt hb.2.2.2.2.2.1, Nat.mod_eq_of_lt hb.2.2.2.2.2.2.1, Nat.mod_eq_of_lt hb.2.2.2.2.2.2.2]
    exact hk
  rw [← chk_spec t _ _ _ _ _ _ _ _ (hue.symm.trans hu2)]
  exact ht
/-- n equal blocks ahead of a text. -/
theorem blk_equal (r : List UInt8) {n : Nat} {s t : S8} (h : Iter n s t) : blk8 s (List.replicate (64 * n) 97 ++ r) = blk8 t r := by
  induction h with
  | zero s => rw [Nat.mul_zero, List.replicate_zero, List.nil_append]
  | @succ n s t _ ih =>
    have e : List.replicate (64 * (n + 1)) (97 : UInt8) = eqb ++ List.replicate (64 * n) 97 := by
      unfold eqb
      rw [show 64 * (n + 1) = 64 + 64 * n by omega, ← List.replicate_append_replicate]
    have hl : eqb.length = 64 := by unfold eqb; rw [List.length_replicate]
    have h1 : (eqb ++ (List.replicate (64 * n) 97 ++ r)).take 64 = eqb := by rw [List.take_append_of_le_length (by omega), List.take_of_length_le (by omega)]
    have h2 : (eqb ++ (List.replicate (64 * n) 97 ++ r)).drop 64 = List.replicate (64 * n) 97 ++ r := by rw [List.drop_append_of_le_length (by omega), List.drop_of_length_le (by omega), List.nil_append]
    rw [e, List.append_assoc, blk8_long s _ (by rw [List.length_append, hl]; omega), h1, h2]
    exact ih
end Go.Proofs.Ytcmjpdfkacmogaa.Sha
