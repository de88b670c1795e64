/- Chapter 6: DiskPlays, walked. -/
import Derived.Test.YtebhmbdblifddaaDkU
namespace Go.Proofs.Ytebhmbdblifddaa.Dk
open Go.RowKit Go.Maps Go.Proofs.Ytebhmbdblifddaa.X Go.Proofs.YtebhmbdblifddaaW.PrintWords Go.Proofs.YtebhmbdblifddaaW.PrintLast Go.Proofs.YtebhmbdblifddaaW.PrintMore
set_option linter.unusedVariables false
set_option linter.unusedSimpArgs false

/-- An op: kind, number, text, laid again and again or not, kept. -/
abbrev OpT := Int × Int × ByteArray × Bool × List Int
def kO : Kd OpT := Kd.iso (Kd.pair (Kd.int .i64) (Kd.pair (Kd.int .i64) (Kd.pair Kd.string (Kd.pair Kd.bool (Kd.slice 3 (Kd.int .i64)))))) (fun x : OpT => x)
theorem kO_open {w : World} {x : OpT} {cs : List Value} (h : kO.K w x cs) : ∃ A c, cs = [.int .i64 x.1, .int .i64 x.2.1, .string x.2.2.1, .bool x.2.2.2.1, .slice A x.2.2.2.2.length c] ∧ x.2.2.2.2.length ≤ c ∧ Kd.C (Kd.int .i64) w A x.2.2.2.2.length x.2.2.2.2 := by
  obtain ⟨a, b, rfl, ha, b1, b2, rfl, hb, c1, c2, rfl, hc, d1, d2, rfl, hd, A, c, rfl, hlc, hC⟩ := h
  have e1 : a = [.int .i64 x.1] := ha
  have e2 : b1 = [.int .i64 x.2.1] := hb
  have e3 : c1 = [.string x.2.2.1] := hc
  have e4 : d1 = [.bool x.2.2.2.1] := hd
  refine ⟨A, c, by rw [e1, e2, e3, e4]; rfl, hlc, hC⟩
theorem ops_at {W : World} {A : Option Addr} {n : Nat} {os : List OpT} (h : Kd.C kO W A n os) (j : Nat) (kd k : Int) (t : ByteArray) (ev : Bool) (ks : List Int) (hj : os[j]? = some (kd, k, t, ev, ks)) :
    ∃ (ad : Addr) (A' : Option Addr) (c' : Nat), A = some ad ∧ W.cell? (ad.add (j * 5)) = some (.int .i64 kd) ∧ W.cell? ⟨(ad.add (j * 5)).block, (ad.add (j * 5)).off + 1, none⟩ = some (.int .i64 k) ∧ W.cell? ⟨(ad.add (j * 5)).block, (ad.add (j * 5)).off + 2, none⟩ = some (.string t) ∧ W.cell? ⟨(ad.add (j * 5)).block, (ad.add (j * 5)).off + 3, none⟩ = some (.bool ev) ∧
      W.cell? ⟨(ad.add (j * 5)).block, (ad.add (j * 5)).off + 4, none⟩ = some (.slice A' ks.length c') ∧ ks.length ≤ c' ∧ Kd.C (Kd.int .i64) W A' ks.length ks := by
  have hjl := (List.getElem?_eq_some_iff.1 hj).1
  obtain ⟨h1, _, h3⟩ := h
  obtain ⟨ad, e, h4⟩ := h3 (by omega)
  obtain ⟨cs, hc, hk, hcell⟩ := h4 j _ hj
  obtain ⟨A', c', e2, hlc, hC⟩ := kO_open hk
  subst e2
  refine ⟨ad, A', c', e, hcell 0 _ rfl, ?_, ?_, ?_, ?_, hlc, hC⟩
  · rw [← add_field ad (j * 5) 1 (by decide)]; exact hcell 1 _ rfl
  · rw [← add_field ad (j * 5) 2 (by decide)]; exact hcell 2 _ rfl
  · rw [← add_field ad (j * 5) 3 (by decide)]; exact hcell 3 _ rfl
  · rw [← add_field ad (j * 5) 4 (by decide)]; exact hcell 4 _ rfl
def Apart2 (i2 j2 i j : Nat) : Prop := ((i2 + 4 ≤ i ∨ i + 4 ≤ i2) ∧ (i2 + 4 ≤ j ∨ j + 3 ≤ i2)) ∧ ((j2 + 3 ≤ i ∨ i + 4 ≤ j2) ∧ (j2 + 3 ≤ j ∨ j + 3 ≤ j2))
/-- What was copied from: none, or a pair of disks that stays. -/
def Old (v9 v10 : Value) (base : Nat) (L : Nat → Sl) (N i j n m : Nat) (w0 w : World) : Prop :=
  (v9 = .pointer none ∧ v10 = .pointer none) ∨ ∃ (i2 g2 j2 r2 : Nat) (s2 : DS), v9 = .pointer (some ⟨g2, 0, none⟩) ∧ v10 = .pointer (some ⟨r2, 0, none⟩) ∧ Two base L N i2 g2 j2 r2 s2 n m w0 w ∧ Apart2 i2 j2 i j
theorem two_stay {base : Nat} {L L' : Nat → Sl} {N N' i g j r i2 g2 j2 r2 : Nat} {s s2 : DS} {n m m' : Nat} {w0 w w' : World} (h : Two base L N i2 g2 j2 r2 s2 n m w0 w) (a : Two base L' N' i g j r s n m' w0 w') (hN : N ≤ N') (st : Stay L L' N i j) (ap : Apart2 i2 j2 i j) (hm : m ≤ m') : Two base L' N' i2 g2 j2 r2 s2 n m' w0 w' := by
  have hi := h.at_.hi
  have hj := h.hj
  obtain ⟨⟨p1, p2⟩, p3, p4⟩ := ap
  obtain ⟨k0, k1, k2, k3⟩ := h.at_.disk
  obtain ⟨l0, l1, l2⟩ := h.dr
  have e : ∀ k, k < N → (i2 ≤ k ∧ k < i2 + 4 ∨ j2 ≤ k ∧ k < j2 + 3) → L' k = L k := fun k hk hh => st k hk (by omega) (by omega)
  refine ⟨⟨a.at_.many, ⟨?_, ?_, ?_, ?_⟩, by omega, ok_more h.at_.ok hm, a.at_.bel, h.at_.hb, h.at_.hn, a.at_.hm⟩, ⟨?_, ?_, ?_⟩, by omega, h.ap, h.sn⟩
  · rw [e i2 (by omega) (by omega), e (i2 + 1) (by omega) (by omega), e (i2 + 2) (by omega) (by omega), e (i2 + 3) (by omega) (by omega)]; exact k0
  · rw [e (i2 + 1) (by omega) (by omega)]; exact k1
  · rw [e (i2 + 2) (by omega) (by omega)]; exact k2
  · rw [e (i2 + 3) (by omega) (by omega)]; exact k3
  · rw [e j2 (by omega) (by omega), e (j2 + 1) (by omega) (by omega), e (j2 + 2) (by omega) (by omega)]; exact l0
  · rw [e (j2 + 1) (by omega) (by omega)]; exact l1
  · rw [e (j2 + 2) (by omega) (by omega)]; exact l2
theorem old_stay {v9 v10 : Value} {base : Nat} {L L' : Nat → Sl} {N N' i g j r : Nat} {s : DS} {n m m' : Nat} {w0 w w' : World} (h : Old v9 v10 base L N i j n m w0 w) (a : Two base L' N' i g j r s n m' w0 w') (hN : N ≤ N') (st : Stay L L' N i j) (hm : m ≤ m') : Old v9 v10 base L' N' i j n m' w0 w' := by
  rcases h with h | ⟨i2, g2, j2, r2, s2, e1, e2, ht, ap⟩
  · exact .inl h
  · exact .inr ⟨i2, g2, j2, r2, s2, e1, e2, two_stay ht a hN st ap hm, ap⟩
/-- Both copied: the copies, and what they were copied from. -/
theorem two_copies {base : Nat} {L L4 L5 : Nat → Sl} {N i g j r g4 r5 : Nat} {s : DS} {n m : Nat} {w0 w w4 w5 : World} (h : Two base L N i g j r s n m w0 w) (ha : At base L4 (N + 4) i g s n m w0 w4) (hb : At base L4 (N + 4) N g4 s n m w0 w4) (e4 : ∀ k, k < N → L4 k = L k)
    (m5 : Many base L5 (N + 4 + 3) w5) (d5 : DiskR L5 (N + 4) r5 s) (e5 : ∀ k, k < N + 4 → L5 k = L4 k) (b5 : Below base w4 w5) :
    Two base L5 (N + 4 + 3) N g4 (N + 4) r5 s n m w0 w5 ∧ Two base L5 (N + 4 + 3) i g j r s n m w0 w5 := by
  have hi := h.at_.hi
  have hj := h.hj
  refine ⟨⟨⟨m5, disk_rows e5 hb.disk (by omega), by omega, hb.ok, hb.bel.trans b5, hb.hb, hb.hn, hb.hm⟩, d5, by omega, .inr (by omega), h.sn⟩,
    ⟨⟨m5, disk_rows e5 ha.disk (by omega), by omega, ha.ok, ha.bel.trans b5, ha.hb, ha.hn, ha.hm⟩, diskr_rows e5 (diskr_rows e4 h.dr h.hj) (by omega), by omega, h.ap, h.sn⟩⟩
theorem old_copy {base : Nat} {L L' : Nat → Sl} {N N' i g j r g4 r5 : Nat} {s s6 : DS} {n m m' : Nat} {w0 w w' : World} (h : Two base L (N + 4 + 3) N g4 (N + 4) r5 s n m w0 w) (h2 : Two base L (N + 4 + 3) i g j r s n m w0 w) (a : Two base L' N' N g4 (N + 4) r5 s6 n m' w0 w') (hN : N + 4 + 3 ≤ N') (st : Stay L L' (N + 4 + 3) N (N + 4)) (hi : i + 4 ≤ N) (hj : j + 3 ≤ N) (hm : m ≤ m') :
    Old (.pointer (some ⟨g, 0, none⟩)) (.pointer (some ⟨r, 0, none⟩)) base L' N' N (N + 4) n m' w0 w' := by
  have ap : Apart2 i j N (N + 4) := ⟨⟨by omega, by omega⟩, by omega, by omega⟩
  exact .inr ⟨i, g, j, r, s, rfl, rfl, two_stay h2 a hN st ap hm, ap⟩
theorem two_fresh {base : Nat} {L L3 : Nat → Sl} {g r n : Nat} {w0 w w3 : World} (h : At base L 4 0 g (freshS n) n 0 w0 w) (m3 : Many base L3 (4 + 3) w3) (d3 : DiskR L3 4 r (freshS n)) (e3 : ∀ k, k < 4 → L3 k = L k) (b3 : Below base w w3) : Two base L3 7 0 g 4 r (freshS n) n 0 w0 w3 :=
  ⟨⟨m3, disk_rows e3 h.disk (by omega), by omega, h.ok, h.bel.trans b3, h.hb, h.hn, h.hm⟩, d3, by omega, .inr (by omega), sn_fresh n⟩
def goodO (x : OpT) : Prop := (Lit.int .i64 x.1).wf = true ∧ x.2.1 ≤ 9223372036854775807 ∧ x.2.2.1.size ≤ 1048576 ∧ True ∧ x.2.2.2.2.length ≤ 1048576 ∧ ∀ a ∈ x.2.2.2.2, (Lit.int .i64 a).wf = true
set_option maxHeartbeats 32000000 in
set_option maxRecDepth 100000 in
theorem playsall_walk (sec : Int) (A : Option Addr) (c : Nat) (os : List OpT) (w : World) (hp : Kd.C kO w A os.length os) (hl : os.length ≤ 1048576) (hg : ∀ x ∈ os, goodO x) :
    Calls Try.prog 6 #[.int .i64 sec, .slice A os.length c] w fun e w' => e = .returned (.bool true) ∧ Below w.heap.size w w' := by
  have HP := Aside0.mk hp
  have HG := Aside0.mk hg
  clear hp hg
  have hu53 := Try.underlying53
  go_enter Try.func6, Try.ntmps6
  by_cases hs : 1 ≤ sec ∧ sec ≤ 8192
  · by_cases h64 : 64 < sec
    · have q1 : (64 < sec) = True := eq_true h64
      have q2 : (sec ≤ 8192) = True := eq_true hs.2
      obtain ⟨n, hn⟩ : ∃ n : Nat, 1 + sec % 64 = n := ⟨(1 + sec % 64).toNat, by omega⟩
      have hn1 : 1 ≤ n ∧ n ≤ 64 := by omega
      have hnt : 1 + Int.tmod sec 64 = n := by rw [Int.tmod_eq_emod_of_nonneg (by omega)]; exact hn
      have hwn : wrap64 (1 + Int.tmod sec 64) = n := by rw [hnt]; unfold wrap64; omega
      have hwm : wrap64 (1 + sec % 64) = n := by rw [hn]; unfold wrap64; omega
      go_upto_region 5 with (go_at_call 8; (with_reducible refine (head_calls _).mono ?_); rintro e w1 ⟨rfl, hb⟩; have n1 := Aside0.mk (Kd.C_below HP.out hb); have D0 := Aside0.mk hb; clear HP hb; have HP := n1; clear n1)
      try simp only [hn]
      clear hn hwn hwm hnt q1 q2 h64 hs
      have HD : ∀ W : World, Calls Try.prog 21 #[.int .i64 (n : Int)] W fun e w' => ∃ g L', e = .returned (.tuple #[.pointer (some ⟨g, 0, none⟩), .int .i64 0]) ∧ At W.heap.size L' 4 0 g (freshS n) n 0 W w' := fun W => at_new W hn1.1 (by omega)
      go_upto_region 11 with (first
        | (go_at_call 21; (with_reducible refine (HD _).mono ?_); rintro e w2 ⟨g, L2, rfl, h2⟩; have H2 := Aside0.mk h2; clear h2)
        | (go_at_call 22; (with_reducible refine (rnew_calls n hn1.1 (by omega) H2.out.many H2.out.base).mono ?_); rintro e w3 ⟨r, L3, rfl, m3, d3, e3, b3⟩; have h7 := two_fresh H2.out m3 d3 e3 b3; clear m3 d3 e3 b3))
      clear H2 HD hn1
      have H0 := Aside0.mk (h7 : Two w1.heap.size L3 7 0 g 4 r (freshS n) n 0 w1 w3)
      clear h7
      go_wp2
      go_loopw [5, 7, 9, 10, 11] (fun v5 v7 v9 v10 v11 W => ∃ (k N i g j r : Nat) (L : Nat → Sl) (s : DS), k ≤ os.length ∧ v11 = .int .i64 k ∧ v5 = .pointer (some ⟨g, 0, none⟩) ∧ v7 = .pointer (some ⟨r, 0, none⟩) ∧ Aside0 (Two w1.heap.size L N i g j r s n k w1 W) ∧ Aside0 (Old v9 v10 w1.heap.size L N i j n k w1 W)) (fun v5 v7 v9 v10 v11 _ => os.length - (intOf v11).toNat)
      case atStart => exact ⟨0, 7, 0, g, 4, r, L3, freshS n, Nat.zero_le _, rfl, rfl, rfl, H0, ⟨.inl ⟨rfl, rfl⟩⟩⟩
      case round =>
        clear H0
        obtain ⟨k, N, i, g, j, r, L, s, hk, rfl, rfl, rfl, H, HO⟩ := hrel
        by_cases hlt : k < os.length
        · have q1 : ((k : Int) < (os.length : Int)) = True := eq_true (by omega)
          have q2 : (k < os.length) = True := eq_true hlt
          have q3 : (os.length ≤ k) = False := eq_false (by omega)
          obtain ⟨o, hok⟩ : ∃ o, os[k]? = some o := ⟨_, List.getElem?_eq_getElem hlt⟩
          obtain ⟨kd, a, t, ev, ks⟩ := o
          have hom := List.mem_of_getElem? hok
          obtain ⟨_, hg2, hg3, _, hg5, hg6⟩ := HG.out _ hom
          replace hg2 : a ≤ 9223372036854775807 := hg2
          replace hg3 : t.size ≤ 1048576 := hg3
          replace hg5 : ks.length ≤ 1048576 := hg5
          obtain ⟨ad, A', c', rfl, z0, z1, z2, z3, z4, hkc, hks⟩ := ops_at HP.out k kd a t ev ks hok
          have HKS := Aside0.mk hks
          have HKW : Aside0 (∀ x ∈ ks, (Lit.int .i64 x).wf = true) := ⟨hg6⟩
          have y0 := below_cell' H.out.at_.bel z0
          have y1 := below_cell' H.out.at_.bel z1
          have y2 := below_cell' H.out.at_.bel z2
          have y3 := below_cell' H.out.at_.bel z3
          have y4 := below_cell' H.out.at_.bel z4
          have Z0 := Aside0.mk z0
          have Z1 := Aside0.mk z1
          have Z2 := Aside0.mk z2
          have Z3 := Aside0.mk z3
          have Z4 := Aside0.mk z4
          clear z0 z1 z2 z3 z4 hks hg6 hom hok
          by_cases k7 : kd = 7
          · subst k7
            go_upto_region 23 with (first
              | (go_at_call 19; (with_reducible refine (at_copy H.out.at_).mono ?_); rintro e w4 ⟨g4, L4, rfl, h4, c4, e4⟩; have HA := Aside0.mk h4; have HB := Aside0.mk c4; have E4 := Aside0.mk e4; have HR := Aside0.mk (diskr_rows e4 H.out.dr H.out.hj); clear h4 c4 e4)
              | (go_at_call 23; (with_reducible refine (rcopy_calls HA.out.many HR.out (by have := H.out.hj; omega) HA.out.base (by rw [HA.out.ok.safe]; have := HA.out.hn; omega) (by have := HA.out.ok.pend; have := HA.out.hm; omega)).mono ?_); rintro e w5 ⟨r5, L5, rfl, m5, d5, e5, b5⟩; have TP := Aside0.mk (two_copies H.out HA.out HB.out E4.out m5 d5 e5 b5); clear m5 d5 e5 b5))
            clear y0 y1 y2 y3 y4
            have y0 := below_cell' TP.out.1.at_.bel Z0.out
            have y1 := below_cell' TP.out.1.at_.bel Z1.out
            have y2 := below_cell' TP.out.1.at_.bel Z2.out
            have y3 := below_cell' TP.out.1.at_.bel Z3.out
            have y4 := below_cell' TP.out.1.at_.bel Z4.out
            go_wp2_with (first
              | (go_at_call 24; (with_reducible refine (plays_calls 7 a t ev A' c' ks HKS.out rfl hkc hg5 HKW.out hg3 hg2 TP.out.1 (by omega)).mono ?_); rintro e w6 ⟨rfl, L6, N6, s6, hN6, h6, st6⟩; have H6 := Aside0.mk h6; have O6 := Aside0.mk (old_copy TP.out.1 TP.out.2 h6 hN6 st6 (by have := H.out.at_.hi; omega) H.out.hj (by omega)); clear h6 st6)
              | (go_at_call 25; (with_reducible refine (same_calls H6.out).mono ?_); rintro e w' ⟨rfl, hw⟩; obtain rfl := hw.symm))
            exact ⟨⟨k + 1, N6, N, g4, N + 4, r5, L6, s6, by omega, by go_num, rfl, rfl, H6, O6⟩, by simp [intOf]; omega⟩
          · have p1 : (kd = 7) = False := eq_false k7
            have p2 : (kd == 7) = false := by simp [k7]
            go_wp2_with (first
              | (go_at_call 24; (with_reducible refine (plays_calls kd a t ev A' c' ks HKS.out rfl hkc hg5 HKW.out hg3 hg2 H.out (by omega)).mono ?_); rintro e w6 ⟨rfl, L6, N6, s6, hN6, h6, st6⟩; have H6 := Aside0.mk h6; have O6 := Aside0.mk (old_stay HO.out h6 hN6 st6 (by omega)); clear h6 st6)
              | (go_at_call 25; (with_reducible refine (same_calls H6.out).mono ?_); rintro e w' ⟨rfl, hw⟩; obtain rfl := hw.symm))
            exact ⟨⟨k + 1, N6, i, g, j, r, L6, s6, by omega, by go_num, rfl, rfl, H6, O6⟩, by simp [intOf]; omega⟩
        · have q1 : ((k : Int) < (os.length : Int)) = False := eq_false (by omega)
          rcases HO.out with ⟨rfl, rfl⟩ | ⟨i2, g2, j2, r2, s2, rfl, rfl, ht2, _⟩
          · go_wp2
            go_ret
            exact ⟨rfl, below_then D0.out D0.out.size H.out.at_.bel⟩
          · have H2 := Aside0.mk ht2
            clear ht2
            go_wp2_with (go_at_call 25; (with_reducible refine (same_calls H2.out).mono ?_); rintro e w' ⟨rfl, hw⟩; obtain rfl := hw.symm)
            go_ret
            exact ⟨rfl, below_then D0.out D0.out.size H.out.at_.bel⟩
    · have q1 : (64 < sec) = False := eq_false h64
      obtain ⟨n, rfl⟩ : ∃ n : Nat, sec = n := ⟨sec.toNat, by omega⟩
      have hn1 : 1 ≤ n ∧ n ≤ 64 := by omega
      go_upto_region 5 with (go_at_call 8; (with_reducible refine (head_calls _).mono ?_); rintro e w1 ⟨rfl, hb⟩; have n1 := Aside0.mk (Kd.C_below HP.out hb); have D0 := Aside0.mk hb; clear HP hb; have HP := n1; clear n1)
      clear q1 h64 hs
      have HD : ∀ W : World, Calls Try.prog 21 #[.int .i64 (n : Int)] W fun e w' => ∃ g L', e = .returned (.tuple #[.pointer (some ⟨g, 0, none⟩), .int .i64 0]) ∧ At W.heap.size L' 4 0 g (freshS n) n 0 W w' := fun W => at_new W hn1.1 (by omega)
      go_upto_region 11 with (first
        | (go_at_call 21; (with_reducible refine (HD _).mono ?_); rintro e w2 ⟨g, L2, rfl, h2⟩; have H2 := Aside0.mk h2; clear h2)
        | (go_at_call 22; (with_reducible refine (rnew_calls n hn1.1 (by omega) H2.out.many H2.out.base).mono ?_); rintro e w3 ⟨r, L3, rfl, m3, d3, e3, b3⟩; have h7 := two_fresh H2.out m3 d3 e3 b3; clear m3 d3 e3 b3))
      clear H2 HD hn1
      have H0 := Aside0.mk (h7 : Two w1.heap.size L3 7 0 g 4 r (freshS n) n 0 w1 w3)
      clear h7
      go_wp2
      go_loopw [5, 7, 9, 10, 11] (fun v5 v7 v9 v10 v11 W => ∃ (k N i g j r : Nat) (L : Nat → Sl) (s : DS), k ≤ os.length ∧ v11 = .int .i64 k ∧ v5 = .pointer (some ⟨g, 0, none⟩) ∧ v7 = .pointer (some ⟨r, 0, none⟩) ∧ Aside0 (Two w1.heap.size L N i g j r s n k w1 W) ∧ Aside0 (Old v9 v10 w1.heap.size L N i j n k w1 W)) (fun v5 v7 v9 v10 v11 _ => os.length - (intOf v11).toNat)
      case atStart => exact ⟨0, 7, 0, g, 4, r, L3, freshS n, Nat.zero_le _, rfl, rfl, rfl, H0, ⟨.inl ⟨rfl, rfl⟩⟩⟩
      case round =>
        clear H0
        obtain ⟨k, N, i, g, j, r, L, s, hk, rfl, rfl, rfl, H, HO⟩ := hrel
        by_cases hlt : k < os.length
        · have q1 : ((k : Int) < (os.length : Int)) = True := eq_true (by omega)
          have q2 : (k < os.length) = True := eq_true hlt
          have q3 : (os.length ≤ k) = False := eq_false (by omega)
          obtain ⟨o, hok⟩ : ∃ o, os[k]? = some o := ⟨_, List.getElem?_eq_getElem hlt⟩
          obtain ⟨kd, a, t, ev, ks⟩ := o
          have hom := List.mem_of_getElem? hok
          obtain ⟨_, hg2, hg3, _, hg5, hg6⟩ := HG.out _ hom
          replace hg2 : a ≤ 9223372036854775807 := hg2
          replace hg3 : t.size ≤ 1048576 := hg3
          replace hg5 : ks.length ≤ 1048576 := hg5
          obtain ⟨ad, A', c', rfl, z0, z1, z2, z3, z4, hkc, hks⟩ := ops_at HP.out k kd a t ev ks hok
          have HKS := Aside0.mk hks
          have HKW : Aside0 (∀ x ∈ ks, (Lit.int .i64 x).wf = true) := ⟨hg6⟩
          have y0 := below_cell' H.out.at_.bel z0
          have y1 := below_cell' H.out.at_.bel z1
          have y2 := below_cell' H.out.at_.bel z2
          have y3 := below_cell' H.out.at_.bel z3
          have y4 := below_cell' H.out.at_.bel z4
          have Z0 := Aside0.mk z0
          have Z1 := Aside0.mk z1
          have Z2 := Aside0.mk z2
          have Z3 := Aside0.mk z3
          have Z4 := Aside0.mk z4
          clear z0 z1 z2 z3 z4 hks hg6 hom hok
          by_cases k7 : kd = 7
          · subst k7
            go_upto_region 23 with (first
              | (go_at_call 19; (with_reducible refine (at_copy H.out.at_).mono ?_); rintro e w4 ⟨g4, L4, rfl, h4, c4, e4⟩; have HA := Aside0.mk h4; have HB := Aside0.mk c4; have E4 := Aside0.mk e4; have HR := Aside0.mk (diskr_rows e4 H.out.dr H.out.hj); clear h4 c4 e4)
              | (go_at_call 23; (with_reducible refine (rcopy_calls HA.out.many HR.out (by have := H.out.hj; omega) HA.out.base (by rw [HA.out.ok.safe]; have := HA.out.hn; omega) (by have := HA.out.ok.pend; have := HA.out.hm; omega)).mono ?_); rintro e w5 ⟨r5, L5, rfl, m5, d5, e5, b5⟩; have TP := Aside0.mk (two_copies H.out HA.out HB.out E4.out m5 d5 e5 b5); clear m5 d5 e5 b5))
            clear y0 y1 y2 y3 y4
            have y0 := below_cell' TP.out.1.at_.bel Z0.out
            have y1 := below_cell' TP.out.1.at_.bel Z1.out
            have y2 := below_cell' TP.out.1.at_.bel Z2.out
            have y3 := below_cell' TP.out.1.at_.bel Z3.out
            have y4 := below_cell' TP.out.1.at_.bel Z4.out
            go_wp2_with (first
              | (go_at_call 24; (with_reducible refine (plays_calls 7 a t ev A' c' ks HKS.out rfl hkc hg5 HKW.out hg3 hg2 TP.out.1 (by omega)).mono ?_); rintro e w6 ⟨rfl, L6, N6, s6, hN6, h6, st6⟩; have H6 := Aside0.mk h6; have O6 := Aside0.mk (old_copy TP.out.1 TP.out.2 h6 hN6 st6 (by have := H.out.at_.hi; omega) H.out.hj (by omega)); clear h6 st6)
              | (go_at_call 25; (with_reducible refine (same_calls H6.out).mono ?_); rintro e w' ⟨rfl, hw⟩; obtain rfl := hw.symm))
            exact ⟨⟨k + 1, N6, N, g4, N + 4, r5, L6, s6, by omega, by go_num, rfl, rfl, H6, O6⟩, by simp [intOf]; omega⟩
          · have p1 : (kd = 7) = False := eq_false k7
            have p2 : (kd == 7) = false := by simp [k7]
            go_wp2_with (first
              | (go_at_call 24; (with_reducible refine (plays_calls kd a t ev A' c' ks HKS.out rfl hkc hg5 HKW.out hg3 hg2 H.out (by omega)).mono ?_); rintro e w6 ⟨rfl, L6, N6, s6, hN6, h6, st6⟩; have H6 := Aside0.mk h6; have O6 := Aside0.mk (old_stay HO.out h6 hN6 st6 (by omega)); clear h6 st6)
              | (go_at_call 25; (with_reducible refine (same_calls H6.out).mono ?_); rintro e w' ⟨rfl, hw⟩; obtain rfl := hw.symm))
            exact ⟨⟨k + 1, N6, i, g, j, r, L6, s6, by omega, by go_num, rfl, rfl, H6, O6⟩, by simp [intOf]; omega⟩
        · have q1 : ((k : Int) < (os.length : Int)) = False := eq_false (by omega)
          rcases HO.out with ⟨rfl, rfl⟩ | ⟨i2, g2, j2, r2, s2, rfl, rfl, ht2, _⟩
          · go_wp2
            go_ret
            exact ⟨rfl, below_then D0.out D0.out.size H.out.at_.bel⟩
          · have H2 := Aside0.mk ht2
            clear ht2
            go_wp2_with (go_at_call 25; (with_reducible refine (same_calls H2.out).mono ?_); rintro e w' ⟨rfl, hw⟩; obtain rfl := hw.symm)
            go_ret
            exact ⟨rfl, below_then D0.out D0.out.size H.out.at_.bel⟩
  · have HN1 : ∀ W : World, Calls Try.prog 21 #[.int .i64 sec] W fun e w' => e = .returned (.tuple #[.pointer none, .int .i64 1]) ∧ w' = W := fun W => new_none sec hs
    have HN2 : ∀ W : World, Calls Try.prog 22 #[.int .i64 sec] W fun e w' => e = .returned (.tuple #[.pointer none, .int .i64 1]) ∧ w' = W := fun W => rnew_none sec hs
    by_cases h64 : 64 < sec
    · have q1 : (64 < sec) = True := eq_true h64
      have q2 : (sec ≤ 8192) = False := eq_false (by omega)
      go_wp2_with (first
        | (go_at_call 8; (with_reducible refine (head_calls _).mono ?_); rintro e w1 ⟨rfl, hb⟩; have D0 := Aside0.mk hb; clear hb)
        | (go_at_call 21; (with_reducible refine (HN1 _).mono ?_); rintro e w' ⟨rfl, hw⟩; obtain rfl := hw.symm)
        | (go_at_call 22; (with_reducible refine (HN2 _).mono ?_); rintro e w' ⟨rfl, hw⟩; obtain rfl := hw.symm))
      go_ret
      exact ⟨rfl, D0.out⟩
    · have q1 : (64 < sec) = False := eq_false h64
      go_wp2_with (first
        | (go_at_call 8; (with_reducible refine (head_calls _).mono ?_); rintro e w1 ⟨rfl, hb⟩; have D0 := Aside0.mk hb; clear hb)
        | (go_at_call 21; (with_reducible refine (HN1 _).mono ?_); rintro e w' ⟨rfl, hw⟩; obtain rfl := hw.symm)
        | (go_at_call 22; (with_reducible refine (HN2 _).mono ?_); rintro e w' ⟨rfl, hw⟩; obtain rfl := hw.symm))
      go_ret
      exact ⟨rfl, D0.out⟩
end Go.Proofs.Ytebhmbdblifddaa.Dk
