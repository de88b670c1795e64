/- Chapter 6: DiskFlushed, walked. -/
import Derived.Test.YtebhmbdblifddaaDkK
namespace Go.Proofs.Ytebhmbdblifddaa.Dk
open Go.RowKit Go.Maps Go.Proofs.Ytebhmbdblifddaa.X Go.Proofs.YtebhmbdblifddaaW.PrintWords Go.Proofs.YtebhmbdblifddaaW.PrintLast Go.Proofs.YtebhmbdblifddaaW.PrintMore
set_option linter.unusedVariables false
set_option linter.unusedSimpArgs false

/-- A put: a number and a letter. -/
def kP : Kd (Int × Int) := Kd.iso (Kd.pair (Kd.int .i64) (Kd.int .u8)) (fun x : Int × Int => x)
theorem kP_open {w : World} {x : Int × Int} {cs : List Value} (h : kP.K w x cs) : cs = [.int .i64 x.1, .int .u8 x.2] := by
  obtain ⟨a, b, rfl, ha, hb⟩ := h
  have e1 : a = [.int .i64 x.1] := ha
  have e2 : b = [.int .u8 x.2] := hb
  rw [e1, e2]; rfl
theorem puts_at {W : World} {A : Option Addr} {n : Nat} {bs : List (Int × Int)} (h : Kd.C kP W A n bs) (j : Nat) (a c : Int) (hj : bs[j]? = some (a, c)) : ∃ ad : Addr, A = some ad ∧ W.cell? (ad.add (j * 2)) = some (.int .i64 a) ∧ W.cell? ⟨(ad.add (j * 2)).block, (ad.add (j * 2)).off + 1, none⟩ = some (.int .u8 c) := by
  have hjl := (List.getElem?_eq_some_iff.1 hj).1
  obtain ⟨h1, _, h3⟩ := h
  obtain ⟨ad, e, h4⟩ := h3 (by omega)
  obtain ⟨cs, hc, hk, hcell⟩ := h4 j _ hj
  have e2 := kP_open hk
  subst e2
  refine ⟨ad, e, hcell 0 _ rfl, ?_⟩
  rw [← add_field ad (j * 2) 1 (by decide)]
  exact hcell 1 _ rfl
def u8v (c : UInt8) : Value := .int .u8 c.toNat
theorem u8_of (c : Int) (h : 0 ≤ c ∧ c ≤ 255) : ∃ b : UInt8, c = b.toNat := ⟨UInt8.ofNat c.toNat, by rw [UInt8.toNat_ofNat_of_lt' (by show _ < 256; omega)]; omega⟩
set_option maxHeartbeats 8000000 in
set_option maxRecDepth 100000 in
theorem flushed_walk (A1 : Option Addr) (c1 : Nat) (bs : List (Int × Int)) (A2 : Option Addr) (c2 : Nat) (fs : List (Int × Int)) (A3 : Option Addr) (c3 : Nat) (ks : List Int) (f : Int) (w : World)
    (h1 : Kd.C kP w A1 bs.length bs) (h2 : Kd.C kP w A2 fs.length fs) (h3 : Kd.C (Kd.int .i64) w A3 ks.length ks) (hb1 : bs.length ≤ 1048576) (hb2 : fs.length ≤ 1048576) (hb3 : ks.length ≤ 1048576)
    (hx1 : ∀ p ∈ bs, 0 ≤ p.2 ∧ p.2 ≤ 255) (hx2 : ∀ p ∈ fs, 0 ≤ p.2 ∧ p.2 ≤ 255) (hx3 : ∀ a ∈ ks, (Lit.int .i64 a).wf = true) (hf : f ≤ 9223372036854775807) :
    Calls Try.prog 3 #[.slice A1 bs.length c1, .slice A2 fs.length c2, .slice A3 ks.length c3, .int .i64 f] w fun e w' => e = .returned (.bool true) ∧ Below w.heap.size w w' := by
  have HP1 := Aside0.mk h1
  have HP2 := Aside0.mk h2
  have HP3 := Aside0.mk h3
  have HX1 := Aside0.mk hx1
  have HX2 := Aside0.mk hx2
  have HX3 := Aside0.mk hx3
  clear h1 h2 h3 hx1 hx2 hx3
  go_enter Try.func3, Try.ntmps3
  have HMD : ∀ W : World, Calls Try.prog 9 #[.int .i64 16] W fun e w' => ∃ g L', e = .returned (.pointer (some ⟨g, 0, none⟩)) ∧ At W.heap.size L' 4 0 g (freshS 16) 16 0 W w' := fun W => made_calls (n := 16) W (by decide) (by decide)
  go_upto_region 7 with (first
    | (go_at_call 8; (with_reducible refine (head_calls _).mono ?_); rintro e w1 ⟨rfl, hb⟩; have n1 := Aside0.mk (Kd.C_below HP1.out hb); have n2 := Aside0.mk (Kd.C_below HP2.out hb); have n3 := Aside0.mk (Kd.C_below HP3.out hb); have D0 := Aside0.mk hb; clear HP1 HP2 HP3 hb; have HP1 := n1; have HP2 := n2; have HP3 := n3; clear n1 n2 n3)
    | (go_at_call 9; (with_reducible refine (HMD _).mono ?_); rintro e w2 ⟨g, L2, rfl, h'⟩; have H := Aside0.mk h'; clear h'))
  clear HMD
  change Code.wp _ _ _ _ (w2.alloc (.cells ((List.replicate 16 (0 : UInt8)).map u8v).toArray 27))
  have H5 := Aside0.mk (at_array H.out 27 ((List.replicate 16 (0 : UInt8)).map u8v) (by decide))
  obtain ⟨gW, hgW⟩ : ∃ gW, gW = w2.heap.size := ⟨_, rfl⟩
  have PW : (Value.pointer (some ⟨w2.heap.size, 0, none⟩)) = .pointer (some ⟨gW, 0, none⟩) := by rw [hgW]
  rw [PW]
  rw [← hgW] at H5
  generalize w2.alloc (.cells ((List.replicate 16 (0 : UInt8)).map u8v).toArray 27) = w5 at H5 ⊢
  clear H PW hgW
  have G0 : Aside0 (Good1 (freshS 16) (List.replicate 16 (0 : UInt8))) := ⟨⟨rfl, rfl, rfl, by unfold freshS; rw [List.map_replicate, Z_F], rfl⟩⟩
  go_wp2
  go_loopw [11] (fun v11 W => ∃ (k : Nat) (L : Nat → Sl) (s : DS) (Wl : List UInt8), k ≤ bs.length ∧ v11 = .int .i64 k ∧ Aside0 (At w1.heap.size L 5 0 g s 16 k w1 W) ∧ Aside0 (L 4 = osl gW 27 (Wl.map u8v)) ∧ Aside0 (Wl.length = 16) ∧ Aside0 (Good1 s Wl)) (fun v11 _ => bs.length - (intOf v11).toNat)
  case atStart => exact ⟨0, _, _, _, Nat.zero_le _, rfl, H5, ⟨upd_at _ _ _⟩, ⟨List.length_replicate⟩, G0⟩
  case round =>
    clear H5 G0
    obtain ⟨k, L, s, Wl, hk, rfl, H, HW, HWL, HG⟩ := hrel
    by_cases hlt : k < bs.length
    · have q1 : ((k : Int) < (bs.length : Int)) = True := eq_true (by omega)
      have q2 : (k < bs.length) = True := eq_true hlt
      have q3 : (bs.length ≤ k) = False := eq_false (by omega)
      obtain ⟨⟨a, c⟩, hpk⟩ : ∃ p, bs[k]? = some p := ⟨_, List.getElem?_eq_getElem hlt⟩
      obtain ⟨cb, rfl⟩ := u8_of c (HX1.out _ (List.mem_of_getElem? hpk))
      obtain ⟨ad, rfl, ha, hc⟩ := puts_at (Kd.C_below HP1.out H.out.bel) k a _ hpk
      obtain ⟨hl0, hl1⟩ := least_in a 16 (by decide)
      have HLS := fun W => least_calls a 16 (by decide) (by decide) W
      obtain ⟨x, hx⟩ : ∃ x : Nat, leastF a 16 = x := ⟨(leastF a 16).toNat, by omega⟩
      rw [hx] at HLS
      have hx16 : x < 16 := by omega
      clear hl0 hl1 hx
      go_upto_region 11 with (go_at_call 10; (with_reducible refine (HLS _).mono ?_); rintro e w6 ⟨rfl, hb⟩; have h' := H.out.below hb; have ha' := below_cell' hb ha; have hc' := below_cell' hb hc; clear ha hc hb; have n_H := Aside0.mk h'; clear H h'; have H := n_H; clear n_H)
      clear ha' hc' HLS
      have hlx : x < (Wl.map u8v).length := by rw [List.length_map, HWL.out]; exact hx16
      obtain ⟨hcw, hzw, _⟩ := obj_cell H.out.many 4 (by omega) gW 27 _ HW.out x hlx
      rw [List.getElem?_eq_getElem hlx] at hcw
      obtain ⟨_, e0, _, hc⟩ := puts_at (Kd.C_below HP1.out H.out.bel) k a _ hpk
      injection e0 with e0
      subst e0
      have r1 : (x < 16) = True := eq_true hx16
      have r2 : (16 ≤ x) = False := eq_false (by omega)
      have H7 := Aside0.mk (at_set H.out 4 (by omega) (.inr (by omega)) gW 27 _ HW.out x hlx (.int .u8 cb.toNat))
      go_upto_region 12 with (fail)
      clear hcw hzw hc
      generalize w6.setCell ⟨gW, x, none⟩ (.int .u8 cb.toNat) = w7 at H7 ⊢
      clear H
      obtain ⟨_, e0, _, hc⟩ := puts_at (Kd.C_below HP1.out H7.out.bel) k a _ hpk
      injection e0 with e0
      subst e0
      obtain ⟨gw, gG⟩ := good_write HG.out x (by rw [HWL.out]; exact hx16) cb
      have HG2 := Aside0.mk gG
      have HL7 : Aside0 (upd L 4 (osl gW 27 ((Wl.map u8v).set x (.int .u8 cb.toNat))) 4 = osl gW 27 ((Wl.set x cb).map u8v)) := ⟨by rw [upd_at, List.map_set]; rfl⟩
      generalize upd L 4 (osl gW 27 ((Wl.map u8v).set x (.int .u8 cb.toNat))) = L7 at H7 HL7
      have H := H7
      clear H7 gG
      have FU := fun W => full_calls cb W
      go_wp2_with (first
        | (go_at_call 12; (with_reducible refine (FU _).mono ?_); rintro e w8 ⟨rfl, hb⟩; have h' := H.out.below hb; clear hb; have n_H := Aside0.mk h'; clear H h'; have H := n_H; clear n_H)
        | (go_at_call 11; (with_reducible refine (at_write H.out (x : Int) (F cb) (by omega)).mono ?_); rintro e w9 ⟨rfl, L9, h', e9⟩; have E9 := Aside0.mk (e9 4 (by omega)); clear e9; have n_H := Aside0.mk h'; clear H h'; have H := n_H; clear n_H))
      go_roundw
      case rel => exact ⟨k + 1, L9, _, _, by omega, by go_num, H, ⟨by rw [E9.out]; exact HL7.out⟩, ⟨by rw [List.length_set]; exact HWL.out⟩, HG2⟩
      case measure => simp [intOf]; omega
    · have q1 : ((k : Int) < (bs.length : Int)) = False := eq_false (by omega)
      obtain ⟨gf0, gf1⟩ := good_flush HG.out
      have E2 := Aside0.mk gf1
      clear gf1
      go_upto_region 18 with (first
        | (go_at_call 13; (with_reducible refine (at_flush H.out).mono ?_); rintro e w4 ⟨rfl, L4, h', e4⟩; have n_HW := Aside0.mk ((e4 4 (by omega)).trans HW.out); clear e4 HW; have HW := n_HW; clear n_HW; rw [E2.out] at h'; have n_H := Aside0.mk h'; clear H h'; have H := n_H; clear n_H)
        | (go_at_call 14; (with_reducible refine (at_fall H.out f hf).mono ?_); rintro e w6 ⟨rfl, L6, h', e4⟩; have n_HW := Aside0.mk ((e4 4 (by omega)).trans HW.out); clear e4 HW; have HW := n_HW; clear n_HW; have n_H := Aside0.mk h'; clear H h'; have H := n_H; clear n_H))
      clear gf0 q1
      change Code.wp _ _ _ _ (w6.alloc (.cells ((List.replicate 16 false).map Value.bool).toArray 36))
      have H7 := Aside0.mk (at_array H.out 36 ((List.replicate 16 false).map Value.bool) (by decide))
      obtain ⟨gT, hgT⟩ : ∃ gT, gT = w6.heap.size := ⟨_, rfl⟩
      have PT : (Value.pointer (some ⟨w6.heap.size, 0, none⟩)) = .pointer (some ⟨gT, 0, none⟩) := by rw [hgT]
      rw [PT]
      rw [← hgT] at H7
      have HT : Aside0 (upd L6 5 (osl gT 36 ((List.replicate 16 false).map Value.bool)) 5 = osl gT 36 ((List.replicate 16 false).map Value.bool)) := ⟨upd_at _ _ _⟩
      have HW2 : Aside0 (upd L6 5 (osl gT 36 ((List.replicate 16 false).map Value.bool)) 4 = osl gW 27 (Wl.map u8v)) := ⟨by rw [upd_ne (by omega)]; exact HW.out⟩
      have G2 := Aside0.mk (good2_of HG.out f (List.replicate 16 false))
      generalize upd L6 5 (osl gT 36 ((List.replicate 16 false).map Value.bool)) = L7 at H7 HT HW2
      generalize w6.alloc (.cells ((List.replicate 16 false).map Value.bool).toArray 36) = w7 at H7 ⊢
      obtain ⟨s2, hs2⟩ : ∃ s2 : DS, s2 = { s with safe := Wl.map F, pend := [], fall := max 0 f } := ⟨_, rfl⟩
      have H8 : Aside0 (At w1.heap.size L7 6 0 g s2 16 k w1 w7) := ⟨by rw [hs2]; exact H7.out⟩
      rw [← hs2] at G2
      clear H H7 HW HG E2 PT hgT hs2
      have hkb : k ≤ 1048576 := by omega
      obtain ⟨k1, hk1⟩ : ∃ k1, k1 = k := ⟨_, rfl⟩
      rw [← hk1] at H8 hkb
      clear hk1 hk
      go_wp2
      go_loopw [14] (fun v14 W => ∃ (k : Nat) (L : Nat → Sl) (s : DS) (Tl : List Bool), k ≤ fs.length ∧ v14 = .int .i64 k ∧ Aside0 (At w1.heap.size L 6 0 g s 16 (k1 + k) w1 W) ∧ Aside0 (L 4 = osl gW 27 (Wl.map u8v)) ∧ Aside0 (L 5 = osl gT 36 (Tl.map Value.bool)) ∧ Aside0 (Tl.length = 16) ∧ Aside0 (Good2 s Wl Tl)) (fun v14 _ => fs.length - (intOf v14).toNat)
      case atStart => exact ⟨0, _, _, _, Nat.zero_le _, rfl, H8, HW2, HT, ⟨List.length_replicate⟩, G2⟩
      case round =>
        clear H8 HW2 HT G2
        obtain ⟨k, L, s, Tl, hk, rfl, H, HW, HT, HTL, HG⟩ := hrel
        by_cases hlt : k < fs.length
        · have q1 : ((k : Int) < (fs.length : Int)) = True := eq_true (by omega)
          have q2 : (k < fs.length) = True := eq_true hlt
          have q3 : (fs.length ≤ k) = False := eq_false (by omega)
          obtain ⟨⟨a, c⟩, hpk⟩ : ∃ p, fs[k]? = some p := ⟨_, List.getElem?_eq_getElem hlt⟩
          obtain ⟨cb, rfl⟩ := u8_of c (HX2.out _ (List.mem_of_getElem? hpk))
          obtain ⟨ad, rfl, ha, hc⟩ := puts_at (Kd.C_below HP2.out H.out.bel) k a _ hpk
          obtain ⟨hl0, hl1⟩ := least_in a 16 (by decide)
          have HLS := fun W => least_calls a 16 (by decide) (by decide) W
          obtain ⟨x, hx⟩ : ∃ x : Nat, leastF a 16 = x := ⟨(leastF a 16).toNat, by omega⟩
          rw [hx] at HLS
          have hx16 : x < 16 := by omega
          clear hl0 hl1 hx hc
          go_upto_region 22 with (go_at_call 10; (with_reducible refine (HLS _).mono ?_); rintro e w10 ⟨rfl, hb⟩; have h' := H.out.below hb; clear ha hb; have n_H := Aside0.mk h'; clear H h'; have H := n_H; clear n_H)
          clear HLS
          have hlx : x < (Tl.map Value.bool).length := by rw [List.length_map, HTL.out]; exact hx16
          obtain ⟨hcw, hzw, _⟩ := obj_cell H.out.many 5 (by omega) gT 36 _ HT.out x hlx
          rw [List.getElem?_eq_getElem hlx] at hcw
          have r1 : (x < 16) = True := eq_true hx16
          have r2 : (16 ≤ x) = False := eq_false (by omega)
          have H7 := Aside0.mk (at_set H.out 5 (by omega) (.inr (by omega)) gT 36 _ HT.out x hlx (.bool true))
          go_upto_region 23 with (fail)
          clear hcw hzw
          generalize w10.setCell ⟨gT, x, none⟩ (.bool true) = w11 at H7 ⊢
          clear H
          obtain ⟨_, e0, _, hc⟩ := puts_at (Kd.C_below HP2.out H7.out.bel) k a _ hpk
          injection e0 with e0
          subst e0
          have HG2 := Aside0.mk (good2_write HG.out x (F cb) (by rw [HTL.out]; exact hx16))
          have HT7 : Aside0 (upd L 5 (osl gT 36 ((Tl.map Value.bool).set x (.bool true))) 5 = osl gT 36 ((Tl.set x true).map Value.bool)) := ⟨by rw [upd_at, List.map_set]⟩
          have HW7 : Aside0 (upd L 5 (osl gT 36 ((Tl.map Value.bool).set x (.bool true))) 4 = osl gW 27 (Wl.map u8v)) := ⟨by rw [upd_ne (by omega)]; exact HW.out⟩
          generalize upd L 5 (osl gT 36 ((Tl.map Value.bool).set x (.bool true))) = L7 at H7 HT7 HW7
          have H := H7
          clear H7
          have FU := fun W => full_calls cb W
          go_wp2_with (first
            | (go_at_call 12; (with_reducible refine (FU _).mono ?_); rintro e w8 ⟨rfl, hb⟩; have h' := H.out.below hb; clear hb; have n_H := Aside0.mk h'; clear H h'; have H := n_H; clear n_H)
            | (go_at_call 11; (with_reducible refine (at_write H.out (x : Int) (F cb) (by omega)).mono ?_); rintro e w9 ⟨rfl, L9, h', e9⟩; have E9 := Aside0.mk e9; clear e9; have n_H := Aside0.mk h'; clear H h'; have H := n_H; clear n_H))
          go_roundw
          case rel => exact ⟨k + 1, L9, _, _, by omega, by go_num, H, ⟨(E9.out 4 (by omega)).trans HW7.out⟩, ⟨(E9.out 5 (by omega)).trans HT7.out⟩, ⟨by rw [List.length_set]; exact HTL.out⟩, HG2⟩
          case measure => simp [intOf]; omega
        · have q1 : ((k : Int) < (fs.length : Int)) = False := eq_false (by omega)
          have hsl := H.out.ok.safe
          have HRD := fun (i : Nat) (hi : i < 16) => good2_crash HG.out ks 16 hsl i hi (by rw [HWL.out]; exact hi)
          go_wp2_with (first
            | (go_at_call 15; (with_reducible refine (at_crash H.out A3 c3 ks (Kd.C_below HP3.out H.out.bel) (by omega) HX3.out).mono ?_); rintro e w12 ⟨rfl, L8, h', e8⟩; have n_HW := Aside0.mk ((e8 4 (by omega)).trans HW.out); have n_HT := Aside0.mk ((e8 5 (by omega)).trans HT.out); clear e8 HW HT; have HW := n_HW; have HT := n_HT; clear n_HW n_HT; have n_H := Aside0.mk h'; clear H h'; have H := n_H; clear n_H)
            | (go_at_call 16; (with_reducible refine (at_on H.out).mono ?_); rintro e w13 ⟨rfl, L9, h', e8⟩; have n_HW := Aside0.mk ((e8 4 (by omega)).trans HW.out); have n_HT := Aside0.mk ((e8 5 (by omega)).trans HT.out); clear e8 HW HT; have HW := n_HW; have HT := n_HT; clear n_HW n_HT; have n_H := Aside0.mk h'; clear H h'; have H := n_H; clear n_H))
          obtain ⟨s3, hs3⟩ : ∃ s3, s3 = onS (crashS s ks) := ⟨_, rfl⟩
          rw [← hs3] at H HRD
          clear hs3 hsl HG q1 hlt
          go_loopw [16] (fun v16 W => ∃ i : Nat, i ≤ 16 ∧ v16 = .int .i64 i ∧ Aside0 (At w1.heap.size L9 6 0 g s3 16 (k1 + k) w1 W)) (fun v16 _ => 16 - (intOf v16).toNat)
          case atStart => exact ⟨0, Nat.zero_le _, rfl, H⟩
          case round =>
            clear H
            obtain ⟨i, hi, rfl, H⟩ := hrel
            by_cases hlt : i < 16
            · have q1 : ((i : Int) < 16) = True := eq_true (by omega)
              have r1 : (i < 16) = True := eq_true hlt
              have r2 : (16 ≤ i) = False := eq_false (by omega)
              obtain ⟨g0, gv⟩ := HRD i hlt
              have hlT : i < (Tl.map Value.bool).length := by rw [List.length_map, HTL.out]; exact hlt
              have hlW : i < (Wl.map u8v).length := by rw [List.length_map, HWL.out]; exact hlt
              have hcT : wr.cell? ⟨gT, i, none⟩ = some (.bool (Tl.getD i false)) := by
                rw [(obj_cell H.out.many 5 (by omega) gT 36 _ HT.out i hlT).1, List.getElem?_map, List.getElem?_eq_getElem (by rw [HTL.out]; exact hlt), List.getD_eq_getElem?_getD, List.getElem?_eq_getElem (by rw [HTL.out]; exact hlt)]; rfl
              have hcW : wr.cell? ⟨gW, i, none⟩ = some (.int .u8 ((Wl.getD i 0).toNat : Int)) := by
                rw [(obj_cell H.out.many 4 (by omega) gW 27 _ HW.out i hlW).1, List.getElem?_map, List.getElem?_eq_getElem (by rw [HWL.out]; exact hlt), List.getD_eq_getElem?_getD, List.getElem?_eq_getElem (by rw [HWL.out]; exact hlt)]; rfl
              generalize Wl.getD i 0 = cb at gv hcW
              have FU := fun W => full_calls cb W
              have HRE := fun (W : World) (hW : W = wr) => read_off (w := W) (hW ▸ H.out) (i : Int)
              generalize (readS s3 (i : Int)).1 = rd at gv HRE
              rw [g0] at HRE
              clear g0 HRD
              cases ht : Tl.getD i false with
              | true =>
                rw [ht] at hcT
                go_wp2_with (go_at_call 17; (with_reducible refine (HRE _ rfl).mono ?_); rintro e w' ⟨rfl, rfl⟩)
                go_roundw
                case rel => exact ⟨i + 1, by omega, by go_num, H⟩
                case measure => simp [intOf]; omega
              | false =>
                rw [ht] at hcT
                have gv2 := gv ht
                subst gv2
                go_wp2_with (first
                  | (go_at_call 17; (with_reducible refine (HRE _ rfl).mono ?_); rintro e w' ⟨rfl, rfl⟩)
                  | (go_at_call 12; (with_reducible refine (FU _).mono ?_); rintro e w8 ⟨rfl, hb⟩; have h' := H.out.below hb; clear hb; have n_H := Aside0.mk h'; clear H h'; have H := n_H; clear n_H))
                go_roundw
                case rel => exact ⟨i + 1, by omega, by go_num, H⟩
                case measure => simp [intOf]; omega
            · have q1 : ((i : Int) < 16) = False := eq_false (by omega)
              go_wp2
              go_ret
              exact ⟨rfl, below_then D0.out D0.out.size H.out.bel⟩
end Go.Proofs.Ytebhmbdblifddaa.Dk
