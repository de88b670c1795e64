/- Chapter 14's spare room: kinds that read a version's pairs beyond the slice's length. -/
import Derived.Test.YtmgiolijjheodaaX0
import Derived.Test.YtmgiolijjheodaaZMoreV
import Derived.Test.YtmgiolijjheodaaX21
namespace Go.Proofs.YtmgiolijjheodaaW.PrintWords
open Go.RowKit
namespace Kd
/-- A row whose elements share, seen by another kind. -/
theorem N_map {α β : Type} {d : Kd α} {d' : Kd β} {e base : Nat} {w : World} {ok : Nat → Prop} {v : Value} {xs : List α} (g : α → β) (hsz : d.sz = d'.sz) (hK : ∀ w x c, d.K w x c → d'.K w (g x) c) (h : N d e w base ok v xs) : N d' e w base ok v (xs.map g) := by
  obtain ⟨h0, rows, hl, hR, hf⟩ := h
  refine ⟨h0, rows, by rw [hl, List.length_map], hsz ▸ hR, fun j x c hx hc => ?_⟩
  rw [List.getElem?_map] at hx
  obtain ⟨y, hy, rfl⟩ := Option.map_eq_some_iff.1 hx
  exact fun W' hW => hK W' y c (hf j y c hy hc W' hW)
end Kd
end Go.Proofs.YtmgiolijjheodaaW.PrintWords
namespace Go.Proofs.Ytmgiolijjheodaa.X
open Go.RowKit Go.Proofs.YtmgiolijjheodaaW.PrintWords Go.Proofs.YtmgiolijjheodaaW.PrintLast
/-- A version whose pairs are more than its slice says. -/
def kx : Kd S25 where
  sz := 5
  E := []
  K := fun w x cs => ∃ A c n, cs = [.string x.f0, .int .i64 x.f1, .bool x.f2, .string x.f3, .slice A n c] ∧ x.f4.length ≤ c ∧ k49.C w A x.f4.length x.f4
  M := fun _ _ _ _ _ => False
  K_len := by rintro w x cs ⟨A, c, n, rfl, _⟩; rfl
  K_one := by
    rintro w x cs ⟨A, c, n, rfl, _⟩ u hu
    simp only [List.mem_cons, List.not_mem_nil, or_false] at hu
    rcases hu with rfl | rfl | rfl | rfl | rfl <;> rfl
  K_below := by
    rintro w w1 x cs hb ⟨A, c, n, rfl, hl, hr⟩
    exact ⟨A, c, n, rfl, hl, Kd.C_below hr hb⟩
  K_of_M := fun h => h.elim
  M_mono := fun _ h => h
  M_bound := fun h => h
  M_move := fun _ h => h
  M_lower := fun _ h => h
/-- Both at once. -/
def kP : Kd (S25 × S25) where
  sz := 5
  E := []
  K := fun w p cs => k25.K w p.1 cs ∧ kx.K w p.2 cs
  M := fun _ _ _ _ _ => False
  K_len := fun h => kx.K_len h.2
  K_one := fun h => kx.K_one h.2
  K_below := fun hb h => ⟨k25.K_below hb h.1, kx.K_below hb h.2⟩
  K_of_M := fun h => h.elim
  M_mono := fun _ h => h
  M_bound := fun h => h
  M_move := fun _ h => h
  M_lower := fun _ h => h
theorem at_X {w : World} {A : Option Addr} {n : Nat} {xs : List S25} (h : Kd.C kx w A n xs) (i : Int) (h0 : 0 ≤ i) (h1 : i < n) : ∃ ad A4 c4 n4, A = some ad ∧ w.cell? (ad.add (i.toNat * 5)) = some (.string (rd_T25 xs i).f0) ∧ w.cell? ⟨(ad.add (i.toNat * 5)).block, (ad.add (i.toNat * 5)).off + 1, none⟩ = some (.int .i64 (rd_T25 xs i).f1) ∧ w.cell? ⟨(ad.add (i.toNat * 5)).block, (ad.add (i.toNat * 5)).off + 2, none⟩ = some (.bool (rd_T25 xs i).f2) ∧ w.cell? ⟨(ad.add (i.toNat * 5)).block, (ad.add (i.toNat * 5)).off + 3, none⟩ = some (.string (rd_T25 xs i).f3) ∧ w.cell? ⟨(ad.add (i.toNat * 5)).block, (ad.add (i.toNat * 5)).off + 4, none⟩ = some (.slice A4 n4 c4) ∧ (rd_T25 xs i).f4.length ≤ c4 ∧ k49.C w A4 (rd_T25 xs i).f4.length (rd_T25 xs i).f4 := by
  obtain ⟨ad, c, e, _, hK, hc0⟩ := Kd.C_get h z25 i h0 h1
  have hc : ∀ j u, c[j]? = some u → w.cell? (ad.add (i.toNat * 5 + j)) = some u := hc0
  obtain ⟨A4, c4, n4, rfl, l4, g4⟩ := hK
  exact ⟨ad, A4, c4, n4, e, hc 0 _ rfl, by rw [← add_field _ _ 1 (by omega)]; exact hc 1 _ rfl, by rw [← add_field _ _ 2 (by omega)]; exact hc 2 _ rfl, by rw [← add_field _ _ 3 (by omega)]; exact hc 3 _ rfl, by rw [← add_field _ _ 4 (by omega)]; exact hc 4 _ rfl, l4, g4⟩
/-- The mark behind the pairs. -/
def MARKP : S49 := ⟨(⟨#[109, 97, 114, 107]⟩ : ByteArray), (⟨#[]⟩ : ByteArray)⟩
def ext (x : S25) : S25 := ⟨x.f0, x.f1, x.f2, x.f3, x.f4 ++ [MARKP]⟩
def mk1 : S25 := ⟨(⟨#[109, 97, 114, 107]⟩ : ByteArray), (-77), false, (⟨#[]⟩ : ByteArray), ([] : List (S49))⟩
def mk2 : S25 := ⟨(⟨#[]⟩ : ByteArray), 0, false, (⟨#[109, 97, 114, 107]⟩ : ByteArray), ([] : List (S49))⟩
/-- What is lent, spare room and all. -/
def lentL (l : List S25) : List S25 := l.map ext ++ [mk1, mk2]
/-- A version of one's own with a mark behind its pairs. -/
theorem kP_mk (w : World) (x : S25) {A4 : Option Addr} {c4 : Nat} (y : List S49) (hy : x.f4 = y.take x.f4.length) (hn : x.f4.length ≤ y.length) (l4 : y.length ≤ c4) (g4 : k49.C w A4 y.length y) : kP.K w (x, ⟨x.f0, x.f1, x.f2, x.f3, y⟩) [.string x.f0, .int .i64 x.f1, .bool x.f2, .string x.f3, .slice A4 x.f4.length c4] := by
  refine ⟨k25_mk w x (by omega) ?_, A4, c4, x.f4.length, rfl, l4, g4⟩
  have h := Kd.C_take (m := x.f4.length) g4 hn
  rwa [← hy] at h
theorem kP_mkF (W : World) (ok : Nat → Prop) (x : S25) {A4 : Option Addr} {c4 : Nat} (y : List S49) (hy : x.f4 = y.take x.f4.length) (hn : x.f4.length ≤ y.length) (l4 : y.length ≤ c4) (g4 : Kd.F k49 W ok A4 y.length y) : Kd.FK kP W ok (x, ⟨x.f0, x.f1, x.f2, x.f3, y⟩) [.string x.f0, .int .i64 x.f1, .bool x.f2, .string x.f3, .slice A4 x.f4.length c4] := fun W2 hW => kP_mk W2 x y hy hn l4 (g4 W2 hW)
theorem lentPairs_eq {l t : List S49} (h : cofferlaw14_lentPairs.f l = some t) : t = l ++ [MARKP] := by
  unfold cofferlaw14_lentPairs.f at h
  simp only [Option.bind_some, List.nil_append] at h
  split at h
  · split at h
    · exact (Option.some.inj h).symm
    · cases h
  · cases h
theorem lent_step {l : List S25} {P : List (S25 × S25)} {i : Int} (x : S25) {t : List S49} (hP : 0 ≤ i ∧ i ≤ l.length ∧ P.map Prod.snd = (l.take i.toNat).map ext) (hi : decide (i < (l.length : Int)) = true) (hl : l.length ≤ 9223372036854775807) (ht : cofferlaw14_lentPairs.f (rd_T25 l i).f4 = some t) :
    0 ≤ wrap64 (i + 1) ∧ wrap64 (i + 1) ≤ l.length ∧ (P ++ [(x, (⟨(rd_T25 l i).f0, (rd_T25 l i).f1, (rd_T25 l i).f2, (rd_T25 l i).f3, t⟩ : S25))]).map Prod.snd = (l.take (wrap64 (i + 1)).toNat).map ext := by
  obtain ⟨h0, h1, h2⟩ := hP
  have hi := of_decide_eq_true hi
  have hw : wrap64 (i + 1) = i + 1 := by unfold wrap64; omega
  obtain ⟨n, rfl⟩ := Int.eq_ofNat_of_zero_le h0
  have hn : n < l.length := by omega
  have e : (((n : Int)) + 1).toNat = n + 1 := by omega
  rw [hw]
  refine ⟨by omega, by omega, ?_⟩
  have hr : rd_T25 l (n : Int) = l[n] := by simp [rd_T25, hn]
  rw [e, List.map_append, h2, lentPairs_eq ht, hr, List.take_succ_eq_append_getElem hn, List.map_append]
  rfl
theorem lent_end {l : List S25} {P : List (S25 × S25)} {i : Int} (hP : 0 ≤ i ∧ i ≤ l.length ∧ P.map Prod.snd = (l.take i.toNat).map ext) (hi : decide (i < (l.length : Int)) = false) : lentL l = (P ++ [(mk1, mk1), (mk2, mk2)]).map Prod.snd := by
  obtain ⟨h0, h1, h2⟩ := hP
  have hi := of_decide_eq_false hi
  rw [List.map_append, h2, List.take_of_length_le (by omega)]
  rfl
end Go.Proofs.Ytmgiolijjheodaa.X
