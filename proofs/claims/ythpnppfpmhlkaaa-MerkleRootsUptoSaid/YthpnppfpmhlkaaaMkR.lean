/- Chapter 3: arguments of 32 bytes, and rows of them. -/
import Derived.Test.YthpnppfpmhlkaaaMkP
import Derived.Test.YthpnppfpmhlkaaaMkJ
import Derived.Test.YthpnppfpmhlkaaaOpens
import Derived.Test.YthpnppfpmhlkaaaOpensU
import Derived.OpenShut
namespace Go.Proofs.Ythpnppfpmhlkaaa.Sha
open Go.ChangeShapes Go.WideShapes Go.ChangeAt Go.RowKit Go.Proofs.Ythpnppfpmhlkaaa.X Go.Proofs.YthpnppfpmhlkaaaW.PrintWords Go.Proofs.Ythpnppfpmhlkaaa.OpensU
set_option linter.unusedVariables false
set_option linter.unusedSimpArgs false

theorem cells_b32 {H : Type} {enc : TypeId × Value → H} {w : World} {fuel : Nat} {cs : List Value} {y : DataW H × List MemPlace} (h : DataW.trod enc Try.prog w 0 (fun _ => true) true fuel 23 cs = some y) :
    ∃ l : List UInt8, l.length = 32 ∧ cs = bc l := by
  have hc23 : Try.prog.cellsOf 23 = 32 := by kernel_rfl
  have hc5 : Try.prog.cellsOf 5 = 1 := by kernel_rfl
  obtain ⟨xs, m, rfl, hx, hl, hxl, hat⟩ := DataW.trod_array Try.underlying23 h
  rw [hc23] at hl
  have hone : ∀ j, j < 32 → ∃ c : UInt8, cs[j]? = some (.int .u8 c.toNat) := by
    intro j hj
    have h1 := hat j hj
    rw [hc5, Nat.mul_one, List.getElem?_eq_getElem (by omega)] at h1
    obtain ⟨n, h2, _, h3⟩ := DataW.trod_int Try.underlying5 h1
    have hb := bounds_u8 h3
    refine ⟨UInt8.ofNat n.toNat, ?_⟩
    have h4 : (cs.drop j)[0]? = some (.int .u8 n) := by
      have := congrArg (fun l => l[0]?) h2
      simpa [List.getElem?_take] using this
    rw [List.getElem?_drop, Nat.add_zero] at h4
    rw [h4]
    congr 2
    rw [UInt8.toNat_ofNat_of_lt' (by show _ < 256; omega)]
    omega
  obtain ⟨l, hll, hlc⟩ := Opens.choose_list (fun j (c : UInt8) => cs[j]? = some (.int .u8 c.toNat)) 32 hone
  refine ⟨l, hll, List.ext_getElem? fun j => ?_⟩
  by_cases hj : j < 32
  · have hc := List.getElem?_eq_getElem (show j < l.length by omega)
    rw [hlc j _ hc]
    unfold bc
    rw [List.getElem?_map, hc]; rfl
  · rw [List.getElem?_eq_none (by omega), List.getElem?_eq_none (by rw [bc_len]; omega)]
/-- Hashes as cells. -/
def kH : Kd (List UInt8) where
  sz := 32
  E := []
  K := fun _ x cs => x.length = 32 ∧ cs = bc x
  M := fun _ _ _ x cs => x.length = 32 ∧ cs = bc x
  K_len := fun ⟨h, e⟩ => by rw [e, bc_len, h]
  K_one := fun ⟨h, e⟩ => by rw [e]; exact bc_one _
  K_below := fun _ h => h
  K_of_M := fun h => h
  M_mono := fun _ h => h
  M_bound := fun h => h
  M_move := fun _ h => h
  M_lower := fun _ h => h
theorem opu_b32 : OpU Try.prog 23 kH (fun x => x.length = 32) := by
  intro H enc w fuel cs y h _
  obtain ⟨l, hl, rfl⟩ := cells_b32 h
  exact ⟨l, ⟨hl, rfl⟩, hl⟩
theorem hread_of {W : World} {A : Option Addr} {xs : List (List UInt8)} (h : Kd.C kH W A xs.length xs) (h32 : ∀ x ∈ xs, x.length = 32) : HRead A xs W := by
  refine ⟨h32, fun h0 => ?_⟩
  obtain ⟨_, _, h1⟩ := h
  obtain ⟨ad, rfl, h2⟩ := h1 h0
  refine ⟨ad, rfl, fun j i hj hi => ?_⟩
  obtain ⟨c, hc, ⟨_, rfl⟩, h3⟩ := h2 j (xs.getD j []) (by rw [List.getD_eq_getElem?_getD, List.getElem?_eq_getElem hj]; rfl)
  have hxl : (xs.getD j []).length = 32 := by
    rw [List.getD_eq_getElem?_getD, List.getElem?_eq_getElem hj]; exact h32 _ (List.getElem_mem _)
  refine h3 i _ ?_
  generalize xs.getD j [] = y at hxl ⊢
  unfold bc
  rw [List.getElem?_map, List.getElem?_eq_getElem (by omega), List.getD_eq_getElem?_getD, List.getElem?_eq_getElem (by omega)]; rfl
/-- An argument of 32 bytes. -/
theorem arg_b32 {H : Type} {enc : TypeId × Value → H} {w : World} {base : Nat} {v : Value} {d : DataW H} {p : List MemPlace} (hv : Value.okWide Try.prog w .any base 23 v) (h : DataW.Trod enc Try.prog w 0 (fun _ => true) true 23 v d p) :
    ∃ l : List UInt8, l.length = 32 ∧ v = .agg (brw 32 l) := by
  unfold Value.okWide at hv
  rw [Try.underlying23] at hv
  obtain ⟨cs, rfl, hsz, _⟩ := hv
  obtain ⟨fuel, hf⟩ := h
  obtain ⟨l, hl, e⟩ := cells_b32 hf
  refine ⟨l, hl, ?_⟩
  have e2 : cs.toList = bc l := e
  rw [← Array.toArray_toList (xs := cs), e2, brw_full 32 l hl]; rfl
end Go.Proofs.Ythpnppfpmhlkaaa.Sha
