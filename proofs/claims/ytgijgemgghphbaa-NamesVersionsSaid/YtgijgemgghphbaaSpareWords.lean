/- A row with one thing more behind it, in the spare room: that it stays, and how it is read. -/
import Derived.Test.YtgijgemgghphbaaX0
namespace Go.Proofs.Ytgijgemgghphbaa.X
open Go.RowKit Go.Proofs.YtgijgemgghphbaaW.PrintWords Go.Proofs.YtgijgemgghphbaaW.PrintLast Go.Proofs.YtgijgemgghphbaaW.PrintMore
/-- The row l with m behind it, in the room that the slice has still. -/
def Spare {α : Type} (d : Kd α) (e : TypeId) (W : World) (base : Nat) (v : Value) (l : List α) (m : α) : Prop := ∃ A c, v = .slice A l.length c ∧ Kd.R d e W base (fun _ => True) (.slice A (l ++ [m]).length c) (l ++ [m])
theorem Spare.below {α : Type} {d : Kd α} {e : TypeId} {W W1 : World} {base : Nat} {v : Value} {l : List α} {m : α} (h : Spare d e W base v l m) (hb : Below W.heap.size W W1) : Spare d e W1 base v l m := by
  obtain ⟨A, c, rfl, hr⟩ := h
  exact ⟨A, c, rfl, Kd.R_below hr hb⟩
theorem Spare.alloc {α : Type} {d : Kd α} {e : TypeId} {W : World} {base : Nat} {v : Value} {l : List α} {m : α} (h : Spare d e W base v l m) (o : Obj) : Spare d e (W.alloc o) base v l m := h.below ((Below.refl _ _).alloc (Nat.le_refl _) _)
theorem Spare.drewN {α : Type} {d : Kd α} {e : TypeId} {W : World} {base : Nat} {v : Value} {l : List α} {m : α} (h : Spare d e W base v l m) (n : Nat) : Spare d e (W.drewN n) base v l m := by
  obtain ⟨A, c, rfl, hr⟩ := h
  exact ⟨A, c, rfl, Kd.R_drewN hr n⟩
theorem Spare.drew {α : Type} {d : Kd α} {e : TypeId} {W : World} {base : Nat} {v : Value} {l : List α} {m : α} (h : Spare d e W base v l m) : Spare d e W.drew base v l m := by
  obtain ⟨A, c, rfl, hr⟩ := h
  exact ⟨A, c, rfl, Kd.R_drew hr⟩
theorem Spare.reads {α : Type} {d : Kd α} {e : TypeId} {W : World} {base : Nat} {A : Option Addr} {n c : Nat} {l : List α} {m : α} (h : Spare d e W base (.slice A n c) l m) : l.length + 1 ≤ c ∧ d.C W A (l.length + 1) (l ++ [m]) := by
  obtain ⟨A', c', he, hr⟩ := h
  injection he with h1 h2 h3
  subst h1; subst h2; subst h3
  obtain ⟨h1, h2, h3⟩ := Kd.R_reads' hr
  simp only [List.length_append, List.length_cons, List.length_nil] at h2 h3
  exact ⟨h2, h3⟩
/-- A cut up to any number that the room bears. -/
theorem cut_wide {P : Program} (t e : TypeId) (kh : IntKind) {i : TypeInfo} (ht : P.underlying t = some (.slice e)) (hi : P.info? e = some i) (A : Option Addr) (n c : Nat) (j : Int) (h0 : 0 ≤ j) (hm : j ≤ c) :
    ∀ W : World, (Instr.slice t (.slice A n c) none (some (.int kh j)) none).run P W = .ok (.slice A j.toNat c) W := by
  intro W
  have hel : P.elem t = e := by simp [Program.elem, ht]
  have hu : P.underlying t = some (.slice (P.elem t)) := by rw [hel]; exact ht
  have ha : (A.map fun x => x.add 0) = A := by cases A <;> simp [Addr.add]
  rw [run_slice_h W t A n c hu kh j h0 (by omega), hel]
  simp [sizeOf, typeInfo, hi, sliced, Result.andThen, ha]
def MARK : S31 := ⟨(⟨#[109, 97, 114, 107]⟩ : ByteArray), (⟨#[]⟩ : ByteArray)⟩
end Go.Proofs.Ytgijgemgghphbaa.X
