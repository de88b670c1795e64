/- Chapter 7: note. -/
import Derived.Test.YtfagljigaippiaaLgQ
namespace Go.Proofs.Ytfagljigaippiaa.Dk
open Go.RowKit Go.Maps Go.Proofs.Ytfagljigaippiaa.X Go.Proofs.YtfagljigaippiaaW.PrintWords Go.Proofs.YtfagljigaippiaaW.PrintLast Go.Proofs.YtfagljigaippiaaW.PrintMore
set_option linter.unusedVariables false
set_option linter.unusedSimpArgs false

theorem number_loop (t : ByteArray) (ht : t.size ≤ 1000) : ∀ (d i : Nat) (x : Int), i + d = t.size → ∃ v, log_number.l0 (d + 1) t x (t.size : Int) (i : Int) = some v
  | 0, i, x, h => by
    unfold log_number.l0
    rw [if_neg (by omega)]
    exact ⟨_, rfl⟩
  | d + 1, i, x, h => by
    have e : wrap64 ((i : Int) + 1) = ((i + 1 : Nat) : Int) := by unfold wrap64; omega
    unfold log_number.l0
    rw [if_pos (by omega), if_pos (by omega), if_pos (by omega), e]
    exact number_loop t ht d (i + 1) _ (by omega)
theorem number_total (t : ByteArray) (h : t.size = 8) : ∃ v, log_number.f 9 t = some v := by
  unfold log_number.f
  have := number_loop t (by omega) 8 0 0 (by omega)
  exact this
theorem number_e8 : ∀ n : Fin 256, log_number.f 9 (e8 (n.val : Int)) = some (n.val : Int) := by decide +kernel
theorem bsame (a b : ByteArray) : (a.toList == b.toList) = decide (a = b) := by
  by_cases h : a = b
  · subst h; simp
  · rw [decide_eq_false h, beq_eq_false_iff_ne]
    intro e
    rw [ByteArray.toList_eq, ByteArray.toList_eq] at e
    exact h (ByteArray.ext (Array.ext' e))
theorem note_head (mk : ByteArray) (v : Int) (c : UInt8) (h : mk.data[0]? = some c) : (noteS mk v).data[0]? = some c := by
  unfold noteS pad
  have hs := (Array.getElem?_eq_some_iff.1 h).1
  rw [ByteArray.data_append, Array.getElem?_append_left (by rw [ByteArray.data_append, ByteArray.data_append, Array.size_append, Array.size_append]; omega), ByteArray.data_append, Array.getElem?_append_left (by rw [ByteArray.data_append, Array.size_append]; omega), ByteArray.data_append, Array.getElem?_append_left hs]
  exact h
/-- The two marks. -/
def sm : ByteArray := ⟨#[99, 111, 102, 102, 101, 114, 32, 108, 111, 103, 32, 115, 105, 122, 101, 32]⟩
def cm : ByteArray := ⟨#[99, 111, 102, 102, 101, 114, 32, 99, 111, 109, 109, 105, 116, 32, 32, 32]⟩
theorem note_extract (mk : ByteArray) (hmk : mk.size = 16) (v : Int) : (noteS mk v).extract 16 24 = e8 v := by
  have h8 := (e8_is v).2
  apply ByteArray.ext
  apply Array.ext'
  unfold noteS pad
  simp only [ByteArray.data_extract, ByteArray.data_append]
  have hm : mk.data.size = 16 := hmk
  have he : (e8 v).data.size = 8 := h8
  apply List.ext_getElem?
  intro q
  simp only [Array.getElem?_toList]
  rw [Array.getElem?_extract]
  by_cases hq : q < 8
  · rw [if_pos (by simp only [Array.size_append]; omega), Array.getElem?_append_left (by simp only [Array.size_append]; omega), Array.getElem?_append_left (by simp only [Array.size_append]; omega), Array.getElem?_append_right (by omega)]
    congr 1
    omega
  · rw [if_neg (by simp only [Array.size_append]; omega), Array.getElem?_eq_none (by omega)]
set_option maxHeartbeats 8000000 in
set_option maxRecDepth 100000 in
theorem note_calls (mk b : ByteArray) (hmk : mk.size = 16) (hb : b.size = 512) (v : Int) (hv : log_number.f 9 (b.extract 16 24) = some v) (w : World) :
    Calls Try.prog 37 #[.string mk, .string b] w fun e w' => e = .returned (.tuple #[.int .i64 (wrap64 v), .bool (decide (0 ≤ wrap64 v ∧ b = noteS mk (wrap64 v)))]) ∧ Below w.heap.size w w' := by
  have C1 : ∀ W, Calls Try.prog 59 #[.string (b.extract 16 24)] W fun e w' => e = .returned (.int .u64 v) ∧ Below W.heap.size W w' := fun W => (log_number.calls 9 _ _ W hv).mono (by rintro e w' ⟨rfl, hd⟩; exact ⟨rfl, hd.below⟩)
  have C2 := fun W => noted_calls mk hmk (wrap64 v) W
  generalize noteS mk (wrap64 v) = nt at C2 ⊢
  clear hv
  go_enter Try.func37, Try.ntmps37
  by_cases h0 : 0 ≤ wrap64 v
  · have H0 := Aside0.mk h0
    have q1 : (0 ≤ wrap64 v) = True := eq_true h0
    go_wp2_with (first
      | (go_at_call 59; (with_reducible refine (C1 _).mono ?_); rintro e w1 ⟨rfl, hb⟩; have HB := Aside0.mk hb; clear hb)
      | (go_at_call 36; (with_reducible refine (C2 _).mono ?_); rintro e w1 ⟨rfl, hb⟩; have n_ := Aside0.mk (below_then HB.out HB.out.size hb); clear HB hb; have HB := n_; clear n_))
    go_ret2
    exact ⟨by rw [show decide (0 ≤ wrap64 v ∧ b = nt) = (b.toList == nt.toList) by rw [bsame, decide_eq_decide]; exact ⟨fun hh => hh.2, fun hh => ⟨H0.out, hh⟩⟩]; rfl, HB.out⟩
  · have H0 := Aside0.mk h0
    have q1 : (0 ≤ wrap64 v) = False := eq_false h0
    go_wp2_with (first
      | (go_at_call 59; (with_reducible refine (C1 _).mono ?_); rintro e w1 ⟨rfl, hb⟩; have HB := Aside0.mk hb; clear hb))
    go_ret2
    exact ⟨by rw [decide_eq_false (fun hh => by have h1 := hh.1; have h2 := H0.out; omega)]; rfl, HB.out⟩
/-- A sector that begins otherwise says nothing. -/
theorem note_none (mk b : ByteArray) (hmk : mk.size = 16) (hc : mk.data[0]? = some 99) (hb : b.size = 512) (h0 : b.data[0]? ≠ some 99) : ∃ v, ∀ w, Calls Try.prog 37 #[.string mk, .string b] w fun e w' => e = .returned (.tuple #[.int .i64 v, .bool false]) ∧ Below w.heap.size w w' := by
  obtain ⟨v, hv⟩ := number_total (b.extract 16 24) (by rw [ByteArray.size_extract, hb]; rfl)
  refine ⟨wrap64 v, fun w => ?_⟩
  have := note_calls mk b hmk hb v hv w
  rw [decide_eq_false (fun hh => h0 (by rw [hh.2]; exact note_head mk _ 99 hc))] at this
  exact this
/-- What was noted is read back. -/
theorem note_hit (mk : ByteArray) (hmk : mk.size = 16) (n : Nat) (hn : n < 256) (w : World) : Calls Try.prog 37 #[.string mk, .string (noteS mk n)] w fun e w' => e = .returned (.tuple #[.int .i64 n, .bool true]) ∧ Below w.heap.size w w' := by
  have hv : log_number.f 9 ((noteS mk (n : Int)).extract 16 24) = some (n : Int) := by rw [note_extract mk hmk]; exact number_e8 ⟨n, hn⟩
  have e : wrap64 (n : Int) = n := by unfold wrap64; omega
  have := note_calls mk (noteS mk n) hmk (note_size mk hmk n) n hv w
  rw [e, decide_eq_true ⟨by omega, rfl⟩] at this
  exact this
end Go.Proofs.Ytfagljigaippiaa.Dk
