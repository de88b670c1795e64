/- Chapter 7: texts: filled, noted, note. -/
import Derived.Test.YtfagljigaippiaaDkI
import Derived.Test.YtfagljigaippiaaX14
import Derived.Test.YtfagljigaippiaaXA
import Derived.Test.YtfagljigaippiaaX31
namespace Go.Proofs.Ytfagljigaippiaa.Dk
open Go.RowKit Go.Maps Go.Proofs.Ytfagljigaippiaa.X Go.Proofs.YtfagljigaippiaaW.PrintWords Go.Proofs.YtfagljigaippiaaW.PrintLast Go.Proofs.YtfagljigaippiaaW.PrintMore
set_option linter.unusedVariables false
set_option linter.unusedSimpArgs false

/-- So many zeros. -/
def zs (k : Nat) : ByteArray := ⟨(List.replicate k 0).toArray⟩
theorem zs_size (k : Nat) : (zs k).size = k := by show (List.replicate k (0 : UInt8)).toArray.size = k; rw [List.size_toArray, List.length_replicate]
/-- A text with zeros up to a sector. -/
def pad (s : ByteArray) : ByteArray := s ++ zs (512 - s.size)
theorem pad_size (s : ByteArray) (h : s.size ≤ 512) : (pad s).size = 512 := by unfold pad; rw [ByteArray.size_append, zs_size]; omega
theorem pad_empty : pad ByteArray.empty = Z := by rw [Z_F]; rfl
set_option maxHeartbeats 8000000 in
set_option maxRecDepth 100000 in
theorem filled_calls (s : ByteArray) (hs : s.size ≤ 512) (w : World) : Calls Try.prog 34 #[.string s] w fun e w' => e = .returned (.string (pad s)) ∧ Below w.heap.size w w' := by
  have hw : wrap64 (512 - (s.size : Int)) = 512 - (s.size : Int) := by unfold wrap64; omega
  have RP : ∀ W, Calls Try.prog 30 #[.string ⟨#[0]⟩, .int .i64 (512 - (s.size : Int))] W fun e w' => e = .returned (.string (zs (512 - s.size))) ∧ Below W.heap.size W w' := fun W => by
    refine strings_Repeat.calls ⟨#[0]⟩ (512 - (s.size : Int)) (zs (512 - s.size)) W ?_
    unfold strings_Repeat.f
    have e : (512 - (s.size : Int)).toNat = 512 - s.size := by omega
    have e2 : (⟨#[0]⟩ : ByteArray).size = 1 := rfl
    rw [e, e2, if_pos ⟨by omega, by omega, by omega⟩]
    unfold zs
    rw [show ((⟨#[0]⟩ : ByteArray).data.toList) = [0] from rfl, repeat_one]
  have hz := zs_size (512 - s.size)
  obtain ⟨z, hzz⟩ : ∃ z, z = zs (512 - s.size) := ⟨_, rfl⟩
  have HZ : Aside0 (pad s = s ++ z) := ⟨by rw [hzz]; rfl⟩
  rw [← hzz] at RP hz
  have q1 : (s.size + z.size ≤ 9223372036854775807) = True := eq_true (by omega)
  have q2 : (9223372036854775807 < s.size + z.size) = False := eq_false (by omega)
  clear hzz hz
  go_enter Try.func34, Try.ntmps34
  go_wp2_with (go_at_call 30; (with_reducible refine (RP _).mono ?_); rintro e w1 ⟨rfl, hb⟩; have HB := Aside0.mk hb; clear hb)
  go_ret
  exact ⟨by rw [HZ.out]; rfl, HB.out⟩
theorem four_total (v : Int) : ∃ r, log_four.f v = some r ∧ r.size = 4 := ⟨_, rfl, rfl⟩
theorem eight_total (v : Int) : ∃ r, log_eight.f v = some r ∧ r.size = 8 := by
  unfold log_eight.f
  obtain ⟨a, ha, sa⟩ := four_total ((v / 4294967296) % 4294967296)
  obtain ⟨b, hb, sb⟩ := four_total (v % 4294967296)
  rw [ha, hb]
  simp only [Option.bind_some]
  rw [if_pos (by omega)]
  exact ⟨_, rfl, by rw [ByteArray.size_append]; omega⟩
def e8 (v : Int) : ByteArray := (log_eight.f (IntKind.u64.wrap v)).getD ByteArray.empty
theorem e8_is (v : Int) : log_eight.f (IntKind.u64.wrap v) = some (e8 v) ∧ (e8 v).size = 8 := by
  obtain ⟨r, hr, hs⟩ := eight_total (IntKind.u64.wrap v)
  unfold e8
  rw [hr]
  exact ⟨rfl, hs⟩
theorem sum_total (t : ByteArray) (h : t.size ≤ 1000) : ∃ v, sum_Of.f t = some v := by
  unfold sum_Of.f sum_On.f
  rw [if_pos (by omega)]
  exact ⟨_, rfl⟩
def sum8 (t : ByteArray) : ByteArray := (log_eight.f ((sum_Of.f t).getD 0)).getD ByteArray.empty
/-- A sector that says a number, under a mark. -/
def noteS (mk : ByteArray) (v : Int) : ByteArray := pad ((mk ++ e8 v) ++ sum8 (mk ++ e8 v))
theorem sum8_size (t : ByteArray) : (sum8 t).size = 8 := by
  unfold sum8
  obtain ⟨r, hr, hs⟩ := eight_total ((sum_Of.f t).getD 0)
  rw [hr]; exact hs
theorem note_size (mk : ByteArray) (h : mk.size = 16) (v : Int) : (noteS mk v).size = 512 := pad_size _ (by rw [ByteArray.size_append, ByteArray.size_append, sum8_size, (e8_is v).2, h]; decide)
set_option maxHeartbeats 8000000 in
set_option maxRecDepth 100000 in
theorem noted_calls (mk : ByteArray) (hmk : mk.size = 16) (v : Int) (w : World) : Calls Try.prog 36 #[.string mk, .int .i64 v] w fun e w' => e = .returned (.string (noteS mk v)) ∧ Below w.heap.size w w' := by
  obtain ⟨h1, s1⟩ := e8_is v
  have C1 : ∀ W, Calls Try.prog 57 #[.int .u64 (IntKind.u64.wrap v)] W fun e w' => e = .returned (.string (e8 v)) ∧ Below W.heap.size W w' := fun W => log_eight.calls _ _ W h1
  have HN : Aside0 (noteS mk v = pad ((mk ++ e8 v) ++ sum8 (mk ++ e8 v))) := ⟨rfl⟩
  obtain ⟨a, ha⟩ : ∃ a, a = e8 v := ⟨_, rfl⟩
  rw [← ha] at C1 HN s1
  clear h1 ha
  have q1 : (mk.size + a.size ≤ 9223372036854775807) = True := eq_true (by omega)
  have q2 : (9223372036854775807 < mk.size + a.size) = False := eq_false (by omega)
  have st : (mk ++ a).size = 24 := by rw [ByteArray.size_append]; omega
  obtain ⟨u, hu⟩ := sum_total (mk ++ a) (by omega)
  have C2 : ∀ W, Calls Try.prog 58 #[.string (mk ++ a)] W fun e w' => e = .returned (.int .u64 u) ∧ Below W.heap.size W w' := fun W => sum_Of.calls _ _ W hu
  obtain ⟨b, hb, sb⟩ := eight_total u
  have C3 : ∀ W, Calls Try.prog 57 #[.int .u64 u] W fun e w' => e = .returned (.string b) ∧ Below W.heap.size W w' := fun W => log_eight.calls _ _ W hb
  have e3 : sum8 (mk ++ a) = b := by unfold sum8; rw [hu]; show (log_eight.f u).getD _ = b; rw [hb]; rfl
  rw [e3] at HN
  have q3 : ((mk ++ a).size + b.size ≤ 9223372036854775807) = True := eq_true (by omega)
  have q4 : (9223372036854775807 < (mk ++ a).size + b.size) = False := eq_false (by omega)
  have q5 : (mk.size + a.size + b.size ≤ 9223372036854775807) = True := eq_true (by omega)
  have q6 : (9223372036854775807 < mk.size + a.size + b.size) = False := eq_false (by omega)
  have C4 := fun W => filled_calls (mk ++ a ++ b) (by rw [ByteArray.size_append]; omega) W
  rw [← HN.out] at C4
  clear hu hb e3 s1 sb st hmk
  generalize noteS mk v = r at C4
  clear HN
  go_enter Try.func36, Try.ntmps36
  go_wp2_with (first
    | (go_at_call 57; (with_reducible refine (C1 _).mono ?_); rintro e w1 ⟨rfl, hb⟩; have HB := Aside0.mk hb; clear hb)
    | (go_at_call 58; (with_reducible refine (C2 _).mono ?_); rintro e w1 ⟨rfl, hb⟩; have n_ := Aside0.mk (below_then HB.out HB.out.size hb); clear HB hb; have HB := n_; clear n_)
    | (go_at_call 57; (with_reducible refine (C3 _).mono ?_); rintro e w1 ⟨rfl, hb⟩; have n_ := Aside0.mk (below_then HB.out HB.out.size hb); clear HB hb; have HB := n_; clear n_)
    | (go_at_call 34; (with_reducible refine (C4 _).mono ?_); rintro e w1 ⟨rfl, hb⟩; have n_ := Aside0.mk (below_then HB.out HB.out.size hb); clear HB hb; have HB := n_; clear n_))
  go_ret
  exact ⟨rfl, HB.out⟩
end Go.Proofs.Ytfagljigaippiaa.Dk
