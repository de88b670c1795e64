/- Chapter 7: Open of a new disk, of a disk that says nothing; states at rest. -/
import Derived.Test.YtfagljigaippiaaLgO
namespace Go.Proofs.Ytfagljigaippiaa.Dk
open Go.RowKit Go.Maps Go.Proofs.Ytfagljigaippiaa.X Go.Proofs.YtfagljigaippiaaW.PrintWords Go.Proofs.YtfagljigaippiaaW.PrintLast Go.Proofs.YtfagljigaippiaaW.PrintMore
set_option linter.unusedVariables false
set_option linter.unusedSimpArgs false

set_option maxHeartbeats 8000000 in
set_option maxRecDepth 100000 in
theorem open_fresh {base : Nat} {L : Nat → Sl} {N i g : Nat} {s : DS} {n m : Nat} {w0 w : World} (h : At base L N i g s n m w0 w) (ho : s.off = false) (sz : Nat) (h4 : 4 ≤ sz) (hn : sz < n) (h0 : s.seen.getD 0 ByteArray.empty = Z) (s1 : DS) (hl : layS s false [(0, noteS sm sz)] = (s1, false, 0)) (hq : Quiet s1 n) (hm : m + 1 ≤ 549755813887) :
    Calls Try.prog 9 #[.pointer (some ⟨g, 0, none⟩), .int .i64 sz] w fun r w' => ∃ gl L', r = .returned (.tuple #[.pointer (some ⟨gl, 0, none⟩), .int .i64 0]) ∧ Lg base L' (N + 1) i g N gl s1 n (m + 1) sz false w0 w' ∧ (∀ k, k < N → (k < i ∨ i + 4 ≤ k) → L' k = L k) := by
  have CO := off_calls h.many h.disk h.hi
  rw [ho] at CO
  have CS := sectors_calls h.many h.disk h.hi
  rw [h.ok.seen] at CS
  have HQ := Aside0.mk hq
  have H0 := Aside0.mk h
  have q1 : ((sz : Int) < 4) = False := eq_false (by omega)
  have q1' : (sz < 4) = False := eq_false (by omega)
  have q2 : ((n : Int) ≤ (sz : Int)) = False := eq_false (by omega)
  have q2' : (n ≤ sz) = False := eq_false (by omega)
  have HR := read_in ho 0 (by rw [h.ok.seen]; have := hq.two; omega)
  rw [h0] at HR
  have CF := fun (W : World) => filled_calls ⟨#[]⟩ (by decide) W
  rw [show pad ⟨#[]⟩ = Z from pad_empty] at CF
  have CN : ∀ W : World, Calls Try.prog 36 #[.string ⟨#[99, 111, 102, 102, 101, 114, 32, 108, 111, 103, 32, 115, 105, 122, 101, 32]⟩, .int .i64 sz] W fun e w' => e = .returned (.string (noteS sm sz)) ∧ Below W.heap.size W w' := fun W => noted_calls sm rfl sz W
  have HL := Aside0.mk hl
  generalize noteS sm (sz : Int) = nt at CN HL
  generalize Z = z at CF HR
  have HRA := Aside0.mk HR
  clear h hq h0 HR hl
  go_enter Try.func9, Try.ntmps9
  go_upto_region 6 with (first
    | (go_at_call 32; (with_reducible refine CO.mono ?_); rintro e w' ⟨rfl, hw⟩; obtain rfl := hw.symm)
    | (go_at_call 33; (with_reducible refine CS.mono ?_); rintro e w' ⟨rfl, hw⟩; obtain rfl := hw.symm))
  clear CO CS
  have H1 := Aside0.mk (lg_new H0.out sz)
  obtain ⟨gl, hgl⟩ : ∃ gl, gl = w.heap.size := ⟨_, rfl⟩
  have PG : (Value.pointer (some ⟨w.heap.size, 0, none⟩)) = .pointer (some ⟨gl, 0, none⟩) := by rw [hgl]
  rw [PG]
  rw [← hgl] at H1
  have EL : Aside0 (∀ k, k < N → (k < i ∨ i + 4 ≤ k) → upd L N (osl gl 76 [.pointer (some ⟨g, 0, none⟩), .int .i64 sz, .bool false]) k = L k) := ⟨fun k hk _ => upd_ne (by omega)⟩
  generalize upd L N (osl gl 76 [.pointer (some ⟨g, 0, none⟩), .int .i64 sz, .bool false]) = L1 at H1 EL
  generalize w.alloc (.cells #[.pointer (some ⟨g, 0, none⟩), .int .i64 sz, .bool false] 76) = w1 at H1 ⊢
  clear PG hgl H0
  have CR := at_read H1.out.at_ 0 z HRA.out
  clear q1 q1' q2 q2'
  go_wp2_with (first
    | (go_at_call 25; (with_reducible refine CR.mono ?_); rintro e w' ⟨rfl, hw⟩; obtain rfl := hw.symm)
    | (go_at_call 34; (with_reducible refine (CF _).mono ?_); rintro e w2 ⟨rfl, hb⟩; have H2 := Aside0.mk (H1.out.below hb); clear hb)
    | (go_at_call 36; (with_reducible refine (CN _).mono ?_); rintro e w3 ⟨rfl, hb⟩; have H3 := Aside0.mk (H2.out.below hb); have C35 := lay_one H3.out 0 nt hm; rw [HL.out] at C35; clear hb)
    | (go_at_call 35; (with_reducible refine C35.mono ?_); rintro e w5 ⟨rfl, L5, h5, e5⟩; have H5 := Aside0.mk h5; have E5 : Aside0 (∀ k, k < N → (k < i ∨ i + 4 ≤ k) → L5 k = L k) := ⟨fun k hk h1 => by rw [e5 k h1 (by omega), EL.out k hk h1]⟩; clear h5 e5 C35)
    | (go_at_call 38; (with_reducible refine (recover_none H5.out HQ.out).mono ?_); rintro e w4 ⟨rfl, hb⟩; have H4 := Aside0.mk (H5.out.below hb); clear hb))
  go_ret2
  exact ⟨gl, L5, rfl, H4.out, E5.out⟩
set_option maxHeartbeats 8000000 in
set_option maxRecDepth 100000 in
theorem open_torn {base : Nat} {L : Nat → Sl} {N i g : Nat} {s : DS} {n m : Nat} {w0 w : World} (h : At base L N i g s n m w0 w) (ho : s.off = false) (sz : Nat) (h4 : 4 ≤ sz) (hn : sz < n) (b : ByteArray) (h0 : s.seen.getD 0 ByteArray.empty = b) (hb5 : b.size = 512) (hb6 : b.data[0]? ≠ some 99) (hb7 : b ≠ Z) :
    Calls Try.prog 9 #[.pointer (some ⟨g, 0, none⟩), .int .i64 sz] w fun r w' => r = .returned (.tuple #[.pointer none, .int .i64 42]) ∧ Below w.heap.size w w' := by
  have CO := off_calls h.many h.disk h.hi
  rw [ho] at CO
  have CS := sectors_calls h.many h.disk h.hi
  rw [h.ok.seen] at CS
  have H0 := Aside0.mk h
  have q1 : ((sz : Int) < 4) = False := eq_false (by omega)
  have q1' : (sz < 4) = False := eq_false (by omega)
  have q2 : ((n : Int) ≤ (sz : Int)) = False := eq_false (by omega)
  have q2' : (n ≤ sz) = False := eq_false (by omega)
  have HR := read_in ho 0 (by rw [h.ok.seen]; omega)
  rw [h0] at HR
  have CF := fun (W : World) => filled_calls ⟨#[]⟩ (by decide) W
  rw [show pad ⟨#[]⟩ = Z from pad_empty] at CF
  obtain ⟨v, CN⟩ := note_none sm b rfl rfl hb5 hb6
  have hne : (b.toList == Z.toList) = false := by rw [bsame]; exact decide_eq_false hb7
  have CN' : ∀ W : World, Calls Try.prog 37 #[.string ⟨#[99, 111, 102, 102, 101, 114, 32, 108, 111, 103, 32, 115, 105, 122, 101, 32]⟩, .string b] W fun e w' => e = .returned (.tuple #[.int .i64 v, .bool false]) ∧ Below W.heap.size W w' := CN
  clear CN hb5 hb6 hb7
  generalize Z = z at CF hne
  have HRA := Aside0.mk HR
  clear h h0 HR
  go_enter Try.func9, Try.ntmps9
  go_upto_region 6 with (first
    | (go_at_call 32; (with_reducible refine CO.mono ?_); rintro e w' ⟨rfl, hw⟩; obtain rfl := hw.symm)
    | (go_at_call 33; (with_reducible refine CS.mono ?_); rintro e w' ⟨rfl, hw⟩; obtain rfl := hw.symm))
  clear CO CS
  have H1 := Aside0.mk (lg_new H0.out sz)
  obtain ⟨gl, hgl⟩ : ∃ gl, gl = w.heap.size := ⟨_, rfl⟩
  have PG : (Value.pointer (some ⟨w.heap.size, 0, none⟩)) = .pointer (some ⟨gl, 0, none⟩) := by rw [hgl]
  rw [PG]
  rw [← hgl] at H1
  have EL : Aside0 (∀ k, k < N → (k < i ∨ i + 4 ≤ k) → upd L N (osl gl 76 [.pointer (some ⟨g, 0, none⟩), .int .i64 sz, .bool false]) k = L k) := ⟨fun k hk _ => upd_ne (by omega)⟩
  generalize upd L N (osl gl 76 [.pointer (some ⟨g, 0, none⟩), .int .i64 sz, .bool false]) = L1 at H1 EL
  have B1 := Aside0.mk (below_alloc (Below.refl w.heap.size w) (.cells #[.pointer (some ⟨g, 0, none⟩), .int .i64 sz, .bool false] 76))
  generalize w.alloc (.cells #[.pointer (some ⟨g, 0, none⟩), .int .i64 sz, .bool false] 76) = w1 at H1 B1 ⊢
  clear PG hgl H0
  have CR := at_read H1.out.at_ 0 b HRA.out
  clear q1 q1' q2 q2'
  go_wp2_with (first
    | (go_at_call 25; (with_reducible refine CR.mono ?_); rintro e w' ⟨rfl, hw⟩; obtain rfl := hw.symm)
    | (go_at_call 34; (with_reducible refine (CF _).mono ?_); rintro e w2 ⟨rfl, hb⟩; have B2 := Aside0.mk (below_then B1.out B1.out.size hb); clear hb)
    | (go_at_call 37; (with_reducible refine (CN' _).mono ?_); rintro e w3 ⟨rfl, hb⟩; have B3 := Aside0.mk (below_then B2.out B2.out.size hb); clear hb))
  go_ret2
  exact ⟨rfl, B3.out⟩
/-- A disk at rest: on, nothing pending. -/
def flat (l : List ByteArray) : DS := { seen := l, safe := l, pend := [], fall := 0, off := false, opn := false }
/-- On, nothing to fall: some writes pending. -/
def mid (l : List ByteArray) (ps : List (Int × ByteArray)) : DS := { seen := done l ps, safe := l, pend := ps, fall := 0, off := false, opn := false }
def OkW (n : Nat) (ws : List (Int × ByteArray)) : Prop := ∀ p ∈ ws, (0 ≤ p.1 ∧ p.1 < (n : Int)) ∧ p.2.size = 512
theorem lay_mid (l : List ByteArray) : ∀ (ws ps : List (Int × ByteArray)), OkW l.length ws → layS (mid l ps) false ws = (flat (done (done l ps) ws), false, 0)
  | [], ps, _ => rfl
  | p :: ws, ps, h => by
    obtain ⟨h1, h2⟩ := h p (List.mem_cons_self ..)
    have e : writeS (mid l ps) p.1 p.2 = (mid l (ps ++ [p]), 0) := by
      unfold writeS
      rw [if_neg (by show ¬ (false = true); decide), if_neg (fun hn => hn ⟨⟨h1.1, by show p.1 < ((done l ps).length : Int); rw [done_len]; exact h1.2⟩, h2⟩)]
      show (if (mid l ps).off = true then _ else _) = _
      rw [if_neg (by show ¬ (false = true); decide)]
      unfold mid
      rw [done_snoc]; rfl
    unfold layS
    rw [e]
    show (if (0 : Int) = 0 then layS (mid l (ps ++ [p])) false ws else _) = _
    rw [if_pos rfl, lay_mid l ws (ps ++ [p]) (fun q hq => h q (List.mem_cons_of_mem _ hq)), done_snoc]
    show (flat (done ((done l ps).set p.1.toNat p.2) ws), false, (0 : Int)) = _
    rfl
theorem lay_flat (l : List ByteArray) (ws : List (Int × ByteArray)) (h : OkW l.length ws) : layS (flat l) false ws = (flat (done l ws), false, 0) := lay_mid l ws [] h
theorem home_flat (l : List ByteArray) (sz : Nat) (ws : List (Int × ByteArray)) (h : OkW l.length (homeW sz ws)) (h1 : 1 < l.length) : homeS sz (flat l) false ws = (flat ((done l (homeW sz ws)).set 1 Z), false, 0) := by
  unfold homeS
  rw [lay_flat l _ h, if_pos rfl]
  have := lay_flat (done l (homeW sz ws)) [(1, Z)] (fun p hp => by
    rw [List.mem_singleton.1 hp]
    exact ⟨⟨by decide, by rw [done_len]; show (1 : Int) < _; omega⟩, by rw [Z_F]; exact F_size 0⟩)
  exact this
/-- What a commit makes of a disk at rest. -/
def cl (l : List ByteArray) (sz : Nat) (ws : List (Int × ByteArray)) : List ByteArray := (done ((done l (commitW ws)).set 1 (noteS cm ws.length)) (homeW sz ws)).set 1 Z
theorem cl_len (l : List ByteArray) (sz : Nat) (ws : List (Int × ByteArray)) : (cl l sz ws).length = l.length := by unfold cl; rw [List.length_set, done_len, List.length_set, done_len]
theorem commit_flat (l : List ByteArray) (sz : Nat) (ws : List (Int × ByteArray)) (h1 : OkW l.length (commitW ws)) (h2 : OkW l.length (homeW sz ws)) (h3 : 1 < l.length) : commitS sz (flat l) false ws = (flat (cl l sz ws), false, 0) := by
  unfold commitS
  rw [lay_flat l _ h1, if_neg (fun h => h rfl)]
  have e := lay_flat (done l (commitW ws)) [(1, noteS cm ws.length)] (fun p hp => by
    rw [List.mem_singleton.1 hp]
    exact ⟨⟨by show (0 : Int) ≤ 1; decide, by rw [done_len]; show (1 : Int) < _; omega⟩, note_size cm rfl _⟩)
  show (if ¬ (layS (flat (done l (commitW ws))) false [(1, noteS cm ws.length)]).2.2 = 0 then layS (flat (done l (commitW ws))) false [(1, noteS cm ws.length)] else homeS sz (layS (flat (done l (commitW ws))) false [(1, noteS cm ws.length)]).1 (layS (flat (done l (commitW ws))) false [(1, noteS cm ws.length)]).2.1 ws) = _
  rw [e, if_neg (fun h => h rfl)]
  have := home_flat ((done l (commitW ws)).set 1 (noteS cm ws.length)) sz ws (by rw [List.length_set, done_len]; exact h2) (by rw [List.length_set, done_len]; exact h3)
  exact this
theorem dataF_in : ∀ (ws : List (Int × ByteArray)) (i : Nat) (p : Int × ByteArray), p ∈ dataF i ws → ((2 + i : Nat) : Int) ≤ p.1 ∧ p.1 < ((2 + i + ws.length : Nat) : Int) ∧ ∃ q ∈ ws, p.2 = q.2
  | [], _, _, h => by cases h
  | q :: ws, i, p, h => by
    rcases List.mem_cons.1 h with e | e
    · rw [e]; exact ⟨Int.le_refl _, by rw [List.length_cons]; show ((2 + i : Nat) : Int) < _; omega, q, List.mem_cons_self .., rfl⟩
    · obtain ⟨a, b, r, hr, c⟩ := dataF_in ws (i + 1) p e
      rw [List.length_cons]
      exact ⟨by omega, by omega, r, List.mem_cons_of_mem _ hr, c⟩
theorem commitW_ok (ws : List (Int × ByteArray)) (n : Nat) (hl : ws.length ≤ 125) (hn : 2 + ws.length < n) (h : ∀ p ∈ ws, p.2.size = 512) : OkW n (commitW ws) := fun p hp => by
  rcases List.mem_append.1 hp with e | e
  · obtain ⟨a, b, q, hq, c⟩ := dataF_in ws 0 p e
    exact ⟨⟨by omega, by omega⟩, by rw [c]; exact h q hq⟩
  · rw [List.mem_singleton.1 e]
    exact ⟨⟨by omega, by show ((2 + ws.length : Nat) : Int) < n; omega⟩, pad_size _ (by rw [plcs_size _ ws rfl]; omega)⟩
theorem homeW_ok (ws : List (Int × ByteArray)) (sz n : Nat) (hn : n ≤ 8192) (h : ∀ p ∈ ws, (0 ≤ p.1 ∧ (sz : Int) + p.1 < n) ∧ p.2.size = 512) : OkW n (homeW sz ws) := fun p hp => by
  obtain ⟨q, hq, rfl⟩ := List.mem_map.1 hp
  obtain ⟨⟨a, b⟩, c⟩ := h q hq
  have e : wrap64 ((sz : Int) + q.1) = (sz : Int) + q.1 := by unfold wrap64; omega
  exact ⟨⟨by show 0 ≤ wrap64 _; rw [e]; omega, by show wrap64 _ < _; rw [e]; exact b⟩, c⟩
theorem done_at : ∀ (ps : List (Int × ByteArray)) (l : List ByteArray) (j : Nat), (∀ p ∈ ps, p.1.toNat ≠ j) → (done l ps).getD j ByteArray.empty = l.getD j ByteArray.empty
  | [], _, _, _ => rfl
  | p :: r, l, j, h => by
    show (done (l.set p.1.toNat p.2) r).getD j ByteArray.empty = _
    rw [done_at r _ j (fun q hq => h q (List.mem_cons_of_mem _ hq)), List.getD_eq_getElem?_getD, List.getElem?_set, if_neg (h p (List.mem_cons_self ..)), List.getD_eq_getElem?_getD]
theorem getD_set_ne (l : List ByteArray) (i j : Nat) (x : ByteArray) (h : i ≠ j) : (l.set i x).getD j ByteArray.empty = l.getD j ByteArray.empty := by rw [List.getD_eq_getElem?_getD, List.getElem?_set, if_neg h, List.getD_eq_getElem?_getD]
theorem getD_set_eq (l : List ByteArray) (i : Nat) (x : ByteArray) (h : i < l.length) : (l.set i x).getD i ByteArray.empty = x := by rw [List.getD_eq_getElem?_getD, List.getElem?_set, if_pos rfl, if_pos h]; rfl
/-- A log at rest: its first two sectors. -/
structure Rest (l : List ByteArray) (sz n : Nat) : Prop where
  len : l.length = n
  zero : l.getD 0 ByteArray.empty = noteS sm sz
  one : l.getD 1 ByteArray.empty = Z
theorem rest_cl {l : List ByteArray} {sz n : Nat} (h : Rest l sz n) (ws : List (Int × ByteArray)) (h4 : 4 ≤ sz) (hn : sz < n) (hn2 : n ≤ 8192) (hw : ∀ p ∈ ws, 0 ≤ p.1 ∧ (sz : Int) + p.1 < n) : Rest (cl l sz ws) sz n := by
  have hh : ∀ p ∈ homeW sz ws, (sz : Int) ≤ p.1 := fun p hp => by
    obtain ⟨q, hq, rfl⟩ := List.mem_map.1 hp
    obtain ⟨a, b⟩ := hw q hq
    show (sz : Int) ≤ wrap64 ((sz : Int) + q.1)
    have e : wrap64 ((sz : Int) + q.1) = (sz : Int) + q.1 := by unfold wrap64; omega
    rw [e]; omega
  have hc : ∀ p ∈ commitW ws, (2 : Int) ≤ p.1 := fun p hp => by
    rcases List.mem_append.1 hp with e | e
    · obtain ⟨a, _⟩ := dataF_in ws 0 p e
      omega
    · rw [List.mem_singleton.1 e]; show (2 : Int) ≤ ((2 + ws.length : Nat) : Int); omega
  refine ⟨by rw [cl_len]; exact h.len, ?_, ?_⟩
  · unfold cl
    rw [getD_set_ne _ _ _ _ (by decide), done_at _ _ _ (fun p hp => by have := hh p hp; omega), getD_set_ne _ _ _ _ (by decide), done_at _ _ _ (fun p hp => by have := hc p hp; omega)]
    exact h.zero
  · unfold cl
    rw [getD_set_eq _ _ _ (by rw [done_len, List.length_set, done_len, h.len]; omega)]
theorem Z_head : Z.data[0]? ≠ some 99 := by
  rw [Z_F]
  show (List.replicate 512 (0 : UInt8)).toArray[0]? ≠ some 99
  rw [List.getElem?_toArray, List.getElem?_replicate, if_pos (by omega)]
  intro e
  injection e with e
  exact absurd e (by decide)
theorem rest_quiet {l : List ByteArray} {sz n : Nat} (h : Rest l sz n) (h1 : 1 < n) : Quiet (flat l) n := ⟨rfl, h1, by show (l.getD 1 _).size = 512; rw [h.one, Z_F, F_size], by show (l.getD 1 _).data[0]? ≠ _; rw [h.one]; exact Z_head⟩
/-- A new disk, opened. -/
theorem fresh_open (n sz : Nat) (h1 : 4 ≤ sz) (h2 : sz < n) : layS (freshS n) false [(0, noteS sm sz)] = (flat ((List.replicate n Z).set 0 (noteS sm sz)), false, 0) ∧ Rest ((List.replicate n Z).set 0 (noteS sm sz)) sz n := by
  constructor
  · exact lay_flat (List.replicate n Z) [(0, noteS sm sz)] (fun p hp => by
      rw [List.mem_singleton.1 hp]
      exact ⟨⟨by show (0 : Int) ≤ 0; decide, by rw [List.length_replicate]; show (0 : Int) < _; omega⟩, note_size sm rfl _⟩)
  · refine ⟨by rw [List.length_set, List.length_replicate], getD_set_eq _ _ _ (by rw [List.length_replicate]; omega), ?_⟩
    rw [getD_set_ne _ _ _ _ (by decide), List.getD_eq_getElem?_getD, List.getElem?_replicate, if_pos (by omega)]; rfl
end Go.Proofs.Ytfagljigaippiaa.Dk
