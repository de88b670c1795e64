/- Chapter 7: first. -/
import Derived.Test.YtfagljigaippiaaLgF
namespace Go.Proofs.Ytfagljigaippiaa.Dk
open Go.RowKit Go.Maps Go.Proofs.Ytfagljigaippiaa.X Go.Proofs.YtfagljigaippiaaW.PrintWords Go.Proofs.YtfagljigaippiaaW.PrintLast Go.Proofs.YtfagljigaippiaaW.PrintMore
set_option linter.unusedVariables false
set_option linter.unusedSimpArgs false

set_option maxHeartbeats 8000000 in
set_option maxRecDepth 100000 in
theorem open_other {base : Nat} {L : Nat → Sl} {N i g : Nat} {s : DS} {n m : Nat} {w0 w : World} (h : At base L N i g s n m w0 w) (ho : s.off = false) (sz : Nat) (h4 : 4 ≤ sz) (hn : sz < n) (sz0 : Nat) (h256 : sz0 < 256) (h0 : s.seen.getD 0 ByteArray.empty = noteS sm sz0) (hso : sz0 ≠ sz) :
    Calls Try.prog 9 #[.pointer (some ⟨g, 0, none⟩), .int .i64 sz] w fun r w' => r = .returned (.tuple #[.pointer none, .int .i64 1]) ∧ Below w.heap.size w w' := by
  have CO := off_calls h.many h.disk h.hi
  rw [ho] at CO
  have CS := sectors_calls h.many h.disk h.hi
  rw [h.ok.seen] at CS
  have H0 := Aside0.mk h
  have q1 : ((sz : Int) < 4) = False := eq_false (by omega)
  have q1' : (sz < 4) = False := eq_false (by omega)
  have q2 : ((n : Int) ≤ (sz : Int)) = False := eq_false (by omega)
  have q2' : (n ≤ sz) = False := eq_false (by omega)
  have HR := read_in ho 0 (by rw [h.ok.seen]; omega)
  rw [h0] at HR
  have CF := fun (W : World) => filled_calls ⟨#[]⟩ (by decide) W
  rw [show pad ⟨#[]⟩ = Z from pad_empty] at CF
  have CN := fun (W : World) => note_hit sm rfl sz0 h256 W
  have hne : ((noteS sm sz0).toList == Z.toList) = false := by
    rw [bsame]
    apply decide_eq_false
    intro e
    have h1 := note_head sm sz0 99 rfl
    rw [e] at h1
    exact absurd h1 Z_head
  have CN' : ∀ W : World, Calls Try.prog 37 #[.string ⟨#[99, 111, 102, 102, 101, 114, 32, 108, 111, 103, 32, 115, 105, 122, 101, 32]⟩, .string (noteS sm sz0)] W fun e w' => e = .returned (.tuple #[.int .i64 sz0, .bool true]) ∧ Below W.heap.size W w' := CN
  have q5 : ((sz0 : Int) = (sz : Int)) = False := eq_false (by omega)
  have q5' : (sz0 = sz) = False := eq_false hso
  have q5'' : ((sz0 : Int) == (sz : Int)) = false := beq_eq_false_iff_ne.mpr (by omega)
  clear CN
  generalize noteS sm (sz0 : Int) = b at HR CN' hne
  generalize Z = z at CF hne
  have HRA := Aside0.mk HR
  clear h h0 HR
  go_enter Try.func9, Try.ntmps9
  go_upto_region 6 with (first
    | (go_at_call 32; (with_reducible refine CO.mono ?_); rintro e w' ⟨rfl, hw⟩; obtain rfl := hw.symm)
    | (go_at_call 33; (with_reducible refine CS.mono ?_); rintro e w' ⟨rfl, hw⟩; obtain rfl := hw.symm))
  clear CO CS
  have H1 := Aside0.mk (lg_new H0.out sz)
  obtain ⟨gl, hgl⟩ : ∃ gl, gl = w.heap.size := ⟨_, rfl⟩
  have PG : (Value.pointer (some ⟨w.heap.size, 0, none⟩)) = .pointer (some ⟨gl, 0, none⟩) := by rw [hgl]
  rw [PG]
  rw [← hgl] at H1
  have EL : Aside0 (∀ k, k < N → (k < i ∨ i + 4 ≤ k) → upd L N (osl gl 76 [.pointer (some ⟨g, 0, none⟩), .int .i64 sz, .bool false]) k = L k) := ⟨fun k hk _ => upd_ne (by omega)⟩
  generalize upd L N (osl gl 76 [.pointer (some ⟨g, 0, none⟩), .int .i64 sz, .bool false]) = L1 at H1 EL
  have B1 := Aside0.mk (below_alloc (Below.refl w.heap.size w) (.cells #[.pointer (some ⟨g, 0, none⟩), .int .i64 sz, .bool false] 76))
  generalize w.alloc (.cells #[.pointer (some ⟨g, 0, none⟩), .int .i64 sz, .bool false] 76) = w1 at H1 B1 ⊢
  clear PG hgl H0
  have CR := at_read H1.out.at_ 0 b HRA.out
  clear q1 q1' q2 q2'
  go_wp2_with (first
    | (go_at_call 25; (with_reducible refine CR.mono ?_); rintro e w' ⟨rfl, hw⟩; obtain rfl := hw.symm)
    | (go_at_call 34; (with_reducible refine (CF _).mono ?_); rintro e w2 ⟨rfl, hb⟩; have B2 := Aside0.mk (below_then B1.out B1.out.size hb); clear hb)
    | (go_at_call 37; (with_reducible refine (CN' _).mono ?_); rintro e w3 ⟨rfl, hb⟩; have B3 := Aside0.mk (below_then B2.out B2.out.size hb); clear hb))
  go_ret2
  exact ⟨rfl, B3.out⟩
theorem C_nilW (w : World) : Kd.C kW w none 0 [] := ⟨rfl, by decide, fun h => by cases h⟩
theorem wcs_len (ws : List (Int × ByteArray)) : (wcs ws).length = ws.length * 2 := by
  unfold wcs
  exact flat_len (f := wc) (sz := 2) wc_len ws
/-- A literal of writes, made on the spot, beside a log. -/
theorem lg_lit {base : Nat} {L : Nat → Sl} {N i g j gl : Nat} {s : DS} {n m sz : Nat} {dead : Bool} {w0 w : World} (h : Lg base L N i g j gl s n m sz dead w0 w) (ws : List (Int × ByteArray)) (hl : ws.length ≤ 1000) :
    Lg base (upd L N (wsl 35 (.slice (some ⟨w.heap.size, 0, none⟩) ws.length ws.length) ws)) (N + 1) i g j gl s n m sz dead w0 (w.alloc (.cells (wcs ws).toArray 35)) ∧ Src base (upd L N (wsl 35 (.slice (some ⟨w.heap.size, 0, none⟩) ws.length ws.length) ws)) (N + 1) i j w0 (some ⟨w.heap.size, 0, none⟩) ws := by
  have hi := h.at_.hi
  have hj := h.hj
  have hb := h.at_.base
  constructor
  · refine h.add _ (below_alloc (Below.refl _ _) _) ⟨wcs_len ws, .inr ⟨w.heap.size, ws.length, _, rfl, hb, blk_new _ _, Nat.le_refl _, ?_, ?_, ?_⟩⟩ (fun q hq => ?_)
    · show ws.length ≤ maxLen; simp only [maxLen]; omega
    · show (wcs ws).toArray.size = ws.length * 2; rw [List.size_toArray, wcs_len]
    · show (wcs ws).take (ws.length * 2) = wcs ws; rw [← wcs_len, List.take_length]
    · have : w.heap.size = q := by simpa [wsl, Value.ownBlock] using hq
      omega
  · exact row_src N (by omega) (by omega) (by omega) _ ws.length ws (upd_at _ _ _)
theorem commit_lit {base : Nat} {L : Nat → Sl} {N i g j gl : Nat} {s : DS} {n m sz : Nat} {w0 w : World} (h : Lg base L N i g j gl s n m sz false w0 w) (ho : s.off = false) (ws : List (Int × ByteArray)) (hl : 0 < ws.length) (hl2 : ws.length ≤ 100) (hsz : sz ≤ 128) (hw : ∀ p ∈ ws, (Lit.int .i64 p.1).wf = true) (hj0 : jS ((n : Int) - sz) sz ws = 0) (hE : Els L N i j) (hm : m + 2 * ws.length + 10 ≤ 549755813887) :
    Calls Try.prog 13 #[.pointer (some ⟨gl, 0, none⟩), .slice (some ⟨w.heap.size, 0, none⟩) ws.length ws.length] (w.alloc (.cells (wcs ws).toArray 35)) fun r w' => r = .returned (.int .i64 (commitS sz s false ws).2.2) ∧ ∃ L', Lg base L' N i g j gl (commitS sz s false ws).1 n (m + 2 * ws.length + 3) sz (commitS sz s false ws).2.1 w0 w' ∧ Elj L L' i j := by
  have hi := h.at_.hi
  have hj := h.hj
  obtain ⟨h2, hs⟩ := lg_lit h ws (by omega)
  refine (commit_main _ ws.length ws h2 ho hs hl (by omega) hsz hw hj0 (fun t ht h1 h3 => ?_) hm).mono ?_
  · by_cases e : t = N
    · rw [e, upd_at]; exact ⟨by show (35 : Nat) ≠ 5; decide, by show (35 : Nat) ≠ 84; decide⟩
    · rw [upd_ne e]; exact hE t (by omega) h1 h3
  · rintro e w' ⟨rfl, L', h', e'⟩
    obtain ⟨L2, h3, e3⟩ := h'.cut (N := N) (L := L) hi hj (by omega) (fun q hq h1 h2 => by rw [e' q h1 h2, upd_ne (by omega)])
    exact ⟨rfl, L2, h3, e3⟩
theorem refused_lit {base : Nat} {L : Nat → Sl} {N i g j gl : Nat} {s : DS} {n m sz : Nat} {w0 w : World} (h : Lg base L N i g j gl s n m sz false w0 w) (ho : s.off = false) (ws : List (Int × ByteArray)) (hl2 : ws.length ≤ 1000) (hsz : sz ≤ 8192) (hw : ∀ p ∈ ws, (Lit.int .i64 p.1).wf = true) (hj0 : jS ((n : Int) - sz) sz ws ≠ 0) :
    Calls Try.prog 13 #[.pointer (some ⟨gl, 0, none⟩), .slice (some ⟨w.heap.size, 0, none⟩) ws.length ws.length] (w.alloc (.cells (wcs ws).toArray 35)) fun r w' => r = .returned (.int .i64 (jS ((n : Int) - sz) sz ws)) ∧ Below w.heap.size w w' := by
  obtain ⟨h2, hs⟩ := lg_lit h ws hl2
  refine (commit_refused _ ws.length ws h2 ho hs (by omega) hsz hw (.inl hj0)).mono ?_
  rintro e w' ⟨rfl, hb⟩
  have hal := below_alloc (Below.refl w.heap.size w) (.cells (wcs ws).toArray 35)
  exact ⟨rfl, below_then hal hal.size hb⟩
/-- The power goes at a commit's first write. -/
theorem commit_falls (l : List ByteArray) (sz : Nat) (p : Int × ByteArray) (ws : List (Int × ByteArray)) (hp : p.2.size = 512) (hn : 2 < l.length) : commitS sz { flat l with fall := max 0 1 } false (p :: ws) = ({ flat l with off := true, opn := true }, true, 9) := by
  have e : layS { flat l with fall := max 0 1 } false (commitW (p :: ws)) = ({ flat l with off := true, opn := true }, true, 9) := by
    have ew : writeS { flat l with fall := max 0 1 } ((2 + 0 : Nat) : Int) p.2 = ({ flat l with off := true, opn := true }, 9) := by
      unfold writeS
      rw [if_neg (by show ¬ (false = true); decide), if_neg (fun hh => hh ⟨⟨by omega, by show ((2 + 0 : Nat) : Int) < (l.length : Int); omega⟩, hp⟩)]
      rfl
    show layS _ false ((((2 + 0 : Nat) : Int), p.2) :: (dataF (0 + 1) ws ++ _)) = _
    unfold layS
    rw [ew]
    rfl
  unfold commitS
  rw [e]
  rfl
theorem crash_rest (l : List ByteArray) : onS (crashS { flat l with off := true, opn := true } []) = flat l ∧ (crashS { flat l with off := true, opn := true } []).off = true := ⟨rfl, rfl⟩
def bx : ByteArray := blk ⟨#[120]⟩
def by_ : ByteArray := blk ⟨#[121]⟩
theorem blk_empty : blk ⟨#[]⟩ = Z := by
  unfold blk
  rw [if_neg (by decide)]
  exact pad_empty
def ws1 : List (Int × ByteArray) := [(0, bx), (7, by_)]
def l0 : List ByteArray := (List.replicate 16 Z).set 0 (noteS sm 8)
def l1 : List ByteArray := cl l0 8 ws1
theorem l0_rest : Rest l0 8 16 := (fresh_open 16 8 (by decide) (by decide)).2
theorem ws1_in : ∀ p ∈ ws1, (0 ≤ p.1 ∧ ((8 : Nat) : Int) + p.1 < ((16 : Nat) : Int)) ∧ p.2.size = 512 := fun p hp => by
  simp only [ws1, List.mem_cons, List.not_mem_nil, or_false] at hp
  rcases hp with rfl | rfl
  · exact ⟨⟨by show (0 : Int) ≤ 0; decide, by show ((8 : Nat) : Int) + 0 < ((16 : Nat) : Int); decide⟩, blk_size _⟩
  · exact ⟨⟨by show (0 : Int) ≤ 7; decide, by show ((8 : Nat) : Int) + 7 < ((16 : Nat) : Int); decide⟩, blk_size _⟩
theorem l1_rest : Rest l1 8 16 := rest_cl l0_rest ws1 (by decide) (by decide) (by decide) (fun p hp => (ws1_in p hp).1)
theorem commit1 : commitS 8 (flat l0) false ws1 = (flat l1, false, 0) := commit_flat l0 8 ws1 (commitW_ok ws1 _ (by decide) (by rw [l0_rest.len]; decide) (fun p hp => (ws1_in p hp).2)) (homeW_ok ws1 8 _ (by rw [l0_rest.len]; decide) (fun p hp => by rw [l0_rest.len]; exact ws1_in p hp)) (by rw [l0_rest.len]; decide)
theorem home1 : homeW 8 ws1 = [(8, bx), (15, by_)] := by
  have e1 : wrap64 (((8 : Nat) : Int) + 0) = 8 := by unfold wrap64; omega
  have e2 : wrap64 (((8 : Nat) : Int) + 7) = 15 := by unfold wrap64; omega
  show [(wrap64 (((8 : Nat) : Int) + 0), bx), (wrap64 (((8 : Nat) : Int) + 7), by_)] = _
  rw [e1, e2]
theorem l1_at (k : Nat) (hk : 5 ≤ k) : l1.getD k ByteArray.empty = (((((done l0 (commitW ws1)).set 1 (noteS cm ws1.length)).set 8 bx).set 15 by_)).getD k ByteArray.empty := by
  unfold l1 cl
  rw [getD_set_ne _ _ _ _ (by omega), home1]
  rfl
theorem l1_15 : l1.getD 15 ByteArray.empty = by_ := by
  rw [l1_at 15 (by decide), getD_set_eq _ _ _ (by rw [List.length_set, List.length_set, done_len, l0_rest.len]; decide)]
theorem l1_8 : l1.getD 8 ByteArray.empty = bx := by
  rw [l1_at 8 (by decide), getD_set_ne _ _ _ _ (by decide), getD_set_eq _ _ _ (by rw [List.length_set, done_len, l0_rest.len]; decide)]
theorem l1_9 : l1.getD 9 ByteArray.empty = Z := by
  rw [l1_at 9 (by decide), getD_set_ne _ _ _ _ (by decide), getD_set_ne _ _ _ _ (by decide), getD_set_ne _ _ _ _ (by decide), done_at _ _ _ (fun p hp => ?_)]
  · unfold l0
    rw [getD_set_ne _ _ _ _ (by decide), List.getD_eq_getElem?_getD, List.getElem?_replicate, if_pos (by decide)]; rfl
  · rcases List.mem_append.1 hp with e | e
    · obtain ⟨a, b, _⟩ := dataF_in ws1 0 p e
      have : ws1.length = 2 := rfl
      omega
    · rw [List.mem_singleton.1 e]; show ((2 + ws1.length : Nat) : Int).toNat ≠ 9; decide
theorem js1 : jS (((16 : Nat) : Int) - ((8 : Nat) : Int)) 8 ws1 = 0 := by
  have e : judgS (((16 : Nat) : Int) - ((8 : Nat) : Int)) [] ws1 = true := by
    simp [judgS, ws1, bx, by_, blk_size]
  unfold jS
  rw [e, if_neg (by decide), if_neg (by decide)]
theorem js2 : jS (((16 : Nat) : Int) - ((8 : Nat) : Int)) 8 [(8, bx)] = 1 := by
  have e : judgS (((16 : Nat) : Int) - ((8 : Nat) : Int)) [] [(8, bx)] = false := by simp [judgS]
  unfold jS
  rw [if_pos e]
theorem js3 : jS (((16 : Nat) : Int) - ((8 : Nat) : Int)) 8 [] = 0 := by
  unfold jS
  rw [if_neg (by simp [judgS]), if_neg (by decide)]
theorem js4 : jS (((16 : Nat) : Int) - ((8 : Nat) : Int)) 8 [(0, by_)] = 0 := by
  have e : judgS (((16 : Nat) : Int) - ((8 : Nat) : Int)) [] [(0, by_)] = true := by simp [judgS, by_, blk_size]
  unfold jS
  rw [e, if_neg (by decide), if_neg (by decide)]
theorem els_log (L : Nat → Sl) : Els L 5 0 4 := fun t ht h1 h2 => by omega
theorem wf_lit (k : Int) (h0 : 0 ≤ k) (h : k ≤ 1000000) : (Lit.int .i64 k).wf = true := by
  simp only [Lit.wf, IntKind.min, IntKind.max, IntKind.signed, IntKind.bits, Bool.and_eq_true, decide_eq_true_eq, if_true]
  omega
set_option maxHeartbeats 32000000 in
set_option maxRecDepth 100000 in
theorem first_calls (w : World) : Calls Try.prog 7 #[] w fun e w' => e = .returned (.bool true) ∧ Below w.heap.size w w' := by
  have CN : Calls Try.prog 8 #[.int .i64 16] w fun e w' => ∃ g L', e = .returned (.tuple #[.pointer (some ⟨g, 0, none⟩), .int .i64 0]) ∧ At w.heap.size L' 4 0 g (freshS 16) 16 0 w w' := at_new (n := 16) w (by decide) (by decide)
  have CBX : ∀ W : World, Calls Try.prog 11 #[.string ⟨#[120]⟩] W fun e w' => e = .returned (.string bx) ∧ Below W.heap.size W w' := fun W => block_calls _ (by decide) W
  have CBY : ∀ W : World, Calls Try.prog 11 #[.string ⟨#[121]⟩] W fun e w' => e = .returned (.string by_) ∧ Below W.heap.size W w' := fun W => block_calls _ (by decide) W
  have CBE : ∀ W : World, Calls Try.prog 11 #[.string ⟨#[]⟩] W fun e w' => e = .returned (.string Z) ∧ Below W.heap.size W w' := fun W => by have := block_calls ⟨#[]⟩ (by decide) W; rw [blk_empty] at this; exact this
  obtain ⟨vx, hvx⟩ : ∃ v, v = bx := ⟨_, rfl⟩
  obtain ⟨vy, hvy⟩ : ∃ v, v = by_ := ⟨_, rfl⟩
  obtain ⟨vz, hvz⟩ : ∃ v, v = Z := ⟨_, rfl⟩
  rw [← hvx] at CBX
  rw [← hvy] at CBY
  rw [← hvz] at CBE
  have VX := Aside0.mk hvx
  have VY := Aside0.mk hvy
  have VZ := Aside0.mk hvz
  clear hvx hvy hvz
  go_enter Try.func7, Try.ntmps7
  go_upto_region 4 with (go_at_call 8; (with_reducible refine CN.mono ?_); rintro e w1 ⟨g, L1, rfl, h1⟩; have H1 := Aside0.mk h1; clear h1)
  clear CN
  have CO : Calls Try.prog 9 #[.pointer (some ⟨g, 0, none⟩), .int .i64 8] w1 fun r w' => ∃ gl L', r = .returned (.tuple #[.pointer (some ⟨gl, 0, none⟩), .int .i64 0]) ∧ Lg w.heap.size L' 5 0 g 4 gl (flat l0) 16 1 8 false w w' ∧ (∀ k, k < 4 → (k < 0 ∨ 0 + 4 ≤ k) → L' k = L1 k) := open_fresh H1.out rfl 8 (by decide) (by decide) (by show (List.replicate 16 Z).getD 0 _ = Z; rfl) (flat l0) (fresh_open 16 8 (by decide) (by decide)).1 (rest_quiet l0_rest (by decide)) (by decide)
  go_upto_region 5 with (go_at_call 9; (with_reducible refine CO.mono ?_); rintro e w2 ⟨gl, L2, rfl, h2, _⟩; have H2 := Aside0.mk h2; clear h2)
  clear CO H1
  have CB : Calls Try.prog 10 #[.pointer (some ⟨gl, 0, none⟩)] w2 fun r w' => r = .returned (.int .i64 8) ∧ Below w2.heap.size w2 w' := blocks_calls H2.out (by decide)
  go_upto_region 7 with (go_at_call 10; (with_reducible refine CB.mono ?_); rintro e w3 ⟨rfl, hb⟩; have H3 := Aside0.mk (H2.out.below hb); clear hb)
  clear CB H2
  go_upto_region 8 with (first
    | (go_at_call 11; (with_reducible refine (CBX _).mono ?_); rintro e w4 ⟨rfl, hb⟩; have H4 := Aside0.mk (H3.out.below hb); clear hb)
    | (go_at_call 11; (with_reducible refine (CBY _).mono ?_); rintro e w5 ⟨rfl, hb⟩; have H5 := Aside0.mk (H4.out.below hb); clear hb; have C13 : Calls Try.prog 13 #[.pointer (some ⟨gl, 0, none⟩), .slice (some ⟨w5.heap.size, 0, none⟩) 2 2] (w5.alloc (.cells #[.int .i64 0, .string vx, .int .i64 7, .string vy] 35)) (fun r w' => r = .returned (.int .i64 (commitS 8 (flat l0) false ws1).2.2) ∧ ∃ L', Lg w.heap.size L' 5 0 g 4 gl (commitS 8 (flat l0) false ws1).1 16 (1 + 2 * ws1.length + 3) 8 (commitS 8 (flat l0) false ws1).2.1 w w' ∧ Elj L2 L' 0 4) := (by rw [VX.out, VY.out]; exact commit_lit H5.out rfl ws1 (by decide) (by decide) (by decide) (fun p hp => wf_lit _ (ws1_in p hp).1.1 (by have := (ws1_in p hp).1.2; omega)) js1 (els_log _) (by decide)); rw [commit1] at C13)
    | (go_at_call 13; (with_reducible refine C13.mono ?_); rintro e w6 ⟨rfl, L6, h6, _⟩; have H6 := Aside0.mk h6; clear h6 C13))
  clear H3 H4 H5
  have C22 : Calls Try.prog 22 #[.pointer (some ⟨gl, 0, none⟩), .int .i64 7] w6 fun r w' => r = .returned (.tuple #[.string vy, .int .i64 0]) ∧ ∃ L', Lg w.heap.size L' 5 0 g 4 gl (flat l1) 16 8 8 false w w' ∧ Elj L6 L' 0 4 := by
    have := lread_ok H6.out rfl (by decide) 7 (by decide)
    rw [show (flat l1).seen.getD (8 + 7) ByteArray.empty = vy by rw [VY.out]; exact l1_15] at this
    exact this
  go_upto_region 9 with (go_at_call 22; (with_reducible refine C22.mono ?_); rintro e w7 ⟨rfl, L7, h7, _⟩; have H7 := Aside0.mk h7; clear h7)
  clear C22 H6
  have C22 : Calls Try.prog 22 #[.pointer (some ⟨gl, 0, none⟩), .int .i64 1] w7 fun r w' => r = .returned (.tuple #[.string vz, .int .i64 0]) ∧ ∃ L', Lg w.heap.size L' 5 0 g 4 gl (flat l1) 16 8 8 false w w' ∧ Elj L7 L' 0 4 := by
    have := lread_ok H7.out rfl (by decide) 1 (by decide)
    rw [show (flat l1).seen.getD (8 + 1) ByteArray.empty = vz by rw [VZ.out]; exact l1_9] at this
    exact this
  go_upto_region 10 with (go_at_call 22; (with_reducible refine C22.mono ?_); rintro e w8 ⟨rfl, L8, h8, _⟩; have H8 := Aside0.mk h8; clear h8)
  clear C22 H7
  go_upto_region 11 with (first
    | (go_at_call 11; (with_reducible refine (CBX _).mono ?_); rintro e w9 ⟨rfl, hb⟩; have H9 := Aside0.mk (H8.out.below hb); clear hb; have C13 : Calls Try.prog 13 #[.pointer (some ⟨gl, 0, none⟩), .slice (some ⟨w9.heap.size, 0, none⟩) 1 1] (w9.alloc (.cells #[.int .i64 8, .string vx] 35)) (fun r w' => r = .returned (.int .i64 1) ∧ Below w9.heap.size w9 w') := (by rw [VX.out]; have := refused_lit H9.out rfl [(8, bx)] (by decide) (by decide) (fun p hp => by rw [List.mem_singleton.1 hp]; exact wf_lit 8 (by decide) (by decide)) (by rw [js2]; decide); rw [js2] at this; exact this))
    | (go_at_call 13; (with_reducible refine C13.mono ?_); rintro e w10 ⟨rfl, hb⟩; have H10 := Aside0.mk (H9.out.below hb); clear hb C13))
  clear H8 H9
  have C13 : Calls Try.prog 13 #[.pointer (some ⟨gl, 0, none⟩), .slice none 0 0] w10 fun r w' => r = .returned (.int .i64 0) ∧ Below w10.heap.size w10 w' := by
    have := commit_refused none 0 [] H10.out rfl (fun _ W _ _ _ => C_nilW W) (by decide) (by decide) (fun p hp => by cases hp) (.inr rfl)
    rw [js3] at this
    exact this
  go_upto_region 12 with (go_at_call 13; (with_reducible refine C13.mono ?_); rintro e w11 ⟨rfl, hb⟩; have H11 := Aside0.mk (H10.out.below hb); clear hb)
  clear C13 H10
  go_upto_region 13 with (go_at_call 29; (with_reducible refine (at_fall H11.out.at_ 1 (by decide)).mono ?_); rintro e w12 ⟨rfl, L12, h12, e12⟩; have H12 := Aside0.mk (H11.out.step h12 e12); clear h12 e12)
  clear H11
  go_upto_region 14 with (first
    | (go_at_call 11; (with_reducible refine (CBY _).mono ?_); rintro e w13 ⟨rfl, hb⟩; have H13 := Aside0.mk (H12.out.below hb); clear hb; have C13 : Calls Try.prog 13 #[.pointer (some ⟨gl, 0, none⟩), .slice (some ⟨w13.heap.size, 0, none⟩) 1 1] (w13.alloc (.cells #[.int .i64 0, .string vy] 35)) (fun r w' => r = .returned (.int .i64 9) ∧ ∃ L', Lg w.heap.size L' 5 0 g 4 gl { flat l1 with off := true, opn := true } 16 13 8 true w w' ∧ Elj L12 L' 0 4) := (by rw [VY.out]; have := commit_lit H13.out rfl [(0, by_)] (by decide) (by decide) (by decide) (fun p hp => by rw [List.mem_singleton.1 hp]; exact wf_lit 0 (by decide) (by decide)) js4 (els_log _) (by decide); rw [commit_falls l1 8 (0, by_) [] (blk_size _) (by rw [l1_rest.len]; decide)] at this; exact this))
    | (go_at_call 13; (with_reducible refine C13.mono ?_); rintro e w14 ⟨rfl, L14, h14, _⟩; have H14 := Aside0.mk h14; clear h14 C13))
  clear H12 H13
  have C20 : Calls Try.prog 20 #[.pointer (some ⟨g, 0, none⟩), .slice none 0 0] w14 fun e w' => e = .returned (.tuple #[]) ∧ ∃ L', At w.heap.size L' 5 0 g (crashS { flat l1 with off := true, opn := true } []) 16 13 w w' ∧ Else L14 L' 0 := at_crash H14.out.at_ none 0 [] (C_nil _) (by decide) (fun a ha => by cases ha)
  go_upto_region 15 with (go_at_call 20; (with_reducible refine C20.mono ?_); rintro e w15 ⟨rfl, L15, h15, _⟩; have H15 := Aside0.mk h15; clear h15)
  clear C20 H14
  go_upto_region 16 with (go_at_call 21; (with_reducible refine (at_on H15.out).mono ?_); rintro e w16 ⟨rfl, L16, h16, _⟩; rw [(crash_rest l1).1] at h16; have H16 := Aside0.mk h16; clear h16)
  clear H15
  have CO9 : Calls Try.prog 9 #[.pointer (some ⟨g, 0, none⟩), .int .i64 9] w16 fun r w' => r = .returned (.tuple #[.pointer none, .int .i64 1]) ∧ Below w16.heap.size w16 w' := open_other H16.out rfl 9 (by decide) (by decide) 8 (by decide) l1_rest.zero (by decide)
  go_upto_region 17 with (go_at_call 9; (with_reducible refine CO9.mono ?_); rintro e w17 ⟨rfl, hb⟩; have H17 := Aside0.mk (H16.out.below hb); clear hb)
  clear CO9 H16
  have CO8 : Calls Try.prog 9 #[.pointer (some ⟨g, 0, none⟩), .int .i64 8] w17 fun r w' => ∃ gl L', r = .returned (.tuple #[.pointer (some ⟨gl, 0, none⟩), .int .i64 0]) ∧ Lg w.heap.size L' 6 0 g 5 gl (flat l1) 16 13 8 false w w' ∧ (∀ k, k < 5 → (k < 0 ∨ 0 + 4 ≤ k) → L' k = L16 k) := open_known H17.out (rest_quiet l1_rest (by decide)) 8 (by decide) (by decide) (by decide) l1_rest.zero
  go_upto_region 18 with (go_at_call 9; (with_reducible refine CO8.mono ?_); rintro e w18 ⟨gl2, L18, rfl, h18, _⟩; have H18 := Aside0.mk h18; clear h18)
  clear CO8 H17
  go_upto_region 20 with (first
    | (go_at_call 11; (with_reducible refine (CBY _).mono ?_); rintro e w19 ⟨rfl, hb⟩; have H19 := Aside0.mk (H18.out.below hb); clear hb H18)
    | (go_at_call 11; (with_reducible refine (CBE _).mono ?_); rintro e w20 ⟨rfl, hb⟩; have H20 := Aside0.mk (H19.out.below hb); clear hb H19))
  have C22 : Calls Try.prog 22 #[.pointer (some ⟨gl2, 0, none⟩), .int .i64 0] w20 fun r w' => r = .returned (.tuple #[.string vx, .int .i64 0]) ∧ ∃ L', Lg w.heap.size L' 6 0 g 5 gl2 (flat l1) 16 13 8 false w w' ∧ Elj L18 L' 0 5 := by
    have := lread_ok H20.out rfl (by decide) 0 (by decide)
    rw [show (flat l1).seen.getD (8 + 0) ByteArray.empty = vx by rw [VX.out]; exact l1_8] at this
    exact this
  go_wp2_with (first
    | (go_at_call 22; (with_reducible refine C22.mono ?_); rintro e w21 ⟨rfl, L21, h21, _⟩; have H21 := Aside0.mk h21; clear h21)
    | (go_at_call 11; (with_reducible refine (CBX _).mono ?_); rintro e w22 ⟨rfl, hb⟩; have H22 := Aside0.mk (H21.out.below hb); clear hb))
  go_ret
  exact ⟨rfl, H22.out.at_.bel⟩
end Go.Proofs.Ytfagljigaippiaa.Dk
