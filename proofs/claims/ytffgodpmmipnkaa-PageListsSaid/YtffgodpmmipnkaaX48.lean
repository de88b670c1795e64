-- By a program of this session (wip/xprint.py over the kit's print).
import Derived.Test.YtffgodpmmipnkaaX0
import Derived.Test.YtffgodpmmipnkaaX27
namespace Go.Proofs.Ytffgodpmmipnkaa.X
open Go.RowKit Go.Proofs.YtffgodpmmipnkaaW.PrintWords Go.Proofs.YtffgodpmmipnkaaW.PrintLast Go.Proofs.YtffgodpmmipnkaaW.PrintMore
attribute [local go_sem] max2_int min2_int max_two min_two max_three min_three max_four min_four Go.Proofs.Ytffgodpmmipnkaa.Z.leq_string Go.Proofs.Ytffgodpmmipnkaa.Z.gtr_string Go.Proofs.Ytffgodpmmipnkaa.Z.geq_string   -- for this text's walks alone
set_option linter.unusedVariables false
set_option linter.unusedSimpArgs false

/-! ### cofferref10_Split: function 26 -/
def cofferref10_Split.l0 : Nat → List (S37) → Int → Int → Int → Option ((List (S37)) × (List (S37)))
 | 0,_,_,_,_ => none
 | k + 1,x0,x4,x5,x6 => if x6 < (x0.length : Int) then (if 0 ≤ x6 then (if x6 ≤ (x0.length : Int) then ((cofferref10_Size.f k (x0.take (x6 : Int).toNat)).bind fun t410 => ((cofferref10_Size.f k (x0.drop (x6 : Int).toNat)).bind fun t415 => (if x5 < 0 then (cofferref10_Split.l0 k x0 x6 (mx t410 t415) (wrap64 (x6 + 1))) else (if (mx t410 t415) < x5 then (cofferref10_Split.l0 k x0 x6 (mx t410 t415) (wrap64 (x6 + 1))) else (cofferref10_Split.l0 k x0 x4 x5 (wrap64 (x6 + 1))))))) else (none)) else (none)) else (if 0 ≤ x4 then (if x4 ≤ (x0.length : Int) then ((some (x0.take (x4 : Int).toNat : List (S37))).bind fun y392 => (if ([] : List (S37)).length + y392.length < 4398046511104 then ((some (x0.drop (x4 : Int).toNat : List (S37))).bind fun y399 => (if ([] : List (S37)).length + y399.length < 4398046511104 then (some ((([] : List (S37)) ++ y392),(([] : List (S37)) ++ y399))) else (none))) else (none))) else (none)) else (none))
def cofferref10_Split.f (k : Nat) (l0 : List (S37)) : Option ((List (S37)) × (List (S37))):=cofferref10_Split.l0 k l0 (l0.length : Int) (-1) 1
theorem cofferref10_Split.mono_l : ∀ k,(∀ y0 y1 y2 y3,LeO (cofferref10_Split.l0 k y0 y1 y2 y3) (cofferref10_Split.l0 (k + 1) y0 y1 y2 y3))
 | 0 => fun _ _ _ _ r h => by simp [cofferref10_Split.l0] at h
 | k + 1 => by
  have ih0:=cofferref10_Split.mono_l k
  ·intro y0 y1 y2 y3
   unfold cofferref10_Split.l0
   repeat' first
   | (with_reducible exact ih0 _ _ _ _)
   | (with_reducible exact cofferref10_Size.mono _ _)
   | (with_reducible exact LeO.refl _)
   | (with_reducible exact LeO.none _)
   | (with_reducible refine LeO.ite ?_ ?_)
   | (with_reducible refine LeO.bind ?_ (fun _ => ?_))
   | exact ih0 _ _ _ _
   | exact cofferref10_Size.mono _ _
   | exact LeO.none _
   | refine LeO.ite ?_ ?_
   | refine LeO.bind ?_ (fun _ => ?_)
theorem cofferref10_Split.mono : ∀ a0 k,LeO (cofferref10_Split.f k a0) (cofferref10_Split.f (k + 1) a0):=by
 intro a0 k
 have ih0:=cofferref10_Split.mono_l k
 unfold cofferref10_Split.f
 repeat' first
  | (with_reducible exact ih0 _ _ _ _)
  | (with_reducible exact cofferref10_Size.mono _ _)
  | (with_reducible exact LeO.refl _)
  | (with_reducible exact LeO.none _)
  | (with_reducible refine LeO.ite ?_ ?_)
  | (with_reducible refine LeO.bind ?_ (fun _ => ?_))
  | exact ih0 _ _ _ _
  | exact cofferref10_Size.mono _ _
  | exact LeO.none _
  | refine LeO.ite ?_ ?_
  | refine LeO.bind ?_ (fun _ => ?_)
def cofferref10_Split.T6 : Bool × List (List Nat × List Nat):=(true,[([],[]),([],[]),([0,1],[0,1]),([2],[2]),([],[]),([],[]),([4,5],[4,5]),([6,3],[6]),([3,7],[3,7]),([8,7,0,1,2,3,4,5,6,7,8],[8])])
def cofferref10_Split.B6 : List Nat:=[0,0,3,7,0,0,48,127,255,511]
theorem cofferref10_Split.tab6 : rtab .any (opsOf Try.f26 6) = cofferref10_Split.T6:=by kernel_rfl
theorem cofferref10_Split.bits6 : waitsOk cofferref10_Split.T6.2 cofferref10_Split.B6 = true:=by kernel_rfl
def cofferref10_Split.T10 : Bool × List (List Nat × List Nat):=(true,[([],[]),([],[]),([0,1],[0,1]),([2],[2]),([],[]),([],[]),([4,5],[4,5]),([6,3],[6]),([3,7,0,1,2,3],[3]),([7,8,0,1,2,3,4,5,6,7,8],[7])])
def cofferref10_Split.B10 : List Nat:=[0,0,3,7,0,0,48,127,255,511]
theorem cofferref10_Split.tab10 : rtab .any (opsOf Try.f26 10) = cofferref10_Split.T10:=by kernel_rfl
theorem cofferref10_Split.bits10 : waitsOk cofferref10_Split.T10.2 cofferref10_Split.B10 = true:=by kernel_rfl
set_option maxHeartbeats 8000000 in
set_option maxRecDepth 100000 in
theorem cofferref10_Split.calls (k : Nat) (A0 : Option Addr) (c0 : Nat) (l0 : List (S37)) (r1 : List (S37)) (r2 : List (S37)) (w : World) (hr0 : Kd.C k37 w A0 l0.length l0) (hc0 : l0.length ≤ c0) (h : cofferref10_Split.f k l0 = some (r1,r2)) :
 Calls Try.prog 26 #[.slice A0 l0.length c0] w fun e w' => ∃ v0_ v1_ : Value,e = .returned (.tuple #[v0_,v1_]) ∧ Kd.R k37 37 w' w.heap.size (fun k_ => some k_ ≠ (v1_ : Value).ownBlock) v0_ r1 ∧ Kd.R k37 37 w' w.heap.size (fun k_ => some k_ ≠ (v0_ : Value).ownBlock) v1_ r2 ∧ Below w.heap.size w w':=by
 have HR0:=Aside0.mk hr0
 have HC0:=Aside0.mk hc0
 clear hr0 hc0
 have HB:=Aside0.mk (Below.refl w.heap.size w)
 have H : (cofferref10_Split.l0 k l0 (l0.length : Int) (-1) 1) = some (r1,r2):=h
 clear h
 have H':=Aside0.mk H
 clear H
 go_enter Try.func26,Try.ntmps26
 go_wp2
 go_loopg [4,5,6] k (fun kq v4 v5 v6 w' => ∃ (x4_1 : Int) (x5_1 : Int) (x6_1 : Int),v4 = .int .i64 x4_1 ∧ v5 = .int .i64 x5_1 ∧ v6 = .int .i64 x6_1 ∧ Aside0 (cofferref10_Split.l0 kq l0 x4_1 x5_1 x6_1 = some (r1,r2)) ∧ Aside0 (kq ≤ k) ∧ Aside0 (Below w.heap.size w w'))
 case atStart => exact ⟨((l0.length : Int)),((-1)),(1),(by first|rfl|(simp;done)|(simp [Go.Proofs.Ytffgodpmmipnkaa.Z.bne_nil,Go.Proofs.Ytffgodpmmipnkaa.Z.beq_nil];done)|(simp [*];done)),(by first|rfl|(simp;done)|(simp [Go.Proofs.Ytffgodpmmipnkaa.Z.bne_nil,Go.Proofs.Ytffgodpmmipnkaa.Z.beq_nil];done)|(simp [*];done)),(by first|rfl|(simp;done)|(simp [Go.Proofs.Ytffgodpmmipnkaa.Z.bne_nil,Go.Proofs.Ytffgodpmmipnkaa.Z.beq_nil];done)|(simp [*];done)),H',⟨Nat.le_refl _⟩,⟨by repeat (first|(with_reducible first|exact HB.out|apply below_alloc|apply pw_below_drewN|apply below_drew1)|exact HB.out)⟩⟩
 case round =>
  clear H'
  obtain ⟨x4_1,x5_1,x6_1,rfl,rfl,rfl,HA,HK1,HB⟩:=hrel
  cases gk with
  | zero => exact absurd HA.out (by simp [cofferref10_Split.l0])
  | succ k1 =>
   have H:=HA.out
   clear HA
   simp only [cofferref10_Split.l0] at H
   by_cases c2 : x6_1 < (l0.length : Int)
   ·rw [if_pos c2] at H
    have c2b0 : decide (x6_1 < (l0.length : Int)) = true:=decide_eq_true c2
    clear c2
    by_cases c3 : 0 ≤ x6_1
    ·rw [if_pos c3] at H
     have c3b0:=eq_true c3
     have c3b1 : decide (0 ≤ x6_1) = true:=decide_eq_true c3
     clear c3
     by_cases c4 : x6_1 ≤ (l0.length : Int)
     ·rw [if_pos c4] at H
      have c4b0:=eq_true c4
      have c4b1 : decide (x6_1 ≤ (l0.length : Int)) = true:=decide_eq_true c4
      clear c4
      obtain ⟨y406,hy406⟩ : ∃ y_ : List (S37),y_ = (l0.take (x6_1 : Int).toNat):=⟨_,rfl⟩
      replace H : ((cofferref10_Size.f k1 y406).bind fun t410 => ((cofferref10_Size.f k1 (l0.drop (x6_1 : Int).toNat)).bind fun t415 => (if x5_1 < 0 then (cofferref10_Split.l0 k1 l0 x6_1 (mx t410 t415) (wrap64 (x6_1 + 1))) else (if (mx t410 t415) < x5_1 then (cofferref10_Split.l0 k1 l0 x6_1 (mx t410 t415) (wrap64 (x6_1 + 1))) else (cofferref10_Split.l0 k1 l0 x4_1 x5_1 (wrap64 (x6_1 + 1))))))) = some (r1,r2):=by first|(rw [hy406];with_reducible exact H)|(have H2_:=(Option.bind_some _ _).symm.trans H;rw [hy406];with_reducible exact H2_)|(have H2_:=(Option.bind_some _ _).symm.trans H;with_reducible exact H2_)|with_reducible exact H|(rw [hy406];exact H)|exact H
      have Ny406:=Aside0.mk hy406
      clear hy406
      replace H:=Option.bind_eq_some_iff.mp H
      obtain ⟨t410,A50,H⟩:=H
      replace H : ((cofferref10_Size.f k1 (l0.drop (x6_1 : Int).toNat)).bind fun t415 => (if x5_1 < 0 then (cofferref10_Split.l0 k1 l0 x6_1 (mx t410 t415) (wrap64 (x6_1 + 1))) else (if (mx t410 t415) < x5_1 then (cofferref10_Split.l0 k1 l0 x6_1 (mx t410 t415) (wrap64 (x6_1 + 1))) else (cofferref10_Split.l0 k1 l0 x4_1 x5_1 (wrap64 (x6_1 + 1)))))) = some (r1,r2):=H
      have A5:=Aside0.mk A50
      clear A50
      have c6b0:=eq_true (of_decide_eq_true (by first|(with_reducible assumption)|assumption) : 0 ≤ x6_1)
      have c7b0:=eq_true (of_decide_eq_true (by first|(with_reducible assumption)|assumption) : x6_1 ≤ (l0.length : Int))
      obtain ⟨y411,hy411⟩ : ∃ y_ : List (S37),y_ = (l0.drop (x6_1 : Int).toNat):=⟨_,rfl⟩
      replace H : ((cofferref10_Size.f k1 y411).bind fun t415 => (if x5_1 < 0 then (cofferref10_Split.l0 k1 l0 x6_1 (mx t410 t415) (wrap64 (x6_1 + 1))) else (if (mx t410 t415) < x5_1 then (cofferref10_Split.l0 k1 l0 x6_1 (mx t410 t415) (wrap64 (x6_1 + 1))) else (cofferref10_Split.l0 k1 l0 x4_1 x5_1 (wrap64 (x6_1 + 1)))))) = some (r1,r2):=by first|(rw [hy411];with_reducible exact H)|(have H2_:=(Option.bind_some _ _).symm.trans H;rw [hy411];with_reducible exact H2_)|(have H2_:=(Option.bind_some _ _).symm.trans H;with_reducible exact H2_)|with_reducible exact H|(rw [hy411];exact H)|exact H
      have Ny411:=Aside0.mk hy411
      clear hy411
      replace H:=Option.bind_eq_some_iff.mp H
      obtain ⟨t415,A80,H⟩:=H
      replace H : (if x5_1 < 0 then (cofferref10_Split.l0 k1 l0 x6_1 (mx t410 t415) (wrap64 (x6_1 + 1))) else (if (mx t410 t415) < x5_1 then (cofferref10_Split.l0 k1 l0 x6_1 (mx t410 t415) (wrap64 (x6_1 + 1))) else (cofferref10_Split.l0 k1 l0 x4_1 x5_1 (wrap64 (x6_1 + 1))))) = some (r1,r2):=H
      have A8:=Aside0.mk A80
      clear A80
      obtain ⟨ji9,hji9⟩ : ∃ j_ : Int,(mx t410 t415) = j_:=⟨_,rfl⟩
      replace H : (if x5_1 < 0 then (cofferref10_Split.l0 k1 l0 x6_1 ji9 (wrap64 (x6_1 + 1))) else (if (ji9) < x5_1 then (cofferref10_Split.l0 k1 l0 x6_1 ji9 (wrap64 (x6_1 + 1))) else (cofferref10_Split.l0 k1 l0 x4_1 x5_1 (wrap64 (x6_1 + 1))))) = some (r1,r2):=by first|(rw [hji9] at H;exact H)|(simp only [hji9] at H ⊢;exact H)
      (try rw [hji9] at A5)
      (try rw [hji9] at A8)
      have hji9_ : (if t410 < t415 then t415 else t410) = ji9:=hji9
      by_cases c10 : x5_1 < 0
      ·rw [if_pos c10] at H
       have c10b0 : decide (x5_1 < 0) = true:=decide_eq_true c10
       clear c10
       have H':=Aside0.mk H
       clear H
       try go_wp2
       have n0_:=Aside0.mk (below_drew1 HB.out)
       clear HB
       have HB:=n0_
       clear n0_
       have q12 : (x6_1 : Int) ≤ ((l0.length : Int) : Int):=of_decide_eq_true (by first|(with_reducible assumption)|assumption)
       obtain ⟨i012,hi012,_,hsz12,_⟩:=info_parts info37
       have hroom12 : l0.length ≤ c0:=HC0.out
       have hC12 : Kd.C k37 _ A0 l0.length l0:=HR0.out
       have hcut12:=cut_to (P:=Try.prog) 22 37 .i64 Try.underlying22 hi012 A0 l0.length c0 x6_1 (of_decide_eq_true (by first|(with_reducible assumption)|assumption)) q12 hroom12
       have hr12:=Kd.C_take (m:=(x6_1 : Int).toNat) hC12 (by omega)
       have hy12 : y406.length = (x6_1 : Int).toNat:=(by rw [Ny406.out,List.length_take];omega)
       rw [← Ny406.out] at hr12
       rw [← hy12] at hcut12
       have HR409:=Aside0.mk hr12
       have HC409:=Aside0.mk (show y406.length ≤ c0 from by omega)
       clear hr12 hC12 hroom12 hi012 hsz12
       have KY12:=Aside0.mk hy12
       clear hy12
       replace q12:=eq_true q12
       have q13 : (x6_1 : Int) ≤ ((l0.length : Int) : Int):=of_decide_eq_true (by first|(with_reducible assumption)|assumption)
       obtain ⟨i013,hi013,_,hsz13,_⟩:=info_parts info37
       have hroom13 : l0.length ≤ c0:=HC0.out
       have hC13 : Kd.C k37 _ A0 l0.length l0:=HR0.out
       have q013 : (0 : Int) ≤ (x6_1 : Int):=of_decide_eq_true (by first|(with_reducible assumption)|assumption)
       have hcut13:=cut_from (P:=Try.prog) 22 37 .i64 Try.underlying22 hi013 2 hsz13 A0 l0.length c0 x6_1 q013 q13
       have hr13:=Kd.C_drop (m:=(x6_1 : Int).toNat) (c:=c0) hC13 (by omega) hroom13
       obtain ⟨A13,hA13⟩ : ∃ A1,A1 = (if c0 = (x6_1 : Int).toNat then A0 else (A0 : Option Addr).map (·.add ((x6_1 : Int).toNat * 2))):=⟨_,rfl⟩
       obtain ⟨c13,hc13⟩ : ∃ c1,c1 = c0 - (x6_1 : Int).toNat:=⟨_,rfl⟩
       have hy13 : y411.length = l0.length - (x6_1 : Int).toNat:=(by rw [Ny411.out,List.length_drop] <;> omega)
       rw [show (l0).drop (x6_1 : Int).toNat = y411 from Ny411.out.symm] at hr13
       replace hr13 : Kd.C k37 _ A13 y411.length y411:=(by rw [hA13];exact hr13)
       rw [← hy13,← hA13,← hc13] at hcut13
       have HR414:=Aside0.mk hr13
       have HC414:=Aside0.mk (show y411.length ≤ c13 from by rw [hy13,hc13];exact Nat.sub_le_sub_right hroom13 _)
       clear hr13 hC13 hroom13 hi013 hsz13 hc13
       have KY13:=Aside0.mk hy13
       have KA13:=Aside0.mk hA13
       clear hy13 hA13
       replace q13:=eq_true q13
       refine start_ (n:=10) (S:=fun w' => True) (ds:=[]) #[false,false,false,false,false,false,false,false,false,false] (by kernel_rfl) rfl rfl trivial (fun hHeld => ?_);refine with_tabW cofferref10_Split.tab6 cofferref10_Split.bits6 (fun HT_ HW_ => ?_)
       generalize wr.drew = w11 at HB HR409 HR414 hHeld ⊢
       refine pure_ (i:=0) (N:=some 16) (v:=?_) (a':=?_) #[true,false,false,false,false,false,false,false,false,false] rfl rfl (any_of HT_.out (by kernel_rfl)) (fun _ _ _ h => h) (Or.inl ⟨by rfl,?_⟩) ?_ ?_
       rotate_left
       ·intro w'
        go_simp
        with_reducible rfl
       rotate_left
       ·simp only [Act.put,List.setIfInBounds_toArray,List.set_cons_zero,List.set_cons_succ,i64_w,i32_w]
        rfl
       refine pure_ (i:=1) (N:=some 17) (v:=?_) (a':=?_) #[true,true,false,false,false,false,false,false,false,false] rfl rfl (any_of HT_.out (by kernel_rfl)) (fun _ _ _ h => h) (Or.inl ⟨by rfl,?_⟩) ?_ ?_
       rotate_left
       ·intro w'
        go_simp
        with_reducible rfl
       rotate_left
       ·simp only [Act.put,List.setIfInBounds_toArray,List.set_cons_zero,List.set_cons_succ,i64_w,i32_w]
        rfl
       refine pure_ (i:=2) (N:=some 18) (v:=?_) (a':=?_) #[true,true,true,false,false,false,false,false,false,false] rfl rfl (any_of HT_.out (by kernel_rfl)) (fun _ _ _ h => h) (Or.inl ⟨by rfl,?_⟩) ?_ ?_
       rotate_left
       ·intro w'
        go_simp
        with_reducible rfl
       rotate_left
       ·simp only [Act.put,List.setIfInBounds_toArray,List.set_cons_zero,List.set_cons_succ,i64_w,i32_w]
        rfl
       refine pure_ (i:=4) (N:=some 20) (v:=?_) (a':=?_) #[true,true,true,false,true,false,false,false,false,false] rfl rfl (any_of HT_.out (by kernel_rfl)) (fun _ _ _ h => h) (Or.inl ⟨by rfl,?_⟩) ?_ ?_
       rotate_left
       ·intro w'
        go_simp
        with_reducible rfl
       rotate_left
       ·simp only [Act.put,List.setIfInBounds_toArray,List.set_cons_zero,List.set_cons_succ,i64_w,i32_w]
        rfl
       refine pure_ (i:=5) (N:=some 21) (v:=?_) (a':=?_) #[true,true,true,false,true,true,false,false,false,false] rfl rfl (any_of HT_.out (by kernel_rfl)) (fun _ _ _ h => h) (Or.inl ⟨by rfl,?_⟩) ?_ ?_
       rotate_left
       ·intro w'
        go_simp
        with_reducible rfl
       rotate_left
       ·simp only [Act.put,List.setIfInBounds_toArray,List.set_cons_zero,List.set_cons_succ,i64_w,i32_w]
        rfl
       refine pure_ (i:=6) (N:=some 22) (v:=?_) (a':=?_) #[true,true,true,false,true,true,true,false,false,false] rfl rfl (any_of HT_.out (by kernel_rfl)) (fun _ _ _ h => h) (Or.inl ⟨by rfl,?_⟩) ?_ ?_
       rotate_left
       ·intro w'
        go_simp
        with_reducible rfl
       rotate_left
       ·simp only [Act.put,List.setIfInBounds_toArray,List.set_cons_zero,List.set_cons_succ,i64_w,i32_w]
        rfl
       refine one_ (i:=3) (N:=some 19) #[true,true,true,true,true,true,true,false,false,false] rfl rfl (one_of HT_.out (by kernel_rfl)) (by decide) (fun K hK => ?_)
       refine goes_ Try.func17 (by kernel_rfl) rfl #[.slice A0 y406.length c0] (by rfl) rfl rfl (by (try simp only [List.map_toArray,List.map_cons,List.map_nil]);first|done|rfl|(simp only [List.length_drop,List.length_take];rfl)) ?_
       with_reducible refine (cofferref10_Size.calls k1 _ _ y406 t410 _ ?side1 ?side2 A5.out).mono ?_
       (case side1 => repeat (first|exact (Kd.C_below HR409.out HB.out)|(with_reducible refine Kd.C_alloc ?_ _)|(with_reducible refine Kd.C_drewN ?_ _)|(with_reducible refine Kd.C_drew ?_)))
       (case side2 => exact HC409.out)
       rintro e w' ⟨rfl,⟨nd,rfl⟩⟩
       refine ⟨_,rfl,?_⟩
       refine hK.out _ _ trivial (fun hHeld => ?_)
       clear hK K
       refine norm_ (a':=?_) ?_ ?_
       rotate_left
       ·show Act.put _ (some 19) _ = _
        simp only [Act.put,List.setIfInBounds_toArray,List.set_cons_zero,List.set_cons_succ,i64_w,i32_w]
        rfl
       refine one_ (i:=7) (N:=some 23) #[true,true,true,true,true,true,true,true,false,false] rfl rfl (one_of HT_.out (by kernel_rfl)) (by decide) (fun K hK => ?_)
       refine goes_ Try.func17 (by kernel_rfl) rfl #[.slice A13 y411.length c13] (by rfl) rfl rfl (by (try simp only [List.map_toArray,List.map_cons,List.map_nil]);first|done|rfl|(simp only [List.length_drop,List.length_take];rfl)) ?_
       with_reducible refine (cofferref10_Size.calls k1 _ _ y411 t415 _ ?side1 ?side2 A8.out).mono ?_
       (case side1 => repeat (first|exact (Kd.C_below HR414.out (by repeat (first|(with_reducible first|exact HB.out|apply below_alloc|apply pw_below_drewN|apply below_drew1)|exact HB.out)))|(with_reducible refine Kd.C_alloc ?_ _)|(with_reducible refine Kd.C_drewN ?_ _)|(with_reducible refine Kd.C_drew ?_)))
       (case side2 => exact HC414.out)
       rintro e w' ⟨rfl,⟨nd,rfl⟩⟩
       refine ⟨_,rfl,?_⟩
       refine hK.out _ _ trivial (fun hHeld => ?_)
       clear hK K
       refine norm_ (a':=?_) ?_ ?_
       rotate_left
       ·show Act.put _ (some 23) _ = _
        simp only [Act.put,List.setIfInBounds_toArray,List.set_cons_zero,List.set_cons_succ,i64_w,i32_w]
        rfl
       refine pure_ (i:=8) (N:=some 24) (v:=?_) (a':=?_) #[true,true,true,true,true,true,true,true,true,false] rfl rfl (any_of HT_.out (by kernel_rfl)) (fun _ _ _ h => h) (Or.inl ⟨by rfl,?_⟩) ?_ ?_
       rotate_left
       ·intro w'
        go_simp
        with_reducible rfl
       rotate_left
       ·simp only [Act.put,List.setIfInBounds_toArray,List.set_cons_zero,List.set_cons_succ,i64_w,i32_w]
        rfl
       refine pure_ (i:=9) (N:=some 7) (v:=?_) (a':=?_) #[true,true,true,true,true,true,true,true,true,true] rfl rfl (any_of HT_.out (by kernel_rfl)) (fun _ _ _ h => h) (Or.inl ⟨by rfl,?_⟩) ?_ ?_
       rotate_left
       ·intro w'
        go_simp
        with_reducible rfl
       rotate_left
       ·simp only [Act.put,List.setIfInBounds_toArray,List.set_cons_zero,List.set_cons_succ,i64_w,i32_w]
        rfl
       refine done_ (done_of HT_.out (by kernel_rfl)) ?_
       try go_wp2
       go_roundg k1
       case measure => have:=HK1.out;omega
       case rel => exact ⟨(x6_1),(ji9),(wrap64 (x6_1 + 1)),(by first|rfl|(simp;done)|(simp [Go.Proofs.Ytffgodpmmipnkaa.Z.bne_nil,Go.Proofs.Ytffgodpmmipnkaa.Z.beq_nil];done)|(simp [*];done)),(by first|rfl|(simp;done)|(simp only [← hji9] <;> (first|rfl|simp))|(simp [*];done)),(by first|rfl|(simp;done)|(simp [Go.Proofs.Ytffgodpmmipnkaa.Z.bne_nil,Go.Proofs.Ytffgodpmmipnkaa.Z.beq_nil];done)|(simp [*];done)),H',⟨by have:=HK1.out;omega⟩,⟨by repeat (first|(with_reducible first|exact HB.out|apply below_alloc|apply pw_below_drewN|apply below_drew1)|exact HB.out)⟩⟩
      ·rw [if_neg c10] at H
       have c10b0 : decide (x5_1 < 0) = false:=decide_eq_false c10
       clear c10
       by_cases c14 : (ji9) < x5_1
       ·rw [if_pos c14] at H
        have c14b0 : decide ((ji9) < x5_1) = true:=decide_eq_true c14
        clear c14
        have H':=Aside0.mk H
        clear H
        try go_wp2
        have n0_:=Aside0.mk (below_drew1 HB.out)
        clear HB
        have HB:=n0_
        clear n0_
        have q16 : (x6_1 : Int) ≤ ((l0.length : Int) : Int):=of_decide_eq_true (by first|(with_reducible assumption)|assumption)
        obtain ⟨i016,hi016,_,hsz16,_⟩:=info_parts info37
        have hroom16 : l0.length ≤ c0:=HC0.out
        have hC16 : Kd.C k37 _ A0 l0.length l0:=HR0.out
        have hcut16:=cut_to (P:=Try.prog) 22 37 .i64 Try.underlying22 hi016 A0 l0.length c0 x6_1 (of_decide_eq_true (by first|(with_reducible assumption)|assumption)) q16 hroom16
        have hr16:=Kd.C_take (m:=(x6_1 : Int).toNat) hC16 (by omega)
        have hy16 : y406.length = (x6_1 : Int).toNat:=(by rw [Ny406.out,List.length_take];omega)
        rw [← Ny406.out] at hr16
        rw [← hy16] at hcut16
        have HR409:=Aside0.mk hr16
        have HC409:=Aside0.mk (show y406.length ≤ c0 from by omega)
        clear hr16 hC16 hroom16 hi016 hsz16
        have KY16:=Aside0.mk hy16
        clear hy16
        replace q16:=eq_true q16
        have q17 : (x6_1 : Int) ≤ ((l0.length : Int) : Int):=of_decide_eq_true (by first|(with_reducible assumption)|assumption)
        obtain ⟨i017,hi017,_,hsz17,_⟩:=info_parts info37
        have hroom17 : l0.length ≤ c0:=HC0.out
        have hC17 : Kd.C k37 _ A0 l0.length l0:=HR0.out
        have q017 : (0 : Int) ≤ (x6_1 : Int):=of_decide_eq_true (by first|(with_reducible assumption)|assumption)
        have hcut17:=cut_from (P:=Try.prog) 22 37 .i64 Try.underlying22 hi017 2 hsz17 A0 l0.length c0 x6_1 q017 q17
        have hr17:=Kd.C_drop (m:=(x6_1 : Int).toNat) (c:=c0) hC17 (by omega) hroom17
        obtain ⟨A17,hA17⟩ : ∃ A1,A1 = (if c0 = (x6_1 : Int).toNat then A0 else (A0 : Option Addr).map (·.add ((x6_1 : Int).toNat * 2))):=⟨_,rfl⟩
        obtain ⟨c17,hc17⟩ : ∃ c1,c1 = c0 - (x6_1 : Int).toNat:=⟨_,rfl⟩
        have hy17 : y411.length = l0.length - (x6_1 : Int).toNat:=(by rw [Ny411.out,List.length_drop] <;> omega)
        rw [show (l0).drop (x6_1 : Int).toNat = y411 from Ny411.out.symm] at hr17
        replace hr17 : Kd.C k37 _ A17 y411.length y411:=(by rw [hA17];exact hr17)
        rw [← hy17,← hA17,← hc17] at hcut17
        have HR414:=Aside0.mk hr17
        have HC414:=Aside0.mk (show y411.length ≤ c17 from by rw [hy17,hc17];exact Nat.sub_le_sub_right hroom17 _)
        clear hr17 hC17 hroom17 hi017 hsz17 hc17
        have KY17:=Aside0.mk hy17
        have KA17:=Aside0.mk hA17
        clear hy17 hA17
        replace q17:=eq_true q17
        refine start_ (n:=10) (S:=fun w' => True) (ds:=[]) #[false,false,false,false,false,false,false,false,false,false] (by kernel_rfl) rfl rfl trivial (fun hHeld => ?_);refine with_tabW cofferref10_Split.tab6 cofferref10_Split.bits6 (fun HT_ HW_ => ?_)
        generalize wr.drew = w15 at HB HR409 HR414 hHeld ⊢
        refine pure_ (i:=0) (N:=some 16) (v:=?_) (a':=?_) #[true,false,false,false,false,false,false,false,false,false] rfl rfl (any_of HT_.out (by kernel_rfl)) (fun _ _ _ h => h) (Or.inl ⟨by rfl,?_⟩) ?_ ?_
        rotate_left
        ·intro w'
         go_simp
         with_reducible rfl
        rotate_left
        ·simp only [Act.put,List.setIfInBounds_toArray,List.set_cons_zero,List.set_cons_succ,i64_w,i32_w]
         rfl
        refine pure_ (i:=1) (N:=some 17) (v:=?_) (a':=?_) #[true,true,false,false,false,false,false,false,false,false] rfl rfl (any_of HT_.out (by kernel_rfl)) (fun _ _ _ h => h) (Or.inl ⟨by rfl,?_⟩) ?_ ?_
        rotate_left
        ·intro w'
         go_simp
         with_reducible rfl
        rotate_left
        ·simp only [Act.put,List.setIfInBounds_toArray,List.set_cons_zero,List.set_cons_succ,i64_w,i32_w]
         rfl
        refine pure_ (i:=2) (N:=some 18) (v:=?_) (a':=?_) #[true,true,true,false,false,false,false,false,false,false] rfl rfl (any_of HT_.out (by kernel_rfl)) (fun _ _ _ h => h) (Or.inl ⟨by rfl,?_⟩) ?_ ?_
        rotate_left
        ·intro w'
         go_simp
         with_reducible rfl
        rotate_left
        ·simp only [Act.put,List.setIfInBounds_toArray,List.set_cons_zero,List.set_cons_succ,i64_w,i32_w]
         rfl
        refine pure_ (i:=4) (N:=some 20) (v:=?_) (a':=?_) #[true,true,true,false,true,false,false,false,false,false] rfl rfl (any_of HT_.out (by kernel_rfl)) (fun _ _ _ h => h) (Or.inl ⟨by rfl,?_⟩) ?_ ?_
        rotate_left
        ·intro w'
         go_simp
         with_reducible rfl
        rotate_left
        ·simp only [Act.put,List.setIfInBounds_toArray,List.set_cons_zero,List.set_cons_succ,i64_w,i32_w]
         rfl
        refine pure_ (i:=5) (N:=some 21) (v:=?_) (a':=?_) #[true,true,true,false,true,true,false,false,false,false] rfl rfl (any_of HT_.out (by kernel_rfl)) (fun _ _ _ h => h) (Or.inl ⟨by rfl,?_⟩) ?_ ?_
        rotate_left
        ·intro w'
         go_simp
         with_reducible rfl
        rotate_left
        ·simp only [Act.put,List.setIfInBounds_toArray,List.set_cons_zero,List.set_cons_succ,i64_w,i32_w]
         rfl
        refine pure_ (i:=6) (N:=some 22) (v:=?_) (a':=?_) #[true,true,true,false,true,true,true,false,false,false] rfl rfl (any_of HT_.out (by kernel_rfl)) (fun _ _ _ h => h) (Or.inl ⟨by rfl,?_⟩) ?_ ?_
        rotate_left
        ·intro w'
         go_simp
         with_reducible rfl
        rotate_left
        ·simp only [Act.put,List.setIfInBounds_toArray,List.set_cons_zero,List.set_cons_succ,i64_w,i32_w]
         rfl
        refine one_ (i:=3) (N:=some 19) #[true,true,true,true,true,true,true,false,false,false] rfl rfl (one_of HT_.out (by kernel_rfl)) (by decide) (fun K hK => ?_)
        refine goes_ Try.func17 (by kernel_rfl) rfl #[.slice A0 y406.length c0] (by rfl) rfl rfl (by (try simp only [List.map_toArray,List.map_cons,List.map_nil]);first|done|rfl|(simp only [List.length_drop,List.length_take];rfl)) ?_
        with_reducible refine (cofferref10_Size.calls k1 _ _ y406 t410 _ ?side1 ?side2 A5.out).mono ?_
        (case side1 => repeat (first|exact (Kd.C_below HR409.out HB.out)|(with_reducible refine Kd.C_alloc ?_ _)|(with_reducible refine Kd.C_drewN ?_ _)|(with_reducible refine Kd.C_drew ?_)))
        (case side2 => exact HC409.out)
        rintro e w' ⟨rfl,⟨nd,rfl⟩⟩
        refine ⟨_,rfl,?_⟩
        refine hK.out _ _ trivial (fun hHeld => ?_)
        clear hK K
        refine norm_ (a':=?_) ?_ ?_
        rotate_left
        ·show Act.put _ (some 19) _ = _
         simp only [Act.put,List.setIfInBounds_toArray,List.set_cons_zero,List.set_cons_succ,i64_w,i32_w]
         rfl
        refine one_ (i:=7) (N:=some 23) #[true,true,true,true,true,true,true,true,false,false] rfl rfl (one_of HT_.out (by kernel_rfl)) (by decide) (fun K hK => ?_)
        refine goes_ Try.func17 (by kernel_rfl) rfl #[.slice A17 y411.length c17] (by rfl) rfl rfl (by (try simp only [List.map_toArray,List.map_cons,List.map_nil]);first|done|rfl|(simp only [List.length_drop,List.length_take];rfl)) ?_
        with_reducible refine (cofferref10_Size.calls k1 _ _ y411 t415 _ ?side1 ?side2 A8.out).mono ?_
        (case side1 => repeat (first|exact (Kd.C_below HR414.out (by repeat (first|(with_reducible first|exact HB.out|apply below_alloc|apply pw_below_drewN|apply below_drew1)|exact HB.out)))|(with_reducible refine Kd.C_alloc ?_ _)|(with_reducible refine Kd.C_drewN ?_ _)|(with_reducible refine Kd.C_drew ?_)))
        (case side2 => exact HC414.out)
        rintro e w' ⟨rfl,⟨nd,rfl⟩⟩
        refine ⟨_,rfl,?_⟩
        refine hK.out _ _ trivial (fun hHeld => ?_)
        clear hK K
        refine norm_ (a':=?_) ?_ ?_
        rotate_left
        ·show Act.put _ (some 23) _ = _
         simp only [Act.put,List.setIfInBounds_toArray,List.set_cons_zero,List.set_cons_succ,i64_w,i32_w]
         rfl
        refine pure_ (i:=8) (N:=some 24) (v:=?_) (a':=?_) #[true,true,true,true,true,true,true,true,true,false] rfl rfl (any_of HT_.out (by kernel_rfl)) (fun _ _ _ h => h) (Or.inl ⟨by rfl,?_⟩) ?_ ?_
        rotate_left
        ·intro w'
         go_simp
         with_reducible rfl
        rotate_left
        ·simp only [Act.put,List.setIfInBounds_toArray,List.set_cons_zero,List.set_cons_succ,i64_w,i32_w]
         rfl
        refine pure_ (i:=9) (N:=some 7) (v:=?_) (a':=?_) #[true,true,true,true,true,true,true,true,true,true] rfl rfl (any_of HT_.out (by kernel_rfl)) (fun _ _ _ h => h) (Or.inl ⟨by rfl,?_⟩) ?_ ?_
        rotate_left
        ·intro w'
         go_simp
         with_reducible rfl
        rotate_left
        ·simp only [Act.put,List.setIfInBounds_toArray,List.set_cons_zero,List.set_cons_succ,i64_w,i32_w]
         rfl
        refine done_ (done_of HT_.out (by kernel_rfl)) ?_
        try go_wp2
        go_roundg k1
        case measure => have:=HK1.out;omega
        case rel => exact ⟨(x6_1),(ji9),(wrap64 (x6_1 + 1)),(by first|rfl|(simp;done)|(simp [Go.Proofs.Ytffgodpmmipnkaa.Z.bne_nil,Go.Proofs.Ytffgodpmmipnkaa.Z.beq_nil];done)|(simp [*];done)),(by first|rfl|(simp;done)|(simp only [← hji9] <;> (first|rfl|simp))|(simp [*];done)),(by first|rfl|(simp;done)|(simp [Go.Proofs.Ytffgodpmmipnkaa.Z.bne_nil,Go.Proofs.Ytffgodpmmipnkaa.Z.beq_nil];done)|(simp [*];done)),H',⟨by have:=HK1.out;omega⟩,⟨by repeat (first|(with_reducible first|exact HB.out|apply below_alloc|apply pw_below_drewN|apply below_drew1)|exact HB.out)⟩⟩
       ·rw [if_neg c14] at H
        have c14b0 : decide ((ji9) < x5_1) = false:=decide_eq_false c14
        clear c14
        have H':=Aside0.mk H
        clear H
        try go_wp2
        have n0_:=Aside0.mk (below_drew1 HB.out)
        clear HB
        have HB:=n0_
        clear n0_
        have q19 : (x6_1 : Int) ≤ ((l0.length : Int) : Int):=of_decide_eq_true (by first|(with_reducible assumption)|assumption)
        obtain ⟨i019,hi019,_,hsz19,_⟩:=info_parts info37
        have hroom19 : l0.length ≤ c0:=HC0.out
        have hC19 : Kd.C k37 _ A0 l0.length l0:=HR0.out
        have hcut19:=cut_to (P:=Try.prog) 22 37 .i64 Try.underlying22 hi019 A0 l0.length c0 x6_1 (of_decide_eq_true (by first|(with_reducible assumption)|assumption)) q19 hroom19
        have hr19:=Kd.C_take (m:=(x6_1 : Int).toNat) hC19 (by omega)
        have hy19 : y406.length = (x6_1 : Int).toNat:=(by rw [Ny406.out,List.length_take];omega)
        rw [← Ny406.out] at hr19
        rw [← hy19] at hcut19
        have HR409:=Aside0.mk hr19
        have HC409:=Aside0.mk (show y406.length ≤ c0 from by omega)
        clear hr19 hC19 hroom19 hi019 hsz19
        have KY19:=Aside0.mk hy19
        clear hy19
        replace q19:=eq_true q19
        have q20 : (x6_1 : Int) ≤ ((l0.length : Int) : Int):=of_decide_eq_true (by first|(with_reducible assumption)|assumption)
        obtain ⟨i020,hi020,_,hsz20,_⟩:=info_parts info37
        have hroom20 : l0.length ≤ c0:=HC0.out
        have hC20 : Kd.C k37 _ A0 l0.length l0:=HR0.out
        have q020 : (0 : Int) ≤ (x6_1 : Int):=of_decide_eq_true (by first|(with_reducible assumption)|assumption)
        have hcut20:=cut_from (P:=Try.prog) 22 37 .i64 Try.underlying22 hi020 2 hsz20 A0 l0.length c0 x6_1 q020 q20
        have hr20:=Kd.C_drop (m:=(x6_1 : Int).toNat) (c:=c0) hC20 (by omega) hroom20
        obtain ⟨A20,hA20⟩ : ∃ A1,A1 = (if c0 = (x6_1 : Int).toNat then A0 else (A0 : Option Addr).map (·.add ((x6_1 : Int).toNat * 2))):=⟨_,rfl⟩
        obtain ⟨c20,hc20⟩ : ∃ c1,c1 = c0 - (x6_1 : Int).toNat:=⟨_,rfl⟩
        have hy20 : y411.length = l0.length - (x6_1 : Int).toNat:=(by rw [Ny411.out,List.length_drop] <;> omega)
        rw [show (l0).drop (x6_1 : Int).toNat = y411 from Ny411.out.symm] at hr20
        replace hr20 : Kd.C k37 _ A20 y411.length y411:=(by rw [hA20];exact hr20)
        rw [← hy20,← hA20,← hc20] at hcut20
        have HR414:=Aside0.mk hr20
        have HC414:=Aside0.mk (show y411.length ≤ c20 from by rw [hy20,hc20];exact Nat.sub_le_sub_right hroom20 _)
        clear hr20 hC20 hroom20 hi020 hsz20 hc20
        have KY20:=Aside0.mk hy20
        have KA20:=Aside0.mk hA20
        clear hy20 hA20
        replace q20:=eq_true q20
        refine start_ (n:=10) (S:=fun w' => True) (ds:=[]) #[false,false,false,false,false,false,false,false,false,false] (by kernel_rfl) rfl rfl trivial (fun hHeld => ?_);refine with_tabW cofferref10_Split.tab6 cofferref10_Split.bits6 (fun HT_ HW_ => ?_)
        generalize wr.drew = w18 at HB HR409 HR414 hHeld ⊢
        refine pure_ (i:=0) (N:=some 16) (v:=?_) (a':=?_) #[true,false,false,false,false,false,false,false,false,false] rfl rfl (any_of HT_.out (by kernel_rfl)) (fun _ _ _ h => h) (Or.inl ⟨by rfl,?_⟩) ?_ ?_
        rotate_left
        ·intro w'
         go_simp
         with_reducible rfl
        rotate_left
        ·simp only [Act.put,List.setIfInBounds_toArray,List.set_cons_zero,List.set_cons_succ,i64_w,i32_w]
         rfl
        refine pure_ (i:=1) (N:=some 17) (v:=?_) (a':=?_) #[true,true,false,false,false,false,false,false,false,false] rfl rfl (any_of HT_.out (by kernel_rfl)) (fun _ _ _ h => h) (Or.inl ⟨by rfl,?_⟩) ?_ ?_
        rotate_left
        ·intro w'
         go_simp
         with_reducible rfl
        rotate_left
        ·simp only [Act.put,List.setIfInBounds_toArray,List.set_cons_zero,List.set_cons_succ,i64_w,i32_w]
         rfl
        refine pure_ (i:=2) (N:=some 18) (v:=?_) (a':=?_) #[true,true,true,false,false,false,false,false,false,false] rfl rfl (any_of HT_.out (by kernel_rfl)) (fun _ _ _ h => h) (Or.inl ⟨by rfl,?_⟩) ?_ ?_
        rotate_left
        ·intro w'
         go_simp
         with_reducible rfl
        rotate_left
        ·simp only [Act.put,List.setIfInBounds_toArray,List.set_cons_zero,List.set_cons_succ,i64_w,i32_w]
         rfl
        refine pure_ (i:=4) (N:=some 20) (v:=?_) (a':=?_) #[true,true,true,false,true,false,false,false,false,false] rfl rfl (any_of HT_.out (by kernel_rfl)) (fun _ _ _ h => h) (Or.inl ⟨by rfl,?_⟩) ?_ ?_
        rotate_left
        ·intro w'
         go_simp
         with_reducible rfl
        rotate_left
        ·simp only [Act.put,List.setIfInBounds_toArray,List.set_cons_zero,List.set_cons_succ,i64_w,i32_w]
         rfl
        refine pure_ (i:=5) (N:=some 21) (v:=?_) (a':=?_) #[true,true,true,false,true,true,false,false,false,false] rfl rfl (any_of HT_.out (by kernel_rfl)) (fun _ _ _ h => h) (Or.inl ⟨by rfl,?_⟩) ?_ ?_
        rotate_left
        ·intro w'
         go_simp
         with_reducible rfl
        rotate_left
        ·simp only [Act.put,List.setIfInBounds_toArray,List.set_cons_zero,List.set_cons_succ,i64_w,i32_w]
         rfl
        refine pure_ (i:=6) (N:=some 22) (v:=?_) (a':=?_) #[true,true,true,false,true,true,true,false,false,false] rfl rfl (any_of HT_.out (by kernel_rfl)) (fun _ _ _ h => h) (Or.inl ⟨by rfl,?_⟩) ?_ ?_
        rotate_left
        ·intro w'
         go_simp
         with_reducible rfl
        rotate_left
        ·simp only [Act.put,List.setIfInBounds_toArray,List.set_cons_zero,List.set_cons_succ,i64_w,i32_w]
         rfl
        refine one_ (i:=3) (N:=some 19) #[true,true,true,true,true,true,true,false,false,false] rfl rfl (one_of HT_.out (by kernel_rfl)) (by decide) (fun K hK => ?_)
        refine goes_ Try.func17 (by kernel_rfl) rfl #[.slice A0 y406.length c0] (by rfl) rfl rfl (by (try simp only [List.map_toArray,List.map_cons,List.map_nil]);first|done|rfl|(simp only [List.length_drop,List.length_take];rfl)) ?_
        with_reducible refine (cofferref10_Size.calls k1 _ _ y406 t410 _ ?side1 ?side2 A5.out).mono ?_
        (case side1 => repeat (first|exact (Kd.C_below HR409.out HB.out)|(with_reducible refine Kd.C_alloc ?_ _)|(with_reducible refine Kd.C_drewN ?_ _)|(with_reducible refine Kd.C_drew ?_)))
        (case side2 => exact HC409.out)
        rintro e w' ⟨rfl,⟨nd,rfl⟩⟩
        refine ⟨_,rfl,?_⟩
        refine hK.out _ _ trivial (fun hHeld => ?_)
        clear hK K
        refine norm_ (a':=?_) ?_ ?_
        rotate_left
        ·show Act.put _ (some 19) _ = _
         simp only [Act.put,List.setIfInBounds_toArray,List.set_cons_zero,List.set_cons_succ,i64_w,i32_w]
         rfl
        refine one_ (i:=7) (N:=some 23) #[true,true,true,true,true,true,true,true,false,false] rfl rfl (one_of HT_.out (by kernel_rfl)) (by decide) (fun K hK => ?_)
        refine goes_ Try.func17 (by kernel_rfl) rfl #[.slice A20 y411.length c20] (by rfl) rfl rfl (by (try simp only [List.map_toArray,List.map_cons,List.map_nil]);first|done|rfl|(simp only [List.length_drop,List.length_take];rfl)) ?_
        with_reducible refine (cofferref10_Size.calls k1 _ _ y411 t415 _ ?side1 ?side2 A8.out).mono ?_
        (case side1 => repeat (first|exact (Kd.C_below HR414.out (by repeat (first|(with_reducible first|exact HB.out|apply below_alloc|apply pw_below_drewN|apply below_drew1)|exact HB.out)))|(with_reducible refine Kd.C_alloc ?_ _)|(with_reducible refine Kd.C_drewN ?_ _)|(with_reducible refine Kd.C_drew ?_)))
        (case side2 => exact HC414.out)
        rintro e w' ⟨rfl,⟨nd,rfl⟩⟩
        refine ⟨_,rfl,?_⟩
        refine hK.out _ _ trivial (fun hHeld => ?_)
        clear hK K
        refine norm_ (a':=?_) ?_ ?_
        rotate_left
        ·show Act.put _ (some 23) _ = _
         simp only [Act.put,List.setIfInBounds_toArray,List.set_cons_zero,List.set_cons_succ,i64_w,i32_w]
         rfl
        refine pure_ (i:=8) (N:=some 24) (v:=?_) (a':=?_) #[true,true,true,true,true,true,true,true,true,false] rfl rfl (any_of HT_.out (by kernel_rfl)) (fun _ _ _ h => h) (Or.inl ⟨by rfl,?_⟩) ?_ ?_
        rotate_left
        ·intro w'
         go_simp
         with_reducible rfl
        rotate_left
        ·simp only [Act.put,List.setIfInBounds_toArray,List.set_cons_zero,List.set_cons_succ,i64_w,i32_w]
         rfl
        refine pure_ (i:=9) (N:=some 7) (v:=?_) (a':=?_) #[true,true,true,true,true,true,true,true,true,true] rfl rfl (any_of HT_.out (by kernel_rfl)) (fun _ _ _ h => h) (Or.inl ⟨by rfl,?_⟩) ?_ ?_
        rotate_left
        ·intro w'
         go_simp
         with_reducible rfl
        rotate_left
        ·simp only [Act.put,List.setIfInBounds_toArray,List.set_cons_zero,List.set_cons_succ,i64_w,i32_w]
         rfl
        refine done_ (done_of HT_.out (by kernel_rfl)) ?_
        try go_wp2
        go_roundg k1
        case measure => have:=HK1.out;omega
        case rel => exact ⟨(x4_1),(x5_1),(wrap64 (x6_1 + 1)),(by first|rfl|(simp;done)|(simp [Go.Proofs.Ytffgodpmmipnkaa.Z.bne_nil,Go.Proofs.Ytffgodpmmipnkaa.Z.beq_nil];done)|(simp [*];done)),(by first|rfl|(simp;done)|(simp [Go.Proofs.Ytffgodpmmipnkaa.Z.bne_nil,Go.Proofs.Ytffgodpmmipnkaa.Z.beq_nil];done)|(simp [*];done)),(by first|rfl|(simp;done)|(simp [Go.Proofs.Ytffgodpmmipnkaa.Z.bne_nil,Go.Proofs.Ytffgodpmmipnkaa.Z.beq_nil];done)|(simp [*];done)),H',⟨by have:=HK1.out;omega⟩,⟨by repeat (first|(with_reducible first|exact HB.out|apply below_alloc|apply pw_below_drewN|apply below_drew1)|exact HB.out)⟩⟩
     ·rw [if_neg c4] at H
      exact absurd H (by simp)
    ·rw [if_neg c3] at H
     exact absurd H (by simp)
   ·rw [if_neg c2] at H
    have c2b0 : decide (x6_1 < (l0.length : Int)) = false:=decide_eq_false c2
    clear c2
    by_cases c21 : 0 ≤ x4_1
    ·rw [if_pos c21] at H
     have c21b0:=eq_true c21
     have c21b1 : decide (0 ≤ x4_1) = true:=decide_eq_true c21
     clear c21
     by_cases c22 : x4_1 ≤ (l0.length : Int)
     ·rw [if_pos c22] at H
      have c22b0:=eq_true c22
      have c22b1 : decide (x4_1 ≤ (l0.length : Int)) = true:=decide_eq_true c22
      clear c22
      obtain ⟨y392,hy392⟩ : ∃ y_ : List (S37),y_ = (l0.take (x4_1 : Int).toNat):=⟨_,rfl⟩
      replace H : (if ([] : List (S37)).length + y392.length < 4398046511104 then ((some (l0.drop (x4_1 : Int).toNat : List (S37))).bind fun y399 => (if ([] : List (S37)).length + y399.length < 4398046511104 then (some ((([] : List (S37)) ++ y392),(([] : List (S37)) ++ y399))) else (none))) else (none)) = some (r1,r2):=by first|(rw [hy392];with_reducible exact H)|(have H2_:=(Option.bind_some _ _).symm.trans H;rw [hy392];with_reducible exact H2_)|(have H2_:=(Option.bind_some _ _).symm.trans H;with_reducible exact H2_)|with_reducible exact H|(rw [hy392];exact H)|exact H
      have Ny392:=Aside0.mk hy392
      clear hy392
      by_cases c23 : ([] : List (S37)).length + y392.length < 4398046511104
      ·rw [if_pos c23] at H
       have LMc23:=Aside0.mk c23
       clear c23
       obtain ⟨y396,hy396⟩ : ∃ y_ : List (S37),y_ = (([] : List (S37)) ++ y392):=⟨_,rfl⟩
       replace H : ((some (l0.drop (x4_1 : Int).toNat : List (S37))).bind fun y399 => (if ([] : List (S37)).length + y399.length < 4398046511104 then (some (y396,(([] : List (S37)) ++ y399))) else (none))) = some (r1,r2):=by first|(rw [hy396];with_reducible exact H)|(have H2_:=(Option.bind_some _ _).symm.trans H;rw [hy396];with_reducible exact H2_)|(have H2_:=(Option.bind_some _ _).symm.trans H;with_reducible exact H2_)|with_reducible exact H|(rw [hy396];exact H)|exact H
       have Ny396:=Aside0.mk hy396
       clear hy396
       have c24b0:=eq_true (of_decide_eq_true (by first|(with_reducible assumption)|assumption) : 0 ≤ x4_1)
       have c25b0:=eq_true (of_decide_eq_true (by first|(with_reducible assumption)|assumption) : x4_1 ≤ (l0.length : Int))
       obtain ⟨y399,hy399⟩ : ∃ y_ : List (S37),y_ = (l0.drop (x4_1 : Int).toNat):=⟨_,rfl⟩
       replace H : (if ([] : List (S37)).length + y399.length < 4398046511104 then (some (y396,(([] : List (S37)) ++ y399))) else (none)) = some (r1,r2):=by first|(rw [hy399];with_reducible exact H)|(have H2_:=(Option.bind_some _ _).symm.trans H;rw [hy399];with_reducible exact H2_)|(have H2_:=(Option.bind_some _ _).symm.trans H;with_reducible exact H2_)|with_reducible exact H|(rw [hy399];exact H)|exact H
       have Ny399:=Aside0.mk hy399
       clear hy399
       by_cases c26 : ([] : List (S37)).length + y399.length < 4398046511104
       ·rw [if_pos c26] at H
        have LMc26:=Aside0.mk c26
        clear c26
        obtain ⟨y403,hy403⟩ : ∃ y_ : List (S37),y_ = (([] : List (S37)) ++ y399):=⟨_,rfl⟩
        replace H : (some (y396,y403)) = some (r1,r2):=by first|(rw [hy403];with_reducible exact H)|(have H2_:=(Option.bind_some _ _).symm.trans H;rw [hy403];with_reducible exact H2_)|(have H2_:=(Option.bind_some _ _).symm.trans H;with_reducible exact H2_)|with_reducible exact H|(rw [hy403];exact H)|exact H
        have Ny403:=Aside0.mk hy403
        clear hy403
        simp only [Option.some.injEq,Prod.mk.injEq] at H
        obtain ⟨rfl,rfl⟩:=H
        try go_wp2
        have n0_:=Aside0.mk (below_drew1 HB.out)
        clear HB
        have HB:=n0_
        clear n0_
        have q28 : (x4_1 : Int) ≤ ((l0.length : Int) : Int):=of_decide_eq_true (by first|(with_reducible assumption)|assumption)
        obtain ⟨i028,hi028,_,hsz28,_⟩:=info_parts info37
        have hroom28 : l0.length ≤ c0:=HC0.out
        have hC28 : Kd.C k37 _ A0 l0.length l0:=HR0.out
        have hcut28:=cut_to (P:=Try.prog) 22 37 .i64 Try.underlying22 hi028 A0 l0.length c0 x4_1 (of_decide_eq_true (by first|(with_reducible assumption)|assumption)) q28 hroom28
        have hr28:=Kd.C_take (m:=(x4_1 : Int).toNat) hC28 (by omega)
        have hy28 : y392.length = (x4_1 : Int).toNat:=(by rw [Ny392.out,List.length_take];omega)
        rw [← Ny392.out] at hr28
        rw [← hy28] at hcut28
        have HR395:=Aside0.mk hr28
        have HC395:=Aside0.mk (show y392.length ≤ c0 from by omega)
        clear hr28 hC28 hroom28 hi028 hsz28
        have KY28:=Aside0.mk hy28
        clear hy28
        replace q28:=eq_true q28
        have q29 : (x4_1 : Int) ≤ ((l0.length : Int) : Int):=of_decide_eq_true (by first|(with_reducible assumption)|assumption)
        obtain ⟨i029,hi029,_,hsz29,_⟩:=info_parts info37
        have hroom29 : l0.length ≤ c0:=HC0.out
        have hC29 : Kd.C k37 _ A0 l0.length l0:=HR0.out
        have q029 : (0 : Int) ≤ (x4_1 : Int):=of_decide_eq_true (by first|(with_reducible assumption)|assumption)
        have hcut29:=cut_from (P:=Try.prog) 22 37 .i64 Try.underlying22 hi029 2 hsz29 A0 l0.length c0 x4_1 q029 q29
        have hr29:=Kd.C_drop (m:=(x4_1 : Int).toNat) (c:=c0) hC29 (by omega) hroom29
        obtain ⟨A29,hA29⟩ : ∃ A1,A1 = (if c0 = (x4_1 : Int).toNat then A0 else (A0 : Option Addr).map (·.add ((x4_1 : Int).toNat * 2))):=⟨_,rfl⟩
        obtain ⟨c29,hc29⟩ : ∃ c1,c1 = c0 - (x4_1 : Int).toNat:=⟨_,rfl⟩
        have hy29 : y399.length = l0.length - (x4_1 : Int).toNat:=(by rw [Ny399.out,List.length_drop] <;> omega)
        rw [show (l0).drop (x4_1 : Int).toNat = y399 from Ny399.out.symm] at hr29
        replace hr29 : Kd.C k37 _ A29 y399.length y399:=(by rw [hA29];exact hr29)
        rw [← hy29,← hA29,← hc29] at hcut29
        have HR402:=Aside0.mk hr29
        have HC402:=Aside0.mk (show y399.length ≤ c29 from by rw [hy29,hc29];exact Nat.sub_le_sub_right hroom29 _)
        clear hr29 hC29 hroom29 hi029 hsz29 hc29
        have KY29:=Aside0.mk hy29
        have KA29:=Aside0.mk hA29
        clear hy29 hA29
        replace q29:=eq_true q29
        refine start_ (n:=10) (S:=fun w' => True) (ds:=[]) #[false,false,false,false,false,false,false,false,false,false] (by kernel_rfl) rfl rfl trivial (fun hHeld => ?_);refine with_tabW cofferref10_Split.tab10 cofferref10_Split.bits10 (fun HT_ HW_ => ?_)
        generalize wr.drew = w27 at HB HR395 HR402 hHeld ⊢
        refine pure_ (i:=0) (N:=some 34) (v:=?_) (a':=?_) #[true,false,false,false,false,false,false,false,false,false] rfl rfl (any_of HT_.out (by kernel_rfl)) (fun _ _ _ h => h) (Or.inl ⟨by rfl,?_⟩) ?_ ?_
        rotate_left
        ·intro w'
         go_simp
         with_reducible rfl
        rotate_left
        ·simp only [Act.put,List.setIfInBounds_toArray,List.set_cons_zero,List.set_cons_succ,i64_w,i32_w]
         rfl
        refine pure_ (i:=1) (N:=some 35) (v:=?_) (a':=?_) #[true,true,false,false,false,false,false,false,false,false] rfl rfl (any_of HT_.out (by kernel_rfl)) (fun _ _ _ h => h) (Or.inl ⟨by rfl,?_⟩) ?_ ?_
        rotate_left
        ·intro w'
         go_simp
         with_reducible rfl
        rotate_left
        ·simp only [Act.put,List.setIfInBounds_toArray,List.set_cons_zero,List.set_cons_succ,i64_w,i32_w]
         rfl
        refine pure_ (i:=2) (N:=some 36) (v:=?_) (a':=?_) #[true,true,true,false,false,false,false,false,false,false] rfl rfl (any_of HT_.out (by kernel_rfl)) (fun _ _ _ h => h) (Or.inl ⟨by rfl,?_⟩) ?_ ?_
        rotate_left
        ·intro w'
         go_simp
         with_reducible rfl
        rotate_left
        ·simp only [Act.put,List.setIfInBounds_toArray,List.set_cons_zero,List.set_cons_succ,i64_w,i32_w]
         rfl
        refine pure_ (i:=4) (N:=some 38) (v:=?_) (a':=?_) #[true,true,true,false,true,false,false,false,false,false] rfl rfl (any_of HT_.out (by kernel_rfl)) (fun _ _ _ h => h) (Or.inl ⟨by rfl,?_⟩) ?_ ?_
        rotate_left
        ·intro w'
         go_simp
         with_reducible rfl
        rotate_left
        ·simp only [Act.put,List.setIfInBounds_toArray,List.set_cons_zero,List.set_cons_succ,i64_w,i32_w]
         rfl
        refine pure_ (i:=5) (N:=some 39) (v:=?_) (a':=?_) #[true,true,true,false,true,true,false,false,false,false] rfl rfl (any_of HT_.out (by kernel_rfl)) (fun _ _ _ h => h) (Or.inl ⟨by rfl,?_⟩) ?_ ?_
        rotate_left
        ·intro w'
         go_simp
         with_reducible rfl
        rotate_left
        ·simp only [Act.put,List.setIfInBounds_toArray,List.set_cons_zero,List.set_cons_succ,i64_w,i32_w]
         rfl
        refine pure_ (i:=6) (N:=some 40) (v:=?_) (a':=?_) #[true,true,true,false,true,true,true,false,false,false] rfl rfl (any_of HT_.out (by kernel_rfl)) (fun _ _ _ h => h) (Or.inl ⟨by rfl,?_⟩) ?_ ?_
        rotate_left
        ·intro w'
         go_simp
         with_reducible rfl
        rotate_left
        ·simp only [Act.put,List.setIfInBounds_toArray,List.set_cons_zero,List.set_cons_succ,i64_w,i32_w]
         rfl
        refine one_ (i:=3) (N:=some 37) #[true,true,true,true,true,true,true,false,false,false] rfl rfl (one_of HT_.out (by kernel_rfl)) (by decide) (fun K hK => ?_)
        refine Kd.R_append_rows_step k37 (w0:=w) w.heap.size (by rfl) (.const (.slice none 0 0)) (.tmp 36) 22 37 (.agg #[(.string ⟨#[]⟩),(.string ⟨#[]⟩)]) 32 rfl Try.underlying22 info37 rfl (by decide) (by omega) (.slice none 0 0) ([] : List (S37)) y392 _ _ _ (fun _ => True) (fun _ => False) rfl rfl ?aO ?aR (fun _ _ h => h) (fun _ h => h.elim) ?aF ?aB ?aS ?aL ?_
        (case aR => repeat (first|exact (Kd.C_below HR395.out HB.out)|(with_reducible refine Kd.C_alloc ?_ _)|(with_reducible refine Kd.C_drewN ?_ _)|(with_reducible refine Kd.C_drew ?_)))
        (case aB => exact (by repeat (first|(with_reducible first|exact HB.out|apply below_alloc|apply pw_below_drewN|apply below_drew1)|exact HB.out)))
        (case aF => exact (fun _ _ => trivial))
        (case aO => exact ((Kd.R_nil _ _ _ _ (fun _ => True))))
        (case aS => exact (below_size (by repeat (first|(with_reducible first|exact HB.out|apply below_alloc|apply pw_below_drewN|apply below_drew1)|exact HB.out))))
        (case aL => have:=LMc23.out;omega)
        intro v397 w30 ho hb hg hat
        rw [← Ny396.out] at ho
        have n0_:=Aside0.mk (hb)
        have n1_:=Aside0.mk (ho)
        clear HB
        have HB:=n0_
        have HO398:=n1_
        clear n0_ n1_
        clear ho hb hg hat
        refine hK.out _ _ trivial (fun hHeld => ?_)
        clear hK K
        refine norm_ (a':=?_) ?_ ?_
        rotate_left
        ·show Act.put _ (some 37) _ = _
         simp only [Act.put,List.setIfInBounds_toArray,List.set_cons_zero,List.set_cons_succ,i64_w,i32_w]
         rfl
        refine one_ (i:=7) (N:=some 41) #[true,true,true,true,true,true,true,true,false,false] rfl rfl (one_of HT_.out (by kernel_rfl)) (by decide) (fun K hK => ?_)
        refine Kd.R_append_rows_step k37 (w0:=w) w.heap.size (by rfl) (.const (.slice none 0 0)) (.tmp 40) 22 37 (.agg #[(.string ⟨#[]⟩),(.string ⟨#[]⟩)]) 32 rfl Try.underlying22 info37 rfl (by decide) (by omega) (.slice none 0 0) ([] : List (S37)) y399 _ _ _ (fun k_ => some k_ ≠ (v397 : Value).ownBlock) (fun _ => False) rfl rfl ?aO ?aR (fun _ _ h => h) (fun _ h => h.elim) ?aF ?aB ?aS ?aL ?_
        (case aR => repeat (first|exact (Kd.C_below HR402.out HB.out)|(with_reducible refine Kd.C_alloc ?_ _)|(with_reducible refine Kd.C_drewN ?_ _)|(with_reducible refine Kd.C_drew ?_)))
        (case aB => exact (by repeat (first|(with_reducible first|exact HB.out|apply below_alloc|apply pw_below_drewN|apply below_drew1)|exact HB.out)))
        (case aF => exact (fun k_ hk => Kd.fresh' (Kd.R_lt (by (with_reducible repeat (first|apply Kd.R_alloc|apply Kd.R_drewN|apply Kd.R_drew));exact HO398.out)) k_ hk))
        (case aO => exact ((Kd.R_nil _ _ _ _ (fun k_ => some k_ ≠ (v397 : Value).ownBlock))))
        (case aS => exact (below_size (by repeat (first|(with_reducible first|exact HB.out|apply below_alloc|apply pw_below_drewN|apply below_drew1)|exact HB.out))))
        (case aL => have:=LMc26.out;omega)
        intro v404 w31 ho hb hg hat
        rw [← Ny403.out] at ho
        have n0_:=Aside0.mk (Kd.R_after (Kd.R_apart_nil (by (with_reducible repeat (first|apply Kd.R_alloc|apply Kd.R_drewN|apply Kd.R_drew));exact HO398.out)) hg hat)
        have n1_:=Aside0.mk (hb)
        have n2_:=Aside0.mk (ho)
        clear HO398
        clear HB
        have HO398:=n0_
        have HB:=n1_
        have HO405:=n2_
        clear n0_ n1_ n2_
        clear ho hb hg hat
        refine hK.out _ _ trivial (fun hHeld => ?_)
        clear hK K
        refine norm_ (a':=?_) ?_ ?_
        rotate_left
        ·show Act.put _ (some 41) _ = _
         simp only [Act.put,List.setIfInBounds_toArray,List.set_cons_zero,List.set_cons_succ,i64_w,i32_w]
         rfl
        refine pure_ (i:=8) (N:=some 2) (v:=?_) (a':=?_) #[true,true,true,true,true,true,true,true,true,false] rfl rfl (any_of HT_.out (by kernel_rfl)) (fun _ _ _ h => h) (Or.inl ⟨by rfl,?_⟩) ?_ ?_
        rotate_left
        ·intro w'
         go_simp
         with_reducible rfl
        rotate_left
        ·simp only [Act.put,List.setIfInBounds_toArray,List.set_cons_zero,List.set_cons_succ,i64_w,i32_w]
         rfl
        refine pure_ (i:=9) (N:=some 3) (v:=?_) (a':=?_) #[true,true,true,true,true,true,true,true,true,true] rfl rfl (any_of HT_.out (by kernel_rfl)) (fun _ _ _ h => h) (Or.inl ⟨by rfl,?_⟩) ?_ ?_
        rotate_left
        ·intro w'
         go_simp
         with_reducible rfl
        rotate_left
        ·simp only [Act.put,List.setIfInBounds_toArray,List.set_cons_zero,List.set_cons_succ,i64_w,i32_w]
         rfl
        refine done_ (done_of HT_.out (by kernel_rfl)) ?_
        try go_wp2
        go_ret2
        exact ⟨_,_,by first|rfl|(simp [errW_none,errW_some] <;> rfl)|(simp [*,errW_none,errW_some] <;> rfl),by (with_reducible repeat (first|apply Kd.R_alloc|apply Kd.R_drewN|apply Kd.R_drew));exact Kd.R_mono HO398.out (fun _ hk => hk.2),by (with_reducible repeat (first|apply Kd.R_alloc|apply Kd.R_drewN|apply Kd.R_drew));exact HO405.out,by repeat (first|(with_reducible first|exact HB.out|apply below_alloc|apply pw_below_drewN|apply below_drew1)|exact HB.out)⟩
       ·rw [if_neg c26] at H
        exact absurd H (by simp)
      ·rw [if_neg c23] at H
       exact absurd H (by simp)
     ·rw [if_neg c22] at H
      exact absurd H (by simp)
    ·rw [if_neg c21] at H
     exact absurd H (by simp)

end Go.Proofs.Ytffgodpmmipnkaa.X
