-- By a program of this session (wip/xprint.py over the kit's print).
import Derived.Test.YtffgodpmmipnkaaX0
import Derived.Test.YtffgodpmmipnkaaX26
namespace Go.Proofs.Ytffgodpmmipnkaa.X
open Go.RowKit Go.Proofs.YtffgodpmmipnkaaW.PrintWords Go.Proofs.YtffgodpmmipnkaaW.PrintLast Go.Proofs.YtffgodpmmipnkaaW.PrintMore
attribute [local go_sem] max2_int min2_int max_two min_two max_three min_three max_four min_four Go.Proofs.Ytffgodpmmipnkaa.Z.leq_string Go.Proofs.Ytffgodpmmipnkaa.Z.gtr_string Go.Proofs.Ytffgodpmmipnkaa.Z.geq_string   -- for this text's walks alone
set_option linter.unusedVariables false
set_option linter.unusedSimpArgs false

/-! ### page_Read: function 12 -/
def page_Read.l0 : Nat → ByteArray → ByteArray → Int → Int → Int → Int → List (S37) → Option (Int × Int × (List (S37)) × Int)
 | 0,_,_,_,_,_,_,_ => none
 | k + 1,x0,x5,x35,x36,x188000,x188001,x188002 => if x36 < x35 then (if (x5.size : Int) < 2 then (some (0,0,([] : List (S37)),4)) else (if 0 < (x5.size : Int) then (if 1 < (x5.size : Int) then (if (x5.size : Int) < (wrap64 ((wrap64 (2 + (wrap64 (bt x5 0)))) + (wrap64 (bt x5 1)))) then (some (0,0,([] : List (S37)),4)) else (if 2 ≤ (wrap64 (2 + (wrap64 (bt x5 0)))) then (if (wrap64 (2 + (wrap64 (bt x5 0)))) ≤ (x5.size : Int) then (if 0 ≤ (wrap64 (2 + (wrap64 (bt x5 0)))) then (if (wrap64 (2 + (wrap64 (bt x5 0)))) ≤ (wrap64 ((wrap64 (2 + (wrap64 (bt x5 0)))) + (wrap64 (bt x5 1)))) then (if (wrap64 ((wrap64 (2 + (wrap64 (bt x5 0)))) + (wrap64 (bt x5 1)))) ≤ (x5.size : Int) then (if x188002.length < 4398046511104 then (if 0 ≤ (wrap64 ((wrap64 (2 + (wrap64 (bt x5 0)))) + (wrap64 (bt x5 1)))) then (page_Read.l0 k x0 (x5.extract ((wrap64 ((wrap64 (2 + (wrap64 (bt x5 0)))) + (wrap64 (bt x5 1)))) : Int).toNat x5.size) x35 (wrap64 (x36 + 1)) x188000 x188001 (x188002 ++ [(⟨x5.extract 2 ((wrap64 (2 + (wrap64 (bt x5 0)))) : Int).toNat,x5.extract ((wrap64 (2 + (wrap64 (bt x5 0)))) : Int).toNat ((wrap64 ((wrap64 (2 + (wrap64 (bt x5 0)))) + (wrap64 (bt x5 1)))) : Int).toNat⟩ : S37)])) else (none)) else (none)) else (none)) else (none)) else (none)) else (none)) else (none))) else (none)) else (none))) else ((page_Write.f k x188000 x188001 x188002).bind fun bt188 => (if bt188.2 = 0 then (if bt188.1.toList = x0.toList then (some (x188000,x188001,x188002,0)) else (some (0,0,([] : List (S37)),4))) else (some (0,0,([] : List (S37)),4))))
def page_Read.f (k : Nat) (a0 : ByteArray) : Option (Int × Int × (List (S37)) × Int):=if (a0.size : Int) = 512 then (if 0 < (a0.size : Int) then (if 1 < (a0.size : Int) then (if 2 < (a0.size : Int) then (if 5 ≤ (a0.size : Int) then (if 3 < (a0.size : Int) then (if 4 < (a0.size : Int) then (page_Read.l0 k a0 (a0.extract 5 a0.size) (Go.bits .or .i64 (wrap64 ((wrap64 (bt a0 3)) * 256)) (wrap64 (bt a0 4))) 0 (wrap64 (bt a0 0)) (Go.bits .or .i64 (wrap64 ((wrap64 (bt a0 1)) * 256)) (wrap64 (bt a0 2))) ([] : List (S37))) else (none)) else (none)) else (none)) else (none)) else (none)) else (none)) else (some (0,0,([] : List (S37)),4))
theorem page_Read.mono_l : ∀ k,(∀ y0 y1 y2 y3 y4 y5 y6,LeO (page_Read.l0 k y0 y1 y2 y3 y4 y5 y6) (page_Read.l0 (k + 1) y0 y1 y2 y3 y4 y5 y6))
 | 0 => fun _ _ _ _ _ _ _ r h => by simp [page_Read.l0] at h
 | k + 1 => by
  have ih0:=page_Read.mono_l k
  ·intro y0 y1 y2 y3 y4 y5 y6
   unfold page_Read.l0
   repeat' first
   | (with_reducible exact ih0 _ _ _ _ _ _ _)
   | (with_reducible exact page_Write.mono _ _ _ _)
   | (with_reducible exact LeO.refl _)
   | (with_reducible exact LeO.none _)
   | (with_reducible refine LeO.ite ?_ ?_)
   | (with_reducible refine LeO.bind ?_ (fun _ => ?_))
   | exact ih0 _ _ _ _ _ _ _
   | exact page_Write.mono _ _ _ _
   | exact LeO.none _
   | refine LeO.ite ?_ ?_
   | refine LeO.bind ?_ (fun _ => ?_)
theorem page_Read.mono : ∀ a0 k,LeO (page_Read.f k a0) (page_Read.f (k + 1) a0):=by
 intro a0 k
 have ih0:=page_Read.mono_l k
 unfold page_Read.f
 repeat' first
  | (with_reducible exact ih0 _ _ _ _ _ _ _)
  | (with_reducible exact page_Write.mono _ _ _ _)
  | (with_reducible exact LeO.refl _)
  | (with_reducible exact LeO.none _)
  | (with_reducible refine LeO.ite ?_ ?_)
  | (with_reducible refine LeO.bind ?_ (fun _ => ?_))
  | exact ih0 _ _ _ _ _ _ _
  | exact page_Write.mono _ _ _ _
  | exact LeO.none _
  | refine LeO.ite ?_ ?_
  | refine LeO.bind ?_ (fun _ => ?_)
def page_Read.T3 : Bool × List (List Nat × List Nat):=(true,[([],[]),([0],[0]),([1],[1]),([],[]),([3],[3]),([4],[4]),([5],[5]),([],[]),([7],[7]),([8],[8]),([6,9],[6,9]),([2,10],[2,10]),([],[]),([12,11,0,1,2,3,4,5,6,7,8,9,10,11,12],[11,12])])
def page_Read.B3 : List Nat:=[0,1,3,0,8,24,56,0,128,384,1016,2047,0,8191]
theorem page_Read.tab3 : rtab .any (opsOf Try.f12 3) = page_Read.T3:=by kernel_rfl
theorem page_Read.bits3 : waitsOk page_Read.T3.2 page_Read.B3 = true:=by kernel_rfl
def page_Read.T5 : Bool × List (List Nat × List Nat):=(true,[([],[]),([0],[0]),([1],[1]),([2],[2]),([],[]),([4],[4]),([5],[5]),([3,6],[3,6]),([],[])])
def page_Read.B5 : List Nat:=[0,1,3,7,0,16,48,127,0]
theorem page_Read.tab5 : rtab .any (opsOf Try.f12 5) = page_Read.T5:=by kernel_rfl
theorem page_Read.bits5 : waitsOk page_Read.T5.2 page_Read.B5 = true:=by kernel_rfl
def page_Read.T9 : Bool × List (List Nat × List Nat):=(true,[([],[]),([0],[0]),([1],[1]),([],[]),([3],[3]),([4],[4]),([2,0,1,2],[2]),([5,6,0,1,2,3,4,5,6],[5])])
def page_Read.B9 : List Nat:=[0,1,3,0,8,24,7,127]
theorem page_Read.tab9 : rtab .any (opsOf Try.f12 9) = page_Read.T9:=by kernel_rfl
theorem page_Read.bits9 : waitsOk page_Read.T9.2 page_Read.B9 = true:=by kernel_rfl
def page_Read.T12 : Bool × List (List Nat × List Nat):=(true,[([],[]),([0],[0]),([],[]),([],[]),([3],[3]),([2,4],[2,4]),([],[]),([],[]),([7],[7]),([],[]),([9],[9]),([],[]),([10,11],[10,11]),([6,8,12],[6,8,12]),([5,13],[5,13]),([14],[14]),([1,15],[1,15]),([0,1,2,3,4,5,6,7,8,9,10,11,12,13,14,15,16],[]),([17,16,16,0,1,2,3,4,5,6,7,8,9,10,11,12,13,14,15,16],[16,17])])
def page_Read.B12 : List Nat:=[0,1,0,0,8,28,0,0,128,0,512,0,3584,8128,16380,32764,65535,131071,262143]
theorem page_Read.tab12 : rtab .any (opsOf Try.f12 12) = page_Read.T12:=by kernel_rfl
theorem page_Read.bits12 : waitsOk page_Read.T12.2 page_Read.B12 = true:=by kernel_rfl
set_option maxHeartbeats 8000000 in
set_option maxRecDepth 100000 in
theorem page_Read.calls (k : Nat) (a0 : ByteArray) (r1 : Int) (r2 : Int) (r3 : List (S37)) (r4 : Int) (w : World) (h : page_Read.f k a0 = some (r1,r2,r3,r4)) :
 Calls Try.prog 12 #[.string a0] w fun e w' => ∃ v2_ : Value,e = .returned (.tuple #[.agg #[.int .i64 r1,.int .i64 r2,v2_],.int .i64 r4]) ∧ Kd.R k37 37 w' w.heap.size (fun _ => True) v2_ r3 ∧ Below w.heap.size w w':=by
 have hu28:=Try.underlying28
 have hu37:=Try.underlying37
 have HB:=Aside0.mk (Below.refl w.heap.size w)
 have H : (if (a0.size : Int) = 512 then (if 0 < (a0.size : Int) then (if 1 < (a0.size : Int) then (if 2 < (a0.size : Int) then (if 5 ≤ (a0.size : Int) then (if 3 < (a0.size : Int) then (if 4 < (a0.size : Int) then (page_Read.l0 k a0 (a0.extract 5 a0.size) (Go.bits .or .i64 (wrap64 ((wrap64 (bt a0 3)) * 256)) (wrap64 (bt a0 4))) 0 (wrap64 (bt a0 0)) (Go.bits .or .i64 (wrap64 ((wrap64 (bt a0 1)) * 256)) (wrap64 (bt a0 2))) ([] : List (S37))) else (none)) else (none)) else (none)) else (none)) else (none)) else (none)) else (some (0,0,([] : List (S37)),4))) = some (r1,r2,r3,r4):=h
 clear h
 by_cases c2 : (a0.size : Int) = 512
 ·rw [if_pos c2] at H
  have c2b0 : ((a0.size : Int) == 512) = true:=beq_iff_eq.mpr c2
  have c2b1 : ((a0.size : Int) != 512) = false:=bne_eq_false_iff_eq.mpr c2
  clear c2
  by_cases c3 : 0 < (a0.size : Int)
  ·rw [if_pos c3] at H
   have c3b0 : decide (0 < (a0.size : Int)) = true:=decide_eq_true c3
   have c3b1 : decide (0 < a0.size) = true:=decide_eq_true (by omega)
   clear c3
   by_cases c5 : 1 < (a0.size : Int)
   ·rw [if_pos c5] at H
    have c5b0 : decide (1 < (a0.size : Int)) = true:=decide_eq_true c5
    have c5b1 : decide (1 < a0.size) = true:=decide_eq_true (by omega)
    clear c5
    by_cases c7 : 2 < (a0.size : Int)
    ·rw [if_pos c7] at H
     have c7b0 : decide (2 < (a0.size : Int)) = true:=decide_eq_true c7
     have c7b1 : decide (2 < a0.size) = true:=decide_eq_true (by omega)
     clear c7
     by_cases c9 : 5 ≤ (a0.size : Int)
     ·rw [if_pos c9] at H
      have c9b0:=eq_true c9
      have c9b1 : decide (5 ≤ (a0.size : Int)) = true:=decide_eq_true c9
      clear c9
      by_cases c10 : 3 < (a0.size : Int)
      ·rw [if_pos c10] at H
       have c10b0 : decide (3 < (a0.size : Int)) = true:=decide_eq_true c10
       have c10b1 : decide (3 < a0.size) = true:=decide_eq_true (by omega)
       clear c10
       by_cases c12 : 4 < (a0.size : Int)
       ·rw [if_pos c12] at H
        have c12b0 : decide (4 < (a0.size : Int)) = true:=decide_eq_true c12
        have c12b1 : decide (4 < a0.size) = true:=decide_eq_true (by omega)
        clear c12
        have H':=Aside0.mk H
        clear H
        go_enter Try.func12,Try.ntmps12
        try go_wp2_with (first|((with_reducible refine gate_dst (N:=2) rfl ?_);refine box_event ?hg (N:=2) ?hd (cs:=#[.int .i64 0,.int .i64 0,.slice none 0 0]) (t:=28) ?hr ?_;(case hd => rfl);(case hg => rfl);(case hr => first|(go_simp;done)|(go_simp;rfl));intro gb186 hg w14 hbox hb;have n0_:=Aside0.mk (below_step (by repeat (first|(with_reducible first|exact HB.out|apply below_alloc|apply pw_below_drewN|apply below_drew1)|exact HB.out)) hb);have n1_:=Aside0.mk (hbox);have n2_:=Aside0.mk ((by rw [hg];exact (below_size (by repeat (first|(with_reducible first|exact HB.out|apply below_alloc|apply pw_below_drewN|apply below_drew1)|exact HB.out))) : w.heap.size ≤ gb186));have n3_:=Aside0.mk ((by rw [hg];exact (below_size (by repeat (first|(with_reducible first|exact HB.out|apply below_alloc|apply pw_below_drewN|apply below_drew1)|exact HB.out))) : w.heap.size ≤ gb186));clear HB;have HB:=n0_;have BK186:=n1_;have GW186:=n2_;have GE186:=n3_;clear n0_ n1_ n2_ n3_;clear hb hbox hg))
        have n0_:=Aside0.mk (blk_drew BK186.out)
        have n1_:=Aside0.mk (below_drew1 HB.out)
        clear BK186
        clear HB
        have BK186:=n0_
        have HB:=n1_
        clear n0_ n1_
        have p4 : 0 ≤ (0 : Int):=(by omega)
        have q4 : 0 < a0.size:=(by have : (0 : Int) < (a0.size : Int):=of_decide_eq_true (by first|(with_reducible assumption)|assumption);omega)
        have hx4 : ∀ h : 0 < a0.size,((a0[0]'h).toNat : Int) = bt a0 0:=bt_at a0 0
        clear p4
        have qi4 : (0 < (a0.size : Int)) = True:=eq_true (of_decide_eq_true (by first|(with_reducible assumption)|assumption))
        replace q4:=eq_true q4
        have p6 : 0 ≤ (1 : Int):=(by omega)
        have q6 : 1 < a0.size:=(by have : (1 : Int) < (a0.size : Int):=of_decide_eq_true (by first|(with_reducible assumption)|assumption);omega)
        have hx6 : ∀ h : 1 < a0.size,((a0[1]'h).toNat : Int) = bt a0 1:=bt_at a0 1
        clear p6
        have qi6 : (1 < (a0.size : Int)) = True:=eq_true (of_decide_eq_true (by first|(with_reducible assumption)|assumption))
        replace q6:=eq_true q6
        have p8 : 0 ≤ (2 : Int):=(by omega)
        have q8 : 2 < a0.size:=(by have : (2 : Int) < (a0.size : Int):=of_decide_eq_true (by first|(with_reducible assumption)|assumption);omega)
        have hx8 : ∀ h : 2 < a0.size,((a0[2]'h).toNat : Int) = bt a0 2:=bt_at a0 2
        clear p8
        have qi8 : (2 < (a0.size : Int)) = True:=eq_true (of_decide_eq_true (by first|(with_reducible assumption)|assumption))
        replace q8:=eq_true q8
        refine start_ (n:=14) (S:=fun w' => True) (ds:=[]) #[false,false,false,false,false,false,false,false,false,false,false,false,false,false] (by kernel_rfl) rfl rfl trivial (fun hHeld => ?_);refine with_tabW page_Read.tab3 page_Read.bits3 (fun HT_ HW_ => ?_)
        generalize w14.drew = w15 at BK186 HB hHeld ⊢
        refine pure_ (i:=0) (N:=some 14) (v:=?_) (a':=?_) #[true,false,false,false,false,false,false,false,false,false,false,false,false,false] rfl rfl (any_of HT_.out (by kernel_rfl)) (fun _ _ _ h => h) (Or.inl ⟨by rfl,?_⟩) ?_ ?_
        rotate_left
        ·intro w'
         go_simp
         with_reducible rfl
        rotate_left
        ·simp only [Act.put,List.setIfInBounds_toArray,List.set_cons_zero,List.set_cons_succ,i64_w,i32_w]
         rfl
        refine pure_ (i:=3) (N:=some 17) (v:=?_) (a':=?_) #[true,false,false,true,false,false,false,false,false,false,false,false,false,false] rfl rfl (any_of HT_.out (by kernel_rfl)) (fun _ _ _ h => h) (Or.inl ⟨by rfl,?_⟩) ?_ ?_
        rotate_left
        ·intro w'
         go_simp
         with_reducible rfl
        rotate_left
        ·simp only [Act.put,List.setIfInBounds_toArray,List.set_cons_zero,List.set_cons_succ,i64_w,i32_w]
         rfl
        refine pure_ (i:=7) (N:=some 21) (v:=?_) (a':=?_) #[true,false,false,true,false,false,false,true,false,false,false,false,false,false] rfl rfl (any_of HT_.out (by kernel_rfl)) (fun _ _ _ h => h) (Or.inl ⟨by rfl,?_⟩) ?_ ?_
        rotate_left
        ·intro w'
         go_simp
         with_reducible rfl
        rotate_left
        ·simp only [Act.put,List.setIfInBounds_toArray,List.set_cons_zero,List.set_cons_succ,i64_w,i32_w]
         rfl
        refine take_ (i:=1) (N:=some 15) (v:=?_) (a':=?_) #[true,true,false,true,false,false,false,true,false,false,false,false,false,false] rfl rfl (take_ofW HT_.out HW_.out (by kernel_rfl)) (fun _ _ _ h => h) (Or.inl ⟨by rfl,?_⟩) hHeld ?_ ?_
        rotate_left
        ·intro w' _
         go_simp
         with_reducible rfl
        rotate_left
        ·simp only [Act.put,List.setIfInBounds_toArray,List.set_cons_zero,List.set_cons_succ,i64_w,i32_w]
         rfl
        refine pure_ (i:=2) (N:=some 16) (v:=?_) (a':=?_) #[true,true,true,true,false,false,false,true,false,false,false,false,false,false] rfl rfl (any_of HT_.out (by kernel_rfl)) (fun _ _ _ h => h) (Or.inl ⟨by rfl,?_⟩) ?_ ?_
        rotate_left
        ·intro w'
         go_simp
         with_reducible rfl
        rotate_left
        ·simp only [Act.put,List.setIfInBounds_toArray,List.set_cons_zero,List.set_cons_succ,i64_w,i32_w]
         rfl
        refine take_ (i:=4) (N:=some 18) (v:=?_) (a':=?_) #[true,true,true,true,true,false,false,true,false,false,false,false,false,false] rfl rfl (take_ofW HT_.out HW_.out (by kernel_rfl)) (fun _ _ _ h => h) (Or.inl ⟨by rfl,?_⟩) hHeld ?_ ?_
        rotate_left
        ·intro w' _
         go_simp
         with_reducible rfl
        rotate_left
        ·simp only [Act.put,List.setIfInBounds_toArray,List.set_cons_zero,List.set_cons_succ,i64_w,i32_w]
         rfl
        refine pure_ (i:=5) (N:=some 19) (v:=?_) (a':=?_) #[true,true,true,true,true,true,false,true,false,false,false,false,false,false] rfl rfl (any_of HT_.out (by kernel_rfl)) (fun _ _ _ h => h) (Or.inl ⟨by rfl,?_⟩) ?_ ?_
        rotate_left
        ·intro w'
         go_simp
         with_reducible rfl
        rotate_left
        ·simp only [Act.put,List.setIfInBounds_toArray,List.set_cons_zero,List.set_cons_succ,i64_w,i32_w]
         rfl
        refine pure_ (i:=6) (N:=some 20) (v:=?_) (a':=?_) #[true,true,true,true,true,true,true,true,false,false,false,false,false,false] rfl rfl (any_of HT_.out (by kernel_rfl)) (fun _ _ _ h => h) (Or.inl ⟨by rfl,?_⟩) ?_ ?_
        rotate_left
        ·intro w'
         go_simp
         with_reducible rfl
        rotate_left
        ·simp only [Act.put,List.setIfInBounds_toArray,List.set_cons_zero,List.set_cons_succ,i64_w,i32_w]
         rfl
        refine take_ (i:=8) (N:=some 22) (v:=?_) (a':=?_) #[true,true,true,true,true,true,true,true,true,false,false,false,false,false] rfl rfl (take_ofW HT_.out HW_.out (by kernel_rfl)) (fun _ _ _ h => h) (Or.inl ⟨by rfl,?_⟩) hHeld ?_ ?_
        rotate_left
        ·intro w' _
         go_simp
         with_reducible rfl
        rotate_left
        ·simp only [Act.put,List.setIfInBounds_toArray,List.set_cons_zero,List.set_cons_succ,i64_w,i32_w]
         rfl
        refine pure_ (i:=9) (N:=some 23) (v:=?_) (a':=?_) #[true,true,true,true,true,true,true,true,true,true,false,false,false,false] rfl rfl (any_of HT_.out (by kernel_rfl)) (fun _ _ _ h => h) (Or.inl ⟨by rfl,?_⟩) ?_ ?_
        rotate_left
        ·intro w'
         go_simp
         with_reducible rfl
        rotate_left
        ·simp only [Act.put,List.setIfInBounds_toArray,List.set_cons_zero,List.set_cons_succ,i64_w,i32_w]
         rfl
        refine pure_ (i:=10) (N:=some 24) (v:=?_) (a':=?_) #[true,true,true,true,true,true,true,true,true,true,true,false,false,false] rfl rfl (any_of HT_.out (by kernel_rfl)) (fun _ _ _ h => h) (Or.inl ⟨by rfl,?_⟩) ?_ ?_
        rotate_left
        ·intro w'
         go_simp
         with_reducible rfl
        rotate_left
        ·simp only [Act.put,List.setIfInBounds_toArray,List.set_cons_zero,List.set_cons_succ,i64_w,i32_w]
         rfl
        refine pure_ (i:=11) (N:=some 25) (v:=?_) (a':=?_) #[true,true,true,true,true,true,true,true,true,true,true,true,false,false] rfl rfl (any_of HT_.out (by kernel_rfl)) (fun _ _ _ h => h) (Or.inl ⟨by rfl,?_⟩) ?_ ?_
        rotate_left
        ·intro w'
         go_simp
         with_reducible rfl
        rotate_left
        ·simp only [Act.put,List.setIfInBounds_toArray,List.set_cons_zero,List.set_cons_succ,i64_w,i32_w]
         rfl
        refine one_ (i:=12) (N:=some 4) #[true,true,true,true,true,true,true,true,true,true,true,true,true,false] rfl rfl (one_of HT_.out (by kernel_rfl)) (by decide) (fun K hK => ?_)
        refine box_step ?hg (N:=4) ?hd (cs:=#[.int .i64 0,.int .i64 0,.slice none 0 0]) (t:=28) ?hr ?_;(case hd => rfl);(case hg => rfl);(case hr => first|(go_simp;done)|(go_simp;rfl))
        intro gb187 hg w16 hbox hb
        have n0_:=Aside0.mk (blk_below (g:=gb186) (o:=.cells #[.int .i64 0,.int .i64 0,.slice none 0 0] 28 (0,0)) (by (with_reducible repeat (first|refine blk_drewN ?_ _|refine blk_drew ?_|refine blk_alloc ?_ _));exact BK186.out) hb)
        have n1_:=Aside0.mk (below_step (by repeat (first|(with_reducible first|exact HB.out|apply below_alloc|apply pw_below_drewN|apply below_drew1|refine below_set ?_ GE186.out)|exact HB.out)) hb)
        have n2_:=Aside0.mk (hbox)
        have n3_:=Aside0.mk ((by rw [hg];exact (below_size (by repeat (first|(with_reducible first|exact HB.out|apply below_alloc|apply pw_below_drewN|apply below_drew1|refine below_set ?_ GE186.out)|exact HB.out))) : w.heap.size ≤ gb187))
        have n4_:=Aside0.mk ((by rw [hg];exact (below_size (by repeat (first|(with_reducible first|exact HB.out|apply below_alloc|apply pw_below_drewN|apply below_drew1|refine below_set ?_ GE186.out)|exact HB.out))) : w.heap.size ≤ gb187))
        have n5_:=Aside0.mk ((by rw [hg];exact Nat.ne_of_lt (blk_lt (g:=gb186) (o:=.cells #[.int .i64 0,.int .i64 0,.slice none 0 0] 28 (0,0)) (by (with_reducible repeat (first|refine blk_drewN ?_ _|refine blk_drew ?_|refine blk_alloc ?_ _));exact BK186.out)) : gb186 ≠ gb187))
        have n6_:=Aside0.mk ((by rw [hg];exact Nat.ne_of_gt (blk_lt (g:=gb186) (o:=.cells #[.int .i64 0,.int .i64 0,.slice none 0 0] 28 (0,0)) (by (with_reducible repeat (first|refine blk_drewN ?_ _|refine blk_drew ?_|refine blk_alloc ?_ _));exact BK186.out)) : gb187 ≠ gb186))
        clear BK186
        clear HB
        have BK186:=n0_
        have HB:=n1_
        have BK187:=n2_
        have GW187:=n3_
        have GE187:=n4_
        have NB186_187:=n5_
        have NB187_186:=n6_
        clear n0_ n1_ n2_ n3_ n4_ n5_ n6_
        clear hb hbox hg
        refine hK.out _ _ trivial (fun hHeld => ?_)
        clear hK K
        refine norm_ (a':=?_) ?_ ?_
        rotate_left
        ·show Act.put _ (some 4) _ = _
         simp only [Act.put,List.setIfInBounds_toArray,List.set_cons_zero,List.set_cons_succ,i64_w,i32_w]
         rfl
        refine one_ (i:=13) (N:=none) #[true,true,true,true,true,true,true,true,true,true,true,true,true,true] rfl rfl (one_of HT_.out (by kernel_rfl)) (by decide) (fun K hK => ?_)
        have hs17 : w16.cell? ⟨gb187,0,none⟩ = some (.int .i64 0):=(blk_cell BK187.out 0).trans rfl
        have hfs17:=blk_frozen BK187.out 0
        have hns17_0:=NB186_187.out
        have hms17_0:=NB187_186.out
        have hs18 : w16.cell? ⟨gb187,1,none⟩ = some (.int .i64 0):=(blk_cell BK187.out 1).trans rfl
        have hfs18:=blk_frozen BK187.out 1
        have hns18_0:=NB186_187.out
        have hms18_0:=NB187_186.out
        have hs19 : w16.cell? ⟨gb187,2,none⟩ = some (.slice none 0 0):=(blk_cell BK187.out 2).trans rfl
        have hfs19:=blk_frozen BK187.out 2
        have hns19_0:=NB186_187.out
        have hms19_0:=NB187_186.out
        refine skip_ (w1:=?_) (by rfl) rfl ?_ ?_
        rotate_left
        ·go_simp
         rfl
        refine hK.out _ _ trivial (fun hHeld => ?_)
        clear hK K
        refine done_ (done_of HT_.out (by kernel_rfl)) ?_
        try go_wp2
        have n0_ : Aside0 ((((w16.setCell ⟨gb187,0,none⟩ (.int .i64 (wrap64 (bt a0 0)))).setCell ⟨gb187,1,none⟩ (.int .i64 (Go.bits .or .i64 (wrap64 ((wrap64 (bt a0 1)) * 256)) (wrap64 (bt a0 2))))).setCell ⟨gb187,2,none⟩ (.slice none 0 0)).heap[gb186]? = some (.cells #[.int .i64 0,.int .i64 0,.slice none 0 0] 28 (0,0))):=⟨by (with_reducible repeat (first|refine blk_drewN ?_ _|refine blk_drew ?_|refine blk_alloc ?_ _));refine blk_far ?_ NB186_187.out _;(with_reducible repeat (first|refine blk_drewN ?_ _|refine blk_drew ?_|refine blk_alloc ?_ _));refine blk_far ?_ NB186_187.out _;(with_reducible repeat (first|refine blk_drewN ?_ _|refine blk_drew ?_|refine blk_alloc ?_ _));refine blk_far ?_ NB186_187.out _;(with_reducible repeat (first|refine blk_drewN ?_ _|refine blk_drew ?_|refine blk_alloc ?_ _));exact BK186.out⟩
        have n1_ : Aside0 ((((w16.setCell ⟨gb187,0,none⟩ (.int .i64 (wrap64 (bt a0 0)))).setCell ⟨gb187,1,none⟩ (.int .i64 (Go.bits .or .i64 (wrap64 ((wrap64 (bt a0 1)) * 256)) (wrap64 (bt a0 2))))).setCell ⟨gb187,2,none⟩ (.slice none 0 0)).heap[gb187]? = some (.cells #[.int .i64 (wrap64 (bt a0 0)),.int .i64 (Go.bits .or .i64 (wrap64 ((wrap64 (bt a0 1)) * 256)) (wrap64 (bt a0 2))),.slice none 0 0] 28 (0,0))):=⟨by (with_reducible repeat (first|refine blk_drewN ?_ _|refine blk_drew ?_|refine blk_alloc ?_ _));refine blk_put (cs:=#[.int .i64 (wrap64 (bt a0 0)),.int .i64 (Go.bits .or .i64 (wrap64 ((wrap64 (bt a0 1)) * 256)) (wrap64 (bt a0 2))),.slice none 0 0]) ?_ 2 _ rfl;(with_reducible repeat (first|refine blk_drewN ?_ _|refine blk_drew ?_|refine blk_alloc ?_ _));refine blk_put (cs:=#[.int .i64 (wrap64 (bt a0 0)),.int .i64 0,.slice none 0 0]) ?_ 1 _ rfl;(with_reducible repeat (first|refine blk_drewN ?_ _|refine blk_drew ?_|refine blk_alloc ?_ _));refine blk_put (cs:=#[.int .i64 0,.int .i64 0,.slice none 0 0]) ?_ 0 _ rfl;(with_reducible repeat (first|refine blk_drewN ?_ _|refine blk_drew ?_|refine blk_alloc ?_ _));exact BK187.out⟩
        have n2_ : Aside0 (Below w.heap.size w (((w16.setCell ⟨gb187,0,none⟩ (.int .i64 (wrap64 (bt a0 0)))).setCell ⟨gb187,1,none⟩ (.int .i64 (Go.bits .or .i64 (wrap64 ((wrap64 (bt a0 1)) * 256)) (wrap64 (bt a0 2))))).setCell ⟨gb187,2,none⟩ (.slice none 0 0))):=⟨by repeat (first|(with_reducible first|exact HB.out|apply below_alloc|apply pw_below_drewN|apply below_drew1|refine below_set ?_ GE186.out|refine below_set ?_ GE187.out)|exact HB.out)⟩
        (try clear BK186)
        (try clear BK187)
        (try clear HB)
        generalize (((w16.setCell ⟨gb187,0,none⟩ (.int .i64 (wrap64 (bt a0 0)))).setCell ⟨gb187,1,none⟩ (.int .i64 (Go.bits .or .i64 (wrap64 ((wrap64 (bt a0 1)) * 256)) (wrap64 (bt a0 2))))).setCell ⟨gb187,2,none⟩ (.slice none 0 0)) = w20 at n0_ n1_ n2_ ⊢
        have BK186:=n0_
        have BK187:=n1_
        have HB:=n2_
        clear n0_ n1_ n2_
        have n0_:=Aside0.mk (blk_drew BK186.out)
        have n1_:=Aside0.mk (blk_drew BK187.out)
        have n2_:=Aside0.mk (below_drew1 HB.out)
        clear BK186
        clear BK187
        clear HB
        have BK186:=n0_
        have BK187:=n1_
        have HB:=n2_
        clear n0_ n1_ n2_
        have p11 : 0 ≤ (3 : Int):=(by omega)
        have q11 : 3 < a0.size:=(by have : (3 : Int) < (a0.size : Int):=of_decide_eq_true (by first|(with_reducible assumption)|assumption);omega)
        have hx11 : ∀ h : 3 < a0.size,((a0[3]'h).toNat : Int) = bt a0 3:=bt_at a0 3
        clear p11
        have qi11 : (3 < (a0.size : Int)) = True:=eq_true (of_decide_eq_true (by first|(with_reducible assumption)|assumption))
        replace q11:=eq_true q11
        have p13 : 0 ≤ (4 : Int):=(by omega)
        have q13 : 4 < a0.size:=(by have : (4 : Int) < (a0.size : Int):=of_decide_eq_true (by first|(with_reducible assumption)|assumption);omega)
        have hx13 : ∀ h : 4 < a0.size,((a0[4]'h).toNat : Int) = bt a0 4:=bt_at a0 4
        clear p13
        have qi13 : (4 < (a0.size : Int)) = True:=eq_true (of_decide_eq_true (by first|(with_reducible assumption)|assumption))
        replace q13:=eq_true q13
        refine start_ (n:=9) (S:=fun w' => True) (ds:=[]) #[false,false,false,false,false,false,false,false,false] (by kernel_rfl) rfl rfl trivial (fun hHeld => ?_);refine with_tabW page_Read.tab5 page_Read.bits5 (fun HT_ HW_ => ?_)
        generalize w20.drew = w21 at BK186 BK187 HB hHeld ⊢
        refine pure_ (i:=0) (N:=some 28) (v:=?_) (a':=?_) #[true,false,false,false,false,false,false,false,false] rfl rfl (any_of HT_.out (by kernel_rfl)) (fun _ _ _ h => h) (Or.inl ⟨by rfl,?_⟩) ?_ ?_
        rotate_left
        ·intro w'
         go_simp
         with_reducible rfl
        rotate_left
        ·simp only [Act.put,List.setIfInBounds_toArray,List.set_cons_zero,List.set_cons_succ,i64_w,i32_w]
         rfl
        refine pure_ (i:=4) (N:=some 32) (v:=?_) (a':=?_) #[true,false,false,false,true,false,false,false,false] rfl rfl (any_of HT_.out (by kernel_rfl)) (fun _ _ _ h => h) (Or.inl ⟨by rfl,?_⟩) ?_ ?_
        rotate_left
        ·intro w'
         go_simp
         with_reducible rfl
        rotate_left
        ·simp only [Act.put,List.setIfInBounds_toArray,List.set_cons_zero,List.set_cons_succ,i64_w,i32_w]
         rfl
        refine pure_ (i:=8) (N:=some 36) (v:=?_) (a':=?_) #[true,false,false,false,true,false,false,false,true] rfl rfl (any_of HT_.out (by kernel_rfl)) (fun _ _ _ h => h) (Or.inl ⟨by rfl,?_⟩) ?_ ?_
        rotate_left
        ·intro w'
         go_simp
         with_reducible rfl
        rotate_left
        ·simp only [Act.put,List.setIfInBounds_toArray,List.set_cons_zero,List.set_cons_succ,i64_w,i32_w]
         rfl
        refine take_ (i:=1) (N:=some 29) (v:=?_) (a':=?_) #[true,true,false,false,true,false,false,false,true] rfl rfl (take_ofW HT_.out HW_.out (by kernel_rfl)) (fun _ _ _ h => h) (Or.inl ⟨by rfl,?_⟩) hHeld ?_ ?_
        rotate_left
        ·intro w' _
         go_simp
         with_reducible rfl
        rotate_left
        ·simp only [Act.put,List.setIfInBounds_toArray,List.set_cons_zero,List.set_cons_succ,i64_w,i32_w]
         rfl
        refine pure_ (i:=2) (N:=some 30) (v:=?_) (a':=?_) #[true,true,true,false,true,false,false,false,true] rfl rfl (any_of HT_.out (by kernel_rfl)) (fun _ _ _ h => h) (Or.inl ⟨by rfl,?_⟩) ?_ ?_
        rotate_left
        ·intro w'
         go_simp
         with_reducible rfl
        rotate_left
        ·simp only [Act.put,List.setIfInBounds_toArray,List.set_cons_zero,List.set_cons_succ,i64_w,i32_w]
         rfl
        refine pure_ (i:=3) (N:=some 31) (v:=?_) (a':=?_) #[true,true,true,true,true,false,false,false,true] rfl rfl (any_of HT_.out (by kernel_rfl)) (fun _ _ _ h => h) (Or.inl ⟨by rfl,?_⟩) ?_ ?_
        rotate_left
        ·intro w'
         go_simp
         with_reducible rfl
        rotate_left
        ·simp only [Act.put,List.setIfInBounds_toArray,List.set_cons_zero,List.set_cons_succ,i64_w,i32_w]
         rfl
        refine take_ (i:=5) (N:=some 33) (v:=?_) (a':=?_) #[true,true,true,true,true,true,false,false,true] rfl rfl (take_ofW HT_.out HW_.out (by kernel_rfl)) (fun _ _ _ h => h) (Or.inl ⟨by rfl,?_⟩) hHeld ?_ ?_
        rotate_left
        ·intro w' _
         go_simp
         with_reducible rfl
        rotate_left
        ·simp only [Act.put,List.setIfInBounds_toArray,List.set_cons_zero,List.set_cons_succ,i64_w,i32_w]
         rfl
        refine pure_ (i:=6) (N:=some 34) (v:=?_) (a':=?_) #[true,true,true,true,true,true,true,false,true] rfl rfl (any_of HT_.out (by kernel_rfl)) (fun _ _ _ h => h) (Or.inl ⟨by rfl,?_⟩) ?_ ?_
        rotate_left
        ·intro w'
         go_simp
         with_reducible rfl
        rotate_left
        ·simp only [Act.put,List.setIfInBounds_toArray,List.set_cons_zero,List.set_cons_succ,i64_w,i32_w]
         rfl
        refine pure_ (i:=7) (N:=some 35) (v:=?_) (a':=?_) #[true,true,true,true,true,true,true,true,true] rfl rfl (any_of HT_.out (by kernel_rfl)) (fun _ _ _ h => h) (Or.inl ⟨by rfl,?_⟩) ?_ ?_
        rotate_left
        ·intro w'
         go_simp
         with_reducible rfl
        rotate_left
        ·simp only [Act.put,List.setIfInBounds_toArray,List.set_cons_zero,List.set_cons_succ,i64_w,i32_w]
         rfl
        refine done_ (done_of HT_.out (by kernel_rfl)) ?_
        try go_wp2
        go_loopg [5,36] k (fun kq v5 v36 w' => ∃ (x5_1 : ByteArray) (x36_1 : Int) (x187000_1 : Int) (x187001_1 : Int) (x188002_1 : List (S37)) (u188002 : Value),v5 = .string x5_1 ∧ v36 = .int .i64 x36_1 ∧ Aside0 (page_Read.l0 kq a0 x5_1 (Go.bits .or .i64 (wrap64 ((wrap64 (bt a0 3)) * 256)) (wrap64 (bt a0 4))) x36_1 (wrap64 (bt a0 0)) (Go.bits .or .i64 (wrap64 ((wrap64 (bt a0 1)) * 256)) (wrap64 (bt a0 2))) x188002_1 = some (r1,r2,r3,r4)) ∧ Aside0 (kq ≤ k) ∧ Aside0 (Kd.R k37 37 w' w.heap.size (fun _ => True) u188002 x188002_1) ∧ Aside0 (w'.heap[gb186]? = some (.cells #[.int .i64 x187000_1,.int .i64 x187001_1,(.slice none 0 0)] 28 (0,0))) ∧ Aside0 (w'.heap[gb187]? = some (.cells #[.int .i64 (wrap64 (bt a0 0)),.int .i64 (Go.bits .or .i64 (wrap64 ((wrap64 (bt a0 1)) * 256)) (wrap64 (bt a0 2))),u188002] 28 (0,0))) ∧ Aside0 (Below w.heap.size w w'))
        case atStart => exact ⟨(a0.extract 5 a0.size),(0),(0),(0),(([] : List (S37))),(.slice none 0 0),(by first|rfl|(simp;done)|(simp [Go.Proofs.Ytffgodpmmipnkaa.Z.bne_nil,Go.Proofs.Ytffgodpmmipnkaa.Z.beq_nil];done)|(simp [*];done)),(by first|rfl|(simp;done)|(simp [Go.Proofs.Ytffgodpmmipnkaa.Z.bne_nil,Go.Proofs.Ytffgodpmmipnkaa.Z.beq_nil];done)|(simp [*];done)),H',⟨Nat.le_refl _⟩,⟨by first|exact Kd.R_nil _ _ _ _ _|exact Kd.N_nil _ _ _ _ _|exact Kd.V_nil _ _ _ _ _|exact Kd.Q_nil _ _ _ _ _|exact Kd.S_nil _ _ _ _ _⟩,⟨by (with_reducible repeat (first|refine blk_drewN ?_ _|refine blk_drew ?_|refine blk_alloc ?_ _));exact BK186.out⟩,⟨by (with_reducible repeat (first|refine blk_drewN ?_ _|refine blk_drew ?_|refine blk_alloc ?_ _));exact BK187.out⟩,⟨by repeat (first|(with_reducible first|exact HB.out|apply below_alloc|apply pw_below_drewN|apply below_drew1|refine below_set ?_ GE186.out|refine below_set ?_ GE187.out)|exact HB.out)⟩⟩
        case round =>
         clear H'
         try clear c1
         try clear p1
         try clear q1
         try clear hx1
         try clear qi1
         try clear c2
         try clear c2b0
         try clear c2b1
         try clear p2
         try clear c3
         try clear c3b0
         try clear c3b1
         try clear p4
         try clear q4
         try clear hx4
         try clear qi4
         try clear c5
         try clear c5b0
         try clear c5b1
         try clear p6
         try clear q6
         try clear hx6
         try clear qi6
         try clear c7
         try clear c7b0
         try clear c7b1
         try clear p8
         try clear q8
         try clear hx8
         try clear qi8
         try clear c9
         try clear c9b0
         try clear c9b1
         try clear c10
         try clear c10b0
         try clear c10b1
         try clear p11
         try clear q11
         try clear hx11
         try clear qi11
         try clear c12
         try clear c12b0
         try clear c12b1
         try clear p13
         try clear q13
         try clear hx13
         try clear qi13
         try clear p11
         try clear p13
         try clear p4
         try clear p6
         try clear p8
         try clear q11
         try clear q13
         try clear q4
         try clear q6
         try clear q8
         obtain ⟨x5_1,x36_1,x187000_1,x187001_1,x188002_1,u188002,rfl,rfl,HA,HK1,HO_188002,BK186,BK187,HB⟩:=hrel
         cases gk with
         | zero => exact absurd HA.out (by simp [page_Read.l0])
         | succ k1 =>
          have H:=HA.out
          clear HA
          simp only [page_Read.l0] at H
          by_cases c22 : x36_1 < (Go.bits .or .i64 (wrap64 ((wrap64 (bt a0 3)) * 256)) (wrap64 (bt a0 4)))
          ·rw [if_pos c22] at H
           have c22b0 : decide (x36_1 < (Go.bits .or .i64 (wrap64 ((wrap64 (bt a0 3)) * 256)) (wrap64 (bt a0 4)))) = true:=decide_eq_true c22
           clear c22
           by_cases c23 : (x5_1.size : Int) < 2
           ·rw [if_pos c23] at H
            have c23b0 : decide ((x5_1.size : Int) < 2) = true:=decide_eq_true c23
            have c23b1 : decide (x5_1.size < 2) = true:=decide_eq_true (by omega)
            clear c23
            simp only [Option.some.injEq,Prod.mk.injEq] at H
            obtain ⟨rfl,rfl,rfl,rfl⟩:=H
            have hnb24:=NB186_187.out
            have hnc24:=NB187_186.out
            have hcz25_0 : wr.cell? ⟨gb186,0,none⟩ = some (.int .i64 x187000_1):=(blk_cell BK186.out 0).trans rfl
            have hcz25_1 : wr.cell? ⟨gb186,1,none⟩ = some (.int .i64 x187001_1):=(blk_cell BK186.out 1).trans rfl
            have hcz25_2 : wr.cell? ⟨gb186,2,none⟩ = some (.slice none 0 0):=(blk_cell BK186.out 2).trans rfl
            have hfz25_0:=blk_frozen BK186.out 0
            have hfz25_1:=blk_frozen BK186.out 1
            have hfz25_2:=blk_frozen BK186.out 2
            go_wp2
            refine bodyPost_ret (results_ct rfl _ _ gb186 28 #[.int .i64 0,.int .i64 0,.slice none 0 0] (0,0) _ rfl (by (with_reducible repeat (first|refine blk_drewN ?_ _|refine blk_drew ?_|refine blk_alloc ?_ _));refine blk_put (cs:=#[.int .i64 0,.int .i64 0,.slice none 0 0]) ?_ 2 _ rfl;(with_reducible repeat (first|refine blk_drewN ?_ _|refine blk_drew ?_|refine blk_alloc ?_ _));refine blk_put (cs:=#[.int .i64 0,.int .i64 x187001_1,.slice none 0 0]) ?_ 1 _ rfl;(with_reducible repeat (first|refine blk_drewN ?_ _|refine blk_drew ?_|refine blk_alloc ?_ _));refine blk_put (cs:=#[.int .i64 x187000_1,.int .i64 x187001_1,.slice none 0 0]) ?_ 0 _ rfl;(with_reducible repeat (first|refine blk_drewN ?_ _|refine blk_drew ?_|refine blk_alloc ?_ _));exact BK186.out) Try.underlying28 rfl (by kernel_rfl)) rfl ?_
            exact ⟨_,by first|rfl|(simp [errW_none,errW_some] <;> rfl)|(simp [*,errW_none,errW_some] <;> rfl),by first|exact Kd.R_nil _ _ _ _ _|exact Kd.N_nil _ _ _ _ _|exact Kd.V_nil _ _ _ _ _|exact Kd.Q_nil _ _ _ _ _|exact Kd.S_nil _ _ _ _ _,by repeat (first|(with_reducible first|exact HB.out|apply below_alloc|apply pw_below_drewN|apply below_drew1|refine below_set ?_ GE186.out|refine below_set ?_ GE187.out)|exact HB.out)⟩
           ·rw [if_neg c23] at H
            have c23b0 : decide ((x5_1.size : Int) < 2) = false:=decide_eq_false c23
            have c23b1 : decide (x5_1.size < 2) = false:=decide_eq_false (by omega)
            clear c23
            by_cases c26 : 0 < (x5_1.size : Int)
            ·rw [if_pos c26] at H
             have c26b0 : decide (0 < (x5_1.size : Int)) = true:=decide_eq_true c26
             have c26b1 : decide (0 < x5_1.size) = true:=decide_eq_true (by omega)
             clear c26
             by_cases c28 : 1 < (x5_1.size : Int)
             ·rw [if_pos c28] at H
              have c28b0 : decide (1 < (x5_1.size : Int)) = true:=decide_eq_true c28
              have c28b1 : decide (1 < x5_1.size) = true:=decide_eq_true (by omega)
              clear c28
              by_cases c30 : (x5_1.size : Int) < (wrap64 ((wrap64 (2 + (wrap64 (bt x5_1 0)))) + (wrap64 (bt x5_1 1))))
              ·rw [if_pos c30] at H
               have c30b0 : decide ((x5_1.size : Int) < (wrap64 ((wrap64 (2 + (wrap64 (bt x5_1 0)))) + (wrap64 (bt x5_1 1))))) = true:=decide_eq_true c30
               clear c30
               simp only [Option.some.injEq,Prod.mk.injEq] at H
               obtain ⟨rfl,rfl,rfl,rfl⟩:=H
               try go_wp2
               have n0_:=Aside0.mk (Kd.R_drew HO_188002.out)
               have n1_:=Aside0.mk (blk_drew BK186.out)
               have n2_:=Aside0.mk (blk_drew BK187.out)
               have n3_:=Aside0.mk (below_drew1 HB.out)
               clear HO_188002
               clear BK186
               clear BK187
               clear HB
               have HO_188002:=n0_
               have BK186:=n1_
               have BK187:=n2_
               have HB:=n3_
               clear n0_ n1_ n2_ n3_
               have p27 : 0 ≤ (0 : Int):=(by omega)
               have q27 : 0 < x5_1.size:=(by have : (0 : Int) < (x5_1.size : Int):=of_decide_eq_true (by first|(with_reducible assumption)|assumption);omega)
               have hx27 : ∀ h : 0 < x5_1.size,((x5_1[0]'h).toNat : Int) = bt x5_1 0:=bt_at x5_1 0
               clear p27
               have qi27 : (0 < (x5_1.size : Int)) = True:=eq_true (of_decide_eq_true (by first|(with_reducible assumption)|assumption))
               replace q27:=eq_true q27
               have p29 : 0 ≤ (1 : Int):=(by omega)
               have q29 : 1 < x5_1.size:=(by have : (1 : Int) < (x5_1.size : Int):=of_decide_eq_true (by first|(with_reducible assumption)|assumption);omega)
               have hx29 : ∀ h : 1 < x5_1.size,((x5_1[1]'h).toNat : Int) = bt x5_1 1:=bt_at x5_1 1
               clear p29
               have qi29 : (1 < (x5_1.size : Int)) = True:=eq_true (of_decide_eq_true (by first|(with_reducible assumption)|assumption))
               replace q29:=eq_true q29
               refine start_ (n:=8) (S:=fun w' => True) (ds:=[]) #[false,false,false,false,false,false,false,false] (by kernel_rfl) rfl rfl trivial (fun hHeld => ?_);refine with_tabW page_Read.tab9 page_Read.bits9 (fun HT_ HW_ => ?_)
               generalize wr.drew = w31 at HO_188002 BK186 BK187 HB hHeld ⊢
               refine pure_ (i:=0) (N:=some 42) (v:=?_) (a':=?_) #[true,false,false,false,false,false,false,false] rfl rfl (any_of HT_.out (by kernel_rfl)) (fun _ _ _ h => h) (Or.inl ⟨by rfl,?_⟩) ?_ ?_
               rotate_left
               ·intro w'
                go_simp
                with_reducible rfl
               rotate_left
               ·simp only [Act.put,List.setIfInBounds_toArray,List.set_cons_zero,List.set_cons_succ,i64_w,i32_w]
                rfl
               refine pure_ (i:=3) (N:=some 45) (v:=?_) (a':=?_) #[true,false,false,true,false,false,false,false] rfl rfl (any_of HT_.out (by kernel_rfl)) (fun _ _ _ h => h) (Or.inl ⟨by rfl,?_⟩) ?_ ?_
               rotate_left
               ·intro w'
                go_simp
                with_reducible rfl
               rotate_left
               ·simp only [Act.put,List.setIfInBounds_toArray,List.set_cons_zero,List.set_cons_succ,i64_w,i32_w]
                rfl
               refine take_ (i:=1) (N:=some 43) (v:=?_) (a':=?_) #[true,true,false,true,false,false,false,false] rfl rfl (take_ofW HT_.out HW_.out (by kernel_rfl)) (fun _ _ _ h => h) (Or.inl ⟨by rfl,?_⟩) hHeld ?_ ?_
               rotate_left
               ·intro w' _
                go_simp
                with_reducible rfl
               rotate_left
               ·simp only [Act.put,List.setIfInBounds_toArray,List.set_cons_zero,List.set_cons_succ,i64_w,i32_w]
                rfl
               refine pure_ (i:=2) (N:=some 44) (v:=?_) (a':=?_) #[true,true,true,true,false,false,false,false] rfl rfl (any_of HT_.out (by kernel_rfl)) (fun _ _ _ h => h) (Or.inl ⟨by rfl,?_⟩) ?_ ?_
               rotate_left
               ·intro w'
                go_simp
                with_reducible rfl
               rotate_left
               ·simp only [Act.put,List.setIfInBounds_toArray,List.set_cons_zero,List.set_cons_succ,i64_w,i32_w]
                rfl
               refine pure_ (i:=6) (N:=some 6) (v:=?_) (a':=?_) #[true,true,true,true,false,false,true,false] rfl rfl (any_of HT_.out (by kernel_rfl)) (fun _ _ _ h => h) (Or.inl ⟨by rfl,?_⟩) ?_ ?_
               rotate_left
               ·intro w'
                go_simp
                with_reducible rfl
               rotate_left
               ·simp only [Act.put,List.setIfInBounds_toArray,List.set_cons_zero,List.set_cons_succ,i64_w,i32_w]
                rfl
               refine take_ (i:=4) (N:=some 46) (v:=?_) (a':=?_) #[true,true,true,true,true,false,true,false] rfl rfl (take_ofW HT_.out HW_.out (by kernel_rfl)) (fun _ _ _ h => h) (Or.inl ⟨by rfl,?_⟩) hHeld ?_ ?_
               rotate_left
               ·intro w' _
                go_simp
                with_reducible rfl
               rotate_left
               ·simp only [Act.put,List.setIfInBounds_toArray,List.set_cons_zero,List.set_cons_succ,i64_w,i32_w]
                rfl
               refine pure_ (i:=5) (N:=some 47) (v:=?_) (a':=?_) #[true,true,true,true,true,true,true,false] rfl rfl (any_of HT_.out (by kernel_rfl)) (fun _ _ _ h => h) (Or.inl ⟨by rfl,?_⟩) ?_ ?_
               rotate_left
               ·intro w'
                go_simp
                with_reducible rfl
               rotate_left
               ·simp only [Act.put,List.setIfInBounds_toArray,List.set_cons_zero,List.set_cons_succ,i64_w,i32_w]
                rfl
               refine pure_ (i:=7) (N:=some 7) (v:=?_) (a':=?_) #[true,true,true,true,true,true,true,true] rfl rfl (any_of HT_.out (by kernel_rfl)) (fun _ _ _ h => h) (Or.inl ⟨by rfl,?_⟩) ?_ ?_
               rotate_left
               ·intro w'
                go_simp
                with_reducible rfl
               rotate_left
               ·simp only [Act.put,List.setIfInBounds_toArray,List.set_cons_zero,List.set_cons_succ,i64_w,i32_w]
                rfl
               refine done_ (done_of HT_.out (by kernel_rfl)) ?_
               have hnb32:=NB186_187.out
               have hnc32:=NB187_186.out
               have hcz33_0 : w31.cell? ⟨gb186,0,none⟩ = some (.int .i64 x187000_1):=(blk_cell BK186.out 0).trans rfl
               have hcz33_1 : w31.cell? ⟨gb186,1,none⟩ = some (.int .i64 x187001_1):=(blk_cell BK186.out 1).trans rfl
               have hcz33_2 : w31.cell? ⟨gb186,2,none⟩ = some (.slice none 0 0):=(blk_cell BK186.out 2).trans rfl
               have hfz33_0:=blk_frozen BK186.out 0
               have hfz33_1:=blk_frozen BK186.out 1
               have hfz33_2:=blk_frozen BK186.out 2
               try go_wp2
               refine bodyPost_ret (results_ct rfl _ _ gb186 28 #[.int .i64 0,.int .i64 0,.slice none 0 0] (0,0) _ rfl (by (with_reducible repeat (first|refine blk_drewN ?_ _|refine blk_drew ?_|refine blk_alloc ?_ _));refine blk_put (cs:=#[.int .i64 0,.int .i64 0,.slice none 0 0]) ?_ 2 _ rfl;(with_reducible repeat (first|refine blk_drewN ?_ _|refine blk_drew ?_|refine blk_alloc ?_ _));refine blk_put (cs:=#[.int .i64 0,.int .i64 x187001_1,.slice none 0 0]) ?_ 1 _ rfl;(with_reducible repeat (first|refine blk_drewN ?_ _|refine blk_drew ?_|refine blk_alloc ?_ _));refine blk_put (cs:=#[.int .i64 x187000_1,.int .i64 x187001_1,.slice none 0 0]) ?_ 0 _ rfl;(with_reducible repeat (first|refine blk_drewN ?_ _|refine blk_drew ?_|refine blk_alloc ?_ _));exact BK186.out) Try.underlying28 rfl (by kernel_rfl)) rfl ?_
               exact ⟨_,by first|rfl|(simp [errW_none,errW_some] <;> rfl)|(simp [*,errW_none,errW_some] <;> rfl),by first|exact Kd.R_nil _ _ _ _ _|exact Kd.N_nil _ _ _ _ _|exact Kd.V_nil _ _ _ _ _|exact Kd.Q_nil _ _ _ _ _|exact Kd.S_nil _ _ _ _ _,by repeat (first|(with_reducible first|exact HB.out|apply below_alloc|apply pw_below_drewN|apply below_drew1|refine below_set ?_ GE186.out|refine below_set ?_ GE187.out)|exact HB.out)⟩
              ·rw [if_neg c30] at H
               have c30b0 : decide ((x5_1.size : Int) < (wrap64 ((wrap64 (2 + (wrap64 (bt x5_1 0)))) + (wrap64 (bt x5_1 1))))) = false:=decide_eq_false c30
               clear c30
               by_cases c34 : 2 ≤ (wrap64 (2 + (wrap64 (bt x5_1 0))))
               ·rw [if_pos c34] at H
                have c34b0:=eq_true c34
                have c34b1 : decide (2 ≤ (wrap64 (2 + (wrap64 (bt x5_1 0))))) = true:=decide_eq_true c34
                by_cases c35 : (wrap64 (2 + (wrap64 (bt x5_1 0)))) ≤ (x5_1.size : Int)
                ·rw [if_pos c35] at H
                 have c35b0:=eq_true c35
                 have c35b1 : decide ((wrap64 (2 + (wrap64 (bt x5_1 0)))) ≤ (x5_1.size : Int)) = true:=decide_eq_true c35
                 obtain ⟨ji36,hji36⟩ : ∃ j_ : Int,(wrap64 (2 + (wrap64 (bt x5_1 0)))) = j_:=⟨_,rfl⟩
                 replace H : (if 0 ≤ (ji36) then (if (ji36) ≤ (wrap64 ((ji36) + (wrap64 (bt x5_1 1)))) then (if (wrap64 ((ji36) + (wrap64 (bt x5_1 1)))) ≤ (x5_1.size : Int) then (if x188002_1.length < 4398046511104 then (if 0 ≤ (wrap64 ((ji36) + (wrap64 (bt x5_1 1)))) then (page_Read.l0 k1 a0 (x5_1.extract ((wrap64 ((ji36) + (wrap64 (bt x5_1 1)))) : Int).toNat x5_1.size) (Go.bits .or .i64 (wrap64 ((wrap64 (bt a0 3)) * 256)) (wrap64 (bt a0 4))) (wrap64 (x36_1 + 1)) (wrap64 (bt a0 0)) (Go.bits .or .i64 (wrap64 ((wrap64 (bt a0 1)) * 256)) (wrap64 (bt a0 2))) (x188002_1 ++ [(⟨x5_1.extract 2 ((ji36) : Int).toNat,x5_1.extract ((ji36) : Int).toNat ((wrap64 ((ji36) + (wrap64 (bt x5_1 1)))) : Int).toNat⟩ : S37)])) else (none)) else (none)) else (none)) else (none)) else (none)) = some (r1,r2,r3,r4):=by first|(rw [hji36] at H;exact H)|(simp only [hji36] at H ⊢;exact H)
                 (try rw [hji36] at c30b0)
                 (try rw [hji36] at c34b0)
                 (try rw [hji36] at c34b1)
                 (try rw [hji36] at c34)
                 (try rw [hji36] at c35b0)
                 (try rw [hji36] at c35b1)
                 (try rw [hji36] at c35)
                 have hji36w : (IntKind.i64.wrap (2 + (wrap64 (bt x5_1 0)))) = ji36:=(i64_w _).trans hji36
                 by_cases c37 : 0 ≤ (ji36)
                 ·rw [if_pos c37] at H
                  have c37b0:=eq_true c37
                  have c37b1 : decide (0 ≤ (ji36)) = true:=decide_eq_true c37
                  clear c37
                  by_cases c38 : (ji36) ≤ (wrap64 ((ji36) + (wrap64 (bt x5_1 1))))
                  ·rw [if_pos c38] at H
                   have c38b0:=eq_true c38
                   have c38b1 : decide ((ji36) ≤ (wrap64 ((ji36) + (wrap64 (bt x5_1 1))))) = true:=decide_eq_true c38
                   by_cases c39 : (wrap64 ((ji36) + (wrap64 (bt x5_1 1)))) ≤ (x5_1.size : Int)
                   ·rw [if_pos c39] at H
                    have c39b0:=eq_true c39
                    have c39b1 : decide ((wrap64 ((ji36) + (wrap64 (bt x5_1 1)))) ≤ (x5_1.size : Int)) = true:=decide_eq_true c39
                    by_cases c40 : x188002_1.length < 4398046511104
                    ·rw [if_pos c40] at H
                     have LMc40:=Aside0.mk c40
                     clear c40
                     obtain ⟨y190,hy190⟩ : ∃ y_ : List (S37),y_ = (x188002_1 ++ [(⟨x5_1.extract 2 ((ji36) : Int).toNat,x5_1.extract ((ji36) : Int).toNat ((wrap64 ((ji36) + (wrap64 (bt x5_1 1)))) : Int).toNat⟩ : S37)]):=⟨_,rfl⟩
                     replace H : (if 0 ≤ (wrap64 ((ji36) + (wrap64 (bt x5_1 1)))) then (page_Read.l0 k1 a0 (x5_1.extract ((wrap64 ((ji36) + (wrap64 (bt x5_1 1)))) : Int).toNat x5_1.size) (Go.bits .or .i64 (wrap64 ((wrap64 (bt a0 3)) * 256)) (wrap64 (bt a0 4))) (wrap64 (x36_1 + 1)) (wrap64 (bt a0 0)) (Go.bits .or .i64 (wrap64 ((wrap64 (bt a0 1)) * 256)) (wrap64 (bt a0 2))) y190) else (none)) = some (r1,r2,r3,r4):=by first|(rw [hy190];with_reducible exact H)|(have H2_:=(Option.bind_some _ _).symm.trans H;rw [hy190];with_reducible exact H2_)|(have H2_:=(Option.bind_some _ _).symm.trans H;with_reducible exact H2_)|with_reducible exact H|(rw [hy190];exact H)|exact H
                     have Ny190:=Aside0.mk hy190
                     clear hy190
                     obtain ⟨ji41,hji41⟩ : ∃ j_ : Int,(wrap64 ((ji36) + (wrap64 (bt x5_1 1)))) = j_:=⟨_,rfl⟩
                     replace H : (if 0 ≤ (ji41) then (page_Read.l0 k1 a0 (x5_1.extract ((ji41) : Int).toNat x5_1.size) (Go.bits .or .i64 (wrap64 ((wrap64 (bt a0 3)) * 256)) (wrap64 (bt a0 4))) (wrap64 (x36_1 + 1)) (wrap64 (bt a0 0)) (Go.bits .or .i64 (wrap64 ((wrap64 (bt a0 1)) * 256)) (wrap64 (bt a0 2))) y190) else (none)) = some (r1,r2,r3,r4):=by first|(rw [hji41] at H;exact H)|(simp only [hji41] at H ⊢;exact H)
                     (try rw [hji41] at c38b0)
                     (try rw [hji41] at c38b1)
                     (try rw [hji41] at c38)
                     (try rw [hji41] at c39b0)
                     (try rw [hji41] at c39b1)
                     (try rw [hji41] at c39)
                     (try rw [hji41] at Ny190)
                     (try rw [hji41] at Ny190)
                     have hji41w : (IntKind.i64.wrap ((ji36) + (wrap64 (bt x5_1 1)))) = ji41:=(i64_w _).trans hji41
                     by_cases c42 : 0 ≤ (ji41)
                     ·rw [if_pos c42] at H
                      have c42b0:=eq_true c42
                      have c42b1 : decide (0 ≤ (ji41)) = true:=decide_eq_true c42
                      clear c42
                      have c43b0:=eq_true (of_decide_eq_true (by first|(with_reducible assumption)|assumption) : (ji41) ≤ (x5_1.size : Int))
                      have H':=Aside0.mk H
                      clear H
                      try go_wp2
                      have n0_:=Aside0.mk (Kd.R_drew HO_188002.out)
                      have n1_:=Aside0.mk (blk_drew BK186.out)
                      have n2_:=Aside0.mk (blk_drew BK187.out)
                      have n3_:=Aside0.mk (below_drew1 HB.out)
                      clear HO_188002
                      clear BK186
                      clear BK187
                      clear HB
                      have HO_188002:=n0_
                      have BK186:=n1_
                      have BK187:=n2_
                      have HB:=n3_
                      clear n0_ n1_ n2_ n3_
                      have p27 : 0 ≤ (0 : Int):=(by omega)
                      have q27 : 0 < x5_1.size:=(by have : (0 : Int) < (x5_1.size : Int):=of_decide_eq_true (by first|(with_reducible assumption)|assumption);omega)
                      have hx27 : ∀ h : 0 < x5_1.size,((x5_1[0]'h).toNat : Int) = bt x5_1 0:=bt_at x5_1 0
                      clear p27
                      have qi27 : (0 < (x5_1.size : Int)) = True:=eq_true (of_decide_eq_true (by first|(with_reducible assumption)|assumption))
                      replace q27:=eq_true q27
                      have p29 : 0 ≤ (1 : Int):=(by omega)
                      have q29 : 1 < x5_1.size:=(by have : (1 : Int) < (x5_1.size : Int):=of_decide_eq_true (by first|(with_reducible assumption)|assumption);omega)
                      have hx29 : ∀ h : 1 < x5_1.size,((x5_1[1]'h).toNat : Int) = bt x5_1 1:=bt_at x5_1 1
                      clear p29
                      have qi29 : (1 < (x5_1.size : Int)) = True:=eq_true (of_decide_eq_true (by first|(with_reducible assumption)|assumption))
                      replace q29:=eq_true q29
                      refine start_ (n:=8) (S:=fun w' => True) (ds:=[]) #[false,false,false,false,false,false,false,false] (by kernel_rfl) rfl rfl trivial (fun hHeld => ?_);refine with_tabW page_Read.tab9 page_Read.bits9 (fun HT_ HW_ => ?_)
                      generalize wr.drew = w44 at HO_188002 BK186 BK187 HB hHeld ⊢
                      refine pure_ (i:=0) (N:=some 42) (v:=?_) (a':=?_) #[true,false,false,false,false,false,false,false] rfl rfl (any_of HT_.out (by kernel_rfl)) (fun _ _ _ h => h) (Or.inl ⟨by rfl,?_⟩) ?_ ?_
                      rotate_left
                      ·intro w'
                       go_simp
                       with_reducible rfl
                      rotate_left
                      ·simp only [Act.put,List.setIfInBounds_toArray,List.set_cons_zero,List.set_cons_succ,i64_w,i32_w]
                       rfl
                      refine pure_ (i:=3) (N:=some 45) (v:=?_) (a':=?_) #[true,false,false,true,false,false,false,false] rfl rfl (any_of HT_.out (by kernel_rfl)) (fun _ _ _ h => h) (Or.inl ⟨by rfl,?_⟩) ?_ ?_
                      rotate_left
                      ·intro w'
                       go_simp
                       with_reducible rfl
                      rotate_left
                      ·simp only [Act.put,List.setIfInBounds_toArray,List.set_cons_zero,List.set_cons_succ,i64_w,i32_w]
                       rfl
                      refine take_ (i:=1) (N:=some 43) (v:=?_) (a':=?_) #[true,true,false,true,false,false,false,false] rfl rfl (take_ofW HT_.out HW_.out (by kernel_rfl)) (fun _ _ _ h => h) (Or.inl ⟨by rfl,?_⟩) hHeld ?_ ?_
                      rotate_left
                      ·intro w' _
                       go_simp
                       with_reducible rfl
                      rotate_left
                      ·simp only [Act.put,List.setIfInBounds_toArray,List.set_cons_zero,List.set_cons_succ,i64_w,i32_w]
                       rfl
                      refine pure_ (i:=2) (N:=some 44) (v:=?_) (a':=?_) #[true,true,true,true,false,false,false,false] rfl rfl (any_of HT_.out (by kernel_rfl)) (fun _ _ _ h => h) (Or.inl ⟨by rfl,?_⟩) ?_ ?_
                      rotate_left
                      ·intro w'
                       go_simp
                       with_reducible rfl
                      rotate_left
                      ·simp only [Act.put,List.setIfInBounds_toArray,List.set_cons_zero,List.set_cons_succ,i64_w,i32_w]
                       rfl
                      refine pure_ (i:=6) (N:=some 6) (v:=?_) (a':=?_) #[true,true,true,true,false,false,true,false] rfl rfl (any_of HT_.out (by kernel_rfl)) (fun _ _ _ h => h) (Or.inl ⟨by rfl,?_⟩) ?_ ?_
                      rotate_left
                      ·intro w'
                       go_simp
                       with_reducible rfl
                      rotate_left
                      ·simp only [Act.put,List.setIfInBounds_toArray,List.set_cons_zero,List.set_cons_succ,i64_w,i32_w]
                       rfl
                      refine take_ (i:=4) (N:=some 46) (v:=?_) (a':=?_) #[true,true,true,true,true,false,true,false] rfl rfl (take_ofW HT_.out HW_.out (by kernel_rfl)) (fun _ _ _ h => h) (Or.inl ⟨by rfl,?_⟩) hHeld ?_ ?_
                      rotate_left
                      ·intro w' _
                       go_simp
                       with_reducible rfl
                      rotate_left
                      ·simp only [Act.put,List.setIfInBounds_toArray,List.set_cons_zero,List.set_cons_succ,i64_w,i32_w]
                       rfl
                      refine pure_ (i:=5) (N:=some 47) (v:=?_) (a':=?_) #[true,true,true,true,true,true,true,false] rfl rfl (any_of HT_.out (by kernel_rfl)) (fun _ _ _ h => h) (Or.inl ⟨by rfl,?_⟩) ?_ ?_
                      rotate_left
                      ·intro w'
                       go_simp
                       with_reducible rfl
                      rotate_left
                      ·simp only [Act.put,List.setIfInBounds_toArray,List.set_cons_zero,List.set_cons_succ,i64_w,i32_w]
                       rfl
                      refine pure_ (i:=7) (N:=some 7) (v:=?_) (a':=?_) #[true,true,true,true,true,true,true,true] rfl rfl (any_of HT_.out (by kernel_rfl)) (fun _ _ _ h => h) (Or.inl ⟨by rfl,?_⟩) ?_ ?_
                      rotate_left
                      ·intro w'
                       go_simp
                       with_reducible rfl
                      rotate_left
                      ·simp only [Act.put,List.setIfInBounds_toArray,List.set_cons_zero,List.set_cons_succ,i64_w,i32_w]
                       rfl
                      refine done_ (done_of HT_.out (by kernel_rfl)) ?_
                      try go_wp2
                      have n0_:=Aside0.mk (Kd.R_drew HO_188002.out)
                      have n1_:=Aside0.mk (blk_drew BK186.out)
                      have n2_:=Aside0.mk (blk_drew BK187.out)
                      have n3_:=Aside0.mk (below_drew1 HB.out)
                      clear HO_188002
                      clear BK186
                      clear BK187
                      clear HB
                      have HO_188002:=n0_
                      have BK186:=n1_
                      have BK187:=n2_
                      have HB:=n3_
                      clear n0_ n1_ n2_ n3_
                      refine start_ (n:=19) (S:=fun w' => w'.cell? ⟨gb187,0,none⟩ = some (.int .i64 (wrap64 (bt a0 0))) ∧ w'.cell? ⟨gb187,1,none⟩ = some (.int .i64 (Go.bits .or .i64 (wrap64 ((wrap64 (bt a0 1)) * 256)) (wrap64 (bt a0 2)))) ∧ w'.cell? ⟨gb187,2,none⟩ = some (u188002)) (ds:=[18]) #[false,false,false,false,false,false,false,false,false,false,false,false,false,false,false,false,false,false,false] (by kernel_rfl) rfl rfl ⟨(blk_cell BK187.out 0).trans rfl,(blk_cell BK187.out 1).trans rfl,(blk_cell BK187.out 2).trans rfl⟩ (fun hHeld => ?_);refine with_tabW page_Read.tab12 page_Read.bits12 (fun HT_ HW_ => ?_)
                      generalize w44.drew = w45 at HO_188002 BK186 BK187 HB hHeld ⊢
                      refine pure_ (i:=0) (N:=some 56) (v:=?_) (a':=?_) #[true,false,false,false,false,false,false,false,false,false,false,false,false,false,false,false,false,false,false] rfl rfl (any_of HT_.out (by kernel_rfl)) (fun _ _ _ h => h) (Or.inl ⟨by rfl,?_⟩) ?_ ?_
                      rotate_left
                      ·intro w'
                       go_simp
                       with_reducible rfl
                      rotate_left
                      ·simp only [Act.put,List.setIfInBounds_toArray,List.set_cons_zero,List.set_cons_succ,i64_w,i32_w]
                       rfl
                      refine pure_ (i:=2) (N:=some 58) (v:=?_) (a':=?_) #[true,false,true,false,false,false,false,false,false,false,false,false,false,false,false,false,false,false,false] rfl rfl (any_of HT_.out (by kernel_rfl)) (fun _ _ _ h => h) (Or.inl ⟨by rfl,?_⟩) ?_ ?_
                      rotate_left
                      ·intro w'
                       go_simp
                       with_reducible rfl
                      rotate_left
                      ·simp only [Act.put,List.setIfInBounds_toArray,List.set_cons_zero,List.set_cons_succ,i64_w,i32_w]
                       rfl
                      refine pure_ (i:=3) (N:=some 59) (v:=?_) (a':=?_) #[true,false,true,true,false,false,false,false,false,false,false,false,false,false,false,false,false,false,false] rfl rfl (any_of HT_.out (by kernel_rfl)) (fun _ _ _ h => h) (Or.inl ⟨by rfl,?_⟩) ?_ ?_
                      rotate_left
                      ·intro w'
                       go_simp
                       with_reducible rfl
                      rotate_left
                      ·simp only [Act.put,List.setIfInBounds_toArray,List.set_cons_zero,List.set_cons_succ,i64_w,i32_w]
                       rfl
                      refine pure_ (i:=4) (N:=some 60) (v:=?_) (a':=?_) #[true,false,true,true,true,false,false,false,false,false,false,false,false,false,false,false,false,false,false] rfl rfl (any_of HT_.out (by kernel_rfl)) (fun _ _ _ h => h) (Or.inl ⟨by rfl,?_⟩) ?_ ?_
                      rotate_left
                      ·intro w'
                       go_simp
                       with_reducible rfl
                      rotate_left
                      ·simp only [Act.put,List.setIfInBounds_toArray,List.set_cons_zero,List.set_cons_succ,i64_w,i32_w]
                       rfl
                      refine pure_ (i:=5) (N:=some 61) (v:=?_) (a':=?_) #[true,false,true,true,true,true,false,false,false,false,false,false,false,false,false,false,false,false,false] rfl rfl (any_of HT_.out (by kernel_rfl)) (fun _ _ _ h => h) (Or.inl ⟨by rfl,?_⟩) ?_ ?_
                      rotate_left
                      ·intro w'
                       go_simp
                       with_reducible rfl
                      rotate_left
                      ·simp only [Act.put,List.setIfInBounds_toArray,List.set_cons_zero,List.set_cons_succ,i64_w,i32_w]
                       rfl
                      refine pure_ (i:=6) (N:=some 62) (v:=?_) (a':=?_) #[true,false,true,true,true,true,true,false,false,false,false,false,false,false,false,false,false,false,false] rfl rfl (any_of HT_.out (by kernel_rfl)) (fun _ _ _ h => h) (Or.inl ⟨by rfl,?_⟩) ?_ ?_
                      rotate_left
                      ·intro w'
                       go_simp
                       with_reducible rfl
                      rotate_left
                      ·simp only [Act.put,List.setIfInBounds_toArray,List.set_cons_zero,List.set_cons_succ,i64_w,i32_w]
                       rfl
                      refine pure_ (i:=7) (N:=some 63) (v:=?_) (a':=?_) #[true,false,true,true,true,true,true,true,false,false,false,false,false,false,false,false,false,false,false] rfl rfl (any_of HT_.out (by kernel_rfl)) (fun _ _ _ h => h) (Or.inl ⟨by rfl,?_⟩) ?_ ?_
                      rotate_left
                      ·intro w'
                       go_simp
                       with_reducible rfl
                      rotate_left
                      ·simp only [Act.put,List.setIfInBounds_toArray,List.set_cons_zero,List.set_cons_succ,i64_w,i32_w]
                       rfl
                      refine pure_ (i:=8) (N:=some 64) (v:=?_) (a':=?_) #[true,false,true,true,true,true,true,true,true,false,false,false,false,false,false,false,false,false,false] rfl rfl (any_of HT_.out (by kernel_rfl)) (fun _ _ _ h => h) (Or.inl ⟨by rfl,?_⟩) ?_ ?_
                      rotate_left
                      ·intro w'
                       go_simp
                       with_reducible rfl
                      rotate_left
                      ·simp only [Act.put,List.setIfInBounds_toArray,List.set_cons_zero,List.set_cons_succ,i64_w,i32_w]
                       rfl
                      refine pure_ (i:=9) (N:=some 65) (v:=?_) (a':=?_) #[true,false,true,true,true,true,true,true,true,true,false,false,false,false,false,false,false,false,false] rfl rfl (any_of HT_.out (by kernel_rfl)) (fun _ _ _ h => h) (Or.inl ⟨by rfl,?_⟩) ?_ ?_
                      rotate_left
                      ·intro w'
                       go_simp
                       with_reducible rfl
                      rotate_left
                      ·simp only [Act.put,List.setIfInBounds_toArray,List.set_cons_zero,List.set_cons_succ,i64_w,i32_w]
                       rfl
                      refine pure_ (i:=10) (N:=some 66) (v:=?_) (a':=?_) #[true,false,true,true,true,true,true,true,true,true,true,false,false,false,false,false,false,false,false] rfl rfl (any_of HT_.out (by kernel_rfl)) (fun _ _ _ h => h) (Or.inl ⟨by rfl,?_⟩) ?_ ?_
                      rotate_left
                      ·intro w'
                       go_simp
                       with_reducible rfl
                      rotate_left
                      ·simp only [Act.put,List.setIfInBounds_toArray,List.set_cons_zero,List.set_cons_succ,i64_w,i32_w]
                       rfl
                      refine pure_ (i:=11) (N:=some 67) (v:=?_) (a':=?_) #[true,false,true,true,true,true,true,true,true,true,true,true,false,false,false,false,false,false,false] rfl rfl (any_of HT_.out (by kernel_rfl)) (fun _ _ _ h => h) (Or.inl ⟨by rfl,?_⟩) ?_ ?_
                      rotate_left
                      ·intro w'
                       go_simp
                       with_reducible rfl
                      rotate_left
                      ·simp only [Act.put,List.setIfInBounds_toArray,List.set_cons_zero,List.set_cons_succ,i64_w,i32_w]
                       rfl
                      refine pure_ (i:=12) (N:=some 68) (v:=?_) (a':=?_) #[true,false,true,true,true,true,true,true,true,true,true,true,true,false,false,false,false,false,false] rfl rfl (any_of HT_.out (by kernel_rfl)) (fun _ _ _ h => h) (Or.inl ⟨by rfl,?_⟩) ?_ ?_
                      rotate_left
                      ·intro w'
                       go_simp
                       with_reducible rfl
                      rotate_left
                      ·simp only [Act.put,List.setIfInBounds_toArray,List.set_cons_zero,List.set_cons_succ,i64_w,i32_w]
                       rfl
                      refine pure_ (i:=13) (N:=some 69) (v:=?_) (a':=?_) #[true,false,true,true,true,true,true,true,true,true,true,true,true,true,false,false,false,false,false] rfl rfl (any_of HT_.out (by kernel_rfl)) (fun _ _ _ h => h) (Or.inl ⟨by rfl,?_⟩) ?_ ?_
                      rotate_left
                      ·intro w'
                       go_simp
                       with_reducible rfl
                      rotate_left
                      ·simp only [Act.put,List.setIfInBounds_toArray,List.set_cons_zero,List.set_cons_succ,i64_w,i32_w]
                       rfl
                      refine pure_ (i:=14) (N:=some 70) (v:=?_) (a':=?_) #[true,false,true,true,true,true,true,true,true,true,true,true,true,true,true,false,false,false,false] rfl rfl (any_of HT_.out (by kernel_rfl)) (fun _ _ _ h => h) (Or.inl ⟨by rfl,?_⟩) ?_ ?_
                      rotate_left
                      ·intro w'
                       go_simp
                       with_reducible rfl
                      rotate_left
                      ·simp only [Act.put,List.setIfInBounds_toArray,List.set_cons_zero,List.set_cons_succ,i64_w,i32_w]
                       rfl
                      refine take_ (i:=1) (N:=some 57) (v:=?_) (a':=?_) #[true,true,true,true,true,true,true,true,true,true,true,true,true,true,true,false,false,false,false] rfl rfl (take_ofW HT_.out HW_.out (by kernel_rfl)) (fun _ _ _ h => h) (Or.inl ⟨by rfl,?_⟩) hHeld ?_ ?_
                      rotate_left
                      ·rintro w' ⟨s0,s1,s2⟩
                       go_simp
                       with_reducible rfl
                      rotate_left
                      ·simp only [Act.put,List.setIfInBounds_toArray,List.set_cons_zero,List.set_cons_succ,i64_w,i32_w]
                       rfl
                      refine one_ (i:=15) (N:=some 71) #[true,true,true,true,true,true,true,true,true,true,true,true,true,true,true,true,false,false,false] rfl rfl (one_of HT_.out (by kernel_rfl)) (by decide) (fun K hK => ?_)
                      refine value_ (w1:=?_) (v:=?_) (by rfl) rfl ?_ ?_
                      rotate_left 2
                      ·go_simp
                       constructor
                       ·rfl
                       ·rfl
                      refine hK.out _ _ ⟨(blk_cell (blk_alloc BK187.out _) 0).trans rfl,(blk_cell (blk_alloc BK187.out _) 1).trans rfl,(blk_cell (blk_alloc BK187.out _) 2).trans rfl⟩ (fun hHeld => ?_)
                      clear hK K
                      refine norm_ (a':=?_) ?_ ?_
                      rotate_left
                      ·show Act.put _ (some 71) _ = _
                       simp only [Act.put,List.setIfInBounds_toArray,List.set_cons_zero,List.set_cons_succ,i64_w,i32_w]
                       rfl
                      refine one_ (i:=16) (N:=some 72) #[true,true,true,true,true,true,true,true,true,true,true,true,true,true,true,true,true,false,false] rfl rfl (one_of HT_.out (by kernel_rfl)) (by decide) (fun K hK => ?_)
                      refine Kd.R_append_step k37 (w0:=w) w.heap.size (by rfl) (.tmp 57) (.tmp 71) 22 37 (.agg #[(.string ⟨#[]⟩),(.string ⟨#[]⟩)]) 32 rfl Try.underlying22 info37 rfl (by decide) (by omega) u188002 x188002_1 (⟨x5_1.extract 2 ((ji36) : Int).toNat,x5_1.extract ((ji36) : Int).toNat ((ji41) : Int).toNat⟩ : S37) [.string (x5_1.extract 2 ((ji36) : Int).toNat),.string (x5_1.extract ((ji36) : Int).toNat ((ji41) : Int).toNat)] (fun _ => True) (fun _ => False) rfl rfl ?aP (fun _ hk => hk.elim) ?aF ?aO ?aB ?aS ?aL ?_
                      (case aP => exact k37_mkM _ _ _ (⟨x5_1.extract 2 ((ji36) : Int).toNat,x5_1.extract ((ji36) : Int).toNat ((ji41) : Int).toNat⟩ : S37))
                      (case aB => exact (by repeat (first|(with_reducible first|exact HB.out|apply below_alloc|apply pw_below_drewN|apply below_drew1|refine below_set ?_ GE186.out|refine below_set ?_ GE187.out)|exact HB.out)))
                      (case aF => exact (fun _ _ => trivial))
                      (case aO => exact (by (with_reducible repeat (first|apply Kd.R_alloc|apply Kd.R_drewN|apply Kd.R_drew));exact HO_188002.out))
                      (case aS => exact (below_size (by repeat (first|(with_reducible first|exact HB.out|apply below_alloc|apply pw_below_drewN|apply below_drew1|refine below_set ?_ GE186.out|refine below_set ?_ GE187.out)|exact HB.out))))
                      (case aL => have:=LMc40.out;omega)
                      intro v191 w46 ho hb hg hat
                      rw [← Ny190.out] at ho
                      have n0_:=Aside0.mk (blk_grown (g:=gb186) (o:=.cells #[.int .i64 x187000_1,.int .i64 x187001_1,.slice none 0 0] 28 (0,0)) (by (with_reducible repeat (first|refine blk_drewN ?_ _|refine blk_drew ?_|refine blk_alloc ?_ _));exact BK186.out) hg (Kd.R_ne HO_188002.out BK186.out (by decide)))
                      have n1_:=Aside0.mk (blk_grown (g:=gb187) (o:=.cells #[.int .i64 (wrap64 (bt a0 0)),.int .i64 (Go.bits .or .i64 (wrap64 ((wrap64 (bt a0 1)) * 256)) (wrap64 (bt a0 2))),u188002] 28 (0,0)) (by (with_reducible repeat (first|refine blk_drewN ?_ _|refine blk_drew ?_|refine blk_alloc ?_ _));exact BK187.out) hg (Kd.R_ne HO_188002.out BK187.out (by decide)))
                      have n2_:=Aside0.mk (hb)
                      have n3_:=Aside0.mk (ho)
                      clear BK186
                      clear BK187
                      clear HB
                      clear HO_188002
                      have BK186:=n0_
                      have BK187:=n1_
                      have HB:=n2_
                      have HO192:=n3_
                      clear n0_ n1_ n2_ n3_
                      clear ho hb hg hat
                      obtain ⟨Ao47,co47,eo47⟩:=Kd.R_slice HO192.out
                      (first|subst eo47|(injection eo47 with f1_ f2_ f3_;have f4_:=f1_.symm;have f5_:=f3_.symm;clear f1_ f2_ f3_;subst f4_;subst f5_))
                      refine hK.out _ _ ⟨(blk_cell BK187.out 0).trans rfl,(blk_cell BK187.out 1).trans rfl,(blk_cell BK187.out 2).trans rfl⟩ (fun hHeld => ?_)
                      clear hK K
                      refine norm_ (a':=?_) ?_ ?_
                      rotate_left
                      ·show Act.put _ (some 72) _ = _
                       simp only [Act.put,List.setIfInBounds_toArray,List.set_cons_zero,List.set_cons_succ,i64_w,i32_w]
                       rfl
                      refine pure_ (i:=17) (N:=some 73) (v:=?_) (a':=?_) #[true,true,true,true,true,true,true,true,true,true,true,true,true,true,true,true,true,true,false] rfl rfl (any_of HT_.out (by kernel_rfl)) (fun _ _ _ h => h) (Or.inl ⟨by rfl,?_⟩) ?_ ?_
                      rotate_left
                      ·intro w'
                       go_simp
                       with_reducible rfl
                      rotate_left
                      ·simp only [Act.put,List.setIfInBounds_toArray,List.set_cons_zero,List.set_cons_succ,i64_w,i32_w]
                       rfl
                      refine last_ (i:=18) (N:=none) #[true,true,true,true,true,true,true,true,true,true,true,true,true,true,true,true,true,true,true] rfl rfl (one_of HT_.out (by kernel_rfl)) (by decide) (fun K hK => ?_)
                      have hs48 : w46.cell? ⟨gb187,2,none⟩ = some (u188002):=(blk_cell BK187.out 2).trans rfl
                      have hfs48:=blk_frozen BK187.out 2
                      have hns48_0:=NB186_187.out
                      have hms48_0:=NB187_186.out
                      refine skip_ (w1:=?_) (by rfl) rfl ?_ ?_
                      rotate_left
                      ·go_simp
                       rfl
                      refine hK.out _ _ ?_
                      clear hK K
                      refine done_ (done_of HT_.out (by kernel_rfl)) ?_
                      try go_wp2
                      go_roundg k1
                      case measure => have:=HK1.out;omega
                      case rel => exact ⟨(x5_1.extract ((ji41) : Int).toNat x5_1.size),(wrap64 (x36_1 + 1)),(x187000_1),(x187001_1),(y190),(.slice Ao47 y190.length co47),(by first|rfl|(simp;done)|(simp only [← hji41] <;> (first|rfl|simp))|(simp [*];done)),(by first|rfl|(simp;done)|(simp [Go.Proofs.Ytffgodpmmipnkaa.Z.bne_nil,Go.Proofs.Ytffgodpmmipnkaa.Z.beq_nil];done)|(simp [*];done)),H',⟨by have:=HK1.out;omega⟩,⟨by (with_reducible repeat (first|apply Kd.R_alloc|apply Kd.R_drewN|apply Kd.R_drew));exact Kd.R_mono (Kd.R_far (p:=⟨gb187,2,none⟩) (Kd.R_types HO192.out BK187.out (by decide)) (fun _ hk => hk.2) (.slice Ao47 y190.length co47)) (fun _ hk => trivial)⟩,⟨by (with_reducible repeat (first|refine blk_drewN ?_ _|refine blk_drew ?_|refine blk_alloc ?_ _));refine blk_far ?_ NB186_187.out _;(with_reducible repeat (first|refine blk_drewN ?_ _|refine blk_drew ?_|refine blk_alloc ?_ _));exact BK186.out⟩,⟨by (with_reducible repeat (first|refine blk_drewN ?_ _|refine blk_drew ?_|refine blk_alloc ?_ _));refine blk_put (cs:=#[.int .i64 (wrap64 (bt a0 0)),.int .i64 (Go.bits .or .i64 (wrap64 ((wrap64 (bt a0 1)) * 256)) (wrap64 (bt a0 2))),u188002]) ?_ 2 _ rfl;(with_reducible repeat (first|refine blk_drewN ?_ _|refine blk_drew ?_|refine blk_alloc ?_ _));exact BK187.out⟩,⟨by repeat (first|(with_reducible first|exact HB.out|apply below_alloc|apply pw_below_drewN|apply below_drew1|refine below_set ?_ GE186.out|refine below_set ?_ GE187.out)|exact HB.out)⟩⟩
                     ·rw [if_neg c42] at H
                      exact absurd H (by simp)
                    ·rw [if_neg c40] at H
                     exact absurd H (by simp)
                   ·rw [if_neg c39] at H
                    exact absurd H (by simp)
                  ·rw [if_neg c38] at H
                   exact absurd H (by simp)
                 ·rw [if_neg c37] at H
                  exact absurd H (by simp)
                ·rw [if_neg c35] at H
                 exact absurd H (by simp)
               ·rw [if_neg c34] at H
                exact absurd H (by simp)
             ·rw [if_neg c28] at H
              exact absurd H (by simp)
            ·rw [if_neg c26] at H
             exact absurd H (by simp)
          ·rw [if_neg c22] at H
           have c22b0 : decide (x36_1 < (Go.bits .or .i64 (wrap64 ((wrap64 (bt a0 3)) * 256)) (wrap64 (bt a0 4)))) = false:=decide_eq_false c22
           clear c22
           replace H:=Option.bind_eq_some_iff.mp H
           obtain ⟨⟨t188,t189⟩,A490,H⟩:=H
           replace H : (if t189 = 0 then (if t188.toList = a0.toList then (some ((wrap64 (bt a0 0)),(Go.bits .or .i64 (wrap64 ((wrap64 (bt a0 1)) * 256)) (wrap64 (bt a0 2))),x188002_1,0)) else (some (0,0,([] : List (S37)),4))) else (some (0,0,([] : List (S37)),4))) = some (r1,r2,r3,r4):=H
           have A49:=Aside0.mk A490
           clear A490
           by_cases c50 : t189 = 0
           ·rw [if_pos c50] at H
            have c50b0 : (t189 == 0) = true:=beq_iff_eq.mpr c50
            have c50b1 : (t189 != 0) = false:=bne_eq_false_iff_eq.mpr c50
            clear c50
            by_cases c51 : t188.toList = a0.toList
            ·rw [if_pos c51] at H
             have c51b0 : (t188.toList == a0.toList) = true:=beq_iff_eq.mpr c51
             have c51b1 : (t188.toList != a0.toList) = false:=bne_eq_false_iff_eq.mpr c51
             clear c51
             simp only [Option.some.injEq,Prod.mk.injEq] at H
             obtain ⟨rfl,rfl,rfl,rfl⟩:=H
             have hnb52:=NB187_186.out
             have hnc52:=NB186_187.out
             have hcz53_0 : wr.cell? ⟨gb187,0,none⟩ = some (.int .i64 (wrap64 (bt a0 0))):=(blk_cell BK187.out 0).trans rfl
             have hcz53_1 : wr.cell? ⟨gb187,1,none⟩ = some (.int .i64 (Go.bits .or .i64 (wrap64 ((wrap64 (bt a0 1)) * 256)) (wrap64 (bt a0 2)))):=(blk_cell BK187.out 1).trans rfl
             have hcz53_2 : wr.cell? ⟨gb187,2,none⟩ = some (u188002):=(blk_cell BK187.out 2).trans rfl
             have hfz53_0:=blk_frozen BK187.out 0
             have hfz53_1:=blk_frozen BK187.out 1
             have hfz53_2:=blk_frozen BK187.out 2
             obtain ⟨Ao54,co54,eo54⟩:=Kd.R_slice HO_188002.out
             subst eo54
             go_wp2_with (first|((with_reducible refine gate_callee (f:=10) rfl ?_);refine goesL_ (some 83) rfl rfl Try.func10 (by kernel_rfl) rfl #[.agg #[.int .i64 (wrap64 (bt a0 0)),.int .i64 (Go.bits .or .i64 (wrap64 ((wrap64 (bt a0 1)) * 256)) (wrap64 (bt a0 2))),.slice Ao54 x188002_1.length co54]] rfl (by (try simp only [List.map_toArray,List.map_cons,List.map_nil]);first|done|rfl|(simp only [List.length_drop,List.length_take];rfl)) ?_;(with_reducible refine (page_Write.calls k1 (wrap64 (bt a0 0)) (Go.bits .or .i64 (wrap64 ((wrap64 (bt a0 1)) * 256)) (wrap64 (bt a0 2))) _ _ x188002_1 t188 t189 _ ?side1 ?side2 A49.out).mono ?_);(case side1 => repeat (first|exact (Kd.R_reads' HO_188002.out).2.2|(with_reducible refine Kd.C_alloc ?_ _)|(with_reducible refine Kd.C_drewN ?_ _)|(with_reducible refine Kd.C_drew ?_)));(case side2 => exact (Kd.R_reads' HO_188002.out).2.1);rintro e w55 ⟨rfl,hb⟩;refine ⟨_,rfl,?_⟩;have n0_:=Aside0.mk (Kd.R_below (by (with_reducible repeat (first|apply Kd.R_alloc|apply Kd.R_drewN|apply Kd.R_drew));exact HO_188002.out) hb);have n1_:=Aside0.mk (blk_below (g:=gb186) (o:=.cells #[.int .i64 x187000_1,.int .i64 x187001_1,.slice none 0 0] 28 (0,0)) (by (with_reducible repeat (first|refine blk_drewN ?_ _|refine blk_drew ?_|refine blk_alloc ?_ _));exact BK186.out) hb);have n2_:=Aside0.mk (blk_below (g:=gb187) (o:=.cells #[.int .i64 (wrap64 (bt a0 0)),.int .i64 (Go.bits .or .i64 (wrap64 ((wrap64 (bt a0 1)) * 256)) (wrap64 (bt a0 2))),.slice Ao54 x188002_1.length co54] 28 (0,0)) (by (with_reducible repeat (first|refine blk_drewN ?_ _|refine blk_drew ?_|refine blk_alloc ?_ _));exact BK187.out) hb);have n3_:=Aside0.mk (below_step (by repeat (first|(with_reducible first|exact HB.out|apply below_alloc|apply pw_below_drewN|apply below_drew1|refine below_set ?_ GE186.out|refine below_set ?_ GE187.out)|exact HB.out)) hb);clear HO_188002;clear BK186;clear BK187;clear HB;have HO_188002:=n0_;have BK186:=n1_;have BK187:=n2_;have HB:=n3_;clear n0_ n1_ n2_ n3_;(try clear hb);(try clear hb2);(try clear hk);(try clear hi);have hcz56_0 : w55.cell? ⟨gb187,0,none⟩ = some (.int .i64 (wrap64 (bt a0 0))):=(blk_cell BK187.out 0).trans rfl;have hcz56_1 : w55.cell? ⟨gb187,1,none⟩ = some (.int .i64 (Go.bits .or .i64 (wrap64 ((wrap64 (bt a0 1)) * 256)) (wrap64 (bt a0 2)))):=(blk_cell BK187.out 1).trans rfl;have hcz56_2 : w55.cell? ⟨gb187,2,none⟩ = some (.slice Ao54 x188002_1.length co54):=(blk_cell BK187.out 2).trans rfl;have hfz56_0:=blk_frozen BK187.out 0;have hfz56_1:=blk_frozen BK187.out 1;have hfz56_2:=blk_frozen BK187.out 2;have hcz57_0 : w55.cell? ⟨gb186,0,none⟩ = some (.int .i64 x187000_1):=(blk_cell BK186.out 0).trans rfl;have hcz57_1 : w55.cell? ⟨gb186,1,none⟩ = some (.int .i64 x187001_1):=(blk_cell BK186.out 1).trans rfl;have hcz57_2 : w55.cell? ⟨gb186,2,none⟩ = some (.slice none 0 0):=(blk_cell BK186.out 2).trans rfl;have hfz57_0:=blk_frozen BK186.out 0;have hfz57_1:=blk_frozen BK186.out 1;have hfz57_2:=blk_frozen BK186.out 2))
             refine bodyPost_ret (results_ct rfl _ _ gb186 28 #[.int .i64 (wrap64 (bt a0 0)),.int .i64 (Go.bits .or .i64 (wrap64 ((wrap64 (bt a0 1)) * 256)) (wrap64 (bt a0 2))),.slice Ao54 x188002_1.length co54] (0,0) _ rfl (by (with_reducible repeat (first|refine blk_drewN ?_ _|refine blk_drew ?_|refine blk_alloc ?_ _));refine blk_put (cs:=#[.int .i64 (wrap64 (bt a0 0)),.int .i64 (Go.bits .or .i64 (wrap64 ((wrap64 (bt a0 1)) * 256)) (wrap64 (bt a0 2))),.slice none 0 0]) ?_ 2 _ rfl;(with_reducible repeat (first|refine blk_drewN ?_ _|refine blk_drew ?_|refine blk_alloc ?_ _));refine blk_put (cs:=#[.int .i64 (wrap64 (bt a0 0)),.int .i64 x187001_1,.slice none 0 0]) ?_ 1 _ rfl;(with_reducible repeat (first|refine blk_drewN ?_ _|refine blk_drew ?_|refine blk_alloc ?_ _));refine blk_put (cs:=#[.int .i64 x187000_1,.int .i64 x187001_1,.slice none 0 0]) ?_ 0 _ rfl;(with_reducible repeat (first|refine blk_drewN ?_ _|refine blk_drew ?_|refine blk_alloc ?_ _));exact BK186.out) Try.underlying28 rfl (by kernel_rfl)) rfl ?_
             exact ⟨_,by first|rfl|(simp [errW_none,errW_some] <;> rfl)|(simp [*,errW_none,errW_some] <;> rfl),by (with_reducible repeat (first|apply Kd.R_alloc|apply Kd.R_drewN|apply Kd.R_drew));exact Kd.R_mono (Kd.R_far (p:=⟨gb186,2,none⟩) (Kd.R_far (p:=⟨gb186,1,none⟩) (Kd.R_far (p:=⟨gb186,0,none⟩) (Kd.R_types HO_188002.out BK186.out (by decide)) (fun _ hk => hk.2) (.int .i64 (wrap64 (bt a0 0)))) (fun _ hk => hk.2) (.int .i64 (Go.bits .or .i64 (wrap64 ((wrap64 (bt a0 1)) * 256)) (wrap64 (bt a0 2))))) (fun _ hk => hk.2) (.slice Ao54 x188002_1.length co54)) (fun _ hk => trivial),by repeat (first|(with_reducible first|exact HB.out|apply below_alloc|apply pw_below_drewN|apply below_drew1|refine below_set ?_ GE186.out|refine below_set ?_ GE187.out)|exact HB.out)⟩
            ·rw [if_neg c51] at H
             have c51b0 : (t188.toList == a0.toList) = false:=beq_eq_false_iff_ne.mpr c51
             have c51b1 : (t188.toList != a0.toList) = true:=bne_iff_ne.mpr c51
             simp only [Option.some.injEq,Prod.mk.injEq] at H
             obtain ⟨rfl,rfl,rfl,rfl⟩:=H
             have hnb58:=NB187_186.out
             have hnc58:=NB186_187.out
             have hcz59_0 : wr.cell? ⟨gb187,0,none⟩ = some (.int .i64 (wrap64 (bt a0 0))):=(blk_cell BK187.out 0).trans rfl
             have hcz59_1 : wr.cell? ⟨gb187,1,none⟩ = some (.int .i64 (Go.bits .or .i64 (wrap64 ((wrap64 (bt a0 1)) * 256)) (wrap64 (bt a0 2)))):=(blk_cell BK187.out 1).trans rfl
             have hcz59_2 : wr.cell? ⟨gb187,2,none⟩ = some (u188002):=(blk_cell BK187.out 2).trans rfl
             have hfz59_0:=blk_frozen BK187.out 0
             have hfz59_1:=blk_frozen BK187.out 1
             have hfz59_2:=blk_frozen BK187.out 2
             obtain ⟨Ao60,co60,eo60⟩:=Kd.R_slice HO_188002.out
             subst eo60
             go_wp2_with (first|((with_reducible refine gate_callee (f:=10) rfl ?_);refine goesL_ (some 83) rfl rfl Try.func10 (by kernel_rfl) rfl #[.agg #[.int .i64 (wrap64 (bt a0 0)),.int .i64 (Go.bits .or .i64 (wrap64 ((wrap64 (bt a0 1)) * 256)) (wrap64 (bt a0 2))),.slice Ao60 x188002_1.length co60]] rfl (by (try simp only [List.map_toArray,List.map_cons,List.map_nil]);first|done|rfl|(simp only [List.length_drop,List.length_take];rfl)) ?_;(with_reducible refine (page_Write.calls k1 (wrap64 (bt a0 0)) (Go.bits .or .i64 (wrap64 ((wrap64 (bt a0 1)) * 256)) (wrap64 (bt a0 2))) _ _ x188002_1 t188 t189 _ ?side1 ?side2 A49.out).mono ?_);(case side1 => repeat (first|exact (Kd.R_reads' HO_188002.out).2.2|(with_reducible refine Kd.C_alloc ?_ _)|(with_reducible refine Kd.C_drewN ?_ _)|(with_reducible refine Kd.C_drew ?_)));(case side2 => exact (Kd.R_reads' HO_188002.out).2.1);rintro e w61 ⟨rfl,hb⟩;refine ⟨_,rfl,?_⟩;have n0_:=Aside0.mk (Kd.R_below (by (with_reducible repeat (first|apply Kd.R_alloc|apply Kd.R_drewN|apply Kd.R_drew));exact HO_188002.out) hb);have n1_:=Aside0.mk (blk_below (g:=gb186) (o:=.cells #[.int .i64 x187000_1,.int .i64 x187001_1,.slice none 0 0] 28 (0,0)) (by (with_reducible repeat (first|refine blk_drewN ?_ _|refine blk_drew ?_|refine blk_alloc ?_ _));exact BK186.out) hb);have n2_:=Aside0.mk (blk_below (g:=gb187) (o:=.cells #[.int .i64 (wrap64 (bt a0 0)),.int .i64 (Go.bits .or .i64 (wrap64 ((wrap64 (bt a0 1)) * 256)) (wrap64 (bt a0 2))),.slice Ao60 x188002_1.length co60] 28 (0,0)) (by (with_reducible repeat (first|refine blk_drewN ?_ _|refine blk_drew ?_|refine blk_alloc ?_ _));exact BK187.out) hb);have n3_:=Aside0.mk (below_step (by repeat (first|(with_reducible first|exact HB.out|apply below_alloc|apply pw_below_drewN|apply below_drew1|refine below_set ?_ GE186.out|refine below_set ?_ GE187.out)|exact HB.out)) hb);clear HO_188002;clear BK186;clear BK187;clear HB;have HO_188002:=n0_;have BK186:=n1_;have BK187:=n2_;have HB:=n3_;clear n0_ n1_ n2_ n3_;(try clear hb);(try clear hb2);(try clear hk);(try clear hi);have hcz62_0 : w61.cell? ⟨gb186,0,none⟩ = some (.int .i64 x187000_1):=(blk_cell BK186.out 0).trans rfl;have hcz62_1 : w61.cell? ⟨gb186,1,none⟩ = some (.int .i64 x187001_1):=(blk_cell BK186.out 1).trans rfl;have hcz62_2 : w61.cell? ⟨gb186,2,none⟩ = some (.slice none 0 0):=(blk_cell BK186.out 2).trans rfl;have hfz62_0:=blk_frozen BK186.out 0;have hfz62_1:=blk_frozen BK186.out 1;have hfz62_2:=blk_frozen BK186.out 2))
             refine bodyPost_ret (results_ct rfl _ _ gb186 28 #[.int .i64 0,.int .i64 0,.slice none 0 0] (0,0) _ rfl (by (with_reducible repeat (first|refine blk_drewN ?_ _|refine blk_drew ?_|refine blk_alloc ?_ _));refine blk_put (cs:=#[.int .i64 0,.int .i64 0,.slice none 0 0]) ?_ 2 _ rfl;(with_reducible repeat (first|refine blk_drewN ?_ _|refine blk_drew ?_|refine blk_alloc ?_ _));refine blk_put (cs:=#[.int .i64 0,.int .i64 x187001_1,.slice none 0 0]) ?_ 1 _ rfl;(with_reducible repeat (first|refine blk_drewN ?_ _|refine blk_drew ?_|refine blk_alloc ?_ _));refine blk_put (cs:=#[.int .i64 x187000_1,.int .i64 x187001_1,.slice none 0 0]) ?_ 0 _ rfl;(with_reducible repeat (first|refine blk_drewN ?_ _|refine blk_drew ?_|refine blk_alloc ?_ _));exact BK186.out) Try.underlying28 rfl (by kernel_rfl)) rfl ?_
             exact ⟨_,by first|rfl|(simp [errW_none,errW_some] <;> rfl)|(simp [*,errW_none,errW_some] <;> rfl),by first|exact Kd.R_nil _ _ _ _ _|exact Kd.N_nil _ _ _ _ _|exact Kd.V_nil _ _ _ _ _|exact Kd.Q_nil _ _ _ _ _|exact Kd.S_nil _ _ _ _ _,by repeat (first|(with_reducible first|exact HB.out|apply below_alloc|apply pw_below_drewN|apply below_drew1|refine below_set ?_ GE186.out|refine below_set ?_ GE187.out)|exact HB.out)⟩
           ·rw [if_neg c50] at H
            have c50b0 : (t189 == 0) = false:=beq_eq_false_iff_ne.mpr c50
            have c50b1 : (t189 != 0) = true:=bne_iff_ne.mpr c50
            simp only [Option.some.injEq,Prod.mk.injEq] at H
            obtain ⟨rfl,rfl,rfl,rfl⟩:=H
            have hnb63:=NB187_186.out
            have hnc63:=NB186_187.out
            have hcz64_0 : wr.cell? ⟨gb187,0,none⟩ = some (.int .i64 (wrap64 (bt a0 0))):=(blk_cell BK187.out 0).trans rfl
            have hcz64_1 : wr.cell? ⟨gb187,1,none⟩ = some (.int .i64 (Go.bits .or .i64 (wrap64 ((wrap64 (bt a0 1)) * 256)) (wrap64 (bt a0 2)))):=(blk_cell BK187.out 1).trans rfl
            have hcz64_2 : wr.cell? ⟨gb187,2,none⟩ = some (u188002):=(blk_cell BK187.out 2).trans rfl
            have hfz64_0:=blk_frozen BK187.out 0
            have hfz64_1:=blk_frozen BK187.out 1
            have hfz64_2:=blk_frozen BK187.out 2
            obtain ⟨Ao65,co65,eo65⟩:=Kd.R_slice HO_188002.out
            subst eo65
            go_wp2_with (first|((with_reducible refine gate_callee (f:=10) rfl ?_);refine goesL_ (some 83) rfl rfl Try.func10 (by kernel_rfl) rfl #[.agg #[.int .i64 (wrap64 (bt a0 0)),.int .i64 (Go.bits .or .i64 (wrap64 ((wrap64 (bt a0 1)) * 256)) (wrap64 (bt a0 2))),.slice Ao65 x188002_1.length co65]] rfl (by (try simp only [List.map_toArray,List.map_cons,List.map_nil]);first|done|rfl|(simp only [List.length_drop,List.length_take];rfl)) ?_;(with_reducible refine (page_Write.calls k1 (wrap64 (bt a0 0)) (Go.bits .or .i64 (wrap64 ((wrap64 (bt a0 1)) * 256)) (wrap64 (bt a0 2))) _ _ x188002_1 t188 t189 _ ?side1 ?side2 A49.out).mono ?_);(case side1 => repeat (first|exact (Kd.R_reads' HO_188002.out).2.2|(with_reducible refine Kd.C_alloc ?_ _)|(with_reducible refine Kd.C_drewN ?_ _)|(with_reducible refine Kd.C_drew ?_)));(case side2 => exact (Kd.R_reads' HO_188002.out).2.1);rintro e w66 ⟨rfl,hb⟩;refine ⟨_,rfl,?_⟩;have n0_:=Aside0.mk (Kd.R_below (by (with_reducible repeat (first|apply Kd.R_alloc|apply Kd.R_drewN|apply Kd.R_drew));exact HO_188002.out) hb);have n1_:=Aside0.mk (blk_below (g:=gb186) (o:=.cells #[.int .i64 x187000_1,.int .i64 x187001_1,.slice none 0 0] 28 (0,0)) (by (with_reducible repeat (first|refine blk_drewN ?_ _|refine blk_drew ?_|refine blk_alloc ?_ _));exact BK186.out) hb);have n2_:=Aside0.mk (blk_below (g:=gb187) (o:=.cells #[.int .i64 (wrap64 (bt a0 0)),.int .i64 (Go.bits .or .i64 (wrap64 ((wrap64 (bt a0 1)) * 256)) (wrap64 (bt a0 2))),.slice Ao65 x188002_1.length co65] 28 (0,0)) (by (with_reducible repeat (first|refine blk_drewN ?_ _|refine blk_drew ?_|refine blk_alloc ?_ _));exact BK187.out) hb);have n3_:=Aside0.mk (below_step (by repeat (first|(with_reducible first|exact HB.out|apply below_alloc|apply pw_below_drewN|apply below_drew1|refine below_set ?_ GE186.out|refine below_set ?_ GE187.out)|exact HB.out)) hb);clear HO_188002;clear BK186;clear BK187;clear HB;have HO_188002:=n0_;have BK186:=n1_;have BK187:=n2_;have HB:=n3_;clear n0_ n1_ n2_ n3_;(try clear hb);(try clear hb2);(try clear hk);(try clear hi);have hcz67_0 : w66.cell? ⟨gb186,0,none⟩ = some (.int .i64 x187000_1):=(blk_cell BK186.out 0).trans rfl;have hcz67_1 : w66.cell? ⟨gb186,1,none⟩ = some (.int .i64 x187001_1):=(blk_cell BK186.out 1).trans rfl;have hcz67_2 : w66.cell? ⟨gb186,2,none⟩ = some (.slice none 0 0):=(blk_cell BK186.out 2).trans rfl;have hfz67_0:=blk_frozen BK186.out 0;have hfz67_1:=blk_frozen BK186.out 1;have hfz67_2:=blk_frozen BK186.out 2))
            refine bodyPost_ret (results_ct rfl _ _ gb186 28 #[.int .i64 0,.int .i64 0,.slice none 0 0] (0,0) _ rfl (by (with_reducible repeat (first|refine blk_drewN ?_ _|refine blk_drew ?_|refine blk_alloc ?_ _));refine blk_put (cs:=#[.int .i64 0,.int .i64 0,.slice none 0 0]) ?_ 2 _ rfl;(with_reducible repeat (first|refine blk_drewN ?_ _|refine blk_drew ?_|refine blk_alloc ?_ _));refine blk_put (cs:=#[.int .i64 0,.int .i64 x187001_1,.slice none 0 0]) ?_ 1 _ rfl;(with_reducible repeat (first|refine blk_drewN ?_ _|refine blk_drew ?_|refine blk_alloc ?_ _));refine blk_put (cs:=#[.int .i64 x187000_1,.int .i64 x187001_1,.slice none 0 0]) ?_ 0 _ rfl;(with_reducible repeat (first|refine blk_drewN ?_ _|refine blk_drew ?_|refine blk_alloc ?_ _));exact BK186.out) Try.underlying28 rfl (by kernel_rfl)) rfl ?_
            exact ⟨_,by first|rfl|(simp [errW_none,errW_some] <;> rfl)|(simp [*,errW_none,errW_some] <;> rfl),by first|exact Kd.R_nil _ _ _ _ _|exact Kd.N_nil _ _ _ _ _|exact Kd.V_nil _ _ _ _ _|exact Kd.Q_nil _ _ _ _ _|exact Kd.S_nil _ _ _ _ _,by repeat (first|(with_reducible first|exact HB.out|apply below_alloc|apply pw_below_drewN|apply below_drew1|refine below_set ?_ GE186.out|refine below_set ?_ GE187.out)|exact HB.out)⟩
       ·rw [if_neg c12] at H
        exact absurd H (by simp)
      ·rw [if_neg c10] at H
       exact absurd H (by simp)
     ·rw [if_neg c9] at H
      exact absurd H (by simp)
    ·rw [if_neg c7] at H
     exact absurd H (by simp)
   ·rw [if_neg c5] at H
    exact absurd H (by simp)
  ·rw [if_neg c3] at H
   exact absurd H (by simp)
 ·rw [if_neg c2] at H
  have c2b0 : ((a0.size : Int) == 512) = false:=beq_eq_false_iff_ne.mpr c2
  have c2b1 : ((a0.size : Int) != 512) = true:=bne_iff_ne.mpr c2
  simp only [Option.some.injEq,Prod.mk.injEq] at H
  obtain ⟨rfl,rfl,rfl,rfl⟩:=H
  go_enter Try.func12,Try.ntmps12
  go_wp2_with (first|((with_reducible refine gate_dst (N:=2) rfl ?_);refine box_event ?hg (N:=2) ?hd (cs:=#[.int .i64 0,.int .i64 0,.slice none 0 0]) (t:=28) ?hr ?_;(case hd => rfl);(case hg => rfl);(case hr => first|(go_simp;done)|(go_simp;rfl));intro gb186 hg w68 hbox hb;have n0_:=Aside0.mk (below_step (by repeat (first|(with_reducible first|exact HB.out|apply below_alloc|apply pw_below_drewN|apply below_drew1)|exact HB.out)) hb);have n1_:=Aside0.mk (hbox);have n2_:=Aside0.mk ((by rw [hg];exact (below_size (by repeat (first|(with_reducible first|exact HB.out|apply below_alloc|apply pw_below_drewN|apply below_drew1)|exact HB.out))) : w.heap.size ≤ gb186));have n3_:=Aside0.mk ((by rw [hg];exact (below_size (by repeat (first|(with_reducible first|exact HB.out|apply below_alloc|apply pw_below_drewN|apply below_drew1)|exact HB.out))) : w.heap.size ≤ gb186));clear HB;have HB:=n0_;have BK186:=n1_;have GW186:=n2_;have GE186:=n3_;clear n0_ n1_ n2_ n3_;clear hb hbox hg;have hcz69_0 : w68.cell? ⟨gb186,0,none⟩ = some (.int .i64 0):=(blk_cell BK186.out 0).trans rfl;have hcz69_1 : w68.cell? ⟨gb186,1,none⟩ = some (.int .i64 0):=(blk_cell BK186.out 1).trans rfl;have hcz69_2 : w68.cell? ⟨gb186,2,none⟩ = some (.slice none 0 0):=(blk_cell BK186.out 2).trans rfl;have hfz69_0:=blk_frozen BK186.out 0;have hfz69_1:=blk_frozen BK186.out 1;have hfz69_2:=blk_frozen BK186.out 2))
  refine bodyPost_ret (results_ct rfl _ _ gb186 28 #[.int .i64 0,.int .i64 0,.slice none 0 0] (0,0) _ rfl (by (with_reducible repeat (first|refine blk_drewN ?_ _|refine blk_drew ?_|refine blk_alloc ?_ _));refine blk_put (cs:=#[.int .i64 0,.int .i64 0,.slice none 0 0]) ?_ 2 _ rfl;(with_reducible repeat (first|refine blk_drewN ?_ _|refine blk_drew ?_|refine blk_alloc ?_ _));refine blk_put (cs:=#[.int .i64 0,.int .i64 0,.slice none 0 0]) ?_ 1 _ rfl;(with_reducible repeat (first|refine blk_drewN ?_ _|refine blk_drew ?_|refine blk_alloc ?_ _));refine blk_put (cs:=#[.int .i64 0,.int .i64 0,.slice none 0 0]) ?_ 0 _ rfl;(with_reducible repeat (first|refine blk_drewN ?_ _|refine blk_drew ?_|refine blk_alloc ?_ _));exact BK186.out) Try.underlying28 rfl (by kernel_rfl)) rfl ?_
  exact ⟨_,by first|rfl|(simp [errW_none,errW_some] <;> rfl)|(simp [*,errW_none,errW_some] <;> rfl),by first|exact Kd.R_nil _ _ _ _ _|exact Kd.N_nil _ _ _ _ _|exact Kd.V_nil _ _ _ _ _|exact Kd.Q_nil _ _ _ _ _|exact Kd.S_nil _ _ _ _ _,by repeat (first|(with_reducible first|exact HB.out|apply below_alloc|apply pw_below_drewN|apply below_drew1|refine below_set ?_ GE186.out)|exact HB.out)⟩

end Go.Proofs.Ytffgodpmmipnkaa.X
