-- By a program of this session (wip/xprint.py over the kit's print).
import Derived.Test.YtffgodpmmipnkaaX0
import Derived.Test.YtffgodpmmipnkaaX35
import Derived.Test.YtffgodpmmipnkaaX37
import Derived.Test.YtffgodpmmipnkaaX39
namespace Go.Proofs.Ytffgodpmmipnkaa.X
open Go.RowKit Go.Proofs.YtffgodpmmipnkaaW.PrintWords Go.Proofs.YtffgodpmmipnkaaW.PrintLast Go.Proofs.YtffgodpmmipnkaaW.PrintMore
attribute [local go_sem] max2_int min2_int max_two min_two max_three min_three max_four min_four Go.Proofs.Ytffgodpmmipnkaa.Z.leq_string Go.Proofs.Ytffgodpmmipnkaa.Z.gtr_string Go.Proofs.Ytffgodpmmipnkaa.Z.geq_string   -- for this text's walks alone
set_option linter.unusedVariables false
set_option linter.unusedSimpArgs false

/-! ### page_Delete: function 23 -/
def page_Delete.f (k : Nat) (l0 : List (S37)) (a1 : ByteArray) : Option ((List (S37)) × Bool):=(page_Find.f k l0 a1).bind fun bt214 => (if bt214.2 = true then (if 0 ≤ bt214.1 then (if bt214.1 ≤ (l0.length : Int) then (if 0 ≤ (wrap64 (bt214.1 + 1)) then (if (wrap64 (bt214.1 + 1)) ≤ (l0.length : Int) then ((api_Entry_43.f (([(l0.take (bt214.1 : Int).toNat),(l0.drop ((wrap64 (bt214.1 + 1)) : Int).toNat)] : List (List (S37))))).bind fun t229 => (some (t229,true))) else (none)) else (none)) else (none)) else (none)) else ((api_Entry_42.f l0).bind fun t232 => (some (t232,false))))
theorem page_Delete.mono : ∀ a0 a1 k,LeO (page_Delete.f k a0 a1) (page_Delete.f (k + 1) a0 a1):=by
 intro a0 a1 k
 unfold page_Delete.f
 repeat' first
  | (with_reducible exact page_Find.mono _ _ _)
  | (with_reducible exact LeO.refl _)
  | (with_reducible exact LeO.none _)
  | (with_reducible refine LeO.ite ?_ ?_)
  | (with_reducible refine LeO.bind ?_ (fun _ => ?_))
  | exact page_Find.mono _ _ _
  | exact LeO.none _
  | refine LeO.ite ?_ ?_
  | refine LeO.bind ?_ (fun _ => ?_)
def page_Delete.T4 : Bool × List (List Nat × List Nat):=(true,[([],[]),([],[]),([0,1],[0,1]),([],[]),([],[]),([4],[4]),([3,5],[3,5]),([2,6],[2,6]),([7],[7]),([8,8,0,1,2,3,4,5,6,7,8],[8]),([9,0,1,2,3,4,5,6,7,8,9],[])])
def page_Delete.B4 : List Nat:=[0,0,3,0,0,16,56,127,255,511,1023]
theorem page_Delete.tab4 : rtab .any (opsOf Try.f23 4) = page_Delete.T4:=by kernel_rfl
theorem page_Delete.bits4 : waitsOk page_Delete.T4.2 page_Delete.B4 = true:=by kernel_rfl
set_option maxHeartbeats 8000000 in
set_option maxRecDepth 100000 in
theorem page_Delete.calls (k : Nat) (P0_ : Nat → Prop) (A0 : Option Addr) (c0 : Nat) (l0 : List (S37)) (a1 : ByteArray) (r1 : List (S37)) (r2 : Bool) (w : World) (hs0 : Kd.V k37 37 w w.heap.size (fun k_ => P0_ k_) (.slice A0 l0.length c0) l0) (h : page_Delete.f k l0 a1 = some (r1,r2)) :
 Calls Try.prog 23 #[.slice A0 l0.length c0,.string a1] w fun e w' => ∃ v0_ : Value,e = .returned (.tuple #[v0_,.bool r2]) ∧ Kd.R k37 37 w' w.heap.size (fun k_ => (w.heap.size ≤ k_)) v0_ r1 ∧ Below w.heap.size w w':=by
 have HO0:=Aside0.mk (show Kd.V k37 37 w w.heap.size (fun k_ => (P0_ k_ ∨ w.heap.size ≤ k_)) (.slice A0 l0.length c0) l0 from Kd.V_mono hs0 (fun k_ hk => .inl hk))
 have HB:=Aside0.mk (Below.refl w.heap.size w)
 have H : ((page_Find.f k l0 a1).bind fun bt214 => (if bt214.2 = true then (if 0 ≤ bt214.1 then (if bt214.1 ≤ (l0.length : Int) then (if 0 ≤ (wrap64 (bt214.1 + 1)) then (if (wrap64 (bt214.1 + 1)) ≤ (l0.length : Int) then ((api_Entry_43.f (([(l0.take (bt214.1 : Int).toNat),(l0.drop ((wrap64 (bt214.1 + 1)) : Int).toNat)] : List (List (S37))))).bind fun t229 => (some (t229,true))) else (none)) else (none)) else (none)) else (none)) else ((api_Entry_42.f l0).bind fun t232 => (some (t232,false))))) = some (r1,r2):=h
 clear h
 replace H:=Option.bind_eq_some_iff.mp H
 obtain ⟨⟨t214,t215⟩,A30,H⟩:=H
 replace H : (if t215 = true then (if 0 ≤ t214 then (if t214 ≤ (l0.length : Int) then (if 0 ≤ (wrap64 (t214 + 1)) then (if (wrap64 (t214 + 1)) ≤ (l0.length : Int) then ((api_Entry_43.f (([(l0.take (t214 : Int).toNat),(l0.drop ((wrap64 (t214 + 1)) : Int).toNat)] : List (List (S37))))).bind fun t229 => (some (t229,true))) else (none)) else (none)) else (none)) else (none)) else ((api_Entry_42.f l0).bind fun t232 => (some (t232,false)))) = some (r1,r2):=H
 have A3:=Aside0.mk A30
 clear A30
 by_cases c4 : t215 = true
 ·subst c4
  have H1 : (if 0 ≤ t214 then (if t214 ≤ (l0.length : Int) then (if 0 ≤ (wrap64 (t214 + 1)) then (if (wrap64 (t214 + 1)) ≤ (l0.length : Int) then ((api_Entry_43.f (([(l0.take (t214 : Int).toNat),(l0.drop ((wrap64 (t214 + 1)) : Int).toNat)] : List (List (S37))))).bind fun t229 => (some (t229,true))) else (none)) else (none)) else (none)) else (none)) = some (r1,r2):=by rw [if_pos rfl] at H;exact H
  clear H
  have H:=H1
  clear H1
  by_cases c5 : 0 ≤ t214
  ·rw [if_pos c5] at H
   have c5b0:=eq_true c5
   have c5b1 : decide (0 ≤ t214) = true:=decide_eq_true c5
   clear c5
   by_cases c6 : t214 ≤ (l0.length : Int)
   ·rw [if_pos c6] at H
    have c6b0:=eq_true c6
    have c6b1 : decide (t214 ≤ (l0.length : Int)) = true:=decide_eq_true c6
    clear c6
    obtain ⟨y216,hy216⟩ : ∃ y_ : List (S37),y_ = (l0.take (t214 : Int).toNat):=⟨_,rfl⟩
    replace H : (if 0 ≤ (wrap64 (t214 + 1)) then (if (wrap64 (t214 + 1)) ≤ (l0.length : Int) then ((api_Entry_43.f (([y216,(l0.drop ((wrap64 (t214 + 1)) : Int).toNat)] : List (List (S37))))).bind fun t229 => (some (t229,true))) else (none)) else (none)) = some (r1,r2):=by first|(rw [hy216];with_reducible exact H)|(have H2_:=(Option.bind_some _ _).symm.trans H;rw [hy216];with_reducible exact H2_)|(have H2_:=(Option.bind_some _ _).symm.trans H;with_reducible exact H2_)|with_reducible exact H|(rw [hy216];exact H)|exact H
    have Ny216:=Aside0.mk hy216
    clear hy216
    obtain ⟨ji7,hji7⟩ : ∃ j_ : Int,(wrap64 (t214 + 1)) = j_:=⟨_,rfl⟩
    replace H : (if 0 ≤ (ji7) then (if (ji7) ≤ (l0.length : Int) then ((api_Entry_43.f (([y216,(l0.drop ((ji7) : Int).toNat)] : List (List (S37))))).bind fun t229 => (some (t229,true))) else (none)) else (none)) = some (r1,r2):=by first|(rw [hji7] at H;exact H)|(simp only [hji7] at H ⊢;exact H)
    (try rw [hji7] at A3)
    have hji7w : (IntKind.i64.wrap (t214 + 1)) = ji7:=(i64_w _).trans hji7
    by_cases c8 : 0 ≤ (ji7)
    ·rw [if_pos c8] at H
     have c8b0:=eq_true c8
     have c8b1 : decide (0 ≤ (ji7)) = true:=decide_eq_true c8
     clear c8
     by_cases c9 : (ji7) ≤ (l0.length : Int)
     ·rw [if_pos c9] at H
      have c9b0:=eq_true c9
      have c9b1 : decide ((ji7) ≤ (l0.length : Int)) = true:=decide_eq_true c9
      clear c9
      obtain ⟨y221,hy221⟩ : ∃ y_ : List (S37),y_ = (l0.drop ((ji7) : Int).toNat):=⟨_,rfl⟩
      replace H : ((api_Entry_43.f (([y216,y221] : List (List (S37))))).bind fun t229 => (some (t229,true))) = some (r1,r2):=by first|(rw [hy221];with_reducible exact H)|(have H2_:=(Option.bind_some _ _).symm.trans H;rw [hy221];with_reducible exact H2_)|(have H2_:=(Option.bind_some _ _).symm.trans H;with_reducible exact H2_)|with_reducible exact H|(rw [hy221];exact H)|exact H
      have Ny221:=Aside0.mk hy221
      clear hy221
      obtain ⟨y226,hy226⟩ : ∃ y_ : List (List (S37)),y_ = (([y216,y221] : List (List (S37)))):=⟨_,rfl⟩
      replace H : ((api_Entry_43.f y226).bind fun t229 => (some (t229,true))) = some (r1,r2):=by first|(rw [hy226];with_reducible exact H)|(have H2_:=(Option.bind_some _ _).symm.trans H;rw [hy226];with_reducible exact H2_)|(have H2_:=(Option.bind_some _ _).symm.trans H;with_reducible exact H2_)|with_reducible exact H|(rw [hy226];exact H)|exact H
      have Ny226:=Aside0.mk hy226
      clear hy226
      replace H:=Option.bind_eq_some_iff.mp H
      obtain ⟨t229,A100,H⟩:=H
      replace H : (some (t229,true)) = some (r1,r2):=H
      have A10:=Aside0.mk A100
      clear A100
      simp only [Option.some.injEq,Prod.mk.injEq] at H
      obtain ⟨rfl,rfl⟩:=H
      go_enter Try.func23,Try.ntmps23
      try go_wp2_with (first|((with_reducible refine gate_callee (f:=20) rfl ?_);refine goesL_ (some 11) rfl rfl Try.func20 (by kernel_rfl) rfl #[.slice A0 l0.length c0,.string a1] rfl (by (try simp only [List.map_toArray,List.map_cons,List.map_nil]);first|done|rfl|(simp only [List.length_drop,List.length_take];rfl)) ?_;(with_reducible refine (page_Find.calls k _ _ l0 a1 t214 true _ ?side1 ?side2 A3.out).mono ?_);(case side1 => repeat (first|exact (Kd.V_reads' HO0.out).2.2|(with_reducible refine Kd.C_alloc ?_ _)|(with_reducible refine Kd.C_drewN ?_ _)|(with_reducible refine Kd.C_drew ?_)));(case side2 => exact (Kd.V_reads' HO0.out).2.1);rintro e w11 ⟨rfl,hb⟩;refine ⟨_,rfl,?_⟩;have n0_:=Aside0.mk (Kd.V_below (by (with_reducible repeat (first|apply Kd.V_alloc|apply Kd.V_drewN|apply Kd.V_drew));exact HO0.out) hb);have n1_:=Aside0.mk (below_step (by repeat (first|(with_reducible first|exact HB.out|apply below_alloc|apply pw_below_drewN|apply below_drew1)|exact HB.out)) hb);clear HO0;clear HB;have HO0:=n0_;have HB:=n1_;clear n0_ n1_;(try clear hb);(try clear hb2);(try clear hk);(try clear hi)))
      have n0_:=Aside0.mk (Kd.V_drew HO0.out)
      have n1_:=Aside0.mk (below_drew1 HB.out)
      clear HO0
      clear HB
      have HO0:=n0_
      have HB:=n1_
      clear n0_ n1_
      have q13 : (t214 : Int) ≤ ((l0.length : Int) : Int):=of_decide_eq_true (by first|(with_reducible assumption)|assumption)
      obtain ⟨i013,hi013,_,hsz13,_⟩:=info_parts info37
      have hroom13 : l0.length ≤ c0:=(Kd.V_reads' HO0.out).2.1
      have hC13 : Kd.F k37 _ _ A0 l0.length l0:=(Kd.V_at (base:=w.heap.size) HO0.out).2.2
      have hcut13:=cut_to (P:=Try.prog) 22 37 .i64 Try.underlying22 hi013 A0 l0.length c0 t214 (of_decide_eq_true (by first|(with_reducible assumption)|assumption)) q13 hroom13
      have hr13:=Kd.F_take (m:=(t214 : Int).toNat) hC13 (by omega)
      have hy13 : y216.length = (t214 : Int).toNat:=(by rw [Ny216.out,List.length_take];omega)
      rw [← Ny216.out] at hr13
      rw [← hy13] at hcut13
      have HO220:=Aside0.mk (show Kd.V k37 37 _ w.heap.size _ (.slice A0 y216.length c0) y216 from Kd.V_mk (by omega) hr13)
      have HC220:=Aside0.mk (show y216.length ≤ c0 from by omega)
      clear hr13 hC13 hroom13 hi013 hsz13
      have KY13:=Aside0.mk hy13
      clear hy13
      replace q13:=eq_true q13
      have q14 : ((ji7) : Int) ≤ ((l0.length : Int) : Int):=of_decide_eq_true (by first|(with_reducible assumption)|assumption)
      obtain ⟨i014,hi014,_,hsz14,_⟩:=info_parts info37
      have hroom14 : l0.length ≤ c0:=(Kd.V_reads' HO0.out).2.1
      have hC14 : Kd.F k37 _ _ A0 l0.length l0:=(Kd.V_at (base:=w.heap.size) HO0.out).2.2
      have q014 : (0 : Int) ≤ ((ji7) : Int):=of_decide_eq_true (by first|(with_reducible assumption)|assumption)
      have hcut14:=cut_from (P:=Try.prog) 22 37 .i64 Try.underlying22 hi014 2 hsz14 A0 l0.length c0 (ji7) q014 q14
      have hr14:=Kd.F_cut (m:=((ji7) : Int).toNat) (c:=c0) hC14 (by omega) hroom14
      obtain ⟨A14,hA14⟩ : ∃ A1,A1 = (if c0 = ((ji7) : Int).toNat then A0 else (A0 : Option Addr).map (·.add (((ji7) : Int).toNat * 2))):=⟨_,rfl⟩
      obtain ⟨c14,hc14⟩ : ∃ c1,c1 = c0 - ((ji7) : Int).toNat:=⟨_,rfl⟩
      have hy14 : y221.length = l0.length - ((ji7) : Int).toNat:=(by rw [Ny221.out,List.length_drop] <;> omega)
      rw [show (l0).drop ((ji7) : Int).toNat = y221 from Ny221.out.symm] at hr14
      replace hr14 : Kd.F k37 _ _ A14 y221.length y221:=(by rw [hA14];exact hr14)
      rw [← hy14,← hA14,← hc14] at hcut14
      have HO225:=Aside0.mk (show Kd.V k37 37 _ w.heap.size _ (.slice A14 y221.length c14) y221 from Kd.V_mk (by rw [hy14,hc14];exact Nat.sub_le_sub_right hroom14 _) hr14)
      have HC225:=Aside0.mk (show y221.length ≤ c14 from by rw [hy14,hc14];exact Nat.sub_le_sub_right hroom14 _)
      clear hr14 hC14 hroom14 hi014 hsz14 hc14
      have KY14:=Aside0.mk hy14
      have KA14:=Aside0.mk hA14
      clear hy14 hA14
      replace q14:=eq_true q14
      refine start_ (n:=11) (S:=fun w' => True) (ds:=[]) #[false,false,false,false,false,false,false,false,false,false,false] (by kernel_rfl) rfl rfl trivial (fun hHeld => ?_);refine with_tabW page_Delete.tab4 page_Delete.bits4 (fun HT_ HW_ => ?_)
      generalize w11.drew = w12 at HO0 HB HO220 HO225 hHeld ⊢
      refine pure_ (i:=0) (N:=some 18) (v:=?_) (a':=?_) #[true,false,false,false,false,false,false,false,false,false,false] rfl rfl (any_of HT_.out (by kernel_rfl)) (fun _ _ _ h => h) (Or.inl ⟨by rfl,?_⟩) ?_ ?_
      rotate_left
      ·intro w'
       go_simp
       with_reducible rfl
      rotate_left
      ·simp only [Act.put,List.setIfInBounds_toArray,List.set_cons_zero,List.set_cons_succ,i64_w,i32_w]
       rfl
      refine pure_ (i:=1) (N:=some 19) (v:=?_) (a':=?_) #[true,true,false,false,false,false,false,false,false,false,false] rfl rfl (any_of HT_.out (by kernel_rfl)) (fun _ _ _ h => h) (Or.inl ⟨by rfl,?_⟩) ?_ ?_
      rotate_left
      ·intro w'
       go_simp
       with_reducible rfl
      rotate_left
      ·simp only [Act.put,List.setIfInBounds_toArray,List.set_cons_zero,List.set_cons_succ,i64_w,i32_w]
       rfl
      refine pure_ (i:=2) (N:=some 20) (v:=?_) (a':=?_) #[true,true,true,false,false,false,false,false,false,false,false] rfl rfl (any_of HT_.out (by kernel_rfl)) (fun _ _ _ h => h) (Or.inl ⟨by rfl,?_⟩) ?_ ?_
      rotate_left
      ·intro w'
       go_simp
       with_reducible rfl
      rotate_left
      ·simp only [Act.put,List.setIfInBounds_toArray,List.set_cons_zero,List.set_cons_succ,i64_w,i32_w]
       rfl
      refine pure_ (i:=3) (N:=some 21) (v:=?_) (a':=?_) #[true,true,true,true,false,false,false,false,false,false,false] rfl rfl (any_of HT_.out (by kernel_rfl)) (fun _ _ _ h => h) (Or.inl ⟨by rfl,?_⟩) ?_ ?_
      rotate_left
      ·intro w'
       go_simp
       with_reducible rfl
      rotate_left
      ·simp only [Act.put,List.setIfInBounds_toArray,List.set_cons_zero,List.set_cons_succ,i64_w,i32_w]
       rfl
      refine pure_ (i:=4) (N:=some 22) (v:=?_) (a':=?_) #[true,true,true,true,true,false,false,false,false,false,false] rfl rfl (any_of HT_.out (by kernel_rfl)) (fun _ _ _ h => h) (Or.inl ⟨by rfl,?_⟩) ?_ ?_
      rotate_left
      ·intro w'
       go_simp
       with_reducible rfl
      rotate_left
      ·simp only [Act.put,List.setIfInBounds_toArray,List.set_cons_zero,List.set_cons_succ,i64_w,i32_w]
       rfl
      refine pure_ (i:=5) (N:=some 23) (v:=?_) (a':=?_) #[true,true,true,true,true,true,false,false,false,false,false] rfl rfl (any_of HT_.out (by kernel_rfl)) (fun _ _ _ h => h) (Or.inl ⟨by rfl,?_⟩) ?_ ?_
      rotate_left
      ·intro w'
       go_simp
       with_reducible rfl
      rotate_left
      ·simp only [Act.put,List.setIfInBounds_toArray,List.set_cons_zero,List.set_cons_succ,i64_w,i32_w]
       rfl
      refine pure_ (i:=6) (N:=some 24) (v:=?_) (a':=?_) #[true,true,true,true,true,true,true,false,false,false,false] rfl rfl (any_of HT_.out (by kernel_rfl)) (fun _ _ _ h => h) (Or.inl ⟨by rfl,?_⟩) ?_ ?_
      rotate_left
      ·intro w'
       go_simp
       with_reducible rfl
      rotate_left
      ·simp only [Act.put,List.setIfInBounds_toArray,List.set_cons_zero,List.set_cons_succ,i64_w,i32_w]
       rfl
      refine one_ (i:=7) (N:=some 25) #[true,true,true,true,true,true,true,true,false,false,false] rfl rfl (one_of HT_.out (by kernel_rfl)) (by decide) (fun K hK => ?_)
      refine Kd.N_lit_step (Kd.slice 37 k37) _ 22 ?hg (N':=25) ?hd (xs:=([y216,y221] : List (List (S37)))) (inner:=[.slice A0 y216.length c0,.slice A14 y221.length c14]) (ok:=(fun k_ => (P0_ k_ ∨ w.heap.size ≤ k_))) (okp:=(fun k_ => (P0_ k_ ∨ w.heap.size ≤ k_))) ?hr ?hp (fun _ hk => hk) ((show ∀ k_,w12.heap.size ≤ k_ → (fun k_ => (P0_ k_ ∨ w.heap.size ≤ k_)) k_ from fun k_ hk => (.inr (Nat.le_trans (below_size (by repeat (first|(with_reducible first|exact HB.out|apply below_alloc|apply pw_below_drewN|apply below_drew1)|exact HB.out))) hk))) _ (Nat.le_refl _)) (Below.refl _ _) (Nat.le_refl _) (by simp) ?_;(case hd => rfl);(case hg => rfl);(case hr => first|(go_simp;done)|(go_simp;rfl));(case hp => exact (Reps.one (show Kd.FK (Kd.slice 37 k37) _ _ y216 [.slice A0 y216.length c0] from (Kd.FK_slice_mk (Kd.V_reads' (Kd.V_mono (ok':=(fun k_ => (P0_ k_ ∨ w.heap.size ≤ k_))) (HO220.out) (fun k_ hk => hk))).2.1 (Kd.V_F (Kd.V_mono (ok':=(fun k_ => (P0_ k_ ∨ w.heap.size ≤ k_))) (HO220.out) (fun k_ hk => hk))))) (Reps.one (show Kd.FK (Kd.slice 37 k37) _ _ y221 [.slice A14 y221.length c14] from (Kd.FK_slice_mk (Kd.V_reads' (Kd.V_mono (ok':=(fun k_ => (P0_ k_ ∨ w.heap.size ≤ k_))) (HO225.out) (fun k_ hk => hk))).2.1 (Kd.V_F (Kd.V_mono (ok':=(fun k_ => (P0_ k_ ∨ w.heap.size ≤ k_))) (HO225.out) (fun k_ hk => hk))))) (Reps.none _ _))))
      intro v227 w15 ho16 hb hg_ hnew_
      clear hg_ hnew_
      (first|rw [← Ny226.out] at ho16|(simp only [Int.reduceToNat] at ho16;rw [← Ny226.out] at ho16))
      have n0_:=Aside0.mk (Kd.V_elder' (by (with_reducible repeat (first|apply Kd.V_alloc|apply Kd.V_drewN|apply Kd.V_drew));exact HO0.out) (Kd.N_base ho16) hb)
      have n1_:=Aside0.mk (Kd.V_elder' (by (with_reducible repeat (first|apply Kd.V_alloc|apply Kd.V_drewN|apply Kd.V_drew));exact HO220.out) (Kd.N_base ho16) hb)
      have n2_:=Aside0.mk (Kd.V_elder' (by (with_reducible repeat (first|apply Kd.V_alloc|apply Kd.V_drewN|apply Kd.V_drew));exact HO225.out) (Kd.N_base ho16) hb)
      have n3_:=Aside0.mk (Kd.N_lower ho16 (below_size (by repeat (first|(with_reducible first|exact HB.out|apply below_alloc|apply pw_below_drewN|apply below_drew1)|exact HB.out))))
      have n4_:=Aside0.mk (below_step (by repeat (first|(with_reducible first|exact HB.out|apply below_alloc|apply pw_below_drewN|apply below_drew1)|exact HB.out)) hb)
      clear HO0
      clear HO220
      clear HO225
      clear HB
      have HO0:=n0_
      have HO220:=n1_
      have HO225:=n2_
      have HO228:=n3_
      have HB:=n4_
      clear n0_ n1_ n2_ n3_ n4_
      clear hb ho16
      obtain ⟨Ao17,co17,eo17⟩:=Kd.N_slice HO228.out
      (first|subst eo17|(injection eo17 with f1_ f2_ f3_;have f4_:=f1_.symm;have f5_:=f3_.symm;clear f1_ f2_ f3_;subst f4_;subst f5_))
      refine hK.out _ _ trivial (fun hHeld => ?_)
      clear hK K
      refine norm_ (a':=?_) ?_ ?_
      rotate_left
      ·show Act.put _ (some 25) _ = _
       simp only [Act.put,List.setIfInBounds_toArray,List.set_cons_zero,List.set_cons_succ,i64_w,i32_w]
       rfl
      refine one_ (i:=8) (N:=some 26) #[true,true,true,true,true,true,true,true,true,false,false] rfl rfl (one_of HT_.out (by kernel_rfl)) (by decide) (fun K hK => ?_)
      refine goes_ Try.func43 (by kernel_rfl) rfl #[.slice Ao17 y226.length co17] (by rfl) rfl rfl (by (try simp only [List.map_toArray,List.map_cons,List.map_nil]);first|done|rfl|(simp only [List.length_drop,List.length_take];rfl)) ?_
      with_reducible refine (api_Entry_43.calls _ _ y226 t229 _ ?side1 ?side2 A10.out).mono ?_
      (case side1 => repeat (first|exact (Kd.N_reads' HO228.out).2.2|(with_reducible refine Kd.C_alloc ?_ _)|(with_reducible refine Kd.C_drewN ?_ _)|(with_reducible refine Kd.C_drew ?_)))
      (case side2 => exact (Kd.N_reads' HO228.out).2.1)
      rintro e w18 ⟨v230,rfl,ho0,hb⟩
      refine ⟨_,rfl,?_⟩
      have n0_:=Aside0.mk (Kd.V_elder' (by (with_reducible repeat (first|apply Kd.V_alloc|apply Kd.V_drewN|apply Kd.V_drew));exact HO0.out) (Kd.R_base ho0) hb)
      have n1_:=Aside0.mk (Kd.V_elder' (by (with_reducible repeat (first|apply Kd.V_alloc|apply Kd.V_drewN|apply Kd.V_drew));exact HO220.out) (Kd.R_base ho0) hb)
      have n2_:=Aside0.mk (Kd.V_elder' (by (with_reducible repeat (first|apply Kd.V_alloc|apply Kd.V_drewN|apply Kd.V_drew));exact HO225.out) (Kd.R_base ho0) hb)
      have n3_:=Aside0.mk (Kd.N_elder' (by (with_reducible repeat (first|apply Kd.N_alloc|apply Kd.N_drewN|apply Kd.N_drew));exact HO228.out) (Kd.R_base ho0) hb)
      have n4_:=Aside0.mk (Kd.R_lower (Kd.R_newM (M:=fun k_ => (w.heap.size ≤ k_)) ho0 (below_size (by repeat (first|(with_reducible first|exact HB.out|apply below_alloc|apply pw_below_drewN|apply below_drew1)|exact HB.out))) (fun k_ h_ => h_)) (below_size (by repeat (first|(with_reducible first|exact HB.out|apply below_alloc|apply pw_below_drewN|apply below_drew1)|exact HB.out))))
      have n5_:=Aside0.mk (below_step (by repeat (first|(with_reducible first|exact HB.out|apply below_alloc|apply pw_below_drewN|apply below_drew1)|exact HB.out)) hb)
      clear HO0
      clear HO220
      clear HO225
      clear HO228
      clear HB
      have HO0:=n0_
      have HO220:=n1_
      have HO225:=n2_
      have HO228:=n3_
      have HO231:=n4_
      have HB:=n5_
      clear n0_ n1_ n2_ n3_ n4_ n5_
      (try clear hb)
      (try clear hb2)
      (try clear hk)
      (try clear hi)
      (try clear ho0)
      refine hK.out _ _ trivial (fun hHeld => ?_)
      clear hK K
      refine norm_ (a':=?_) ?_ ?_
      rotate_left
      ·show Act.put _ (some 26) _ = _
       simp only [Act.put,List.setIfInBounds_toArray,List.set_cons_zero,List.set_cons_succ,i64_w,i32_w]
       rfl
      refine pure_ (i:=9) (N:=some 4) (v:=?_) (a':=?_) #[true,true,true,true,true,true,true,true,true,true,false] rfl rfl (any_of HT_.out (by kernel_rfl)) (fun _ _ _ h => h) (Or.inl ⟨by rfl,?_⟩) ?_ ?_
      rotate_left
      ·intro w'
       go_simp
       with_reducible rfl
      rotate_left
      ·simp only [Act.put,List.setIfInBounds_toArray,List.set_cons_zero,List.set_cons_succ,i64_w,i32_w]
       rfl
      refine pure_ (i:=10) (N:=some 5) (v:=?_) (a':=?_) #[true,true,true,true,true,true,true,true,true,true,true] rfl rfl (any_of HT_.out (by kernel_rfl)) (fun _ _ _ h => h) (Or.inl ⟨by rfl,?_⟩) ?_ ?_
      rotate_left
      ·intro w'
       go_simp
       with_reducible rfl
      rotate_left
      ·simp only [Act.put,List.setIfInBounds_toArray,List.set_cons_zero,List.set_cons_succ,i64_w,i32_w]
       rfl
      refine done_ (done_of HT_.out (by kernel_rfl)) ?_
      try go_wp2
      go_ret2
      exact ⟨_,by first|rfl|(simp [errW_none,errW_some] <;> rfl)|(simp only [← hji7];first|rfl|(simp [errW_none,errW_some] <;> rfl))|(simp [*,errW_none,errW_some] <;> rfl),by (with_reducible repeat (first|apply Kd.R_alloc|apply Kd.R_drewN|apply Kd.R_drew));exact Kd.R_mono HO231.out (fun _ hk => hk.1),by repeat (first|(with_reducible first|exact HB.out|apply below_alloc|apply pw_below_drewN|apply below_drew1)|exact HB.out)⟩
     ·rw [if_neg c9] at H
      exact absurd H (by simp)
    ·rw [if_neg c8] at H
     exact absurd H (by simp)
   ·rw [if_neg c6] at H
    exact absurd H (by simp)
  ·rw [if_neg c5] at H
   exact absurd H (by simp)
 ·replace c4:=Bool.eq_false_iff.mpr c4
  subst c4
  have H1 : ((api_Entry_42.f l0).bind fun t232 => (some (t232,false))) = some (r1,r2):=by rw [if_neg (show ¬ (false = true) by decide)] at H;exact H
  clear H
  have H:=H1
  clear H1
  replace H:=Option.bind_eq_some_iff.mp H
  obtain ⟨t232,A190,H⟩:=H
  replace H : (some (t232,false)) = some (r1,r2):=H
  have A19:=Aside0.mk A190
  clear A190
  simp only [Option.some.injEq,Prod.mk.injEq] at H
  obtain ⟨rfl,rfl⟩:=H
  go_enter Try.func23,Try.ntmps23
  go_wp2_with (first|((with_reducible refine gate_callee (f:=20) rfl ?_);refine goesL_ (some 11) rfl rfl Try.func20 (by kernel_rfl) rfl #[.slice A0 l0.length c0,.string a1] rfl (by (try simp only [List.map_toArray,List.map_cons,List.map_nil]);first|done|rfl|(simp only [List.length_drop,List.length_take];rfl)) ?_;(with_reducible refine (page_Find.calls k _ _ l0 a1 t214 false _ ?side1 ?side2 A3.out).mono ?_);(case side1 => repeat (first|exact (Kd.V_reads' HO0.out).2.2|(with_reducible refine Kd.C_alloc ?_ _)|(with_reducible refine Kd.C_drewN ?_ _)|(with_reducible refine Kd.C_drew ?_)));(case side2 => exact (Kd.V_reads' HO0.out).2.1);rintro e w20 ⟨rfl,hb⟩;refine ⟨_,rfl,?_⟩;have n0_:=Aside0.mk (Kd.V_below (by (with_reducible repeat (first|apply Kd.V_alloc|apply Kd.V_drewN|apply Kd.V_drew));exact HO0.out) hb);have n1_:=Aside0.mk (below_step (by repeat (first|(with_reducible first|exact HB.out|apply below_alloc|apply pw_below_drewN|apply below_drew1)|exact HB.out)) hb);clear HO0;clear HB;have HO0:=n0_;have HB:=n1_;clear n0_ n1_;(try clear hb);(try clear hb2);(try clear hk);(try clear hi))|((with_reducible refine gate_callee (f:=42) rfl ?_);refine goesL_ (some 17) rfl rfl Try.func42 (by kernel_rfl) rfl #[.slice A0 l0.length c0] rfl (by (try simp only [List.map_toArray,List.map_cons,List.map_nil]);first|done|rfl|(simp only [List.length_drop,List.length_take];rfl)) ?_;(with_reducible refine (api_Entry_42.calls _ _ l0 t232 _ ?side1 ?side2 A19.out).mono ?_);(case side1 => repeat (first|exact (Kd.V_reads' HO0.out).2.2|(with_reducible refine Kd.C_alloc ?_ _)|(with_reducible refine Kd.C_drewN ?_ _)|(with_reducible refine Kd.C_drew ?_)));(case side2 => exact (Kd.V_reads' HO0.out).2.1);rintro e w21 ⟨v233,rfl,ho0,hb⟩;refine ⟨_,rfl,?_⟩;have n0_:=Aside0.mk (Kd.V_elder' (by (with_reducible repeat (first|apply Kd.V_alloc|apply Kd.V_drewN|apply Kd.V_drew));exact HO0.out) (Kd.R_base ho0) hb);have n1_:=Aside0.mk (Kd.R_lower (Kd.R_newM (M:=fun k_ => (w.heap.size ≤ k_)) ho0 (below_size (by repeat (first|(with_reducible first|exact HB.out|apply below_alloc|apply pw_below_drewN|apply below_drew1)|exact HB.out))) (fun k_ h_ => h_)) (below_size (by repeat (first|(with_reducible first|exact HB.out|apply below_alloc|apply pw_below_drewN|apply below_drew1)|exact HB.out))));have n2_:=Aside0.mk (below_step (by repeat (first|(with_reducible first|exact HB.out|apply below_alloc|apply pw_below_drewN|apply below_drew1)|exact HB.out)) hb);clear HO0;clear HB;have HO0:=n0_;have HO234:=n1_;have HB:=n2_;clear n0_ n1_ n2_;(try clear hb);(try clear hb2);(try clear hk);(try clear hi);(try clear ho0)))
  go_ret2
  exact ⟨_,by first|rfl|(simp [errW_none,errW_some] <;> rfl)|(simp [*,errW_none,errW_some] <;> rfl),by (with_reducible repeat (first|apply Kd.R_alloc|apply Kd.R_drewN|apply Kd.R_drew));exact Kd.R_mono HO234.out (fun _ hk => hk.1),by repeat (first|(with_reducible first|exact HB.out|apply below_alloc|apply pw_below_drewN|apply below_drew1)|exact HB.out)⟩

end Go.Proofs.Ytffgodpmmipnkaa.X
