-- By a program of this session (wip/xprint.py over the kit's print).
import Derived.Test.YtffgodpmmipnkaaX0
import Derived.Test.YtffgodpmmipnkaaX44
namespace Go.Proofs.Ytffgodpmmipnkaa.X
open Go.RowKit Go.Proofs.YtffgodpmmipnkaaW.PrintWords Go.Proofs.YtffgodpmmipnkaaW.PrintLast Go.Proofs.YtffgodpmmipnkaaW.PrintMore
attribute [local go_sem] max2_int min2_int max_two min_two max_three min_three max_four min_four Go.Proofs.Ytffgodpmmipnkaa.Z.leq_string Go.Proofs.Ytffgodpmmipnkaa.Z.gtr_string Go.Proofs.Ytffgodpmmipnkaa.Z.geq_string   -- for this text's walks alone
set_option linter.unusedVariables false
set_option linter.unusedSimpArgs false

/-! ### cofferref10_Delete: function 24 -/
def cofferref10_Delete.f (k : Nat) (l0 : List (S37)) (a1 : ByteArray) : Option ((List (S37)) × Bool):=(cofferref10_Find.f k l0 a1).bind fun bt369 => (if 0 ≤ bt369.1 then (if bt369.1 ≤ (l0.length : Int) then ((some (l0.take (bt369.1 : Int).toNat : List (S37))).bind fun y371 => (if ([] : List (S37)).length + y371.length < 4398046511104 then ((some (([] : List (S37)) ++ y371 : List (S37))).bind fun y375 => (if bt369.2 = true then (if 0 ≤ (wrap64 (bt369.1 + 1)) then (if (wrap64 (bt369.1 + 1)) ≤ (l0.length : Int) then ((some (l0.drop ((wrap64 (bt369.1 + 1)) : Int).toNat : List (S37))).bind fun y378 => (if y375.length + y378.length < 4398046511104 then (some ((y375 ++ y378),bt369.2)) else (none))) else (none)) else (none)) else ((some (l0.drop (bt369.1 : Int).toNat : List (S37))).bind fun y385 => (if y375.length + y385.length < 4398046511104 then (some ((y375 ++ y385),bt369.2)) else (none))))) else (none))) else (none)) else (none))
theorem cofferref10_Delete.mono : ∀ a0 a1 k,LeO (cofferref10_Delete.f k a0 a1) (cofferref10_Delete.f (k + 1) a0 a1):=by
 intro a0 a1 k
 unfold cofferref10_Delete.f
 repeat' first
  | (with_reducible exact cofferref10_Find.mono _ _ _)
  | (with_reducible exact LeO.refl _)
  | (with_reducible exact LeO.none _)
  | (with_reducible refine LeO.ite ?_ ?_)
  | (with_reducible refine LeO.bind ?_ (fun _ => ?_))
  | exact cofferref10_Find.mono _ _ _
  | exact LeO.none _
  | refine LeO.ite ?_ ?_
  | refine LeO.bind ?_ (fun _ => ?_)
set_option maxHeartbeats 8000000 in
set_option maxRecDepth 100000 in
theorem cofferref10_Delete.calls (k : Nat) (A0 : Option Addr) (c0 : Nat) (l0 : List (S37)) (a1 : ByteArray) (r1 : List (S37)) (r2 : Bool) (w : World) (hr0 : Kd.C k37 w A0 l0.length l0) (hc0 : l0.length ≤ c0) (h : cofferref10_Delete.f k l0 a1 = some (r1,r2)) :
 Calls Try.prog 24 #[.slice A0 l0.length c0,.string a1] w fun e w' => ∃ v0_ : Value,e = .returned (.tuple #[v0_,.bool r2]) ∧ Kd.R k37 37 w' w.heap.size (fun _ => True) v0_ r1 ∧ Below w.heap.size w w':=by
 have HR0:=Aside0.mk hr0
 have HC0:=Aside0.mk hc0
 clear hr0 hc0
 have HB:=Aside0.mk (Below.refl w.heap.size w)
 have H : ((cofferref10_Find.f k l0 a1).bind fun bt369 => (if 0 ≤ bt369.1 then (if bt369.1 ≤ (l0.length : Int) then ((some (l0.take (bt369.1 : Int).toNat : List (S37))).bind fun y371 => (if ([] : List (S37)).length + y371.length < 4398046511104 then ((some (([] : List (S37)) ++ y371 : List (S37))).bind fun y375 => (if bt369.2 = true then (if 0 ≤ (wrap64 (bt369.1 + 1)) then (if (wrap64 (bt369.1 + 1)) ≤ (l0.length : Int) then ((some (l0.drop ((wrap64 (bt369.1 + 1)) : Int).toNat : List (S37))).bind fun y378 => (if y375.length + y378.length < 4398046511104 then (some ((y375 ++ y378),bt369.2)) else (none))) else (none)) else (none)) else ((some (l0.drop (bt369.1 : Int).toNat : List (S37))).bind fun y385 => (if y375.length + y385.length < 4398046511104 then (some ((y375 ++ y385),bt369.2)) else (none))))) else (none))) else (none)) else (none))) = some (r1,r2):=h
 clear h
 replace H:=Option.bind_eq_some_iff.mp H
 obtain ⟨⟨t369,t370⟩,A30,H⟩:=H
 replace H : (if 0 ≤ t369 then (if t369 ≤ (l0.length : Int) then ((some (l0.take (t369 : Int).toNat : List (S37))).bind fun y371 => (if ([] : List (S37)).length + y371.length < 4398046511104 then ((some (([] : List (S37)) ++ y371 : List (S37))).bind fun y375 => (if t370 = true then (if 0 ≤ (wrap64 (t369 + 1)) then (if (wrap64 (t369 + 1)) ≤ (l0.length : Int) then ((some (l0.drop ((wrap64 (t369 + 1)) : Int).toNat : List (S37))).bind fun y378 => (if y375.length + y378.length < 4398046511104 then (some ((y375 ++ y378),t370)) else (none))) else (none)) else (none)) else ((some (l0.drop (t369 : Int).toNat : List (S37))).bind fun y385 => (if y375.length + y385.length < 4398046511104 then (some ((y375 ++ y385),t370)) else (none))))) else (none))) else (none)) else (none)) = some (r1,r2):=H
 have A3:=Aside0.mk A30
 clear A30
 by_cases c4 : 0 ≤ t369
 ·rw [if_pos c4] at H
  have c4b0:=eq_true c4
  have c4b1 : decide (0 ≤ t369) = true:=decide_eq_true c4
  clear c4
  by_cases c5 : t369 ≤ (l0.length : Int)
  ·rw [if_pos c5] at H
   have c5b0:=eq_true c5
   have c5b1 : decide (t369 ≤ (l0.length : Int)) = true:=decide_eq_true c5
   clear c5
   obtain ⟨y371,hy371⟩ : ∃ y_ : List (S37),y_ = (l0.take (t369 : Int).toNat):=⟨_,rfl⟩
   replace H : (if ([] : List (S37)).length + y371.length < 4398046511104 then ((some (([] : List (S37)) ++ y371 : List (S37))).bind fun y375 => (if t370 = true then (if 0 ≤ (wrap64 (t369 + 1)) then (if (wrap64 (t369 + 1)) ≤ (l0.length : Int) then ((some (l0.drop ((wrap64 (t369 + 1)) : Int).toNat : List (S37))).bind fun y378 => (if y375.length + y378.length < 4398046511104 then (some ((y375 ++ y378),t370)) else (none))) else (none)) else (none)) else ((some (l0.drop (t369 : Int).toNat : List (S37))).bind fun y385 => (if y375.length + y385.length < 4398046511104 then (some ((y375 ++ y385),t370)) else (none))))) else (none)) = some (r1,r2):=by first|(rw [hy371];with_reducible exact H)|(have H2_:=(Option.bind_some _ _).symm.trans H;rw [hy371];with_reducible exact H2_)|(have H2_:=(Option.bind_some _ _).symm.trans H;with_reducible exact H2_)|with_reducible exact H|(rw [hy371];exact H)|exact H
   have Ny371:=Aside0.mk hy371
   clear hy371
   by_cases c6 : ([] : List (S37)).length + y371.length < 4398046511104
   ·rw [if_pos c6] at H
    have LMc6:=Aside0.mk c6
    clear c6
    obtain ⟨y375,hy375⟩ : ∃ y_ : List (S37),y_ = (([] : List (S37)) ++ y371):=⟨_,rfl⟩
    replace H : (if t370 = true then (if 0 ≤ (wrap64 (t369 + 1)) then (if (wrap64 (t369 + 1)) ≤ (l0.length : Int) then ((some (l0.drop ((wrap64 (t369 + 1)) : Int).toNat : List (S37))).bind fun y378 => (if y375.length + y378.length < 4398046511104 then (some ((y375 ++ y378),t370)) else (none))) else (none)) else (none)) else ((some (l0.drop (t369 : Int).toNat : List (S37))).bind fun y385 => (if y375.length + y385.length < 4398046511104 then (some ((y375 ++ y385),t370)) else (none)))) = some (r1,r2):=by first|(rw [hy375];with_reducible exact H)|(have H2_:=(Option.bind_some _ _).symm.trans H;rw [hy375];with_reducible exact H2_)|(have H2_:=(Option.bind_some _ _).symm.trans H;with_reducible exact H2_)|with_reducible exact H|(rw [hy375];exact H)|exact H
    have Ny375:=Aside0.mk hy375
    clear hy375
    by_cases c7 : t370 = true
    ·subst c7
     have H1 : (if 0 ≤ (wrap64 (t369 + 1)) then (if (wrap64 (t369 + 1)) ≤ (l0.length : Int) then ((some (l0.drop ((wrap64 (t369 + 1)) : Int).toNat : List (S37))).bind fun y378 => (if y375.length + y378.length < 4398046511104 then (some ((y375 ++ y378),true)) else (none))) else (none)) else (none)) = some (r1,r2):=by rw [if_pos rfl] at H;exact H
     clear H
     have H:=H1
     clear H1
     obtain ⟨ji8,hji8⟩ : ∃ j_ : Int,(wrap64 (t369 + 1)) = j_:=⟨_,rfl⟩
     replace H : (if 0 ≤ (ji8) then (if (ji8) ≤ (l0.length : Int) then ((some (l0.drop ((ji8) : Int).toNat : List (S37))).bind fun y378 => (if y375.length + y378.length < 4398046511104 then (some ((y375 ++ y378),true)) else (none))) else (none)) else (none)) = some (r1,r2):=by first|(rw [hji8] at H;exact H)|(simp only [hji8] at H ⊢;exact H)
     (try rw [hji8] at A3)
     have hji8w : (IntKind.i64.wrap (t369 + 1)) = ji8:=(i64_w _).trans hji8
     by_cases c9 : 0 ≤ (ji8)
     ·rw [if_pos c9] at H
      have c9b0:=eq_true c9
      have c9b1 : decide (0 ≤ (ji8)) = true:=decide_eq_true c9
      clear c9
      by_cases c10 : (ji8) ≤ (l0.length : Int)
      ·rw [if_pos c10] at H
       have c10b0:=eq_true c10
       have c10b1 : decide ((ji8) ≤ (l0.length : Int)) = true:=decide_eq_true c10
       clear c10
       obtain ⟨y378,hy378⟩ : ∃ y_ : List (S37),y_ = (l0.drop ((ji8) : Int).toNat):=⟨_,rfl⟩
       replace H : (if y375.length + y378.length < 4398046511104 then (some ((y375 ++ y378),true)) else (none)) = some (r1,r2):=by first|(rw [hy378];with_reducible exact H)|(have H2_:=(Option.bind_some _ _).symm.trans H;rw [hy378];with_reducible exact H2_)|(have H2_:=(Option.bind_some _ _).symm.trans H;with_reducible exact H2_)|with_reducible exact H|(rw [hy378];exact H)|exact H
       have Ny378:=Aside0.mk hy378
       clear hy378
       by_cases c11 : y375.length + y378.length < 4398046511104
       ·rw [if_pos c11] at H
        have LMc11:=Aside0.mk c11
        clear c11
        obtain ⟨y382,hy382⟩ : ∃ y_ : List (S37),y_ = (y375 ++ y378):=⟨_,rfl⟩
        replace H : (some (y382,true)) = some (r1,r2):=by first|(rw [hy382];with_reducible exact H)|(have H2_:=(Option.bind_some _ _).symm.trans H;rw [hy382];with_reducible exact H2_)|(have H2_:=(Option.bind_some _ _).symm.trans H;with_reducible exact H2_)|with_reducible exact H|(rw [hy382];exact H)|exact H
        have Ny382:=Aside0.mk hy382
        clear hy382
        simp only [Option.some.injEq,Prod.mk.injEq] at H
        obtain ⟨rfl,rfl⟩:=H
        go_enter Try.func24,Try.ntmps24
        go_wp2_with (first|((with_reducible refine gate_callee (f:=21) rfl ?_);refine goesL_ (some 12) rfl rfl Try.func21 (by kernel_rfl) rfl #[.slice A0 l0.length c0,.string a1] rfl (by (try simp only [List.map_toArray,List.map_cons,List.map_nil]);first|done|rfl|(simp only [List.length_drop,List.length_take];rfl)) ?_;(with_reducible refine (cofferref10_Find.calls k _ _ l0 a1 t369 true _ ?side1 ?side2 A3.out).mono ?_);(case side1 => repeat (first|exact HR0.out|(with_reducible refine Kd.C_alloc ?_ _)|(with_reducible refine Kd.C_drewN ?_ _)|(with_reducible refine Kd.C_drew ?_)));(case side2 => exact HC0.out);rintro e w' ⟨rfl,⟨nd,rfl⟩⟩;refine ⟨_,rfl,?_⟩;have q12 : (t369 : Int) ≤ ((l0.length : Int) : Int):=of_decide_eq_true (by first|(with_reducible assumption)|assumption);obtain ⟨i012,hi012,_,hsz12,_⟩:=info_parts info37;have hroom12 : l0.length ≤ c0:=HC0.out;have hC12 : Kd.C k37 _ A0 l0.length l0:=HR0.out;have hcut12:=cut_to (P:=Try.prog) 22 37 .i64 Try.underlying22 hi012 A0 l0.length c0 t369 (of_decide_eq_true (by first|(with_reducible assumption)|assumption)) q12 hroom12;have hr12:=Kd.C_take (m:=(t369 : Int).toNat) hC12 (by omega);have hy12 : y371.length = (t369 : Int).toNat:=(by rw [Ny371.out,List.length_take];omega);rw [← Ny371.out] at hr12;rw [← hy12] at hcut12;have HR374:=Aside0.mk hr12;have HC374:=Aside0.mk (show y371.length ≤ c0 from by omega);clear hr12 hC12 hroom12 hi012 hsz12;have KY12:=Aside0.mk hy12;clear hy12;replace q12:=eq_true q12)|((with_reducible refine gate_builtin (b:=.append) (xs:=#[.tmp 15,.tmp 18]) rfl ?_);at_builtin;refine Kd.R_append_rows k37 (w0:=w) w.heap.size rfl (.tmp 15) (.tmp 18) 22 37 (.agg #[(.string ⟨#[]⟩),(.string ⟨#[]⟩)]) 32 rfl Try.underlying22 info37 rfl (by decide) (by omega) (.slice none 0 0) ([] : List (S37)) y371 _ _ _ (fun _ => True) (fun _ => False) rfl rfl ?aO ?aR (fun _ _ h => h) (fun _ h => h.elim) ?aF ?aB ?aS ?aL ?_;(case aR => repeat (first|exact HR374.out|(with_reducible refine Kd.C_alloc ?_ _)|(with_reducible refine Kd.C_drewN ?_ _)|(with_reducible refine Kd.C_drew ?_)));(case aB => exact (by repeat (first|(with_reducible first|exact HB.out|apply below_alloc|apply pw_below_drewN|apply below_drew1)|exact HB.out)));(case aF => exact (fun _ _ => trivial));(case aO => exact ((Kd.R_nil _ _ _ _ (fun _ => True))));(case aS => exact (below_size (by repeat (first|(with_reducible first|exact HB.out|apply below_alloc|apply pw_below_drewN|apply below_drew1)|exact HB.out))));(case aL => have:=LMc6.out;omega);intro v376 w13 ho hb hg hat;rw [← Ny375.out] at ho;have n0_:=Aside0.mk (hb);have n1_:=Aside0.mk (ho);clear HB;have HB:=n0_;have HO377:=n1_;clear n0_ n1_;clear ho hb hg hat;have q14 : ((ji8) : Int) ≤ ((l0.length : Int) : Int):=of_decide_eq_true (by first|(with_reducible assumption)|assumption);obtain ⟨i014,hi014,_,hsz14,_⟩:=info_parts info37;have hroom14 : l0.length ≤ c0:=HC0.out;have hC14 : Kd.C k37 _ A0 l0.length l0:=HR0.out;have q014 : (0 : Int) ≤ ((ji8) : Int):=of_decide_eq_true (by first|(with_reducible assumption)|assumption);have hcut14:=cut_from (P:=Try.prog) 22 37 .i64 Try.underlying22 hi014 2 hsz14 A0 l0.length c0 (ji8) q014 q14;have hr14:=Kd.C_drop (m:=((ji8) : Int).toNat) (c:=c0) hC14 (by omega) hroom14;obtain ⟨A14,hA14⟩ : ∃ A1,A1 = (if c0 = ((ji8) : Int).toNat then A0 else (A0 : Option Addr).map (·.add (((ji8) : Int).toNat * 2))):=⟨_,rfl⟩;obtain ⟨c14,hc14⟩ : ∃ c1,c1 = c0 - ((ji8) : Int).toNat:=⟨_,rfl⟩;have hy14 : y378.length = l0.length - ((ji8) : Int).toNat:=(by rw [Ny378.out,List.length_drop] <;> omega);rw [show (l0).drop ((ji8) : Int).toNat = y378 from Ny378.out.symm] at hr14;replace hr14 : Kd.C k37 _ A14 y378.length y378:=(by rw [hA14];exact hr14);rw [← hy14,← hA14,← hc14] at hcut14;have HR381:=Aside0.mk hr14;have HC381:=Aside0.mk (show y378.length ≤ c14 from by rw [hy14,hc14];exact Nat.sub_le_sub_right hroom14 _);clear hr14 hC14 hroom14 hi014 hsz14 hc14;have KY14:=Aside0.mk hy14;have KA14:=Aside0.mk hA14;clear hy14 hA14;replace q14:=eq_true q14)|((with_reducible refine gate_builtin (b:=.append) (xs:=#[.tmp 23,.tmp 26]) rfl ?_);at_builtin;refine Kd.R_append_rows k37 (w0:=w) w.heap.size rfl (.tmp 23) (.tmp 26) 22 37 (.agg #[(.string ⟨#[]⟩),(.string ⟨#[]⟩)]) 32 rfl Try.underlying22 info37 rfl (by decide) (by omega) v376 y375 y378 _ _ _ (fun _ => True) (fun _ => False) rfl rfl ?aO ?aR (fun _ _ h => h) (fun _ h => h.elim) ?aF ?aB ?aS ?aL ?_;(case aR => repeat (first|exact (Kd.C_below HR381.out HB.out)|(with_reducible refine Kd.C_alloc ?_ _)|(with_reducible refine Kd.C_drewN ?_ _)|(with_reducible refine Kd.C_drew ?_)));(case aB => exact (by repeat (first|(with_reducible first|exact HB.out|apply below_alloc|apply pw_below_drewN|apply below_drew1)|exact HB.out)));(case aF => exact (fun _ _ => trivial));(case aO => exact (by (with_reducible repeat (first|apply Kd.R_alloc|apply Kd.R_drewN|apply Kd.R_drew));exact HO377.out));(case aS => exact (below_size (by repeat (first|(with_reducible first|exact HB.out|apply below_alloc|apply pw_below_drewN|apply below_drew1)|exact HB.out))));(case aL => have:=LMc11.out;omega);intro v383 w15 ho hb hg hat;rw [← Ny382.out] at ho;have n0_:=Aside0.mk (hb);have n1_:=Aside0.mk (ho);clear HB;clear HO377;have HB:=n0_;have HO384:=n1_;clear n0_ n1_;clear ho hb hg hat))
        go_ret2
        exact ⟨_,by first|rfl|(simp [errW_none,errW_some] <;> rfl)|(simp only [← hji8];first|rfl|(simp [errW_none,errW_some] <;> rfl))|(simp [*,errW_none,errW_some] <;> rfl),by (with_reducible repeat (first|apply Kd.R_alloc|apply Kd.R_drewN|apply Kd.R_drew));exact HO384.out,by repeat (first|(with_reducible first|exact HB.out|apply below_alloc|apply pw_below_drewN|apply below_drew1)|exact HB.out)⟩
       ·rw [if_neg c11] at H
        exact absurd H (by simp)
      ·rw [if_neg c10] at H
       exact absurd H (by simp)
     ·rw [if_neg c9] at H
      exact absurd H (by simp)
    ·replace c7:=Bool.eq_false_iff.mpr c7
     subst c7
     have H1 : ((some (l0.drop (t369 : Int).toNat : List (S37))).bind fun y385 => (if y375.length + y385.length < 4398046511104 then (some ((y375 ++ y385),false)) else (none))) = some (r1,r2):=by rw [if_neg (show ¬ (false = true) by decide)] at H;exact H
     clear H
     have H:=H1
     clear H1
     have c16b0:=eq_true (of_decide_eq_true (by first|(with_reducible assumption)|assumption) : 0 ≤ t369)
     have c17b0:=eq_true (of_decide_eq_true (by first|(with_reducible assumption)|assumption) : t369 ≤ (l0.length : Int))
     obtain ⟨y385,hy385⟩ : ∃ y_ : List (S37),y_ = (l0.drop (t369 : Int).toNat):=⟨_,rfl⟩
     replace H : (if y375.length + y385.length < 4398046511104 then (some ((y375 ++ y385),false)) else (none)) = some (r1,r2):=by first|(rw [hy385];with_reducible exact H)|(have H2_:=(Option.bind_some _ _).symm.trans H;rw [hy385];with_reducible exact H2_)|(have H2_:=(Option.bind_some _ _).symm.trans H;with_reducible exact H2_)|with_reducible exact H|(rw [hy385];exact H)|exact H
     have Ny385:=Aside0.mk hy385
     clear hy385
     by_cases c18 : y375.length + y385.length < 4398046511104
     ·rw [if_pos c18] at H
      have LMc18:=Aside0.mk c18
      clear c18
      obtain ⟨y389,hy389⟩ : ∃ y_ : List (S37),y_ = (y375 ++ y385):=⟨_,rfl⟩
      replace H : (some (y389,false)) = some (r1,r2):=by first|(rw [hy389];with_reducible exact H)|(have H2_:=(Option.bind_some _ _).symm.trans H;rw [hy389];with_reducible exact H2_)|(have H2_:=(Option.bind_some _ _).symm.trans H;with_reducible exact H2_)|with_reducible exact H|(rw [hy389];exact H)|exact H
      have Ny389:=Aside0.mk hy389
      clear hy389
      simp only [Option.some.injEq,Prod.mk.injEq] at H
      obtain ⟨rfl,rfl⟩:=H
      go_enter Try.func24,Try.ntmps24
      go_wp2_with (first|((with_reducible refine gate_callee (f:=21) rfl ?_);refine goesL_ (some 12) rfl rfl Try.func21 (by kernel_rfl) rfl #[.slice A0 l0.length c0,.string a1] rfl (by (try simp only [List.map_toArray,List.map_cons,List.map_nil]);first|done|rfl|(simp only [List.length_drop,List.length_take];rfl)) ?_;(with_reducible refine (cofferref10_Find.calls k _ _ l0 a1 t369 false _ ?side1 ?side2 A3.out).mono ?_);(case side1 => repeat (first|exact HR0.out|(with_reducible refine Kd.C_alloc ?_ _)|(with_reducible refine Kd.C_drewN ?_ _)|(with_reducible refine Kd.C_drew ?_)));(case side2 => exact HC0.out);rintro e w' ⟨rfl,⟨nd,rfl⟩⟩;refine ⟨_,rfl,?_⟩;have q19 : (t369 : Int) ≤ ((l0.length : Int) : Int):=of_decide_eq_true (by first|(with_reducible assumption)|assumption);obtain ⟨i019,hi019,_,hsz19,_⟩:=info_parts info37;have hroom19 : l0.length ≤ c0:=HC0.out;have hC19 : Kd.C k37 _ A0 l0.length l0:=HR0.out;have hcut19:=cut_to (P:=Try.prog) 22 37 .i64 Try.underlying22 hi019 A0 l0.length c0 t369 (of_decide_eq_true (by first|(with_reducible assumption)|assumption)) q19 hroom19;have hr19:=Kd.C_take (m:=(t369 : Int).toNat) hC19 (by omega);have hy19 : y371.length = (t369 : Int).toNat:=(by rw [Ny371.out,List.length_take];omega);rw [← Ny371.out] at hr19;rw [← hy19] at hcut19;have HR374:=Aside0.mk hr19;have HC374:=Aside0.mk (show y371.length ≤ c0 from by omega);clear hr19 hC19 hroom19 hi019 hsz19;have KY19:=Aside0.mk hy19;clear hy19;replace q19:=eq_true q19)|((with_reducible refine gate_builtin (b:=.append) (xs:=#[.tmp 15,.tmp 18]) rfl ?_);at_builtin;refine Kd.R_append_rows k37 (w0:=w) w.heap.size rfl (.tmp 15) (.tmp 18) 22 37 (.agg #[(.string ⟨#[]⟩),(.string ⟨#[]⟩)]) 32 rfl Try.underlying22 info37 rfl (by decide) (by omega) (.slice none 0 0) ([] : List (S37)) y371 _ _ _ (fun _ => True) (fun _ => False) rfl rfl ?aO ?aR (fun _ _ h => h) (fun _ h => h.elim) ?aF ?aB ?aS ?aL ?_;(case aR => repeat (first|exact HR374.out|(with_reducible refine Kd.C_alloc ?_ _)|(with_reducible refine Kd.C_drewN ?_ _)|(with_reducible refine Kd.C_drew ?_)));(case aB => exact (by repeat (first|(with_reducible first|exact HB.out|apply below_alloc|apply pw_below_drewN|apply below_drew1)|exact HB.out)));(case aF => exact (fun _ _ => trivial));(case aO => exact ((Kd.R_nil _ _ _ _ (fun _ => True))));(case aS => exact (below_size (by repeat (first|(with_reducible first|exact HB.out|apply below_alloc|apply pw_below_drewN|apply below_drew1)|exact HB.out))));(case aL => have:=LMc6.out;omega);intro v376 w20 ho hb hg hat;rw [← Ny375.out] at ho;have n0_:=Aside0.mk (hb);have n1_:=Aside0.mk (ho);clear HB;have HB:=n0_;have HO377:=n1_;clear n0_ n1_;clear ho hb hg hat;have q21 : (t369 : Int) ≤ ((l0.length : Int) : Int):=of_decide_eq_true (by first|(with_reducible assumption)|assumption);obtain ⟨i021,hi021,_,hsz21,_⟩:=info_parts info37;have hroom21 : l0.length ≤ c0:=HC0.out;have hC21 : Kd.C k37 _ A0 l0.length l0:=HR0.out;have q021 : (0 : Int) ≤ (t369 : Int):=of_decide_eq_true (by first|(with_reducible assumption)|assumption);have hcut21:=cut_from (P:=Try.prog) 22 37 .i64 Try.underlying22 hi021 2 hsz21 A0 l0.length c0 t369 q021 q21;have hr21:=Kd.C_drop (m:=(t369 : Int).toNat) (c:=c0) hC21 (by omega) hroom21;obtain ⟨A21,hA21⟩ : ∃ A1,A1 = (if c0 = (t369 : Int).toNat then A0 else (A0 : Option Addr).map (·.add ((t369 : Int).toNat * 2))):=⟨_,rfl⟩;obtain ⟨c21,hc21⟩ : ∃ c1,c1 = c0 - (t369 : Int).toNat:=⟨_,rfl⟩;have hy21 : y385.length = l0.length - (t369 : Int).toNat:=(by rw [Ny385.out,List.length_drop] <;> omega);rw [show (l0).drop (t369 : Int).toNat = y385 from Ny385.out.symm] at hr21;replace hr21 : Kd.C k37 _ A21 y385.length y385:=(by rw [hA21];exact hr21);rw [← hy21,← hA21,← hc21] at hcut21;have HR388:=Aside0.mk hr21;have HC388:=Aside0.mk (show y385.length ≤ c21 from by rw [hy21,hc21];exact Nat.sub_le_sub_right hroom21 _);clear hr21 hC21 hroom21 hi021 hsz21 hc21;have KY21:=Aside0.mk hy21;have KA21:=Aside0.mk hA21;clear hy21 hA21;replace q21:=eq_true q21)|((with_reducible refine gate_builtin (b:=.append) (xs:=#[.tmp 23,.tmp 26]) rfl ?_);at_builtin;refine Kd.R_append_rows k37 (w0:=w) w.heap.size rfl (.tmp 23) (.tmp 26) 22 37 (.agg #[(.string ⟨#[]⟩),(.string ⟨#[]⟩)]) 32 rfl Try.underlying22 info37 rfl (by decide) (by omega) v376 y375 y385 _ _ _ (fun _ => True) (fun _ => False) rfl rfl ?aO ?aR (fun _ _ h => h) (fun _ h => h.elim) ?aF ?aB ?aS ?aL ?_;(case aR => repeat (first|exact (Kd.C_below HR388.out HB.out)|(with_reducible refine Kd.C_alloc ?_ _)|(with_reducible refine Kd.C_drewN ?_ _)|(with_reducible refine Kd.C_drew ?_)));(case aB => exact (by repeat (first|(with_reducible first|exact HB.out|apply below_alloc|apply pw_below_drewN|apply below_drew1)|exact HB.out)));(case aF => exact (fun _ _ => trivial));(case aO => exact (by (with_reducible repeat (first|apply Kd.R_alloc|apply Kd.R_drewN|apply Kd.R_drew));exact HO377.out));(case aS => exact (below_size (by repeat (first|(with_reducible first|exact HB.out|apply below_alloc|apply pw_below_drewN|apply below_drew1)|exact HB.out))));(case aL => have:=LMc18.out;omega);intro v390 w22 ho hb hg hat;rw [← Ny389.out] at ho;have n0_:=Aside0.mk (hb);have n1_:=Aside0.mk (ho);clear HB;clear HO377;have HB:=n0_;have HO391:=n1_;clear n0_ n1_;clear ho hb hg hat))
      go_ret2
      exact ⟨_,by first|rfl|(simp [errW_none,errW_some] <;> rfl)|(simp [*,errW_none,errW_some] <;> rfl),by (with_reducible repeat (first|apply Kd.R_alloc|apply Kd.R_drewN|apply Kd.R_drew));exact HO391.out,by repeat (first|(with_reducible first|exact HB.out|apply below_alloc|apply pw_below_drewN|apply below_drew1)|exact HB.out)⟩
     ·rw [if_neg c18] at H
      exact absurd H (by simp)
   ·rw [if_neg c6] at H
    exact absurd H (by simp)
  ·rw [if_neg c5] at H
   exact absurd H (by simp)
 ·rw [if_neg c4] at H
  exact absurd H (by simp)

end Go.Proofs.Ytffgodpmmipnkaa.X
