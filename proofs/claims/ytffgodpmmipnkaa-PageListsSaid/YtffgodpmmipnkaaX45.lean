-- By a program of this session (wip/xprint.py over the kit's print).
import Derived.Test.YtffgodpmmipnkaaX0
import Derived.Test.YtffgodpmmipnkaaX44
namespace Go.Proofs.Ytffgodpmmipnkaa.X
open Go.RowKit Go.Proofs.YtffgodpmmipnkaaW.PrintWords Go.Proofs.YtffgodpmmipnkaaW.PrintLast Go.Proofs.YtffgodpmmipnkaaW.PrintMore
attribute [local go_sem] max2_int min2_int max_two min_two max_three min_three max_four min_four Go.Proofs.Ytffgodpmmipnkaa.Z.leq_string Go.Proofs.Ytffgodpmmipnkaa.Z.gtr_string Go.Proofs.Ytffgodpmmipnkaa.Z.geq_string   -- for this text's walks alone
set_option linter.unusedVariables false
set_option linter.unusedSimpArgs false

/-! ### cofferref10_Put: function 27 -/
def cofferref10_Put.f (k : Nat) (l0 : List (S37)) (a1 : ByteArray) (a2 : ByteArray) : Option ((List (S37))):=(cofferref10_Find.f k l0 a1).bind fun bt338 => (if 0 ≤ bt338.1 then (if bt338.1 ≤ (l0.length : Int) then ((some (l0.take (bt338.1 : Int).toNat : List (S37))).bind fun y340 => (if ([] : List (S37)).length + y340.length < 4398046511104 then ((some (([] : List (S37)) ++ y340 : List (S37))).bind fun y344 => (if y344.length < 4398046511104 then ((some (y344 ++ [(⟨a1,a2⟩ : S37)] : List (S37))).bind fun y347 => (if bt338.2 = true then (if 0 ≤ (wrap64 (bt338.1 + 1)) then (if (wrap64 (bt338.1 + 1)) ≤ (l0.length : Int) then ((some (l0.drop ((wrap64 (bt338.1 + 1)) : Int).toNat : List (S37))).bind fun y350 => (if y347.length + y350.length < 4398046511104 then (some (y347 ++ y350)) else (none))) else (none)) else (none)) else ((some (l0.drop (bt338.1 : Int).toNat : List (S37))).bind fun y357 => (if y347.length + y357.length < 4398046511104 then (some (y347 ++ y357)) else (none))))) else (none))) else (none))) else (none)) else (none))
theorem cofferref10_Put.mono : ∀ a0 a1 a2 k,LeO (cofferref10_Put.f k a0 a1 a2) (cofferref10_Put.f (k + 1) a0 a1 a2):=by
 intro a0 a1 a2 k
 unfold cofferref10_Put.f
 repeat' first
  | (with_reducible exact cofferref10_Find.mono _ _ _)
  | (with_reducible exact LeO.refl _)
  | (with_reducible exact LeO.none _)
  | (with_reducible refine LeO.ite ?_ ?_)
  | (with_reducible refine LeO.bind ?_ (fun _ => ?_))
  | exact cofferref10_Find.mono _ _ _
  | exact LeO.none _
  | refine LeO.ite ?_ ?_
  | refine LeO.bind ?_ (fun _ => ?_)
set_option maxHeartbeats 8000000 in
set_option maxRecDepth 100000 in
theorem cofferref10_Put.calls (k : Nat) (A0 : Option Addr) (c0 : Nat) (l0 : List (S37)) (a1 : ByteArray) (a2 : ByteArray) (r : List (S37)) (w : World) (hr0 : Kd.C k37 w A0 l0.length l0) (hc0 : l0.length ≤ c0) (h : cofferref10_Put.f k l0 a1 a2 = some r) :
 Calls Try.prog 27 #[.slice A0 l0.length c0,.string a1,.string a2] w fun e w' => ∃ v0_ : Value,e = .returned (v0_) ∧ Kd.R k37 37 w' w.heap.size (fun _ => True) v0_ r ∧ Below w.heap.size w w':=by
 have hu37:=Try.underlying37
 have HR0:=Aside0.mk hr0
 have HC0:=Aside0.mk hc0
 clear hr0 hc0
 have HB:=Aside0.mk (Below.refl w.heap.size w)
 have H : ((cofferref10_Find.f k l0 a1).bind fun bt338 => (if 0 ≤ bt338.1 then (if bt338.1 ≤ (l0.length : Int) then ((some (l0.take (bt338.1 : Int).toNat : List (S37))).bind fun y340 => (if ([] : List (S37)).length + y340.length < 4398046511104 then ((some (([] : List (S37)) ++ y340 : List (S37))).bind fun y344 => (if y344.length < 4398046511104 then ((some (y344 ++ [(⟨a1,a2⟩ : S37)] : List (S37))).bind fun y347 => (if bt338.2 = true then (if 0 ≤ (wrap64 (bt338.1 + 1)) then (if (wrap64 (bt338.1 + 1)) ≤ (l0.length : Int) then ((some (l0.drop ((wrap64 (bt338.1 + 1)) : Int).toNat : List (S37))).bind fun y350 => (if y347.length + y350.length < 4398046511104 then (some (y347 ++ y350)) else (none))) else (none)) else (none)) else ((some (l0.drop (bt338.1 : Int).toNat : List (S37))).bind fun y357 => (if y347.length + y357.length < 4398046511104 then (some (y347 ++ y357)) else (none))))) else (none))) else (none))) else (none)) else (none))) = some r:=h
 clear h
 replace H:=Option.bind_eq_some_iff.mp H
 obtain ⟨⟨t338,t339⟩,A40,H⟩:=H
 replace H : (if 0 ≤ t338 then (if t338 ≤ (l0.length : Int) then ((some (l0.take (t338 : Int).toNat : List (S37))).bind fun y340 => (if ([] : List (S37)).length + y340.length < 4398046511104 then ((some (([] : List (S37)) ++ y340 : List (S37))).bind fun y344 => (if y344.length < 4398046511104 then ((some (y344 ++ [(⟨a1,a2⟩ : S37)] : List (S37))).bind fun y347 => (if t339 = true then (if 0 ≤ (wrap64 (t338 + 1)) then (if (wrap64 (t338 + 1)) ≤ (l0.length : Int) then ((some (l0.drop ((wrap64 (t338 + 1)) : Int).toNat : List (S37))).bind fun y350 => (if y347.length + y350.length < 4398046511104 then (some (y347 ++ y350)) else (none))) else (none)) else (none)) else ((some (l0.drop (t338 : Int).toNat : List (S37))).bind fun y357 => (if y347.length + y357.length < 4398046511104 then (some (y347 ++ y357)) else (none))))) else (none))) else (none))) else (none)) else (none)) = some r:=H
 have A4:=Aside0.mk A40
 clear A40
 by_cases c5 : 0 ≤ t338
 ·rw [if_pos c5] at H
  have c5b0:=eq_true c5
  have c5b1 : decide (0 ≤ t338) = true:=decide_eq_true c5
  clear c5
  by_cases c6 : t338 ≤ (l0.length : Int)
  ·rw [if_pos c6] at H
   have c6b0:=eq_true c6
   have c6b1 : decide (t338 ≤ (l0.length : Int)) = true:=decide_eq_true c6
   clear c6
   obtain ⟨y340,hy340⟩ : ∃ y_ : List (S37),y_ = (l0.take (t338 : Int).toNat):=⟨_,rfl⟩
   replace H : (if ([] : List (S37)).length + y340.length < 4398046511104 then ((some (([] : List (S37)) ++ y340 : List (S37))).bind fun y344 => (if y344.length < 4398046511104 then ((some (y344 ++ [(⟨a1,a2⟩ : S37)] : List (S37))).bind fun y347 => (if t339 = true then (if 0 ≤ (wrap64 (t338 + 1)) then (if (wrap64 (t338 + 1)) ≤ (l0.length : Int) then ((some (l0.drop ((wrap64 (t338 + 1)) : Int).toNat : List (S37))).bind fun y350 => (if y347.length + y350.length < 4398046511104 then (some (y347 ++ y350)) else (none))) else (none)) else (none)) else ((some (l0.drop (t338 : Int).toNat : List (S37))).bind fun y357 => (if y347.length + y357.length < 4398046511104 then (some (y347 ++ y357)) else (none))))) else (none))) else (none)) = some r:=by first|(rw [hy340];with_reducible exact H)|(have H2_:=(Option.bind_some _ _).symm.trans H;rw [hy340];with_reducible exact H2_)|(have H2_:=(Option.bind_some _ _).symm.trans H;with_reducible exact H2_)|with_reducible exact H|(rw [hy340];exact H)|exact H
   have Ny340:=Aside0.mk hy340
   clear hy340
   by_cases c7 : ([] : List (S37)).length + y340.length < 4398046511104
   ·rw [if_pos c7] at H
    have LMc7:=Aside0.mk c7
    clear c7
    obtain ⟨y344,hy344⟩ : ∃ y_ : List (S37),y_ = (([] : List (S37)) ++ y340):=⟨_,rfl⟩
    replace H : (if y344.length < 4398046511104 then ((some (y344 ++ [(⟨a1,a2⟩ : S37)] : List (S37))).bind fun y347 => (if t339 = true then (if 0 ≤ (wrap64 (t338 + 1)) then (if (wrap64 (t338 + 1)) ≤ (l0.length : Int) then ((some (l0.drop ((wrap64 (t338 + 1)) : Int).toNat : List (S37))).bind fun y350 => (if y347.length + y350.length < 4398046511104 then (some (y347 ++ y350)) else (none))) else (none)) else (none)) else ((some (l0.drop (t338 : Int).toNat : List (S37))).bind fun y357 => (if y347.length + y357.length < 4398046511104 then (some (y347 ++ y357)) else (none))))) else (none)) = some r:=by first|(rw [hy344];with_reducible exact H)|(have H2_:=(Option.bind_some _ _).symm.trans H;rw [hy344];with_reducible exact H2_)|(have H2_:=(Option.bind_some _ _).symm.trans H;with_reducible exact H2_)|with_reducible exact H|(rw [hy344];exact H)|exact H
    have Ny344:=Aside0.mk hy344
    clear hy344
    by_cases c8 : y344.length < 4398046511104
    ·rw [if_pos c8] at H
     have LMc8:=Aside0.mk c8
     clear c8
     obtain ⟨y347,hy347⟩ : ∃ y_ : List (S37),y_ = (y344 ++ [(⟨a1,a2⟩ : S37)]):=⟨_,rfl⟩
     replace H : (if t339 = true then (if 0 ≤ (wrap64 (t338 + 1)) then (if (wrap64 (t338 + 1)) ≤ (l0.length : Int) then ((some (l0.drop ((wrap64 (t338 + 1)) : Int).toNat : List (S37))).bind fun y350 => (if y347.length + y350.length < 4398046511104 then (some (y347 ++ y350)) else (none))) else (none)) else (none)) else ((some (l0.drop (t338 : Int).toNat : List (S37))).bind fun y357 => (if y347.length + y357.length < 4398046511104 then (some (y347 ++ y357)) else (none)))) = some r:=by first|(rw [hy347];with_reducible exact H)|(have H2_:=(Option.bind_some _ _).symm.trans H;rw [hy347];with_reducible exact H2_)|(have H2_:=(Option.bind_some _ _).symm.trans H;with_reducible exact H2_)|with_reducible exact H|(rw [hy347];exact H)|exact H
     have Ny347:=Aside0.mk hy347
     clear hy347
     by_cases c9 : t339 = true
     ·subst c9
      have H1 : (if 0 ≤ (wrap64 (t338 + 1)) then (if (wrap64 (t338 + 1)) ≤ (l0.length : Int) then ((some (l0.drop ((wrap64 (t338 + 1)) : Int).toNat : List (S37))).bind fun y350 => (if y347.length + y350.length < 4398046511104 then (some (y347 ++ y350)) else (none))) else (none)) else (none)) = some r:=by rw [if_pos rfl] at H;exact H
      clear H
      have H:=H1
      clear H1
      obtain ⟨ji10,hji10⟩ : ∃ j_ : Int,(wrap64 (t338 + 1)) = j_:=⟨_,rfl⟩
      replace H : (if 0 ≤ (ji10) then (if (ji10) ≤ (l0.length : Int) then ((some (l0.drop ((ji10) : Int).toNat : List (S37))).bind fun y350 => (if y347.length + y350.length < 4398046511104 then (some (y347 ++ y350)) else (none))) else (none)) else (none)) = some r:=by first|(rw [hji10] at H;exact H)|(simp only [hji10] at H ⊢;exact H)
      (try rw [hji10] at A4)
      have hji10w : (IntKind.i64.wrap (t338 + 1)) = ji10:=(i64_w _).trans hji10
      by_cases c11 : 0 ≤ (ji10)
      ·rw [if_pos c11] at H
       have c11b0:=eq_true c11
       have c11b1 : decide (0 ≤ (ji10)) = true:=decide_eq_true c11
       clear c11
       by_cases c12 : (ji10) ≤ (l0.length : Int)
       ·rw [if_pos c12] at H
        have c12b0:=eq_true c12
        have c12b1 : decide ((ji10) ≤ (l0.length : Int)) = true:=decide_eq_true c12
        clear c12
        obtain ⟨y350,hy350⟩ : ∃ y_ : List (S37),y_ = (l0.drop ((ji10) : Int).toNat):=⟨_,rfl⟩
        replace H : (if y347.length + y350.length < 4398046511104 then (some (y347 ++ y350)) else (none)) = some r:=by first|(rw [hy350];with_reducible exact H)|(have H2_:=(Option.bind_some _ _).symm.trans H;rw [hy350];with_reducible exact H2_)|(have H2_:=(Option.bind_some _ _).symm.trans H;with_reducible exact H2_)|with_reducible exact H|(rw [hy350];exact H)|exact H
        have Ny350:=Aside0.mk hy350
        clear hy350
        by_cases c13 : y347.length + y350.length < 4398046511104
        ·rw [if_pos c13] at H
         have LMc13:=Aside0.mk c13
         clear c13
         obtain ⟨y354,hy354⟩ : ∃ y_ : List (S37),y_ = (y347 ++ y350):=⟨_,rfl⟩
         replace H : (some y354) = some r:=by first|(rw [hy354];with_reducible exact H)|(have H2_:=(Option.bind_some _ _).symm.trans H;rw [hy354];with_reducible exact H2_)|(have H2_:=(Option.bind_some _ _).symm.trans H;with_reducible exact H2_)|with_reducible exact H|(rw [hy354];exact H)|exact H
         have Ny354:=Aside0.mk hy354
         clear hy354
         obtain rfl:=Option.some.inj H
         go_enter Try.func27,Try.ntmps27
         go_wp2_with (first|((with_reducible refine gate_callee (f:=21) rfl ?_);refine goesL_ (some 13) rfl rfl Try.func21 (by kernel_rfl) rfl #[.slice A0 l0.length c0,.string a1] rfl (by (try simp only [List.map_toArray,List.map_cons,List.map_nil]);first|done|rfl|(simp only [List.length_drop,List.length_take];rfl)) ?_;(with_reducible refine (cofferref10_Find.calls k _ _ l0 a1 t338 true _ ?side1 ?side2 A4.out).mono ?_);(case side1 => repeat (first|exact HR0.out|(with_reducible refine Kd.C_alloc ?_ _)|(with_reducible refine Kd.C_drewN ?_ _)|(with_reducible refine Kd.C_drew ?_)));(case side2 => exact HC0.out);rintro e w' ⟨rfl,⟨nd,rfl⟩⟩;refine ⟨_,rfl,?_⟩;have q14 : (t338 : Int) ≤ ((l0.length : Int) : Int):=of_decide_eq_true (by first|(with_reducible assumption)|assumption);obtain ⟨i014,hi014,_,hsz14,_⟩:=info_parts info37;have hroom14 : l0.length ≤ c0:=HC0.out;have hC14 : Kd.C k37 _ A0 l0.length l0:=HR0.out;have hcut14:=cut_to (P:=Try.prog) 22 37 .i64 Try.underlying22 hi014 A0 l0.length c0 t338 (of_decide_eq_true (by first|(with_reducible assumption)|assumption)) q14 hroom14;have hr14:=Kd.C_take (m:=(t338 : Int).toNat) hC14 (by omega);have hy14 : y340.length = (t338 : Int).toNat:=(by rw [Ny340.out,List.length_take];omega);rw [← Ny340.out] at hr14;rw [← hy14] at hcut14;have HR343:=Aside0.mk hr14;have HC343:=Aside0.mk (show y340.length ≤ c0 from by omega);clear hr14 hC14 hroom14 hi014 hsz14;have KY14:=Aside0.mk hy14;clear hy14;replace q14:=eq_true q14)|((with_reducible refine gate_builtin (b:=.append) (xs:=#[.tmp 16,.tmp 19]) rfl ?_);at_builtin;refine Kd.R_append_rows k37 (w0:=w) w.heap.size rfl (.tmp 16) (.tmp 19) 22 37 (.agg #[(.string ⟨#[]⟩),(.string ⟨#[]⟩)]) 32 rfl Try.underlying22 info37 rfl (by decide) (by omega) (.slice none 0 0) ([] : List (S37)) y340 _ _ _ (fun _ => True) (fun _ => False) rfl rfl ?aO ?aR (fun _ _ h => h) (fun _ h => h.elim) ?aF ?aB ?aS ?aL ?_;(case aR => repeat (first|exact HR343.out|(with_reducible refine Kd.C_alloc ?_ _)|(with_reducible refine Kd.C_drewN ?_ _)|(with_reducible refine Kd.C_drew ?_)));(case aB => exact (by repeat (first|(with_reducible first|exact HB.out|apply below_alloc|apply pw_below_drewN|apply below_drew1)|exact HB.out)));(case aF => exact (fun _ _ => trivial));(case aO => exact ((Kd.R_nil _ _ _ _ (fun _ => True))));(case aS => exact (below_size (by repeat (first|(with_reducible first|exact HB.out|apply below_alloc|apply pw_below_drewN|apply below_drew1)|exact HB.out))));(case aL => have:=LMc7.out;omega);intro v345 w15 ho hb hg hat;rw [← Ny344.out] at ho;have n0_:=Aside0.mk (hb);have n1_:=Aside0.mk (ho);clear HB;have HB:=n0_;have HO346:=n1_;clear n0_ n1_;clear ho hb hg hat)|((with_reducible refine gate_builtin (b:=.append) (xs:=#[.tmp 21,.tmp 25]) rfl ?_);at_builtin;refine Kd.R_append k37 (w0:=w) w.heap.size rfl (.tmp 21) (.tmp 25) 22 37 (.agg #[(.string ⟨#[]⟩),(.string ⟨#[]⟩)]) 32 rfl Try.underlying22 info37 rfl (by decide) (by omega) v345 y344 (⟨a1,a2⟩ : S37) [.string a1,.string a2] (fun _ => True) (fun _ => False) rfl rfl ?aP (fun _ hk => hk.elim) ?aF ?aO ?aB ?aS ?aL ?_;(case aP => exact k37_mkM _ _ _ (⟨a1,a2⟩ : S37));(case aB => exact (by repeat (first|(with_reducible first|exact HB.out|apply below_alloc|apply pw_below_drewN|apply below_drew1)|exact HB.out)));(case aF => exact (fun _ _ => trivial));(case aO => exact (by (with_reducible repeat (first|apply Kd.R_alloc|apply Kd.R_drewN|apply Kd.R_drew));exact HO346.out));(case aS => exact (below_size (by repeat (first|(with_reducible first|exact HB.out|apply below_alloc|apply pw_below_drewN|apply below_drew1)|exact HB.out))));(case aL => have:=LMc8.out;omega);intro v348 w16 ho hb hg hat;rw [← Ny347.out] at ho;have n0_:=Aside0.mk (hb);have n1_:=Aside0.mk (ho);clear HB;clear HO346;have HB:=n0_;have HO349:=n1_;clear n0_ n1_;clear ho hb hg hat;have q17 : ((ji10) : Int) ≤ ((l0.length : Int) : Int):=of_decide_eq_true (by first|(with_reducible assumption)|assumption);obtain ⟨i017,hi017,_,hsz17,_⟩:=info_parts info37;have hroom17 : l0.length ≤ c0:=HC0.out;have hC17 : Kd.C k37 _ A0 l0.length l0:=HR0.out;have q017 : (0 : Int) ≤ ((ji10) : Int):=of_decide_eq_true (by first|(with_reducible assumption)|assumption);have hcut17:=cut_from (P:=Try.prog) 22 37 .i64 Try.underlying22 hi017 2 hsz17 A0 l0.length c0 (ji10) q017 q17;have hr17:=Kd.C_drop (m:=((ji10) : Int).toNat) (c:=c0) hC17 (by omega) hroom17;obtain ⟨A17,hA17⟩ : ∃ A1,A1 = (if c0 = ((ji10) : Int).toNat then A0 else (A0 : Option Addr).map (·.add (((ji10) : Int).toNat * 2))):=⟨_,rfl⟩;obtain ⟨c17,hc17⟩ : ∃ c1,c1 = c0 - ((ji10) : Int).toNat:=⟨_,rfl⟩;have hy17 : y350.length = l0.length - ((ji10) : Int).toNat:=(by rw [Ny350.out,List.length_drop] <;> omega);rw [show (l0).drop ((ji10) : Int).toNat = y350 from Ny350.out.symm] at hr17;replace hr17 : Kd.C k37 _ A17 y350.length y350:=(by rw [hA17];exact hr17);rw [← hy17,← hA17,← hc17] at hcut17;have HR353:=Aside0.mk hr17;have HC353:=Aside0.mk (show y350.length ≤ c17 from by rw [hy17,hc17];exact Nat.sub_le_sub_right hroom17 _);clear hr17 hC17 hroom17 hi017 hsz17 hc17;have KY17:=Aside0.mk hy17;have KA17:=Aside0.mk hA17;clear hy17 hA17;replace q17:=eq_true q17)|((with_reducible refine gate_builtin (b:=.append) (xs:=#[.tmp 30,.tmp 33]) rfl ?_);at_builtin;refine Kd.R_append_rows k37 (w0:=w) w.heap.size rfl (.tmp 30) (.tmp 33) 22 37 (.agg #[(.string ⟨#[]⟩),(.string ⟨#[]⟩)]) 32 rfl Try.underlying22 info37 rfl (by decide) (by omega) v348 y347 y350 _ _ _ (fun _ => True) (fun _ => False) rfl rfl ?aO ?aR (fun _ _ h => h) (fun _ h => h.elim) ?aF ?aB ?aS ?aL ?_;(case aR => repeat (first|exact (Kd.C_below HR353.out HB.out)|(with_reducible refine Kd.C_alloc ?_ _)|(with_reducible refine Kd.C_drewN ?_ _)|(with_reducible refine Kd.C_drew ?_)));(case aB => exact (by repeat (first|(with_reducible first|exact HB.out|apply below_alloc|apply pw_below_drewN|apply below_drew1)|exact HB.out)));(case aF => exact (fun _ _ => trivial));(case aO => exact (by (with_reducible repeat (first|apply Kd.R_alloc|apply Kd.R_drewN|apply Kd.R_drew));exact HO349.out));(case aS => exact (below_size (by repeat (first|(with_reducible first|exact HB.out|apply below_alloc|apply pw_below_drewN|apply below_drew1)|exact HB.out))));(case aL => have:=LMc13.out;omega);intro v355 w18 ho hb hg hat;rw [← Ny354.out] at ho;have n0_:=Aside0.mk (hb);have n1_:=Aside0.mk (ho);clear HB;clear HO349;have HB:=n0_;have HO356:=n1_;clear n0_ n1_;clear ho hb hg hat))
         go_ret
         exact ⟨_,by first|rfl|(simp [errW_none,errW_some] <;> rfl)|(simp only [← hji10];first|rfl|(simp [errW_none,errW_some] <;> rfl))|(simp [*,errW_none,errW_some] <;> rfl),by (with_reducible repeat (first|apply Kd.R_alloc|apply Kd.R_drewN|apply Kd.R_drew));exact HO356.out,by repeat (first|(with_reducible first|exact HB.out|apply below_alloc|apply pw_below_drewN|apply below_drew1)|exact HB.out)⟩
        ·rw [if_neg c13] at H
         exact absurd H (by simp)
       ·rw [if_neg c12] at H
        exact absurd H (by simp)
      ·rw [if_neg c11] at H
       exact absurd H (by simp)
     ·replace c9:=Bool.eq_false_iff.mpr c9
      subst c9
      have H1 : ((some (l0.drop (t338 : Int).toNat : List (S37))).bind fun y357 => (if y347.length + y357.length < 4398046511104 then (some (y347 ++ y357)) else (none))) = some r:=by rw [if_neg (show ¬ (false = true) by decide)] at H;exact H
      clear H
      have H:=H1
      clear H1
      have c19b0:=eq_true (of_decide_eq_true (by first|(with_reducible assumption)|assumption) : 0 ≤ t338)
      have c20b0:=eq_true (of_decide_eq_true (by first|(with_reducible assumption)|assumption) : t338 ≤ (l0.length : Int))
      obtain ⟨y357,hy357⟩ : ∃ y_ : List (S37),y_ = (l0.drop (t338 : Int).toNat):=⟨_,rfl⟩
      replace H : (if y347.length + y357.length < 4398046511104 then (some (y347 ++ y357)) else (none)) = some r:=by first|(rw [hy357];with_reducible exact H)|(have H2_:=(Option.bind_some _ _).symm.trans H;rw [hy357];with_reducible exact H2_)|(have H2_:=(Option.bind_some _ _).symm.trans H;with_reducible exact H2_)|with_reducible exact H|(rw [hy357];exact H)|exact H
      have Ny357:=Aside0.mk hy357
      clear hy357
      by_cases c21 : y347.length + y357.length < 4398046511104
      ·rw [if_pos c21] at H
       have LMc21:=Aside0.mk c21
       clear c21
       obtain ⟨y361,hy361⟩ : ∃ y_ : List (S37),y_ = (y347 ++ y357):=⟨_,rfl⟩
       replace H : (some y361) = some r:=by first|(rw [hy361];with_reducible exact H)|(have H2_:=(Option.bind_some _ _).symm.trans H;rw [hy361];with_reducible exact H2_)|(have H2_:=(Option.bind_some _ _).symm.trans H;with_reducible exact H2_)|with_reducible exact H|(rw [hy361];exact H)|exact H
       have Ny361:=Aside0.mk hy361
       clear hy361
       obtain rfl:=Option.some.inj H
       go_enter Try.func27,Try.ntmps27
       go_wp2_with (first|((with_reducible refine gate_callee (f:=21) rfl ?_);refine goesL_ (some 13) rfl rfl Try.func21 (by kernel_rfl) rfl #[.slice A0 l0.length c0,.string a1] rfl (by (try simp only [List.map_toArray,List.map_cons,List.map_nil]);first|done|rfl|(simp only [List.length_drop,List.length_take];rfl)) ?_;(with_reducible refine (cofferref10_Find.calls k _ _ l0 a1 t338 false _ ?side1 ?side2 A4.out).mono ?_);(case side1 => repeat (first|exact HR0.out|(with_reducible refine Kd.C_alloc ?_ _)|(with_reducible refine Kd.C_drewN ?_ _)|(with_reducible refine Kd.C_drew ?_)));(case side2 => exact HC0.out);rintro e w' ⟨rfl,⟨nd,rfl⟩⟩;refine ⟨_,rfl,?_⟩;have q22 : (t338 : Int) ≤ ((l0.length : Int) : Int):=of_decide_eq_true (by first|(with_reducible assumption)|assumption);obtain ⟨i022,hi022,_,hsz22,_⟩:=info_parts info37;have hroom22 : l0.length ≤ c0:=HC0.out;have hC22 : Kd.C k37 _ A0 l0.length l0:=HR0.out;have hcut22:=cut_to (P:=Try.prog) 22 37 .i64 Try.underlying22 hi022 A0 l0.length c0 t338 (of_decide_eq_true (by first|(with_reducible assumption)|assumption)) q22 hroom22;have hr22:=Kd.C_take (m:=(t338 : Int).toNat) hC22 (by omega);have hy22 : y340.length = (t338 : Int).toNat:=(by rw [Ny340.out,List.length_take];omega);rw [← Ny340.out] at hr22;rw [← hy22] at hcut22;have HR343:=Aside0.mk hr22;have HC343:=Aside0.mk (show y340.length ≤ c0 from by omega);clear hr22 hC22 hroom22 hi022 hsz22;have KY22:=Aside0.mk hy22;clear hy22;replace q22:=eq_true q22)|((with_reducible refine gate_builtin (b:=.append) (xs:=#[.tmp 16,.tmp 19]) rfl ?_);at_builtin;refine Kd.R_append_rows k37 (w0:=w) w.heap.size rfl (.tmp 16) (.tmp 19) 22 37 (.agg #[(.string ⟨#[]⟩),(.string ⟨#[]⟩)]) 32 rfl Try.underlying22 info37 rfl (by decide) (by omega) (.slice none 0 0) ([] : List (S37)) y340 _ _ _ (fun _ => True) (fun _ => False) rfl rfl ?aO ?aR (fun _ _ h => h) (fun _ h => h.elim) ?aF ?aB ?aS ?aL ?_;(case aR => repeat (first|exact HR343.out|(with_reducible refine Kd.C_alloc ?_ _)|(with_reducible refine Kd.C_drewN ?_ _)|(with_reducible refine Kd.C_drew ?_)));(case aB => exact (by repeat (first|(with_reducible first|exact HB.out|apply below_alloc|apply pw_below_drewN|apply below_drew1)|exact HB.out)));(case aF => exact (fun _ _ => trivial));(case aO => exact ((Kd.R_nil _ _ _ _ (fun _ => True))));(case aS => exact (below_size (by repeat (first|(with_reducible first|exact HB.out|apply below_alloc|apply pw_below_drewN|apply below_drew1)|exact HB.out))));(case aL => have:=LMc7.out;omega);intro v345 w23 ho hb hg hat;rw [← Ny344.out] at ho;have n0_:=Aside0.mk (hb);have n1_:=Aside0.mk (ho);clear HB;have HB:=n0_;have HO346:=n1_;clear n0_ n1_;clear ho hb hg hat)|((with_reducible refine gate_builtin (b:=.append) (xs:=#[.tmp 21,.tmp 25]) rfl ?_);at_builtin;refine Kd.R_append k37 (w0:=w) w.heap.size rfl (.tmp 21) (.tmp 25) 22 37 (.agg #[(.string ⟨#[]⟩),(.string ⟨#[]⟩)]) 32 rfl Try.underlying22 info37 rfl (by decide) (by omega) v345 y344 (⟨a1,a2⟩ : S37) [.string a1,.string a2] (fun _ => True) (fun _ => False) rfl rfl ?aP (fun _ hk => hk.elim) ?aF ?aO ?aB ?aS ?aL ?_;(case aP => exact k37_mkM _ _ _ (⟨a1,a2⟩ : S37));(case aB => exact (by repeat (first|(with_reducible first|exact HB.out|apply below_alloc|apply pw_below_drewN|apply below_drew1)|exact HB.out)));(case aF => exact (fun _ _ => trivial));(case aO => exact (by (with_reducible repeat (first|apply Kd.R_alloc|apply Kd.R_drewN|apply Kd.R_drew));exact HO346.out));(case aS => exact (below_size (by repeat (first|(with_reducible first|exact HB.out|apply below_alloc|apply pw_below_drewN|apply below_drew1)|exact HB.out))));(case aL => have:=LMc8.out;omega);intro v348 w24 ho hb hg hat;rw [← Ny347.out] at ho;have n0_:=Aside0.mk (hb);have n1_:=Aside0.mk (ho);clear HB;clear HO346;have HB:=n0_;have HO349:=n1_;clear n0_ n1_;clear ho hb hg hat;have q25 : (t338 : Int) ≤ ((l0.length : Int) : Int):=of_decide_eq_true (by first|(with_reducible assumption)|assumption);obtain ⟨i025,hi025,_,hsz25,_⟩:=info_parts info37;have hroom25 : l0.length ≤ c0:=HC0.out;have hC25 : Kd.C k37 _ A0 l0.length l0:=HR0.out;have q025 : (0 : Int) ≤ (t338 : Int):=of_decide_eq_true (by first|(with_reducible assumption)|assumption);have hcut25:=cut_from (P:=Try.prog) 22 37 .i64 Try.underlying22 hi025 2 hsz25 A0 l0.length c0 t338 q025 q25;have hr25:=Kd.C_drop (m:=(t338 : Int).toNat) (c:=c0) hC25 (by omega) hroom25;obtain ⟨A25,hA25⟩ : ∃ A1,A1 = (if c0 = (t338 : Int).toNat then A0 else (A0 : Option Addr).map (·.add ((t338 : Int).toNat * 2))):=⟨_,rfl⟩;obtain ⟨c25,hc25⟩ : ∃ c1,c1 = c0 - (t338 : Int).toNat:=⟨_,rfl⟩;have hy25 : y357.length = l0.length - (t338 : Int).toNat:=(by rw [Ny357.out,List.length_drop] <;> omega);rw [show (l0).drop (t338 : Int).toNat = y357 from Ny357.out.symm] at hr25;replace hr25 : Kd.C k37 _ A25 y357.length y357:=(by rw [hA25];exact hr25);rw [← hy25,← hA25,← hc25] at hcut25;have HR360:=Aside0.mk hr25;have HC360:=Aside0.mk (show y357.length ≤ c25 from by rw [hy25,hc25];exact Nat.sub_le_sub_right hroom25 _);clear hr25 hC25 hroom25 hi025 hsz25 hc25;have KY25:=Aside0.mk hy25;have KA25:=Aside0.mk hA25;clear hy25 hA25;replace q25:=eq_true q25)|((with_reducible refine gate_builtin (b:=.append) (xs:=#[.tmp 30,.tmp 33]) rfl ?_);at_builtin;refine Kd.R_append_rows k37 (w0:=w) w.heap.size rfl (.tmp 30) (.tmp 33) 22 37 (.agg #[(.string ⟨#[]⟩),(.string ⟨#[]⟩)]) 32 rfl Try.underlying22 info37 rfl (by decide) (by omega) v348 y347 y357 _ _ _ (fun _ => True) (fun _ => False) rfl rfl ?aO ?aR (fun _ _ h => h) (fun _ h => h.elim) ?aF ?aB ?aS ?aL ?_;(case aR => repeat (first|exact (Kd.C_below HR360.out HB.out)|(with_reducible refine Kd.C_alloc ?_ _)|(with_reducible refine Kd.C_drewN ?_ _)|(with_reducible refine Kd.C_drew ?_)));(case aB => exact (by repeat (first|(with_reducible first|exact HB.out|apply below_alloc|apply pw_below_drewN|apply below_drew1)|exact HB.out)));(case aF => exact (fun _ _ => trivial));(case aO => exact (by (with_reducible repeat (first|apply Kd.R_alloc|apply Kd.R_drewN|apply Kd.R_drew));exact HO349.out));(case aS => exact (below_size (by repeat (first|(with_reducible first|exact HB.out|apply below_alloc|apply pw_below_drewN|apply below_drew1)|exact HB.out))));(case aL => have:=LMc21.out;omega);intro v362 w26 ho hb hg hat;rw [← Ny361.out] at ho;have n0_:=Aside0.mk (hb);have n1_:=Aside0.mk (ho);clear HB;clear HO349;have HB:=n0_;have HO363:=n1_;clear n0_ n1_;clear ho hb hg hat))
       go_ret
       exact ⟨_,by first|rfl|(simp [errW_none,errW_some] <;> rfl)|(simp [*,errW_none,errW_some] <;> rfl),by (with_reducible repeat (first|apply Kd.R_alloc|apply Kd.R_drewN|apply Kd.R_drew));exact HO363.out,by repeat (first|(with_reducible first|exact HB.out|apply below_alloc|apply pw_below_drewN|apply below_drew1)|exact HB.out)⟩
      ·rw [if_neg c21] at H
       exact absurd H (by simp)
    ·rw [if_neg c8] at H
     exact absurd H (by simp)
   ·rw [if_neg c7] at H
    exact absurd H (by simp)
  ·rw [if_neg c6] at H
   exact absurd H (by simp)
 ·rw [if_neg c5] at H
  exact absurd H (by simp)

end Go.Proofs.Ytffgodpmmipnkaa.X
