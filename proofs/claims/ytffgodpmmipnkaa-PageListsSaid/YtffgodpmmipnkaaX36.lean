-- By a program of this session (wip/xprint.py over the kit's print).
import Derived.Test.YtffgodpmmipnkaaX0
import Derived.Test.YtffgodpmmipnkaaX35
namespace Go.Proofs.Ytffgodpmmipnkaa.X
open Go.RowKit Go.Proofs.YtffgodpmmipnkaaW.PrintWords Go.Proofs.YtffgodpmmipnkaaW.PrintLast Go.Proofs.YtffgodpmmipnkaaW.PrintMore
attribute [local go_sem] max2_int min2_int max_two min_two max_three min_three max_four min_four Go.Proofs.Ytffgodpmmipnkaa.Z.leq_string Go.Proofs.Ytffgodpmmipnkaa.Z.gtr_string Go.Proofs.Ytffgodpmmipnkaa.Z.geq_string   -- for this text's walks alone
set_option linter.unusedVariables false
set_option linter.unusedSimpArgs false

/-! ### page_Put: function 22 -/
section
variable {P : Program} {ops : Array Oper} {o : Oper} {a : Act} {Q : Exit → Act → World → Prop} {Kc : Act → World → Prop} {α : Type}
/-- append(l[:n:n], ys...): a new row. -/
theorem R_append_full_step (d : Kd α) {w0 W : World} (base : Nat) (hw : Region.wanted o (yielded ops a.tmps) = true) (s x : Operand) (t e : TypeId) (z : Value) (bytes : Nat)
 (ho : o.op = .call { callee:=.builtin .append,args:=#[s,x],argTypes:=#[t,t] })
 (ht : P.underlying t = some (.slice e)) (hinfo : (P.info? e).map (fun i => (i.zero,i.size,i.bytes)) = some (some z,d.sz,bytes)) (hz : z.cells.size = d.sz) (hs0 : 0 < d.sz) (hb0 : 0 < bytes)
 (A B : Option Addr) (c : Nat) (xs ys : List α) (n m : Nat) (hs : a.eval s = .slice A n n) (hx : a.eval x = .slice B m c)
 (HC : d.C W A n xs) (HY : d.C W B m ys) (hm : 0 < m) (hKM : ∀ w x cs,d.K W x cs → d.M w base (fun _ => False) x cs) (HB : Below base w0 W) (hbase : base ≤ W.heap.size) (hl : (n + m) * bytes ≤ 140737488355328)
 (h : ∀ v1 w1,d.R e w1 base (fun _ => True) v1 (xs ++ ys) → Below base w0 w1 → Kc (a.put o.dst v1) w1) :
 if Region.wanted o (yielded ops a.tmps) = true then Oper.wp P o a W Kc Q else Kc (a.put o.dst undef) W:=by
 obtain ⟨i0,hi,hzz⟩:=Option.map_eq_some_iff.1 hinfo
 simp only [Prod.mk.injEq] at hzz
 obtain ⟨hz0,hz1,hz2⟩:=hzz
 have hlen : n + m ≤ 140737488355328:=Nat.le_trans (Nat.le_mul_of_pos_right _ hb0) hl
 have hn : xs.length = n:=HC.1
 have hm' : ys.length = m:=HY.1
 obtain ⟨bd,hB,_⟩:=HY.2.2 hm
 subst hB
 obtain ⟨news,hnr,hnc⟩:=ReadsRow.inner_ HY
 have hone : ∀ u ∈ news,u.oneCell' = true:=by
  intro u hu
  obtain ⟨q,hq,rfl⟩:=List.mem_iff_getElem.1 hu
  have hql : q / d.sz < ys.length:=by
   rw [Nat.div_lt_iff_lt_mul hs0,← hnr.1]
   exact hq
  have hc:=hnr.2 (q / d.sz) _ (List.getElem?_eq_getElem hql)
  refine d.K_one hc _ ?_
  rw [List.mem_iff_getElem?]
  refine ⟨q % d.sz,?_⟩
  rw [List.getElem?_take,if_pos (Nat.mod_lt _ hs0),List.getElem?_drop,Nat.mul_comm,Nat.div_add_mod,List.getElem?_eq_getElem hq]
 have hrun : ∃ olds v1 w1,(Builtin.append_ #[t,t] o.type #[.slice A n n,.slice (some bd) m c]).run P W = .ok v1 w1 ∧ w1.ownsRow W.heap.size e d.sz v1 (n + m) (olds ++ news) ∧ W.grownBy w1 none ∧ Reps (d.K W) d.sz xs olds:=by
  rcases A with _|ad
  ·have h0 : n = 0:=by
    rcases Nat.eq_zero_or_pos n with h0|h0
    ·exact h0
    ·obtain ⟨ad,h,_⟩:=HC.2.2 h0
     cases h
   subst h0
   obtain rfl:=List.eq_nil_of_length_eq_zero hn
   obtain ⟨v',w',hrun,r1,r2,_⟩:=run_append_own (P:=P) W W.heap.size t o.type e i0 z d.sz bytes ht hi hz0 hz1 hz2 hz hs0 (.slice none 0 0) 0 [] (World.ownsRow_nil W _ e d.sz) bd m c news (by rw [hnr.1,hm']) hnc hone (by simp only [maxLen];omega) hl (Nat.le_refl _)
   exact ⟨[],v',w',hrun,r1,r2,Reps.none _ _⟩
  ·obtain ⟨olds,h1,h2⟩:=ReadsRow.inner_ HC
   obtain ⟨v',w',hrun,r1,r2⟩:=run_append_arg_grows (P:=P) W t o.type e i0 z d.sz bytes ht hi hz0 hz1 hz2 hz hs0 ad n n olds (by rw [h1.1,hn]) h2 bd m c news (by rw [hnr.1,hm']) hnc (by omega) (by simp only [maxLen];omega) hl
   exact ⟨olds,v',w',hrun,r1,r2,h1⟩
 obtain ⟨olds,v1,w1,hr1,hown,hg,hro⟩:=hrun
 have hR : d.R e w1 base (fun _ => True) v1 (xs ++ ys):=by
  refine ⟨fun _ _ => trivial,olds ++ news,?_,?_⟩
  ·rw [List.length_append,hn,hm']
   exact own_weaken hown hbase
  ·exact Kd.reps_append (hro.imp_ (fun p c hp => d.M_mono (fun _ hk => hk.elim) (hKM _ _ _ hp))) (hnr.imp_ (fun p c hp => d.M_mono (fun _ hk => hk.elim) (hKM _ _ _ hp)))
 have hB:=HB.grown hg hbase (by simp)
 rw [if_pos hw]
 unfold Oper.wp execOp
 simp only [ho,resolve,invoke,builtin,Sem.run_bind,Sem.run_pure,Result.andThen_ok,List.map_toArray,List.map_cons,List.map_nil,hs,hx,hr1]
 exact h v1 w1 hR hB
end
def page_Put.f (k : Nat) (l0 : List (S37)) (a1 : ByteArray) (a2 : ByteArray) : Option ((List (S37))):=(page_Find.f k l0 a1).bind fun q => if 0 ≤ q.1 ∧ q.1.toNat + q.2.toNat ≤ l0.length ∧ l0.length + 1 < 4398046511104 then some (l0.take q.1.toNat ++ [⟨a1,a2⟩] ++ l0.drop (q.1.toNat + q.2.toNat)) else none
theorem page_Put.mono : ∀ a0 a1 a2 k,LeO (page_Put.f k a0 a1 a2) (page_Put.f (k + 1) a0 a1 a2):=by
 intro a0 a1 a2 k
 unfold page_Put.f
 exact LeO.bind (page_Find.mono _ _ _) (fun _ => LeO.refl _)
def page_Put.T5 : Bool × List (List Nat × List Nat):=(true,[([],[]),([],[]),([],[]),([0,1,2],[0,1,2]),([],[]),([],[]),([4,5],[4,5]),([6],[6]),([3,7],[3,7]),([],[]),([],[]),([9,10],[9,10]),([8,11,8],[8,11]),([12,12,0,1,2,3,4,5,6,7,8,9,10,11,12],[12])])
def page_Put.B5 : List Nat:=[0,0,0,7,0,0,48,112,255,0,0,1536,4095,8191]
theorem page_Put.tab5 : rtab .any (opsOf Try.f22 5) = page_Put.T5:=by kernel_rfl
theorem page_Put.bits5 : waitsOk page_Put.T5.2 page_Put.B5 = true:=by kernel_rfl
set_option maxHeartbeats 4000000 in
set_option maxRecDepth 100000 in
theorem page_Put.calls (k : Nat) (A0 : Option Addr) (c0 : Nat) (l0 : List (S37)) (a1 : ByteArray) (a2 : ByteArray) (r : List (S37)) (w : World) (hr0 : Kd.C k37 w A0 l0.length l0) (hc0 : l0.length ≤ c0) (h : page_Put.f k l0 a1 a2 = some r) :
 Calls Try.prog 22 #[.slice A0 l0.length c0,.string a1,.string a2] w fun e w' => ∃ v0_ : Value,e = .returned (v0_) ∧ Kd.R k37 37 w' w.heap.size (fun _ => True) v0_ r ∧ Below w.heap.size w w':=by
 unfold page_Put.f at h
 replace h:=Option.bind_eq_some_iff.mp h
 obtain ⟨⟨i,there⟩,A4,H⟩:=h
 replace H : (if 0 ≤ i ∧ i.toNat + there.toNat ≤ l0.length ∧ l0.length + 1 < 4398046511104 then some (l0.take i.toNat ++ [⟨a1,a2⟩] ++ l0.drop (i.toNat + there.toNat)) else none) = some r:=H
 have hb : 0 ≤ i ∧ i.toNat + there.toNat ≤ l0.length ∧ l0.length + 1 < 4398046511104:=by
  by_cases hz : 0 ≤ i ∧ i.toNat + there.toNat ≤ l0.length ∧ l0.length + 1 < 4398046511104
  ·exact hz
  ·rw [if_neg hz] at H;simp at H
 rw [if_pos hb] at H
 obtain rfl:=Option.some.inj H
 clear H
 obtain ⟨h0,h1,h2⟩:=hb
 obtain ⟨n,rfl⟩:=Int.eq_ofNat_of_zero_le h0
 rw [Int.toNat_natCast] at h1 ⊢
 have A5:=Aside0.mk A4
 obtain ⟨i0,hi0,_,hsz,_⟩:=info_parts info37
 have hC:=hr0
 have hT:=Kd.C_take (m:=n) hC (by omega)
 have hlt : (l0.take n).length = n:=by rw [List.length_take];omega
 rw [hlt] at hT
 have hD:=Kd.C_drop (m:=n + there.toNat) (c:=c0) hC h1 hc0
 have hld : (l0.drop (n + there.toNat)).length = l0.length - (n + there.toNat):=List.length_drop
 have hcut1 : ∀ W : World,(Instr.slice 22 (.slice A0 l0.length c0) none (some (.int .i64 (n : Int))) (some (.int .i64 (n : Int)))).run Try.prog W = .ok (.slice A0 n n) W:=by
  intro W
  have hel : Try.prog.elem 22 = 37:=by simp [Program.elem,Try.underlying22]
  have hu : Try.prog.underlying 22 = some (.slice (Try.prog.elem 22)):=by rw [hel];exact Try.underlying22
  rw [run_slice_hm W 22 A0 l0.length c0 hu .i64 .i64 (n : Int) (n : Int) (by omega) (by omega) (by omega),hel]
  have ha : (A0.map fun x => x.add 0) = A0:=by cases A0 <;> simp [Addr.add]
  simp [sizeOf,typeInfo,hi0,sliced,Result.andThen,ha]
 have hcut2:=cut_from (P:=Try.prog) 22 37 .i64 Try.underlying22 hi0 2 hsz A0 l0.length c0 ((n + there.toNat : Nat) : Int) (by omega) (by omega)
 rw [Int.toNat_natCast,← hld] at hcut2
 obtain ⟨A1,hA1⟩ : ∃ A1,A1 = (if c0 = n + there.toNat then A0 else (A0 : Option Addr).map (·.add ((n + there.toNat) * 2))):=⟨_,rfl⟩
 replace hD : Kd.C k37 w A1 (l0.drop (n + there.toNat)).length (l0.drop (n + there.toNat)):=by rw [hA1];exact hD
 rw [← hA1] at hcut2
 clear hA1 hi0 hsz
 have HD:=Aside0.mk hD
 have HT:=Aside0.mk hT
 have HR:=Aside0.mk hr0
 have HC:=Aside0.mk hc0
 have HLT:=Aside0.mk hlt
 have LM : Aside0 ((n + 1 + (l0.drop (n + there.toNat)).length) ≤ 4398046511104):=⟨by omega⟩
 clear hlt hld hD hT hr0 hC hc0 A4 h0
 generalize l0.drop (n + there.toNat) = y at *
 cases there
 all_goals
  simp only [Bool.toNat_true,Bool.toNat_false,Nat.add_zero] at h1 hcut2
  (try push_cast at hcut2)
  go_enter Try.func22,Try.ntmps22
  go_wp2_with (go_at_call 20;(with_reducible refine (page_Find.calls k _ _ l0 a1 (n : Int) _ _ HR.out HC.out A5.out).mono ?_);rintro e w1 ⟨rfl,hb1⟩;have HB1:=Aside0.mk hb1;clear hb1)
  refine start_ (n:=14) (S:=fun w' => True) (ds:=[]) #[false,false,false,false,false,false,false,false,false,false,false,false,false,false] (by kernel_rfl) rfl rfl trivial (fun hHeld => ?_);refine with_tabW page_Put.tab5 page_Put.bits5 (fun HT_ HW_ => ?_)
  have HB1:=Aside0.mk (below_drew1 HB1.out)
  generalize w1.drew = wR at HB1 hHeld ⊢
  refine pure_ (i:=0) (N:=some 20) (v:=?_) (a':=?_) #[true,false,false,false,false,false,false,false,false,false,false,false,false,false] rfl rfl (any_of HT_.out (by kernel_rfl)) (fun _ _ _ h => h) (Or.inl ⟨by rfl,?_⟩) ?_ ?_
  rotate_left
  ·intro w'
   go_simp
   with_reducible rfl
  rotate_left
  ·simp only [Act.put,List.setIfInBounds_toArray,List.set_cons_zero,List.set_cons_succ,i64_w,i32_w]
   rfl
  refine pure_ (i:=1) (N:=some 21) (v:=?_) (a':=?_) #[true,true,false,false,false,false,false,false,false,false,false,false,false,false] rfl rfl (any_of HT_.out (by kernel_rfl)) (fun _ _ _ h => h) (Or.inl ⟨by rfl,?_⟩) ?_ ?_
  rotate_left
  ·intro w'
   go_simp
   with_reducible rfl
  rotate_left
  ·simp only [Act.put,List.setIfInBounds_toArray,List.set_cons_zero,List.set_cons_succ,i64_w,i32_w]
   rfl
  refine pure_ (i:=2) (N:=some 22) (v:=?_) (a':=?_) #[true,true,true,false,false,false,false,false,false,false,false,false,false,false] rfl rfl (any_of HT_.out (by kernel_rfl)) (fun _ _ _ h => h) (Or.inl ⟨by rfl,?_⟩) ?_ ?_
  rotate_left
  ·intro w'
   go_simp
   with_reducible rfl
  rotate_left
  ·simp only [Act.put,List.setIfInBounds_toArray,List.set_cons_zero,List.set_cons_succ,i64_w,i32_w]
   rfl
  refine pure_ (i:=3) (N:=some 23) (v:=?_) (a':=?_) #[true,true,true,true,false,false,false,false,false,false,false,false,false,false] rfl rfl (any_of HT_.out (by kernel_rfl)) (fun _ _ _ h => h) (Or.inl ⟨by rfl,?_⟩) ?_ ?_
  rotate_left
  ·intro w'
   go_simp
   with_reducible rfl
  rotate_left
  ·simp only [Act.put,List.setIfInBounds_toArray,List.set_cons_zero,List.set_cons_succ,i64_w,i32_w]
   rfl
  refine pure_ (i:=4) (N:=some 24) (v:=?_) (a':=?_) #[true,true,true,true,true,false,false,false,false,false,false,false,false,false] rfl rfl (any_of HT_.out (by kernel_rfl)) (fun _ _ _ h => h) (Or.inl ⟨by rfl,?_⟩) ?_ ?_
  rotate_left
  ·intro w'
   go_simp
   with_reducible rfl
  rotate_left
  ·simp only [Act.put,List.setIfInBounds_toArray,List.set_cons_zero,List.set_cons_succ,i64_w,i32_w]
   rfl
  refine pure_ (i:=5) (N:=some 25) (v:=?_) (a':=?_) #[true,true,true,true,true,true,false,false,false,false,false,false,false,false] rfl rfl (any_of HT_.out (by kernel_rfl)) (fun _ _ _ h => h) (Or.inl ⟨by rfl,?_⟩) ?_ ?_
  rotate_left
  ·intro w'
   go_simp
   with_reducible rfl
  rotate_left
  ·simp only [Act.put,List.setIfInBounds_toArray,List.set_cons_zero,List.set_cons_succ,i64_w,i32_w]
   rfl
  refine pure_ (i:=6) (N:=some 26) (v:=?_) (a':=?_) #[true,true,true,true,true,true,true,false,false,false,false,false,false,false] rfl rfl (any_of HT_.out (by kernel_rfl)) (fun _ _ _ h => h) (Or.inl ⟨by rfl,?_⟩) ?_ ?_
  rotate_left
  ·intro w'
   go_simp
   with_reducible rfl
  rotate_left
  ·simp only [Act.put,List.setIfInBounds_toArray,List.set_cons_zero,List.set_cons_succ,i64_w,i32_w]
   rfl
  refine pure_ (i:=9) (N:=some 29) (v:=?_) (a':=?_) #[true,true,true,true,true,true,true,false,false,true,false,false,false,false] rfl rfl (any_of HT_.out (by kernel_rfl)) (fun _ _ _ h => h) (Or.inl ⟨by rfl,?_⟩) ?_ ?_
  rotate_left
  ·intro w'
   go_simp
   with_reducible rfl
  rotate_left
  ·simp only [Act.put,List.setIfInBounds_toArray,List.set_cons_zero,List.set_cons_succ,i64_w,i32_w]
   rfl
  refine pure_ (i:=10) (N:=some 30) (v:=?_) (a':=?_) #[true,true,true,true,true,true,true,false,false,true,true,false,false,false] rfl rfl (any_of HT_.out (by kernel_rfl)) (fun _ _ _ h => h) (Or.inl ⟨by rfl,?_⟩) ?_ ?_
  rotate_left
  ·intro w'
   go_simp
   with_reducible rfl
  rotate_left
  ·simp only [Act.put,List.setIfInBounds_toArray,List.set_cons_zero,List.set_cons_succ,i64_w,i32_w]
   rfl
  refine pure_ (i:=11) (N:=some 31) (v:=?_) (a':=?_) #[true,true,true,true,true,true,true,false,false,true,true,true,false,false] rfl rfl (any_of HT_.out (by kernel_rfl)) (fun _ _ _ h => h) (Or.inl ⟨by rfl,?_⟩) ?_ ?_
  rotate_left
  ·intro w'
   go_simp
   with_reducible rfl
  rotate_left
  ·simp only [Act.put,List.setIfInBounds_toArray,List.set_cons_zero,List.set_cons_succ,i64_w,i32_w]
   rfl
  refine one_ (i:=7) (N:=some 27) #[true,true,true,true,true,true,true,true,false,true,true,true,false,false] rfl rfl (one_of HT_.out (by kernel_rfl)) (by decide) (fun K hK => ?_)
  refine Kd.R_lit_step k37 (w0:=w) w.heap.size 37 rfl (N:=27) rfl (xs:=[(⟨a1,a2⟩ : S37)]) (inner:=[.string a1,.string a2]) (ok:=fun _ => True) (okp:=fun _ => False) ?hr ?hp (fun _ h => h.elim) trivial HB1.out HB1.out.size (by simp) ?_
  (case hp => exact Reps.snoc (Reps.none _ _) (k37_mkM _ _ _ (⟨a1,a2⟩ : S37)) rfl)
  (case hr => first|(go_simp;done)|(go_simp;rfl))
  intro v7 w7 ho7 hb7 _ _
  have HB7:=Aside0.mk hb7
  obtain ⟨A7,c7,rfl,_,ho7⟩:=Kd.R_reads ho7
  have HO7:=Aside0.mk ho7
  have HT7:=Aside0.mk (HT.out)
  clear ho7 hb7
  refine hK.out _ _ trivial (fun hHeld => ?_)
  clear hK K
  refine norm_ (a':=?_) ?_ ?_
  rotate_left
  ·show Act.put _ (some 27) _ = _
   simp only [Act.put,List.setIfInBounds_toArray,List.set_cons_zero,List.set_cons_succ,i64_w,i32_w]
   rfl
  refine one_ (i:=8) (N:=some 28) #[true,true,true,true,true,true,true,true,true,true,true,true,false,false] rfl rfl (one_of HT_.out (by kernel_rfl)) (by decide) (fun K hK => ?_)
  refine R_append_full_step k37 (w0:=w) w.heap.size rfl (.tmp 23) (.tmp 27) 22 37 (.agg #[(.string ⟨#[]⟩),(.string ⟨#[]⟩)]) 32 rfl Try.underlying22 info37 rfl (by decide) (by omega) A0 A7 c7 (l0.take n) [(⟨a1,a2⟩ : S37)] n 1 rfl rfl ?hC ?hY (by omega) ?hK HB7.out HB7.out.size ?hl ?_
  (case hC => exact Kd.C_below HT.out HB7.out)
  (case hY => exact HO7.out)
  (case hK => intro w x cs h;rw [k37_open h];exact k37_mkM _ _ _ x)
  (case hl => have:=LM.out;omega)
  intro v8 w8 ho8 hb8
  have HB8:=Aside0.mk hb8
  have HO8:=Aside0.mk ho8
  clear ho8 hb8
  refine hK.out _ _ trivial (fun hHeld => ?_)
  clear hK K
  refine norm_ (a':=?_) ?_ ?_
  rotate_left
  ·show Act.put _ (some 28) _ = _
   simp only [Act.put,List.setIfInBounds_toArray,List.set_cons_zero,List.set_cons_succ,i64_w,i32_w]
   rfl
  refine one_ (i:=12) (N:=some 32) #[true,true,true,true,true,true,true,true,true,true,true,true,true,false] rfl rfl (one_of HT_.out (by kernel_rfl)) (by decide) (fun K hK => ?_)
  refine Kd.R_append_rows_step k37 (w0:=w) w.heap.size (by rfl) (.tmp 28) (.tmp 31) 22 37 (.agg #[(.string ⟨#[]⟩),(.string ⟨#[]⟩)]) 32 rfl Try.underlying22 info37 rfl (by decide) (by omega) v8 (l0.take n ++ [(⟨a1,a2⟩ : S37)]) y A1 _ _ (fun _ => True) (fun _ => False) rfl rfl ?aO ?aR (fun _ _ h => h) (fun _ h => h.elim) ?aF ?aB ?aS ?aL ?_
  (case aR => exact Kd.C_below HD.out HB8.out)
  (case aB => exact HB8.out)
  (case aF => exact (fun _ _ => trivial))
  (case aO => exact HO8.out)
  (case aS => exact HB8.out.size)
  (case aL => have:=LM.out;have:=HLT.out;rw [List.length_append,HLT.out];simp;simp at *;omega)
  intro v12 w12 ho12 hb12 _ _
  have HB12:=Aside0.mk hb12
  have HO12:=Aside0.mk ho12
  clear ho12 hb12
  refine hK.out _ _ trivial (fun hHeld => ?_)
  clear hK K
  refine norm_ (a':=?_) ?_ ?_
  rotate_left
  ·show Act.put _ (some 32) _ = _
   simp only [Act.put,List.setIfInBounds_toArray,List.set_cons_zero,List.set_cons_succ,i64_w,i32_w]
   rfl
  refine pure_ (i:=13) (N:=some 6) (v:=?_) (a':=?_) #[true,true,true,true,true,true,true,true,true,true,true,true,true,true] rfl rfl (any_of HT_.out (by kernel_rfl)) (fun _ _ _ h => h) (Or.inl ⟨by rfl,?_⟩) ?_ ?_
  rotate_left
  ·intro w'
   go_simp
   with_reducible rfl
  rotate_left
  ·simp only [Act.put,List.setIfInBounds_toArray,List.set_cons_zero,List.set_cons_succ,i64_w,i32_w]
   rfl
  refine done_ (done_of HT_.out (by kernel_rfl)) ?_
  try go_wp2
  go_ret
  exact ⟨_,rfl,HO12.out,HB12.out⟩

end Go.Proofs.Ytffgodpmmipnkaa.X
