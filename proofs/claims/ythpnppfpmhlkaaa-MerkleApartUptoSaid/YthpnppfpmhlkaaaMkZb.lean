/- Chapter 3: MerkleApart, walked: more than 40 texts. -/
import Derived.Test.YthpnppfpmhlkaaaMkZ
namespace Go.Proofs.Ythpnppfpmhlkaaa.Sha
open Go.RowKit Go.Proofs.Ythpnppfpmhlkaaa.X Go.Proofs.YthpnppfpmhlkaaaW.PrintWords Go.Proofs.YthpnppfpmhlkaaaW.PrintLast Go.Proofs.YthpnppfpmhlkaaaW.PrintMore
set_option linter.unusedVariables false
set_option linter.unusedSimpArgs false

set_option maxHeartbeats 8000000 in
set_option maxRecDepth 100000 in
theorem apart_big (A : Option Addr) (cp : Nat) (xs : List ByteArray) (mark : List UInt8) (w : World) (hr : Kd.C Kd.string w A xs.length xs) (hcp : xs.length ≤ cp) (hn : xs.length ≤ 1048576) (hsz : ∀ s ∈ xs,s.size ≤ 1048576) (hmark : mark.length = 32) (h3 : 40 < xs.length) :
 Calls Try.prog 7 #[.slice A xs.length cp,.agg (brw 32 mark)] w fun e w' => e = .returned (.bool true) ∧ Below w.heap.size w w':=by
 have i23 : (Try.prog.info? 23).map (·.size) = some 32:=by kernel_rfl
 have hzk : (brw 32 mark).size = 32:=brw_size 32 mark (by omega)
 have hq:=below_alloc (Below.refl w.heap.size w) (.cells (brw 32 mark) 23)
 have C3:=Aside0.mk (blk_new w (.cells (brw 32 mark) 23))
 have HR0:=Aside0.mk (Kd.C_below hr hq)
 have D0:=Aside0.mk hq
 have HSX:=Aside0.mk hsz
 clear hr hq hsz
 go_enter Try.func7,Try.ntmps7
 go_upto_region 1 with (fail)
 change Code.wp _ _ _ _ (w.alloc (.cells (brw 32 mark) 23))
 obtain ⟨g3,hg3⟩ : ∃ g,g = w.heap.size:=⟨_,rfl⟩
 rw [← hg3] at C3
 have P3 : (Value.pointer (some ⟨w.heap.size,0,none⟩)) = .pointer (some ⟨g3,0,none⟩):=by rw [hg3]
 rw [P3]
 clear P3 hg3
 generalize w.alloc (.cells (brw 32 mark) 23) = w1 at C3 D0 HR0 ⊢
 have q1 : ((40 : Int) < (xs.length : Int)) = True:=eq_true (by omega)
 have q2 : (40 ≤ cp) = True:=eq_true (by omega)
 obtain ⟨ys,hys⟩ : ∃ ys,ys = xs.take 40:=⟨_,rfl⟩
 have hyl : ys.length = 40:=by rw [hys,List.length_take];omega
 have HR : Aside0 (Kd.C Kd.string w1 A ys.length ys):=⟨by rw [hyl,hys];exact C_takeN HR0.out 40 (by omega)⟩
 have HSZ : Aside0 (∀ s ∈ ys,s.size ≤ 140737488355000):=⟨fun s h => Nat.le_trans (HSX.out s (by rw [hys] at h;exact List.mem_of_mem_take h)) (by decide)⟩
 have hy4 : ys.length ≤ 40:=by omega
 have hyc : ys.length ≤ cp:=by omega
 clear hys HR0 HSX
 go_upto_region 3 with (fail)
 rw [← hyl]
 clear q1 q2 h3 hn hcp hyl
 obtain ⟨C,hC⟩ : ∃ C : Nat → List (List UInt8),C = fun (j : Nat) => pathF ys (j : Int):=⟨_,rfl⟩
 have HPI : ∀ (W : World) (j : Nat),j < ys.length → Kd.C Kd.string W A ys.length ys → Calls Try.prog 17 #[.slice A ys.length cp,.int .i64 j] W fun e w' => ∃ A1 c1,e = .returned (.tuple #[.slice A1 (C j).length c1,.int .i64 0]) ∧ HRow W.heap.size (.slice A1 (C j).length c1) (C j) w' ∧ HRead A1 (C j) w' ∧ Below W.heap.size W w':=fun W j hj h => by
  subst hC
  refine (path_calls A cp ys j W h hyc (by omega) HSZ.out).mono ?_
  rintro e w' ⟨v,rfl,hh,hb⟩
  obtain ⟨A1,c1,rfl,hc,h1⟩:=hrow_read hh
  have e : pathE ys (j : Int) = 0:=by unfold pathE;rw [if_pos (by omega)]
  exact ⟨A1,c1,by rw [e],hh,h1,hb⟩
 have HC9 : ∀ j,(C j).length ≤ 9:=fun j => by subst hC;exact path_nine ys j (by omega)
 have HC32 : Aside0 (∀ j,∀ x ∈ C j,x.length = 32):=⟨fun j => by subst hC;exact path_32 ys j⟩
 clear hC
 go_wp2
 go_loopw [5,6,7,8] (fun v5 v6 v7 v8 W => ∃ (i : Nat) (L : Nat → Sl),i ≤ ys.length ∧ v8 = .int .i64 i ∧ v5 = (L 0).v ∧ v6 = (L 1).v ∧ v7 = (L 2).v ∧ Aside0 (Many w1.heap.size L (3 + 3 * i) W) ∧ Aside0 (St1 C L i) ∧ Aside0 (Below w1.heap.size w1 W)) (fun _ _ _ v8 _ => ys.length - (intOf v8).toNat)
 case atStart => exact ⟨0,_,Nat.zero_le _,rfl,rfl,rfl,rfl,⟨many_none _ _⟩,⟨st1_none C⟩,⟨Below.refl _ _⟩⟩
 case round =>
  obtain ⟨i,L,hi,rfl,rfl,rfl,rfl,HM,HS,D1⟩:=hrel
  by_cases hlt : i < ys.length
  ·have q1 : ((i : Int) < (ys.length : Int)) = True:=eq_true (by omega)
   go_upto_region 11 with (first
    | (go_at_call 17;(with_reducible refine (HPI _ i hlt (Kd.C_below HR.out D1.out)).mono ?_);rintro e w2 ⟨A1,c1,rfl,hr1,hh1,hb⟩;have HM2:=Aside0.mk (many_add HM.out (hsl _ (C i)) hb (hsl_of (hrow_lower hr1 D1.out.size)) (hrow_own hr1));have HH1:=Aside0.mk hh1;have n_D1:=Aside0.mk (below_then D1.out D1.out.size hb);clear D1 HM hr1 hh1 hb;have D1:=n_D1;clear n_D1)
    | (go_at_call 17;(with_reducible refine (HPI _ i hlt (Kd.C_below HR.out D1.out)).mono ?_);rintro e w3 ⟨A2,c2,rfl,hr2,hh2,hb⟩;have HM3:=Aside0.mk (many_add HM2.out (hsl _ (C i)) hb (hsl_of (hrow_lower hr2 D1.out.size)) (hrow_own hr2));have HH2:=Aside0.mk hh2;have n_HH1:=Aside0.mk (hread_below HH1.out hb);have n_D1:=Aside0.mk (below_then D1.out D1.out.size hb);clear D1 HM2 HH1 hr2 hh2 hb;have D1:=n_D1;have HH1:=n_HH1;clear n_D1 n_HH1)
    | (go_at_call 21;(with_reducible refine (same_calls A1 A2 c1 c2 (C i) _ HH1.out HH2.out (Nat.le_trans (HC9 i) (by decide))).mono ?_);rintro e w4 ⟨rfl,hb⟩;have HM4:=Aside0.mk (many_below HM3.out hb);have n_D1:=Aside0.mk (below_then D1.out D1.out.size hb);clear D1 HM3 HH1 HH2 hb;have D1:=n_D1;clear n_D1))
   have hrl : ∀ f : Nat → Value,((List.range i).map f).length ≤ 1099511627776:=fun f => by rw [List.length_map,List.length_range];omega
   obtain ⟨va,w5,ra,M5,b5⟩:=many_append HM4.out 0 (by omega) (L 0).v ((List.range i).map fun j => (L (3 + 3 * j + 0)).v) (by rw [upd_ne (by omega),upd_ne (by omega)];exact HS.out.1 0 (by decide)) (.slice A1 (C i).length c1) rfl D1.out D1.out.size (hrl _)
   obtain ⟨vb,w6,rb,M6,b6⟩:=many_append M5 1 (by omega) (L 1).v ((List.range i).map fun j => (L (3 + 3 * j + 1)).v) (by rw [upd_ne (by omega),upd_ne (by omega),upd_ne (by omega)];exact HS.out.1 1 (by decide)) (.slice A2 (C i).length c2) rfl b5 b5.size (hrl _)
   have hq:=many_read M6 (3 + 3 * i + 1) (by omega) A2 _ c2 (C i) (by rw [upd_ne (by omega),upd_ne (by omega),upd_at]) (HC32.out i)
   obtain ⟨vq,w7,rq,hrq,bq⟩:=copyH A2 c2 (C i) w6 hq (by have:=HC9 i;omega)
   obtain ⟨Aq,cq,rfl,_,_⟩:=hrow_read hrq
   have M7:=many_add M6 (hsl (.slice Aq (C i).length cq) (C i)) bq (hsl_of (hrow_lower hrq b6.size)) (hrow_own hrq)
   have b7:=below_then b6 b6.size bq
   obtain ⟨vc,w8,rc,M8,b8⟩:=many_append M7 2 (by omega) (L 2).v ((List.range i).map fun j => (L (3 + 3 * j + 2)).v) (by rw [upd_ne (by omega),upd_ne (by omega),upd_ne (by omega),upd_ne (by omega),upd_ne (by omega)];exact HS.out.1 2 (by decide)) (.slice Aq (C i).length cq) rfl b7 b7.size (hrl _)
   generalize hL8 : upd _ 2 _ = L8 at M8
   have e0 : L8 0 = osl va (((List.range i).map fun j => (L (3 + 3 * j + 0)).v) ++ [.slice A1 (C i).length c1]):=by rw [← hL8,upd_ne (by omega),upd_ne (by omega),upd_ne (by omega),upd_at]
   have e1 : L8 1 = osl vb (((List.range i).map fun j => (L (3 + 3 * j + 1)).v) ++ [.slice A2 (C i).length c2]):=by rw [← hL8,upd_ne (by omega),upd_ne (by omega),upd_at]
   have e2 : L8 2 = osl vc (((List.range i).map fun j => (L (3 + 3 * j + 2)).v) ++ [.slice Aq (C i).length cq]):=by rw [← hL8,upd_at]
   have en0 : L8 (3 + 3 * i) = hsl (.slice A1 (C i).length c1) (C i):=by rw [← hL8,upd_ne (by omega),upd_ne (by omega),upd_ne (by omega),upd_ne (by omega),upd_ne (by omega),upd_at]
   have en1 : L8 (3 + 3 * i + 1) = hsl (.slice A2 (C i).length c2) (C i):=by rw [← hL8,upd_ne (by omega),upd_ne (by omega),upd_ne (by omega),upd_ne (by omega),upd_at]
   have en2 : L8 (3 + 3 * i + 2) = hsl (.slice Aq (C i).length cq) (C i):=by rw [← hL8,upd_ne (by omega),upd_at]
   have eo : ∀ j t,j < i → t < 3 → L8 (3 + 3 * j + t) = L (3 + 3 * j + t):=fun j t hj ht => by rw [← hL8,upd_ne (by omega),upd_ne (by omega),upd_ne (by omega),upd_ne (by omega),upd_ne (by omega),upd_ne (by omega)]
   have HS8:=Aside0.mk (st1_step HS.out (fun t => match t with|0 => .slice A1 (C i).length c1|1 => .slice A2 (C i).length c2|_ => .slice Aq (C i).length cq) eo (fun t ht => by
    match t,ht with
    | 0,_ => exact en0
    | 1,_ => exact en1
    | 2,_ => exact en2) (fun t ht => by
    match t,ht with
    | 0,_ => exact ⟨va,e0⟩
    | 1,_ => exact ⟨vb,e1⟩
    | 2,_ => exact ⟨vc,e2⟩))
   have HM8:=Aside0.mk M8
   have RA:=Aside0.mk ra
   have RB:=Aside0.mk rb
   have RQ:=Aside0.mk rq
   have RC:=Aside0.mk rc
   have D8:=Aside0.mk b8
   have E0:=Aside0.mk e0
   have E1:=Aside0.mk e1
   have E2:=Aside0.mk e2
   clear hL8 e0 e1 e2 en0 en1 en2 eo M5 M6 M7 M8 ra rb rq rc b5 b6 b7 b8 hq hrq bq hrl HM4
   go_wp2_with (first
    | ((with_reducible refine gate_dst (N:=51) rfl ?_);go_loud (refine Kd.event_run rfl (exec_append40 (.tmp 48) (.tmp 50) rfl rfl _ _ rfl rfl RA.out) ?_))
    | ((with_reducible refine gate_dst (N:=55) rfl ?_);go_loud (refine Kd.event_run rfl (exec_append40 (.tmp 52) (.tmp 54) rfl rfl _ _ rfl rfl RB.out) ?_))
    | ((with_reducible refine gate_dst (N:=58) rfl ?_);go_loud (refine Kd.event_run rfl (exec_append31 (.const (.slice none 0 0)) (.tmp 57) rfl rfl _ _ rfl rfl RQ.out) ?_))
    | ((with_reducible refine gate_dst (N:=60) rfl ?_);go_loud (refine Kd.event_run rfl (exec_append40 (.tmp 56) (.tmp 59) rfl rfl _ _ rfl rfl RC.out) ?_)))
   go_roundw
   case rel => exact ⟨i + 1,L8,by omega,by go_num,by rw [E0.out];rfl,by rw [E1.out];rfl,by rw [E2.out];rfl,⟨by rw [show 3 + 3 * (i + 1) = 3 + 3 * i + 1 + 1 + 1 by omega];exact HM8.out⟩,HS8,D8⟩
   case measure => simp [intOf];omega
  ·have q1 : ((i : Int) < (ys.length : Int)) = False:=eq_false (by omega)
   obtain rfl : i = ys.length:=by omega
   have HS2:=st2_of HS.out HC32.out
   obtain ⟨Aa,ca,ea,_⟩:=many_val HM.out 0 (by omega) _ _ (HS.out.1 0 (by decide))
   obtain ⟨Ab0,cb0,eb,_⟩:=many_val HM.out 1 (by omega) _ _ (HS.out.1 1 (by decide))
   obtain ⟨Ac0,cc0,ec,_⟩:=many_val HM.out 2 (by omega) _ _ (HS.out.1 2 (by decide))
   rw [List.length_map,List.length_range] at ea eb ec
   rw [ea,eb,ec] at HS2 ⊢
   have HS2a:=Aside0.mk HS2
   clear HS2 ea eb ec HS hi hlt
   go_wp2
   go_loopw [13] (fun v13 W => ∃ (i : Nat) (L : Nat → Sl) (Ra : Nat → List (List UInt8)),i ≤ ys.length ∧ v13 = .int .i64 i ∧ Aside0 (Many w1.heap.size L (3 + 3 * ys.length) W) ∧ Aside0 (St2 C L ys.length (.slice Aa ys.length ca) (.slice Ab0 ys.length cb0) (.slice Ac0 ys.length cc0) Ra) ∧ Aside0 (∀ j,j < ys.length → (Ra j).length = (C j).length) ∧ Aside0 (∀ j,j < i → ∀ x ∈ Ra j,x = mark) ∧ Aside0 (Below w1.heap.size w1 W)) (fun v13 _ => ys.length - (intOf v13).toNat)
   case atStart => exact ⟨0,L,C,Nat.zero_le _,rfl,HM,HS2a,⟨fun _ _ => rfl⟩,⟨fun j hj => by omega⟩,D1⟩
   case round =>
    clear HM HS2a D1
    obtain ⟨i,L,Ra,hi,rfl,HM,HS,HL,HK,D1⟩:=hrel
    by_cases hlt : i < ys.length
    ·have q1 : ((i : Int) < (ys.length : Int)) = True:=eq_true (by omega)
     have q2 : (i < ys.length) = True:=eq_true hlt
     have q3 : (ys.length ≤ i) = False:=eq_false (by omega)
     obtain ⟨g0,cap0,ev,_⟩:=many_cell HM.out 0 (by omega) _ _ HS.out.1 i (by rw [List.length_map,List.length_range];exact hlt)
     obtain rfl : Aa = some ⟨g0,0,none⟩:=by injection ev
     clear ev
     go_wp2
     go_loopw [14] (fun v14 W => ∃ (k : Nat) (L : Nat → Sl) (Ra : Nat → List (List UInt8)),v14 = .int .i64 k ∧ k ≤ (C i).length ∧ Aside0 (Many w1.heap.size L (3 + 3 * ys.length) W) ∧ Aside0 (St2 C L ys.length (.slice (some ⟨g0,0,none⟩) ys.length ca) (.slice Ab0 ys.length cb0) (.slice Ac0 ys.length cc0) Ra) ∧ Aside0 (∀ j,j < ys.length → (Ra j).length = (C j).length) ∧ Aside0 (∀ j,j < i → ∀ x ∈ Ra j,x = mark) ∧ Aside0 (∀ q,q < k → (Ra i).getD q [] = mark) ∧ Aside0 (Below w1.heap.size w1 W)) (fun v14 _ => (C i).length - (intOf v14).toNat)
     case atStart => exact ⟨0,L,Ra,rfl,Nat.zero_le _,HM,HS,HL,HK,⟨fun q hq => by omega⟩,D1⟩
     case round =>
      clear HM HS HL HK D1
      obtain ⟨k,L,Ra,rfl,hk,HM,HS,HL,HK,HQ,D1⟩:=hrel
      obtain ⟨hc0,_,_⟩:=many_at HM.out 0 (by omega) g0 _ _ _ HS.out.1 i (by rw [List.length_map,List.length_range];exact hlt)
      rw [range_val _ _ i hlt] at hc0
      obtain ⟨hrowi,h32i,_,_⟩:=HS.out.2.2.2 i hlt
      obtain ⟨A1,c1,ev,_,_,hown⟩:=many_form HM.out (3 + 3 * i) (by omega) _ _ hrowi h32i
      have hL1 : L (3 + 3 * i) = hsl (.slice A1 (Ra i).length c1) (Ra i):=hrowi.trans (by rw [ev])
      rw [ev,HL.out i hlt] at hc0
      have K0:=Aside0.mk hc0
      have EV:=Aside0.mk ev
      clear hrowi ev
      by_cases hkl : k < (C i).length
      ·have r1 : ((k : Int) < ((C i).length : Int)) = True:=eq_true (by omega)
       have r2 : (k < (C i).length) = True:=eq_true hkl
       have r3 : ((C i).length ≤ k) = False:=eq_false (by omega)
       have hkR : k < (Ra i).length:=by rw [HL.out i hlt];exact hkl
       obtain ⟨g1,rfl,hbg1⟩:=hown (by omega)
       have C3r:=Aside0.mk (blk_below C3.out D1.out)
       have hc9:=HC9 i
       go_upto_region 20 with (fail)
       clear hc0
       refine start_ (n:=8) (S:=fun W => Below wr.heap.size wr W) (ds:=[7]) #[false,false,false,false,false,false,false,false] (by kernel_rfl) rfl rfl (below_drew1 (Below.refl _ _)) (fun hHeld => ?_);refine with_tabW maA.tab20 maA.bits20 (fun HT_ HW_ => ?_)
       generalize World.drew _ = wR at hHeld ⊢
       refine pure_ (i:=0) (N:=some 76) (v:=?_) (a':=?_) #[true,false,false,false,false,false,false,false] rfl rfl (any_of HT_.out (by kernel_rfl)) (fun _ _ _ h => h) (Or.inl ⟨by rfl,?_⟩) ?_ ?_
       rotate_left
       ·intro w'
        go_simp
        with_reducible rfl
       rotate_left
       ·simp only [Act.put,List.setIfInBounds_toArray,List.set_cons_zero,List.set_cons_succ,i64_w,i32_w]
        rfl
       refine pure_ (i:=1) (N:=some 77) (v:=?_) (a':=?_) #[true,true,false,false,false,false,false,false] rfl rfl (any_of HT_.out (by kernel_rfl)) (fun _ _ _ h => h) (Or.inl ⟨by rfl,?_⟩) ?_ ?_
       rotate_left
       ·intro w'
        go_simp
        with_reducible rfl
       rotate_left
       ·simp only [Act.put,List.setIfInBounds_toArray,List.set_cons_zero,List.set_cons_succ,i64_w,i32_w]
        rfl
       refine pure_ (i:=2) (N:=some 78) (v:=?_) (a':=?_) #[true,true,true,false,false,false,false,false] rfl rfl (any_of HT_.out (by kernel_rfl)) (fun _ _ _ h => h) (Or.inl ⟨by rfl,?_⟩) ?_ ?_
       rotate_left
       ·intro w'
        go_simp
        with_reducible rfl
       rotate_left
       ·simp only [Act.put,List.setIfInBounds_toArray,List.set_cons_zero,List.set_cons_succ,i64_w,i32_w]
        rfl
       refine take_ (i:=3) (N:=some 79) (v:=?_) (a':=?_) #[true,true,true,true,false,false,false,false] rfl rfl (take_ofW HT_.out HW_.out (by kernel_rfl)) (fun _ _ _ h => h) (Or.inl ⟨by rfl,?_⟩) hHeld ?_ ?_
       rotate_left
       ·rintro w' s0
        have hK:=below_cell' s0 K0.out
        go_simp
        with_reducible rfl
       rotate_left
       ·simp only [Act.put,List.setIfInBounds_toArray,List.set_cons_zero,List.set_cons_succ,i64_w,i32_w]
        rfl
       refine pure_ (i:=4) (N:=some 80) (v:=?_) (a':=?_) #[true,true,true,true,true,false,false,false] rfl rfl (any_of HT_.out (by kernel_rfl)) (fun _ _ _ h => h) (Or.inl ⟨by rfl,?_⟩) ?_ ?_
       rotate_left
       ·intro w'
        go_simp
        with_reducible rfl
       rotate_left
       ·simp only [Act.put,List.setIfInBounds_toArray,List.set_cons_zero,List.set_cons_succ,i64_w,i32_w]
        rfl
       refine take_ (i:=5) (N:=some 81) (v:=?_) (a':=?_) #[true,true,true,true,true,true,false,false] rfl rfl (take_ofW HT_.out HW_.out (by kernel_rfl)) (fun _ _ _ h => h) (Or.inl ⟨by rfl,?_⟩) hHeld ?_ ?_
       rotate_left
       ·rintro w' s0
        refine exec_load_row 23 (.tmp 3) ?_ g3 ?_ 23 (brw 32 mark) (0,0) _ (blk_below C3r.out s0) Try.underlying23 ?_ (by rw [brw_size 32 mark (by omega)];exact i23) <;> rfl
       rotate_left
       ·simp only [Act.put,List.setIfInBounds_toArray,List.set_cons_zero,List.set_cons_succ,i64_w,i32_w]
        rfl
       refine pure_ (i:=6) (N:=some 82) (v:=?_) (a':=?_) #[true,true,true,true,true,true,true,false] rfl rfl (any_of HT_.out (by kernel_rfl)) (fun _ _ _ h => h) (Or.inl ⟨by rfl,?_⟩) ?_ ?_
       rotate_left
       ·intro w'
        go_simp
        with_reducible rfl
       rotate_left
       ·simp only [Act.put,List.setIfInBounds_toArray,List.set_cons_zero,List.set_cons_succ,i64_w,i32_w]
        rfl
       have HTH:=many_there (many_below HM.out hHeld) (3 + 3 * i) (by omega) g1 c1 (Ra i) hL1 k hkR
       refine last_ (i:=7) (N:=none) #[true,true,true,true,true,true,true,true] rfl rfl (one_of HT_.out (by kernel_rfl)) (by decide) (fun K hK => ?_)
       rw [if_pos (by rfl)]
       refine wp_store_mid 23 (.tmp 82) (.tmp 81) rfl g1 (k * 32) (brw 32 mark) rfl rfl (by rw [hzk];exact HTH) (by rw [hzk];exact i23) (brw_one _ _) ?_
       refine hK.out _ _ ?_
       clear hK K
       refine norm_ (a':=?_) ?_ ?_
       rotate_left
       ·show Act.put _ (none) _ = _
        simp only [Act.put]
        rfl
       refine done_ (done_of HT_.out (by kernel_rfl)) ?_
       have M2:=many_hash (many_below HM.out hHeld) (3 + 3 * i) (by omega) g1 c1 (Ra i) hL1 h32i k hkR mark hmark
       rw [← EV.out] at M2
       have h32n : ∀ x ∈ (Ra i).set k mark,x.length = 32:=fun x hx => by
        rcases List.mem_or_eq_of_mem_set hx with h|h
        ·exact h32i x h
        ·rw [h];exact hmark
       have S2:=st2_same HS.out i hlt ((Ra i).set k mark) h32n
       have D2:=below_cells hbg1 (brw 32 mark).toList (k * 32) _ (below_then D1.out D1.out.size hHeld)
       have HM2:=Aside0.mk M2
       have HS2:=Aside0.mk S2
       have HD2:=Aside0.mk D2
       clear M2 S2 D2 hL1
       go_wp2
       go_roundw
       case rel => exact ⟨k + 1,_,_,by go_num,by omega,HM2,HS2,⟨fun j hj => by
        show (if j = i then (Ra i).set k mark else Ra j).length = _
        by_cases e : j = i
        ·rw [if_pos e,List.length_set,e];exact HL.out i hlt
        ·rw [if_neg e];exact HL.out j hj⟩,⟨fun j hj x hx => by
        have hx2 : x ∈ (if j = i then (Ra i).set k mark else Ra j):=hx
        rw [if_neg (by omega)] at hx2
        exact HK.out j hj x hx2⟩,⟨fun q hq => by
        show (if i = i then (Ra i).set k mark else Ra i).getD q [] = mark
        rw [if_pos rfl,List.getD_eq_getElem?_getD,List.getElem?_set]
        by_cases e : k = q
        ·rw [if_pos e,if_pos hkR];rfl
        ·rw [if_neg e,← List.getD_eq_getElem?_getD];exact HQ.out q (by omega)⟩,HD2⟩
       case measure => simp [intOf];omega
      ·have r1 : ((k : Int) < ((C i).length : Int)) = False:=eq_false (by omega)
       have HKK : Aside0 (∀ j,j < i + 1 → ∀ x ∈ Ra j,x = mark):=⟨fun j hj x hx => by
        by_cases e : j = i
        ·subst e
         obtain ⟨q,hq,e2⟩:=List.getElem_of_mem hx
         have:=HQ.out q (by have:=HL.out j hlt;omega)
         rw [List.getD_eq_getElem?_getD,List.getElem?_eq_getElem hq] at this
         rw [← e2];exact this
        ·exact HK.out j (by omega) x hx⟩
       clear hL1 hown
       go_wp2
       go_roundw
       case rel => exact ⟨i + 1,L,Ra,by omega,by go_num,HM,HS,HL,HKK,D1⟩
       case measure => simp [intOf];omega
    ·have q1 : ((i : Int) < (ys.length : Int)) = False:=eq_false (by omega)
     obtain rfl : i = ys.length:=by omega
     go_wp2
     go_loopw [15] (fun v15 W => ∃ (i : Nat) (L : Nat → Sl) (Ra : Nat → List (List UInt8)),i ≤ ys.length ∧ v15 = .int .i64 i ∧ Aside0 (Many w1.heap.size L (3 + 3 * ys.length) W) ∧ Aside0 (St2 C L ys.length (.slice Aa ys.length ca) (.slice Ab0 ys.length cb0) (.slice Ac0 ys.length cc0) Ra) ∧ Aside0 (∀ j,j < ys.length → (Ra j).length = (C j).length + (if j < i then 10 else 0)) ∧ Aside0 (∀ j,j < ys.length → ∀ x ∈ Ra j,x = mark) ∧ Aside0 (Below w1.heap.size w1 W)) (fun v15 _ => ys.length - (intOf v15).toNat)
     case atStart => exact ⟨0,L,Ra,Nat.zero_le _,rfl,HM,HS,⟨fun j hj => by rw [HL.out j hj,if_neg (by omega)];rfl⟩,HK,D1⟩
     case round =>
      clear HM HS HL HK D1 hlt hi q1
      obtain ⟨i,L,Ra,hi,rfl,HM,HS,HL,HK,D1⟩:=hrel
      by_cases hlt : i < ys.length
      ·have q1 : ((i : Int) < (ys.length : Int)) = True:=eq_true (by omega)
       have q2 : (i < ys.length) = True:=eq_true hlt
       have q3 : (ys.length ≤ i) = False:=eq_false (by omega)
       obtain ⟨g0,cap0,ev,_⟩:=many_cell HM.out 0 (by omega) _ _ HS.out.1 i (by rw [List.length_map,List.length_range];exact hlt)
       obtain rfl : Aa = some ⟨g0,0,none⟩:=by injection ev
       clear ev
       go_wp2
       go_loopw [16] (fun v16 W => ∃ (k : Nat) (L : Nat → Sl) (Ra : Nat → List (List UInt8)),v16 = .int .i64 k ∧ k ≤ 10 ∧ Aside0 (Many w1.heap.size L (3 + 3 * ys.length) W) ∧ Aside0 (St2 C L ys.length (.slice (some ⟨g0,0,none⟩) ys.length ca) (.slice Ab0 ys.length cb0) (.slice Ac0 ys.length cc0) Ra) ∧ Aside0 (∀ j,j < ys.length → (Ra j).length = (C j).length + (if j < i then 10 else if j = i then k else 0)) ∧ Aside0 (∀ j,j < ys.length → ∀ x ∈ Ra j,x = mark) ∧ Aside0 (Below w1.heap.size w1 W)) (fun v16 _ => 10 - (intOf v16).toNat)
       case atStart => exact ⟨0,L,Ra,rfl,by decide,HM,HS,⟨fun j hj => by
        rw [HL.out j hj]
        by_cases e : j < i
        ·rw [if_pos e,if_pos e]
        ·rw [if_neg e,if_neg e];split <;> rfl⟩,HK,D1⟩
       case round =>
        clear HM HS HL HK D1
        obtain ⟨k,L,Ra,rfl,hk,HM,HS,HL,HK,D1⟩:=hrel
        by_cases hkl : k < 10
        ·have r1 : ((k : Int) < 10) = True:=eq_true (by omega)
         obtain ⟨hc0,_,hbg0⟩:=many_at HM.out 0 (by omega) g0 _ _ _ HS.out.1 i (by rw [List.length_map,List.length_range];exact hlt)
         rw [range_val _ _ i hlt] at hc0
         obtain ⟨hrowi,h32i,_,_⟩:=HS.out.2.2.2 i hlt
         obtain ⟨A1,c1,ev,_,_,_⟩:=many_form HM.out (3 + 3 * i) (by omega) _ _ hrowi h32i
         have hL1 : L (3 + 3 * i) = hsl (.slice A1 (Ra i).length c1) (Ra i):=hrowi.trans (by rw [ev])
         rw [ev] at hc0
         have K0:=Aside0.mk hc0
         have hRl : (Ra i).length ≤ 1099511627776:=by
          have h1:=HL.out i hlt
          rw [if_neg (by omega),if_pos rfl] at h1
          have:=HC9 i
          omega
         have C3r:=Aside0.mk (blk_below C3.out D1.out)
         clear hrowi ev hc0
         go_upto_region 27 with (fail)
         refine start_ (n:=11) (S:=fun W => W.cell? ⟨g0,i,none⟩ = some (.slice A1 (Ra i).length c1) ∧ W.heap[g3]? = some (.cells (brw 32 mark) 23 (0,0))) (ds:=[10]) #[false,false,false,false,false,false,false,false,false,false,false] (by kernel_rfl) rfl rfl ⟨below_cell' (below_drew1 (Below.refl _ _)) K0.out,blk_drew C3r.out⟩ (fun hHeld => ?_);refine with_tabW maB.tab27 maB.bits27 (fun HT_ HW_ => ?_)
         have HMR:=Aside0.mk (many_below HM.out (below_drew1 (Below.refl _ _)))
         have D1R:=Aside0.mk (below_drew1 D1.out)
         generalize World.drew _ = wR at HMR D1R hHeld ⊢
         obtain ⟨v2,w2,hr1,M2,b2,gr⟩:=many_grow HMR.out (3 + 3 * i) (by omega) _ (Ra i) hL1 h32i mark hmark D1R.out D1R.out.size hRl
         have hv2 : v2.oneCell' = true:=by have:=M2.1 (3 + 3 * i) (by omega);rw [upd_at] at this;exact own_one this
         have hne : some g0 ≠ (Value.slice A1 (Ra i).length c1).ownBlock:=by have h:=many_ne HMR.out 0 (3 + 3 * i) (by omega) (by omega) (by omega) g0 _ _ _ HS.out.1;rw [hL1] at h;exact h
         refine pure_ (i:=0) (N:=some 93) (v:=?_) (a':=?_) #[true,false,false,false,false,false,false,false,false,false,false] rfl rfl (any_of HT_.out (by kernel_rfl)) (fun _ _ _ h => h) (Or.inl ⟨by rfl,?_⟩) ?_ ?_
         rotate_left
         ·intro w'
          go_simp
          with_reducible rfl
         rotate_left
         ·simp only [Act.put,List.setIfInBounds_toArray,List.set_cons_zero,List.set_cons_succ,i64_w,i32_w]
          rfl
         refine pure_ (i:=1) (N:=some 94) (v:=?_) (a':=?_) #[true,true,false,false,false,false,false,false,false,false,false] rfl rfl (any_of HT_.out (by kernel_rfl)) (fun _ _ _ h => h) (Or.inl ⟨by rfl,?_⟩) ?_ ?_
         rotate_left
         ·intro w'
          go_simp
          with_reducible rfl
         rotate_left
         ·simp only [Act.put,List.setIfInBounds_toArray,List.set_cons_zero,List.set_cons_succ,i64_w,i32_w]
          rfl
         refine pure_ (i:=2) (N:=some 95) (v:=?_) (a':=?_) #[true,true,true,false,false,false,false,false,false,false,false] rfl rfl (any_of HT_.out (by kernel_rfl)) (fun _ _ _ h => h) (Or.inl ⟨by rfl,?_⟩) ?_ ?_
         rotate_left
         ·intro w'
          go_simp
          with_reducible rfl
         rotate_left
         ·simp only [Act.put,List.setIfInBounds_toArray,List.set_cons_zero,List.set_cons_succ,i64_w,i32_w]
          rfl
         refine pure_ (i:=3) (N:=some 96) (v:=?_) (a':=?_) #[true,true,true,true,false,false,false,false,false,false,false] rfl rfl (any_of HT_.out (by kernel_rfl)) (fun _ _ _ h => h) (Or.inl ⟨by rfl,?_⟩) ?_ ?_
         rotate_left
         ·intro w'
          go_simp
          with_reducible rfl
         rotate_left
         ·simp only [Act.put,List.setIfInBounds_toArray,List.set_cons_zero,List.set_cons_succ,i64_w,i32_w]
          rfl
         refine pure_ (i:=4) (N:=some 97) (v:=?_) (a':=?_) #[true,true,true,true,true,false,false,false,false,false,false] rfl rfl (any_of HT_.out (by kernel_rfl)) (fun _ _ _ h => h) (Or.inl ⟨by rfl,?_⟩) ?_ ?_
         rotate_left
         ·intro w'
          go_simp
          with_reducible rfl
         rotate_left
         ·simp only [Act.put,List.setIfInBounds_toArray,List.set_cons_zero,List.set_cons_succ,i64_w,i32_w]
          rfl
         refine take_ (i:=5) (N:=some 98) (v:=?_) (a':=?_) #[true,true,true,true,true,true,false,false,false,false,false] rfl rfl (take_ofW HT_.out HW_.out (by kernel_rfl)) (fun _ _ _ h => h) (Or.inl ⟨by rfl,?_⟩) hHeld ?_ ?_
         rotate_left
         ·rintro w' ⟨s0,s1⟩
          go_simp
          with_reducible rfl
         rotate_left
         ·simp only [Act.put,List.setIfInBounds_toArray,List.set_cons_zero,List.set_cons_succ,i64_w,i32_w]
          rfl
         refine take_ (i:=6) (N:=some 99) (v:=?_) (a':=?_) #[true,true,true,true,true,true,true,false,false,false,false] rfl rfl (take_ofW HT_.out HW_.out (by kernel_rfl)) (fun _ _ _ h => h) (Or.inl ⟨by rfl,?_⟩) hHeld ?_ ?_
         rotate_left
         ·rintro w' ⟨s0,s1⟩
          refine exec_load_row 23 (.tmp 3) ?_ g3 ?_ 23 (brw 32 mark) (0,0) _ s1 Try.underlying23 ?_ (by rw [hzk];exact i23) <;> rfl
         rotate_left
         ·simp only [Act.put,List.setIfInBounds_toArray,List.set_cons_zero,List.set_cons_succ,i64_w,i32_w]
          rfl
         have hal:=below_alloc (Below.refl wR.heap.size wR) (.cells (brw 32 mark) 23)
         have hs1:=below_cell' hal hHeld.1
         have hs2:=blk_below hHeld.2 hal
         refine one_ (i:=7) (N:=some 100) #[true,true,true,true,true,true,true,true,false,false,false] rfl rfl (one_of HT_.out (by kernel_rfl)) (by decide) (fun K hK => ?_)
         refine value_ (w1:=_) (v:=_) (by rfl) rfl (exec_build1 (.tmp 99) rfl mark hmark (by rfl)) ?_
         refine hK.out _ _ ⟨hs1,hs2⟩ (fun hHeld => ?_)
         clear hK K
         refine norm_ (a':=?_) ?_ ?_
         rotate_left
         ·show Act.put _ (some 100) _ = _
          simp only [Act.put,List.setIfInBounds_toArray,List.set_cons_zero,List.set_cons_succ,i64_w,i32_w]
          rfl
         refine one_ (i:=8) (N:=some 101) #[true,true,true,true,true,true,true,true,true,false,false] rfl rfl (one_of HT_.out (by kernel_rfl)) (by decide) (fun K hK => ?_)
         refine value_ (w1:=w2) (v:=v2) (by rfl) rfl (exec_append31 (.tmp 98) (.tmp 100) rfl rfl _ _ rfl rfl hr1) ?_
         refine hK.out _ _ ⟨gr.cell hs1 hne,blk_below C3.out b2⟩ (fun hHeld => ?_)
         clear hK K
         refine norm_ (a':=?_) ?_ ?_
         rotate_left
         ·show Act.put _ (some 101) _ = _
          simp only [Act.put,List.setIfInBounds_toArray,List.set_cons_zero,List.set_cons_succ,i64_w,i32_w]
          rfl
         refine pure_ (i:=9) (N:=some 102) (v:=?_) (a':=?_) #[true,true,true,true,true,true,true,true,true,true,false] rfl rfl (any_of HT_.out (by kernel_rfl)) (fun _ _ _ h => h) (Or.inl ⟨by rfl,?_⟩) ?_ ?_
         rotate_left
         ·intro w'
          go_simp
          with_reducible rfl
         rotate_left
         ·simp only [Act.put,List.setIfInBounds_toArray,List.set_cons_zero,List.set_cons_succ,i64_w,i32_w]
          rfl
         obtain ⟨cur,hcu,hcs⟩:=many_blk M2 0 (by omega) g0 _ _ _ (by rw [upd_ne (by omega)];exact HS.out.1) i (by rw [List.length_map,List.length_range];exact hlt)
         refine last_ (i:=10) (N:=none) #[true,true,true,true,true,true,true,true,true,true,true] rfl rfl (one_of HT_.out (by kernel_rfl)) (by decide) (fun K hK => ?_)
         rw [if_pos (by rfl)]
         refine wp_store_one31 (.tmp 102) (.tmp 101) rfl g0 i cur 31 v2 rfl rfl hcu hcs hv2 ?_
         refine hK.out _ _ ?_
         clear hK K
         refine norm_ (a':=?_) ?_ ?_
         rotate_left
         ·show Act.put _ (none) _ = _
          simp only [Act.put]
          rfl
         refine done_ (done_of HT_.out (by kernel_rfl)) ?_
         have M3:=many_set M2 0 (by omega) g0 ca ((List.range ys.length).map fun j => (L (3 + 3 * j)).v) (by rw [upd_ne (by omega),List.length_map,List.length_range];exact HS.out.1) i v2
         rw [List.length_map,List.length_range] at M3
         have h32n : ∀ x ∈ Ra i ++ [mark],x.length = 32:=fun x hx => by
          rcases List.mem_append.1 hx with h|h
          ·exact h32i x h
          ·rw [List.mem_singleton.1 h];exact hmark
         have HS3:=Aside0.mk (st2_upd HS.out i hlt v2 (Ra i ++ [mark]) h32n)
         have HM3:=Aside0.mk M3
         have HD3 : Aside0 (Below w1.heap.size w1 (w2.setCell ⟨g0,i,none⟩ v2)):=⟨b2.setCell (by exact hbg0) v2⟩
         clear M2 M3 b2 hL1
         go_wp2
         go_roundw
         case rel => exact ⟨k + 1,_,_,by go_num,by omega,HM3,HS3,⟨fun j hj => by
          show (if j = i then Ra i ++ [mark] else Ra j).length = _
          have h1:=HL.out j hj
          by_cases e : j = i
          ·rw [if_pos e,List.length_append,if_neg (by omega),if_pos e]
           rw [if_neg (by omega),if_pos e] at h1
           subst e
           show (Ra j).length + 1 = _
           omega
          ·rw [if_neg e,h1]
           by_cases e2 : j < i
           ·rw [if_pos e2,if_pos e2]
           ·rw [if_neg e2,if_neg e2,if_neg e,if_neg e]⟩,⟨fun j hj x hx => by
          have hx2 : x ∈ (if j = i then Ra i ++ [mark] else Ra j):=hx
          by_cases e : j = i
          ·rw [if_pos e] at hx2
           rcases List.mem_append.1 hx2 with h|h
           ·exact HK.out i hlt x h
           ·exact List.mem_singleton.1 h
          ·rw [if_neg e] at hx2
           exact HK.out j hj x hx2⟩,HD3⟩
         case measure => simp [intOf];omega
        ·have r1 : ((k : Int) < 10) = False:=eq_false (by omega)
         obtain rfl : k = 10:=by omega
         have HL2 : Aside0 (∀ j,j < ys.length → (Ra j).length = (C j).length + (if j < i + 1 then 10 else 0)):=⟨fun j hj => by
          rw [HL.out j hj]
          by_cases e : j < i
          ·rw [if_pos e,if_pos (by omega)]
          ·rw [if_neg e]
           by_cases e2 : j = i
           ·rw [if_pos e2,if_pos (by omega)]
           ·rw [if_neg e2,if_neg (by omega)]⟩
         go_wp2
         go_roundw
         case rel => exact ⟨i + 1,L,Ra,by omega,by go_num,HM,HS,HL2,HK,D1⟩
         case measure => simp [intOf];omega
      ·have q1 : ((i : Int) < (ys.length : Int)) = False:=eq_false (by omega)
       obtain rfl : i = ys.length:=by omega
       have HL2 : Aside0 (∀ j,j < ys.length → (Ra j).length = (C j).length + 10):=⟨fun j hj => by rw [HL.out j hj,if_pos hj]⟩
       have heqm:=eq32 mark mark hmark hmark
       rw [decide_eq_true rfl,B32_brw mark hmark] at heqm
       clear HL
       go_wp2
       go_loopw [17] (fun v17 W => ∃ i : Nat,i ≤ ys.length ∧ v17 = .int .i64 i ∧ Aside0 (Many w1.heap.size L (3 + 3 * ys.length) W) ∧ Aside0 (Below w1.heap.size w1 W)) (fun v17 _ => ys.length - (intOf v17).toNat)
       case atStart => exact ⟨0,Nat.zero_le _,rfl,HM,D1⟩
       case round =>
        clear HM D1 hlt hi q1
        obtain ⟨i,hi,rfl,HM,D1⟩:=hrel
        by_cases hlt : i < ys.length
        ·have q1 : ((i : Int) < (ys.length : Int)) = True:=eq_true (by omega)
         have q2 : (i < ys.length) = True:=eq_true hlt
         have q3 : (ys.length ≤ i) = False:=eq_false (by omega)
         obtain ⟨g0,_,ev,_⟩:=many_cell HM.out 0 (by omega) _ _ HS.out.1 i (by rw [List.length_map,List.length_range];exact hlt)
         obtain rfl : Aa = some ⟨g0,0,none⟩:=by injection ev
         clear ev
         obtain ⟨gb,_,ev,_⟩:=many_cell HM.out 1 (by omega) _ _ HS.out.2.1 i (by rw [List.length_map,List.length_range];exact hlt)
         obtain rfl : Ab0 = some ⟨gb,0,none⟩:=by injection ev
         clear ev
         obtain ⟨gc,_,ev,_⟩:=many_cell HM.out 2 (by omega) _ _ HS.out.2.2.1 i (by rw [List.length_map,List.length_range];exact hlt)
         obtain rfl : Ac0 = some ⟨gc,0,none⟩:=by injection ev
         clear ev
         obtain ⟨hra,h32a,hrb,hrc⟩:=HS.out.2.2.2 i hlt
         obtain ⟨A1,c1,ea,_,_,hown⟩:=many_form HM.out (3 + 3 * i) (by omega) _ _ hra h32a
         obtain ⟨Ab,cb,eb,_,_,_⟩:=many_form HM.out (3 + 3 * i + 1) (by omega) _ _ hrb (HC32.out i)
         obtain ⟨Ac,cc,ec,_,_,_⟩:=many_form HM.out (3 + 3 * i + 2) (by omega) _ _ hrc (HC32.out i)
         have hRa:=HL2.out i hlt
         obtain ⟨g1,rfl,_⟩:=hown (by omega)
         have HLa : Aside0 (L (3 + 3 * i) = hsl (.slice (some ⟨g1,0,none⟩) (Ra i).length c1) (Ra i)):=⟨hra.trans (by rw [ea])⟩
         have HLb : Aside0 (L (3 + 3 * i + 1) = hsl (.slice Ab (C i).length cb) (C i)):=⟨hrb.trans (by rw [eb])⟩
         have HLc : Aside0 (L (3 + 3 * i + 2) = hsl (.slice Ac (C i).length cc) (C i)):=⟨hrc.trans (by rw [ec])⟩
         have CA : ∀ W,Many w1.heap.size L (3 + 3 * ys.length) W → W.cell? ⟨g0,i,none⟩ = some (.slice (some ⟨g1,0,none⟩) ((C i).length + 10) c1):=fun W hm => by
          obtain ⟨h,_,_⟩:=many_at hm 0 (by omega) g0 _ _ _ HS.out.1 i (by rw [List.length_map,List.length_range];exact hlt)
          rw [range_val _ _ i hlt,ea,hRa] at h;exact h
         have CB : ∀ W,Many w1.heap.size L (3 + 3 * ys.length) W → W.cell? ⟨gb,i,none⟩ = some (.slice Ab (C i).length cb):=fun W hm => by
          obtain ⟨h,_,_⟩:=many_at hm 1 (by omega) gb _ _ _ HS.out.2.1 i (by rw [List.length_map,List.length_range];exact hlt)
          rw [range_val _ _ i hlt,eb] at h;exact h
         have CC : ∀ W,Many w1.heap.size L (3 + 3 * ys.length) W → W.cell? ⟨gc,i,none⟩ = some (.slice Ac (C i).length cc):=fun W hm => by
          obtain ⟨h,_,_⟩:=many_at hm 2 (by omega) gc _ _ _ HS.out.2.2.1 i (by rw [List.length_map,List.length_range];exact hlt)
          rw [range_val _ _ i hlt,ec] at h;exact h
         clear hra hrb hrc ea eb ec hown
         go_wp2
         go_loopw [18] (fun v18 W => ∃ k : Nat,v18 = .int .i64 k ∧ k ≤ (C i).length + 10 ∧ Aside0 (Many w1.heap.size L (3 + 3 * ys.length) W) ∧ Aside0 (Below w1.heap.size w1 W)) (fun v18 _ => (C i).length + 10 - (intOf v18).toNat)
         case atStart => exact ⟨0,rfl,Nat.zero_le _,HM,D1⟩
         case round =>
          clear HM D1
          obtain ⟨k,rfl,hk,HM,D1⟩:=hrel
          have K0:=Aside0.mk (CA _ HM.out)
          have hK00:=K0.out
          have hc9:=HC9 i
          by_cases hkl : k < (C i).length + 10
          ·have r1 : ((k : Int) < ((C i).length : Int) + 10) = True:=eq_true (by omega)
           have r2 : (k < (C i).length + 10) = True:=eq_true hkl
           have r3 : ((C i).length + 10 ≤ k) = False:=eq_false (by omega)
           have hkR : k < (Ra i).length:=by omega
           have C3r:=Aside0.mk (blk_below C3.out D1.out)
           have HRD:=Aside0.mk (many_read HM.out (3 + 3 * i) (by omega) _ _ _ (Ra i) HLa.out h32a)
           go_upto_region 34 with (fail)
           clear hK00
           refine start_ (n:=9) (S:=fun W => Below wr.heap.size wr W) (ds:=[]) #[false,false,false,false,false,false,false,false,false] (by kernel_rfl) rfl rfl (below_drew1 (Below.refl _ _)) (fun hHeld => ?_);refine with_tabW maC.tab34 maC.bits34 (fun HT_ HW_ => ?_)
           generalize World.drew _ = wR at hHeld ⊢
           refine pure_ (i:=0) (N:=some 118) (v:=?_) (a':=?_) #[true,false,false,false,false,false,false,false,false] rfl rfl (any_of HT_.out (by kernel_rfl)) (fun _ _ _ h => h) (Or.inl ⟨by rfl,?_⟩) ?_ ?_
           rotate_left
           ·intro w'
            go_simp
            with_reducible rfl
           rotate_left
           ·simp only [Act.put,List.setIfInBounds_toArray,List.set_cons_zero,List.set_cons_succ,i64_w,i32_w]
            rfl
           refine pure_ (i:=1) (N:=some 119) (v:=?_) (a':=?_) #[true,true,false,false,false,false,false,false,false] rfl rfl (any_of HT_.out (by kernel_rfl)) (fun _ _ _ h => h) (Or.inl ⟨by rfl,?_⟩) ?_ ?_
           rotate_left
           ·intro w'
            go_simp
            with_reducible rfl
           rotate_left
           ·simp only [Act.put,List.setIfInBounds_toArray,List.set_cons_zero,List.set_cons_succ,i64_w,i32_w]
            rfl
           refine pure_ (i:=2) (N:=some 120) (v:=?_) (a':=?_) #[true,true,true,false,false,false,false,false,false] rfl rfl (any_of HT_.out (by kernel_rfl)) (fun _ _ _ h => h) (Or.inl ⟨by rfl,?_⟩) ?_ ?_
           rotate_left
           ·intro w'
            go_simp
            with_reducible rfl
           rotate_left
           ·simp only [Act.put,List.setIfInBounds_toArray,List.set_cons_zero,List.set_cons_succ,i64_w,i32_w]
            rfl
           refine take_ (i:=3) (N:=some 121) (v:=?_) (a':=?_) #[true,true,true,true,false,false,false,false,false] rfl rfl (take_ofW HT_.out HW_.out (by kernel_rfl)) (fun _ _ _ h => h) (Or.inl ⟨by rfl,?_⟩) hHeld ?_ ?_
           rotate_left
           ·rintro w' s0
            have hK:=below_cell' s0 K0.out
            go_simp
            with_reducible rfl
           rotate_left
           ·simp only [Act.put,List.setIfInBounds_toArray,List.set_cons_zero,List.set_cons_succ,i64_w,i32_w]
            rfl
           refine pure_ (i:=4) (N:=some 122) (v:=?_) (a':=?_) #[true,true,true,true,true,false,false,false,false] rfl rfl (any_of HT_.out (by kernel_rfl)) (fun _ _ _ h => h) (Or.inl ⟨by rfl,?_⟩) ?_ ?_
           rotate_left
           ·intro w'
            go_simp
            with_reducible rfl
           rotate_left
           ·simp only [Act.put,List.setIfInBounds_toArray,List.set_cons_zero,List.set_cons_succ,i64_w,i32_w]
            rfl
           refine pure_ (i:=5) (N:=some 123) (v:=?_) (a':=?_) #[true,true,true,true,true,true,false,false,false] rfl rfl (any_of HT_.out (by kernel_rfl)) (fun _ _ _ h => h) (Or.inl ⟨by rfl,?_⟩) ?_ ?_
           rotate_left
           ·intro w'
            go_simp
            with_reducible rfl
           rotate_left
           ·simp only [Act.put,List.setIfInBounds_toArray,List.set_cons_zero,List.set_cons_succ,i64_w,i32_w]
            rfl
           refine take_ (i:=6) (N:=some 124) (v:=?_) (a':=?_) #[true,true,true,true,true,true,true,false,false] rfl rfl (take_ofW HT_.out HW_.out (by kernel_rfl)) (fun _ _ _ h => h) (Or.inl ⟨by rfl,?_⟩) hHeld ?_ ?_
           rotate_left
           ·rintro w' s0
            refine exec_load_hash (.tmp 123) ?_ ⟨g1,k * 32,none⟩ ?_ mark hmark (hread_mark ⟨hread_below HRD.out s0,HK.out i hlt⟩ k hkR) <;> rfl
           rotate_left
           ·simp only [Act.put,List.setIfInBounds_toArray,List.set_cons_zero,List.set_cons_succ,i64_w,i32_w]
            rfl
           refine take_ (i:=7) (N:=some 125) (v:=?_) (a':=?_) #[true,true,true,true,true,true,true,true,false] rfl rfl (take_ofW HT_.out HW_.out (by kernel_rfl)) (fun _ _ _ h => h) (Or.inl ⟨by rfl,?_⟩) hHeld ?_ ?_
           rotate_left
           ·rintro w' s0
            refine exec_load_row 23 (.tmp 3) ?_ g3 ?_ 23 (brw 32 mark) (0,0) _ (blk_below C3r.out s0) Try.underlying23 ?_ (by rw [brw_size 32 mark (by omega)];exact i23) <;> rfl
           rotate_left
           ·simp only [Act.put,List.setIfInBounds_toArray,List.set_cons_zero,List.set_cons_succ,i64_w,i32_w]
            rfl
           refine pure_ (i:=8) (N:=some 126) (v:=?_) (a':=?_) #[true,true,true,true,true,true,true,true,true] rfl rfl (any_of HT_.out (by kernel_rfl)) (fun _ _ _ h => h) (Or.inl ⟨by rfl,?_⟩) ?_ ?_
           rotate_left
           ·intro w'
            go_simp
            with_reducible rfl
           rotate_left
           ·simp only [Act.put,List.setIfInBounds_toArray,List.set_cons_zero,List.set_cons_succ,i64_w,i32_w]
            rfl
           refine done_ (done_of HT_.out (by kernel_rfl)) ?_
           have HM2:=Aside0.mk (many_below HM.out hHeld)
           have HD2:=Aside0.mk (below_then D1.out D1.out.size hHeld)
           go_wp2
           go_roundw
           case rel => exact ⟨k + 1,by go_num,by omega,HM2,HD2⟩
           case measure => simp [intOf];omega
          ·have r1 : ((k : Int) < ((C i).length : Int) + 10) = False:=eq_false (by omega)
           go_upto_region 37 with (first
            | (go_at_call 17;(with_reducible refine (HPI _ i hlt (Kd.C_below HR.out D1.out)).mono ?_);rintro e w36 ⟨A4,c4,rfl,hr4,hh4,hb⟩;have HR4:=Aside0.mk hh4;have n_HM:=Aside0.mk (many_below HM.out hb);have n_D1:=Aside0.mk (below_then D1.out D1.out.size hb);clear D1 HM hr4 hh4 hb;have D1:=n_D1;have HM:=n_HM;clear n_D1 n_HM))
           clear hK00
           have wr10:=wrap_ten
           have t6 : ((C i).length ≤ 1000) = True:=eq_true (by omega)
           have KA:=Aside0.mk (CA _ HM.out)
           have KB:=Aside0.mk (CB _ HM.out)
           have KC:=Aside0.mk (CC _ HM.out)
           have HRB:=Aside0.mk (many_read HM.out (3 + 3 * i + 1) (by omega) _ _ _ (C i) HLb.out (HC32.out i))
           have HRC:=Aside0.mk (many_read HM.out (3 + 3 * i + 2) (by omega) _ _ _ (C i) HLc.out (HC32.out i))
           refine start_ (n:=33) (S:=fun W => Below w36.heap.size w36 W) (ds:=[]) #[false,false,false,false,false,false,false,false,false,false,false,false,false,false,false,false,false,false,false,false,false,false,false,false,false,false,false,false,false,false,false,false,false] (by kernel_rfl) rfl rfl (below_drew1 (Below.refl _ _)) (fun hHeld => ?_);refine with_tabW maD.tab37 maD.bits37 (fun HT_ HW_ => ?_)
           generalize World.drew _ = wR at hHeld ⊢
           refine pure_ (i:=0) (N:=some 133) (v:=?_) (a':=?_) #[true,false,false,false,false,false,false,false,false,false,false,false,false,false,false,false,false,false,false,false,false,false,false,false,false,false,false,false,false,false,false,false,false] rfl rfl (any_of HT_.out (by kernel_rfl)) (fun _ _ _ h => h) (Or.inl ⟨by rfl,?_⟩) ?_ ?_
           rotate_left
           ·intro w'
            go_simp
            with_reducible rfl
           rotate_left
           ·simp only [Act.put,List.setIfInBounds_toArray,List.set_cons_zero,List.set_cons_succ,i64_w,i32_w]
            rfl
           refine pure_ (i:=1) (N:=some 134) (v:=?_) (a':=?_) #[true,true,false,false,false,false,false,false,false,false,false,false,false,false,false,false,false,false,false,false,false,false,false,false,false,false,false,false,false,false,false,false,false] rfl rfl (any_of HT_.out (by kernel_rfl)) (fun _ _ _ h => h) (Or.inl ⟨by rfl,?_⟩) ?_ ?_
           rotate_left
           ·intro w'
            go_simp
            with_reducible rfl
           rotate_left
           ·simp only [Act.put,List.setIfInBounds_toArray,List.set_cons_zero,List.set_cons_succ,i64_w,i32_w]
            rfl
           refine pure_ (i:=2) (N:=some 135) (v:=?_) (a':=?_) #[true,true,true,false,false,false,false,false,false,false,false,false,false,false,false,false,false,false,false,false,false,false,false,false,false,false,false,false,false,false,false,false,false] rfl rfl (any_of HT_.out (by kernel_rfl)) (fun _ _ _ h => h) (Or.inl ⟨by rfl,?_⟩) ?_ ?_
           rotate_left
           ·intro w'
            go_simp
            with_reducible rfl
           rotate_left
           ·simp only [Act.put,List.setIfInBounds_toArray,List.set_cons_zero,List.set_cons_succ,i64_w,i32_w]
            rfl
           refine take_ (i:=3) (N:=some 136) (v:=?_) (a':=?_) #[true,true,true,true,false,false,false,false,false,false,false,false,false,false,false,false,false,false,false,false,false,false,false,false,false,false,false,false,false,false,false,false,false] rfl rfl (take_ofW HT_.out HW_.out (by kernel_rfl)) (fun _ _ _ h => h) (Or.inl ⟨by rfl,?_⟩) hHeld ?_ ?_
           rotate_left
           ·rintro w' s0
            have hK:=below_cell' s0 KB.out
            go_simp
            with_reducible rfl
           rotate_left
           ·simp only [Act.put,List.setIfInBounds_toArray,List.set_cons_zero,List.set_cons_succ,i64_w,i32_w]
            rfl
           refine pure_ (i:=4) (N:=some 137) (v:=?_) (a':=?_) #[true,true,true,true,true,false,false,false,false,false,false,false,false,false,false,false,false,false,false,false,false,false,false,false,false,false,false,false,false,false,false,false,false] rfl rfl (any_of HT_.out (by kernel_rfl)) (fun _ _ _ h => h) (Or.inl ⟨by rfl,?_⟩) ?_ ?_
           rotate_left
           ·intro w'
            go_simp
            with_reducible rfl
           rotate_left
           ·simp only [Act.put,List.setIfInBounds_toArray,List.set_cons_zero,List.set_cons_succ,i64_w,i32_w]
            rfl
           refine pure_ (i:=5) (N:=some 138) (v:=?_) (a':=?_) #[true,true,true,true,true,true,false,false,false,false,false,false,false,false,false,false,false,false,false,false,false,false,false,false,false,false,false,false,false,false,false,false,false] rfl rfl (any_of HT_.out (by kernel_rfl)) (fun _ _ _ h => h) (Or.inl ⟨by rfl,?_⟩) ?_ ?_
           rotate_left
           ·intro w'
            go_simp
            with_reducible rfl
           rotate_left
           ·simp only [Act.put,List.setIfInBounds_toArray,List.set_cons_zero,List.set_cons_succ,i64_w,i32_w]
            rfl
           refine pure_ (i:=6) (N:=some 139) (v:=?_) (a':=?_) #[true,true,true,true,true,true,true,false,false,false,false,false,false,false,false,false,false,false,false,false,false,false,false,false,false,false,false,false,false,false,false,false,false] rfl rfl (any_of HT_.out (by kernel_rfl)) (fun _ _ _ h => h) (Or.inl ⟨by rfl,?_⟩) ?_ ?_
           rotate_left
           ·intro w'
            go_simp
            with_reducible rfl
           rotate_left
           ·simp only [Act.put,List.setIfInBounds_toArray,List.set_cons_zero,List.set_cons_succ,i64_w,i32_w]
            rfl
           refine take_ (i:=7) (N:=some 140) (v:=?_) (a':=?_) #[true,true,true,true,true,true,true,true,false,false,false,false,false,false,false,false,false,false,false,false,false,false,false,false,false,false,false,false,false,false,false,false,false] rfl rfl (take_ofW HT_.out HW_.out (by kernel_rfl)) (fun _ _ _ h => h) (Or.inl ⟨by rfl,?_⟩) hHeld ?_ ?_
           rotate_left
           ·rintro w' s0
            have hK:=below_cell' s0 KC.out
            go_simp
            with_reducible rfl
           rotate_left
           ·simp only [Act.put,List.setIfInBounds_toArray,List.set_cons_zero,List.set_cons_succ,i64_w,i32_w]
            rfl
           refine one_ (i:=8) (N:=some 141) #[true,true,true,true,true,true,true,true,true,false,false,false,false,false,false,false,false,false,false,false,false,false,false,false,false,false,false,false,false,false,false,false,false] rfl rfl (one_of HT_.out (by kernel_rfl)) (by decide) (fun K hK => ?_)
           refine goes_ Try.func21 (by kernel_rfl) rfl #[.slice Ab (C i).length cb,.slice Ac (C i).length cc] (by rfl) rfl rfl (by (try simp only [List.map_toArray,List.map_cons,List.map_nil]);first|done|rfl) ?_
           with_reducible refine (same_calls Ab Ac cb cc (C i) _ (hread_below HRB.out hHeld) (hread_below HRC.out hHeld) (by have:=HC9 i;omega)).mono ?_
           rintro e w_2 ⟨rfl,hb⟩
           refine ⟨_,rfl,?_⟩
           have hb2:=below_then hHeld hHeld.size hb
           refine hK.out _ _ hb2 (fun hHeld => ?_)
           clear hK K
           refine norm_ (a':=?_) ?_ ?_
           rotate_left
           ·show Act.put _ (some 141) _ = _
            simp only [Act.put,List.setIfInBounds_toArray,List.set_cons_zero,List.set_cons_succ,i64_w,i32_w]
            rfl
           clear hb2 hb
           refine pure_ (i:=9) (N:=some 142) (v:=?_) (a':=?_) #[true,true,true,true,true,true,true,true,true,true,false,false,false,false,false,false,false,false,false,false,false,false,false,false,false,false,false,false,false,false,false,false,false] rfl rfl (any_of HT_.out (by kernel_rfl)) (fun _ _ _ h => h) (Or.inl ⟨by rfl,?_⟩) ?_ ?_
           rotate_left
           ·intro w'
            go_simp
            with_reducible rfl
           rotate_left
           ·simp only [Act.put,List.setIfInBounds_toArray,List.set_cons_zero,List.set_cons_succ,i64_w,i32_w]
            rfl
           refine pure_ (i:=10) (N:=some 143) (v:=?_) (a':=?_) #[true,true,true,true,true,true,true,true,true,true,true,false,false,false,false,false,false,false,false,false,false,false,false,false,false,false,false,false,false,false,false,false,false] rfl rfl (any_of HT_.out (by kernel_rfl)) (fun _ _ _ h => h) (Or.inl ⟨by rfl,?_⟩) ?_ ?_
           rotate_left
           ·intro w'
            go_simp
            with_reducible rfl
           rotate_left
           ·simp only [Act.put,List.setIfInBounds_toArray,List.set_cons_zero,List.set_cons_succ,i64_w,i32_w]
            rfl
           refine pure_ (i:=11) (N:=some 144) (v:=?_) (a':=?_) #[true,true,true,true,true,true,true,true,true,true,true,true,false,false,false,false,false,false,false,false,false,false,false,false,false,false,false,false,false,false,false,false,false] rfl rfl (any_of HT_.out (by kernel_rfl)) (fun _ _ _ h => h) (Or.inl ⟨by rfl,?_⟩) ?_ ?_
           rotate_left
           ·intro w'
            go_simp
            with_reducible rfl
           rotate_left
           ·simp only [Act.put,List.setIfInBounds_toArray,List.set_cons_zero,List.set_cons_succ,i64_w,i32_w]
            rfl
           refine pure_ (i:=12) (N:=some 145) (v:=?_) (a':=?_) #[true,true,true,true,true,true,true,true,true,true,true,true,true,false,false,false,false,false,false,false,false,false,false,false,false,false,false,false,false,false,false,false,false] rfl rfl (any_of HT_.out (by kernel_rfl)) (fun _ _ _ h => h) (Or.inl ⟨by rfl,?_⟩) ?_ ?_
           rotate_left
           ·intro w'
            go_simp
            with_reducible rfl
           rotate_left
           ·simp only [Act.put,List.setIfInBounds_toArray,List.set_cons_zero,List.set_cons_succ,i64_w,i32_w]
            rfl
           refine pure_ (i:=13) (N:=some 146) (v:=?_) (a':=?_) #[true,true,true,true,true,true,true,true,true,true,true,true,true,true,false,false,false,false,false,false,false,false,false,false,false,false,false,false,false,false,false,false,false] rfl rfl (any_of HT_.out (by kernel_rfl)) (fun _ _ _ h => h) (Or.inl ⟨by rfl,?_⟩) ?_ ?_
           rotate_left
           ·intro w'
            go_simp
            with_reducible rfl
           rotate_left
           ·simp only [Act.put,List.setIfInBounds_toArray,List.set_cons_zero,List.set_cons_succ,i64_w,i32_w]
            rfl
           refine pure_ (i:=14) (N:=some 147) (v:=?_) (a':=?_) #[true,true,true,true,true,true,true,true,true,true,true,true,true,true,true,false,false,false,false,false,false,false,false,false,false,false,false,false,false,false,false,false,false] rfl rfl (any_of HT_.out (by kernel_rfl)) (fun _ _ _ h => h) (Or.inl ⟨by rfl,?_⟩) ?_ ?_
           rotate_left
           ·intro w'
            go_simp
            with_reducible rfl
           rotate_left
           ·simp only [Act.put,List.setIfInBounds_toArray,List.set_cons_zero,List.set_cons_succ,i64_w,i32_w]
            rfl
           refine take_ (i:=15) (N:=some 148) (v:=?_) (a':=?_) #[true,true,true,true,true,true,true,true,true,true,true,true,true,true,true,true,false,false,false,false,false,false,false,false,false,false,false,false,false,false,false,false,false] rfl rfl (take_ofW HT_.out HW_.out (by kernel_rfl)) (fun _ _ _ h => h) (Or.inl ⟨by rfl,?_⟩) hHeld ?_ ?_
           rotate_left
           ·rintro w' s0
            have hK:=below_cell' s0 KC.out
            go_simp
            with_reducible rfl
           rotate_left
           ·simp only [Act.put,List.setIfInBounds_toArray,List.set_cons_zero,List.set_cons_succ,i64_w,i32_w]
            rfl
           refine one_ (i:=16) (N:=some 149) #[true,true,true,true,true,true,true,true,true,true,true,true,true,true,true,true,true,false,false,false,false,false,false,false,false,false,false,false,false,false,false,false,false] rfl rfl (one_of HT_.out (by kernel_rfl)) (by decide) (fun K hK => ?_)
           refine goes_ Try.func21 (by kernel_rfl) rfl #[.slice A4 (C i).length c4,.slice Ac (C i).length cc] (by rfl) rfl rfl (by (try simp only [List.map_toArray,List.map_cons,List.map_nil]);first|done|rfl) ?_
           with_reducible refine (same_calls A4 Ac c4 cc (C i) _ (hread_below HR4.out hHeld) (hread_below HRC.out hHeld) (by have:=HC9 i;omega)).mono ?_
           rintro e w_2 ⟨rfl,hb⟩
           refine ⟨_,rfl,?_⟩
           have hb2:=below_then hHeld hHeld.size hb
           refine hK.out _ _ hb2 (fun hHeld => ?_)
           clear hK K
           refine norm_ (a':=?_) ?_ ?_
           rotate_left
           ·show Act.put _ (some 149) _ = _
            simp only [Act.put,List.setIfInBounds_toArray,List.set_cons_zero,List.set_cons_succ,i64_w,i32_w]
            rfl
           clear hb2 hb
           refine pure_ (i:=17) (N:=some 150) (v:=?_) (a':=?_) #[true,true,true,true,true,true,true,true,true,true,true,true,true,true,true,true,true,true,false,false,false,false,false,false,false,false,false,false,false,false,false,false,false] rfl rfl (any_of HT_.out (by kernel_rfl)) (fun _ _ _ h => h) (Or.inl ⟨by rfl,?_⟩) ?_ ?_
           rotate_left
           ·intro w'
            go_simp
            with_reducible rfl
           rotate_left
           ·simp only [Act.put,List.setIfInBounds_toArray,List.set_cons_zero,List.set_cons_succ,i64_w,i32_w]
            rfl
           refine pure_ (i:=18) (N:=some 151) (v:=?_) (a':=?_) #[true,true,true,true,true,true,true,true,true,true,true,true,true,true,true,true,true,true,true,false,false,false,false,false,false,false,false,false,false,false,false,false,false] rfl rfl (any_of HT_.out (by kernel_rfl)) (fun _ _ _ h => h) (Or.inl ⟨by rfl,?_⟩) ?_ ?_
           rotate_left
           ·intro w'
            go_simp
            with_reducible rfl
           rotate_left
           ·simp only [Act.put,List.setIfInBounds_toArray,List.set_cons_zero,List.set_cons_succ,i64_w,i32_w]
            rfl
           refine pure_ (i:=19) (N:=some 152) (v:=?_) (a':=?_) #[true,true,true,true,true,true,true,true,true,true,true,true,true,true,true,true,true,true,true,true,false,false,false,false,false,false,false,false,false,false,false,false,false] rfl rfl (any_of HT_.out (by kernel_rfl)) (fun _ _ _ h => h) (Or.inl ⟨by rfl,?_⟩) ?_ ?_
           rotate_left
           ·intro w'
            go_simp
            with_reducible rfl
           rotate_left
           ·simp only [Act.put,List.setIfInBounds_toArray,List.set_cons_zero,List.set_cons_succ,i64_w,i32_w]
            rfl
           refine pure_ (i:=20) (N:=some 153) (v:=?_) (a':=?_) #[true,true,true,true,true,true,true,true,true,true,true,true,true,true,true,true,true,true,true,true,true,false,false,false,false,false,false,false,false,false,false,false,false] rfl rfl (any_of HT_.out (by kernel_rfl)) (fun _ _ _ h => h) (Or.inl ⟨by rfl,?_⟩) ?_ ?_
           rotate_left
           ·intro w'
            go_simp
            with_reducible rfl
           rotate_left
           ·simp only [Act.put,List.setIfInBounds_toArray,List.set_cons_zero,List.set_cons_succ,i64_w,i32_w]
            rfl
           refine pure_ (i:=21) (N:=some 154) (v:=?_) (a':=?_) #[true,true,true,true,true,true,true,true,true,true,true,true,true,true,true,true,true,true,true,true,true,true,false,false,false,false,false,false,false,false,false,false,false] rfl rfl (any_of HT_.out (by kernel_rfl)) (fun _ _ _ h => h) (Or.inl ⟨by rfl,?_⟩) ?_ ?_
           rotate_left
           ·intro w'
            go_simp
            with_reducible rfl
           rotate_left
           ·simp only [Act.put,List.setIfInBounds_toArray,List.set_cons_zero,List.set_cons_succ,i64_w,i32_w]
            rfl
           refine pure_ (i:=22) (N:=some 155) (v:=?_) (a':=?_) #[true,true,true,true,true,true,true,true,true,true,true,true,true,true,true,true,true,true,true,true,true,true,true,false,false,false,false,false,false,false,false,false,false] rfl rfl (any_of HT_.out (by kernel_rfl)) (fun _ _ _ h => h) (Or.inl ⟨by rfl,?_⟩) ?_ ?_
           rotate_left
           ·intro w'
            go_simp
            with_reducible rfl
           rotate_left
           ·simp only [Act.put,List.setIfInBounds_toArray,List.set_cons_zero,List.set_cons_succ,i64_w,i32_w]
            rfl
           refine take_ (i:=23) (N:=some 156) (v:=?_) (a':=?_) #[true,true,true,true,true,true,true,true,true,true,true,true,true,true,true,true,true,true,true,true,true,true,true,true,false,false,false,false,false,false,false,false,false] rfl rfl (take_ofW HT_.out HW_.out (by kernel_rfl)) (fun _ _ _ h => h) (Or.inl ⟨by rfl,?_⟩) hHeld ?_ ?_
           rotate_left
           ·rintro w' s0
            have hK:=below_cell' s0 KA.out
            go_simp
            with_reducible rfl
           rotate_left
           ·simp only [Act.put,List.setIfInBounds_toArray,List.set_cons_zero,List.set_cons_succ,i64_w,i32_w]
            rfl
           refine pure_ (i:=24) (N:=some 157) (v:=?_) (a':=?_) #[true,true,true,true,true,true,true,true,true,true,true,true,true,true,true,true,true,true,true,true,true,true,true,true,true,false,false,false,false,false,false,false,false] rfl rfl (any_of HT_.out (by kernel_rfl)) (fun _ _ _ h => h) (Or.inl ⟨by rfl,?_⟩) ?_ ?_
           rotate_left
           ·intro w'
            go_simp
            with_reducible rfl
           rotate_left
           ·simp only [Act.put,List.setIfInBounds_toArray,List.set_cons_zero,List.set_cons_succ,i64_w,i32_w]
            rfl
           refine pure_ (i:=25) (N:=some 158) (v:=?_) (a':=?_) #[true,true,true,true,true,true,true,true,true,true,true,true,true,true,true,true,true,true,true,true,true,true,true,true,true,true,false,false,false,false,false,false,false] rfl rfl (any_of HT_.out (by kernel_rfl)) (fun _ _ _ h => h) (Or.inl ⟨by rfl,?_⟩) ?_ ?_
           rotate_left
           ·intro w'
            go_simp
            with_reducible rfl
           rotate_left
           ·simp only [Act.put,List.setIfInBounds_toArray,List.set_cons_zero,List.set_cons_succ,i64_w,i32_w]
            rfl
           refine pure_ (i:=26) (N:=some 159) (v:=?_) (a':=?_) #[true,true,true,true,true,true,true,true,true,true,true,true,true,true,true,true,true,true,true,true,true,true,true,true,true,true,true,false,false,false,false,false,false] rfl rfl (any_of HT_.out (by kernel_rfl)) (fun _ _ _ h => h) (Or.inl ⟨by rfl,?_⟩) ?_ ?_
           rotate_left
           ·intro w'
            go_simp
            with_reducible rfl
           rotate_left
           ·simp only [Act.put,List.setIfInBounds_toArray,List.set_cons_zero,List.set_cons_succ,i64_w,i32_w]
            rfl
           refine pure_ (i:=27) (N:=some 160) (v:=?_) (a':=?_) #[true,true,true,true,true,true,true,true,true,true,true,true,true,true,true,true,true,true,true,true,true,true,true,true,true,true,true,true,false,false,false,false,false] rfl rfl (any_of HT_.out (by kernel_rfl)) (fun _ _ _ h => h) (Or.inl ⟨by rfl,?_⟩) ?_ ?_
           rotate_left
           ·intro w'
            go_simp
            with_reducible rfl
           rotate_left
           ·simp only [Act.put,List.setIfInBounds_toArray,List.set_cons_zero,List.set_cons_succ,i64_w,i32_w]
            rfl
           refine take_ (i:=28) (N:=some 161) (v:=?_) (a':=?_) #[true,true,true,true,true,true,true,true,true,true,true,true,true,true,true,true,true,true,true,true,true,true,true,true,true,true,true,true,true,false,false,false,false] rfl rfl (take_ofW HT_.out HW_.out (by kernel_rfl)) (fun _ _ _ h => h) (Or.inl ⟨by rfl,?_⟩) hHeld ?_ ?_
           rotate_left
           ·rintro w' s0
            have hK:=below_cell' s0 KC.out
            go_simp
            with_reducible rfl
           rotate_left
           ·simp only [Act.put,List.setIfInBounds_toArray,List.set_cons_zero,List.set_cons_succ,i64_w,i32_w]
            rfl
           refine pure_ (i:=29) (N:=some 162) (v:=?_) (a':=?_) #[true,true,true,true,true,true,true,true,true,true,true,true,true,true,true,true,true,true,true,true,true,true,true,true,true,true,true,true,true,true,false,false,false] rfl rfl (any_of HT_.out (by kernel_rfl)) (fun _ _ _ h => h) (Or.inl ⟨by rfl,?_⟩) ?_ ?_
           rotate_left
           ·intro w'
            go_simp
            with_reducible rfl
           rotate_left
           ·simp only [Act.put,List.setIfInBounds_toArray,List.set_cons_zero,List.set_cons_succ,i64_w,i32_w]
            rfl
           refine pure_ (i:=30) (N:=some 163) (v:=?_) (a':=?_) #[true,true,true,true,true,true,true,true,true,true,true,true,true,true,true,true,true,true,true,true,true,true,true,true,true,true,true,true,true,true,true,false,false] rfl rfl (any_of HT_.out (by kernel_rfl)) (fun _ _ _ h => h) (Or.inl ⟨by rfl,?_⟩) ?_ ?_
           rotate_left
           ·intro w'
            go_simp
            with_reducible rfl
           rotate_left
           ·simp only [Act.put,List.setIfInBounds_toArray,List.set_cons_zero,List.set_cons_succ,i64_w,i32_w]
            rfl
           refine pure_ (i:=31) (N:=some 164) (v:=?_) (a':=?_) #[true,true,true,true,true,true,true,true,true,true,true,true,true,true,true,true,true,true,true,true,true,true,true,true,true,true,true,true,true,true,true,true,false] rfl rfl (any_of HT_.out (by kernel_rfl)) (fun _ _ _ h => h) (Or.inl ⟨by rfl,?_⟩) ?_ ?_
           rotate_left
           ·intro w'
            go_simp
            with_reducible rfl
           rotate_left
           ·simp only [Act.put,List.setIfInBounds_toArray,List.set_cons_zero,List.set_cons_succ,i64_w,i32_w]
            rfl
           refine pure_ (i:=32) (N:=some 165) (v:=?_) (a':=?_) #[true,true,true,true,true,true,true,true,true,true,true,true,true,true,true,true,true,true,true,true,true,true,true,true,true,true,true,true,true,true,true,true,true] rfl rfl (any_of HT_.out (by kernel_rfl)) (fun _ _ _ h => h) (Or.inl ⟨by rfl,?_⟩) ?_ ?_
           rotate_left
           ·intro w'
            go_simp
            with_reducible rfl
           rotate_left
           ·simp only [Act.put,List.setIfInBounds_toArray,List.set_cons_zero,List.set_cons_succ,i64_w,i32_w]
            rfl
           refine done_ (done_of HT_.out (by kernel_rfl)) ?_
           have HM2:=Aside0.mk (many_below HM.out hHeld)
           have HD2:=Aside0.mk (below_then D1.out D1.out.size hHeld)
           go_wp2
           refine ⟨⟨i + 1,by omega,by go_num,HM2,HD2⟩,by simp [intOf];omega⟩
        ·have q1 : ((i : Int) < (ys.length : Int)) = False:=eq_false (by omega)
         go_wp2_with (first
          | (go_at_call 16;(with_reducible refine (first_calls _).mono ?_);rintro e w40 ⟨rfl,hb⟩;have n_D1:=Aside0.mk (below_then D1.out D1.out.size hb);clear D1 hb;have D1:=n_D1;clear n_D1))
         go_ret
         exact ⟨rfl,below_then D0.out D0.out.size D1.out⟩
theorem apart_walk (A : Option Addr) (cp : Nat) (xs : List ByteArray) (mark : List UInt8) (w : World) (hr : Kd.C Kd.string w A xs.length xs) (hcp : xs.length ≤ cp) (hn : xs.length ≤ 1048576) (hsz : ∀ s ∈ xs,s.size ≤ 1048576) (hmark : mark.length = 32) :
 Calls Try.prog 7 #[.slice A xs.length cp,.agg (brw 32 mark)] w fun e w' => e = .returned (.bool true) ∧ Below w.heap.size w w':=by
 by_cases h3 : 40 < xs.length
 ·exact apart_big A cp xs mark w hr hcp hn hsz hmark h3
 ·exact apart_small A cp xs mark w hr hcp hn hsz hmark h3
end Go.Proofs.Ythpnppfpmhlkaaa.Sha
