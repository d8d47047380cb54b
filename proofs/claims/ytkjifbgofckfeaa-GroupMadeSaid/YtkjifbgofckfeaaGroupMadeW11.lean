/- The functions that the law GroupMade reaches, each by its contract. Part 11. -/
import Derived.Test.YtkjifbgofckfeaaGroupMadeW10
namespace Go.Proofs.Ytkjifbgofckfeaa
open Go.KL
set_option maxHeartbeats 4000000 in
set_option maxRecDepth 100000 in
theorem gSaysA_fn (n:Int) (gens:List (List Int)) (r:List Int) (word:List Int) (bell:Int) (σ:GW)  (v0 v1 v2 v3 v4:Value) (hv0:Ty.has (Ty.int n) σ v0) (hv1:Ty.has (Ty.lst Ty.ints gens) σ v1) (hv2:Ty.has (Ty.lst Ty.int r) σ v2) (hv3:Ty.has (Ty.lst Ty.int word) σ v3) (hv4:Ty.has (Ty.int bell) σ v4)  (hw64:∀ x ∈ word,-9223372036854775808 ≤ x∧x ≤ 9223372036854775807) (hbad:gensMay n gens ≠ 0) :
    FnC Try.prog 8 #[v0,v1,v2,v3,v4] σ (Ty.bool true):=by
 refine fn_intro0 Try.func8 rfl Try.ntmps8 (Nat.le_of_ble_eq_true rfl) (fun s0 a0 hle F0 ok0 hargs=>?_)
 have p0:=pA hle (hargs 0 _ rfl) hv0
 have p1:=pA hle (hargs 1 _ rfl) hv1
 have b1:=sl_le p1
 have p2:=pA hle (hargs 2 _ rfl) hv2
 have b2:=sl_le p2
 have p3:=pA hle (hargs 3 _ rfl) hv3
 have b3:=sl_le p3
 have p4:=pA hle (hargs 4 _ rfl) hv4
 clear hargs;refine wp_seq ?_
 refine gI a0 s0 ok0 (gC (Ty.bool false) (gE ok0 fun a1 s1 ok1 D1=>?_));have q4:=D1.k p3;refine tn (wp_seq (wp_seq ?_))
 refine gI a1 s1 ok1 (gM q4 (gS rfl (fun A B E G H d0=>rP (y_len Try.underlying22 (eI d0))) (gS rfl (fun A B E G H d0=>rP (y_gtr (eI d0) rfl)) (gS rfl (fun A B E G H d0=>rP (y_move (eI d0))) (gS rfl (fun A B E G H d0=>gu G (eI d0) fun hg=>y_move (kp (H 3 rfl) E q4)) (gS rfl (fun A B E G H d0 d1=>gu G (eI d1) fun hg=>y_len Try.underlying22 ((ef d0 rfl).1 hg)) (gS rfl (fun A B E G H d0 d1=>gu G (eI d1) fun hg=>y_lss ((ef d0 rfl).1 hg) rfl) (gS rfl (fun A B E G H d0 d1=>rP (y_pick_and (eI d0) (eI d1) rfl)) (gE ok1 fun a2 s2 ok2 D2=>?_)))))))));have F2:=(F0.step0 D1.stp).step0 D2.stp;have q6:=D2.k (D1.k p0);have q7:=D2.k (D1.k p1);refine tn ?_
 refine cond_t (D2.m 7 rfl) (fun c1=>?_) (fun c1=>?_)
 ·
  obtain ⟨d1,d2⟩:=Bool.and_eq_true_iff.mp c1
  replace d1:=of_decide_eq_true d1
  replace d2:=of_decide_eq_true d2
  refine wp_seq ?_
  refine gI a2 s2 ok2 (gC (Ty.bool true) (gE ok2 fun a3 s3 ok3 D3=>?_));refine tn (wp_ret (tr ?_))
  exact retL1 rfl ok3 (F2.step0 D3.stp) (D3.m 0 rfl)
 ·
  refine wp_skip (tn (wp_seq ?_))
  refine gI a2 s2 ok2 (gM q6 (gM q7 (gS rfl (fun A B E G H d0 d1=>rP (y_call _ Try.func17 rfl rfl my2 (gMakeE_fn (n) (gens) _ _ _ (eI d0) (eI d1) oM))) (gS rfl (fun A B E G H d0=>rP (y_move (eI d0))) (gT (Ty.val (Value.pointer none)) rfl (fun A B E G H d0=>rP (y_ext2_0 (eI d0))) (gT (Ty.int (gensMay n gens)) rfl (fun A B E G H d0 d1=>rP (y_ext2_1 (eI d0))) (gB 0 (gB 0 (gE ok2 fun a4 s4 ok4 D4=>?_)))))))));have q13:=D4.k q6;have q14:=D4.k q7;refine tn (wp_seq ?_)
  refine gI a4 s4 ok4 (gM q13 (gM q14 (gS rfl (fun A B E G H d0 d1=>rP (y_call _ Try.func24 rfl rfl my2 (rGensMay_fn (n) (gens) _ _ _ (eI d0) (eI d1) ))) (gB 0 (gE ok4 fun a5 s5 ok5 D5=>?_)))));have q27:=D5.m 3 rfl;refine tn (wp_seq (wp_seq ?_))
  refine gI a5 s5 ok5 (gM (D5.k q13) (gM (D5.k q14) (gS rfl (fun A B E G H d0 d1=>rP (y_call _ Try.func41 rfl rfl my2 (gCheck_fn (n) (gens) _ _ _ (eI d0) (eI d1) ))) (gM q27 (gS rfl (fun A B E G H d0 d1=>rP (y_neq (eI d0) (eI d1))) (gS rfl (fun A B E G H d0 d1=>rP (y_move (eI d0))) (gS rfl (fun A B E G H d0=>gu G (eI d0) fun hg=>y_move (kp (H 12 rfl) E (D5.k (D4.m 7 rfl)))) (gS rfl (fun A B E G H d0=>gu G (eI d0) fun hg=>y_move (kp (H 13 rfl) E q27)) (gS rfl (fun A B E G H d0 d1 d2=>gu G (eI d2) fun hg=>y_neq ((ef d0 rfl).1 hg) ((ef d1 rfl).1 hg)) (gS rfl (fun A B E G H d0 d1=>rP (y_pick_or (eI d0) rfl (eI d1))) (gS rfl (fun A B E G H d0 d1=>rP (y_move (eI d0))) (gT (Ty.grd (((decide ((gensMay n (gens)) ≠ (gensMay n (gens)))) || (decide ((gensMay n gens) ≠ (gensMay n (gens))))) = false) (Ty.val (Value.pointer none))) rfl (by intro A B E G H d0;refine run_guard G rfl rfl dE (eI d0) (fun hg=>?_);obtain ⟨d3,d4⟩:=Bool.or_eq_false_iff.mp hg;have d3:=of_decide_eq_false d3;have d4:=of_decide_eq_false d4;exact y_move (kp (H 11 rfl) E (D5.k (D4.m 6 rfl)))) (gT (Ty.grd (((decide ((gensMay n (gens)) ≠ (gensMay n (gens)))) || (decide ((gensMay n gens) ≠ (gensMay n (gens))))) = false) (Ty.bool true)) rfl (by intro A B E G H d0 d1;refine run_guard G rfl rfl dE (eI d1) (fun hg=>?_);obtain ⟨d5,d6⟩:=Bool.or_eq_false_iff.mp hg;have d5:=of_decide_eq_false d5;have d6:=of_decide_eq_false d6;exact y_nilnil Try.underlying26 ((ef d0 rfl).1 hg) rfl) ?_)))))))))))))
  refine gT (Ty.grd (((decide ((gensMay n (gens)) ≠ (gensMay n (gens)))) || (decide ((gensMay n gens) ≠ (gensMay n (gens))))) = false) (Ty.int (gensMay n (gens)))) rfl (by intro A B E G H d0;refine run_guard G rfl rfl dE (eI d0) (fun hg=>?_);obtain ⟨d7,d8⟩:=Bool.or_eq_false_iff.mp hg;have d7:=of_decide_eq_false d7;have d8:=of_decide_eq_false d8;exact y_move (kp (H 13 rfl) E q27)) (gT (Ty.grd (((decide ((gensMay n (gens)) ≠ (gensMay n (gens)))) || (decide ((gensMay n gens) ≠ (gensMay n (gens))))) = false) (Ty.bool (decide ((gensMay n (gens)) ≠ (0:Int))))) rfl (by intro A B E G H d0 d1;refine run_guard G rfl rfl dE (eI d1) (fun hg=>?_);obtain ⟨d9,d10⟩:=Bool.or_eq_false_iff.mp hg;have d9:=of_decide_eq_false d9;have d10:=of_decide_eq_false d10;exact y_neq ((ef d0 rfl).1 hg) rfl) (gT (Ty.grd (((decide ((gensMay n (gens)) ≠ (gensMay n (gens)))) || (decide ((gensMay n gens) ≠ (gensMay n (gens))))) = false) (Ty.bool (true != (decide ((gensMay n (gens)) ≠ (0:Int)))))) rfl (by intro A B E G H d0 d1 d2;refine run_guard G rfl rfl dE (eI d2) (fun hg=>?_);obtain ⟨d11,d12⟩:=Bool.or_eq_false_iff.mp hg;have d11:=of_decide_eq_false d11;have d12:=of_decide_eq_false d12;exact y_neqB Try.underlying4 ((ef d0 rfl).1 hg) ((ef d1 rfl).1 hg)) (gS rfl (fun A B E G H d0 d1=>rP (y_pick_or (eI d0) rfl (eI d1))) (gE ok5 fun a6 s6 ok6 D6=>?_))));refine tn ?_
  refine cond_t (D6.m 16 rfl) (fun c2=>?_) (fun c2=>?_)
  ·
   exfalso
   simp [hbad] at c2
  ·
   obtain ⟨d13,d14⟩:=Bool.or_eq_false_iff.mp c2
   obtain ⟨d15,d16⟩:=Bool.or_eq_false_iff.mp d13
   replace d15:=of_decide_eq_false d15
   replace d16:=of_decide_eq_false d16
   refine wp_skip (tn (wp_seq (wp_seq ?_)))
   refine gI a6 s6 ok6 (gM (D6.k q27) (gS rfl (fun A B E G H d0=>rP (y_neq (eI d0) rfl)) (gE ok6 fun a7 s7 ok7 D7=>?_)));refine tn ?_
   refine cond_p (p:=((gensMay n (gens)) ≠ (0:Int))) (D7.m 1 rfl) (fun c3=>?_) (fun c3=>?_)
   ·
    refine wp_seq ?_
    refine gI a7 s7 ok7 (gC (Ty.bool true) (gE ok7 fun a8 s8 ok8 D8=>?_));refine tn (wp_ret (tr ?_))
    exact retL1 rfl ok8 (((((F2.step0 D4.stp).step0 D5.stp).step0 D6.stp).step0 D7.stp).step0 D8.stp) (D8.m 0 rfl)
   ·
    exfalso
    exact c3 hbad
set_option maxHeartbeats 4000000 in
set_option maxRecDepth 100000 in
theorem gMake_fn (n:Nat) (gens:List (List Int)) (σ:GW) (hlow:Low [] σ) (v0 v1:Value) (hv0:Ty.has (Ty.nat n) σ v0) (hv1:Ty.has (Ty.lst Ty.ints gens) σ v1)  (hn:1 ≤ n∧n ≤ 12) (hg:∀ x ∈ gens,RowN n x) (hl:gens.length ≤ 8) :
    FnL Try.prog 17 #[v0,v1] σ [] (fun v τ=>∃ (c:(Nat → Lev)),∃ (us:(List Value)),∃ (x:Value),∃ (cs:Value),∃ (gs:Value),(Ty.has (Ty.tup2 (Ty.val x) (Ty.int (0:Int))) τ v)∧(OwnP τ 41 x [(Ty.nat n),(Ty.val gs),(Ty.val cs)])∧(ChnU τ 42 22 108 cs n c us)∧(Own τ 43 22 1 gs (List.length gens) (List.map Ty.ints gens))∧(ChnOf n gens c)):=by
 have hmay:=gensMay_of hn hl hg
 refine fn_introL hlow Try.func17 rfl Try.ntmps17 (Nat.le_of_ble_eq_true rfl) (fun a0 F0 ok0 hargs=>?_)
 have p0:=pB (hargs 0 _ rfl) hv0
 have p1:=pB (hargs 1 _ rfl) hv1
 have b1:=sl_le p1
 clear hargs;refine wp_seq ?_
 refine gI a0 σ ok0 (gC (Ty.val (Value.pointer none)) (gC (Ty.int (0:Int)) (gE ok0 fun a1 s1 ok1 D1=>?_)));have q1:=D1.k p0;have q2:=D1.k p1;refine tn (wp_seq (wp_seq ?_))
 refine gI a1 s1 ok1 (gM q1 (gM q2 (gS rfl (fun A B E G H d0 d1=>rP (y_call _ Try.func41 rfl rfl my2 (gCheck_fn (((n:Nat):Int)) (gens) _ _ _ (cvi (σ:=B) oM (ef d0 rfl)) (eI d1) ))) (gB 0 (gE ok1 fun a2 s2 ok2 D2=>?_)))));refine tn (wp_seq ?_)
 refine gI a2 s2 ok2 (gM (D2.m 3 rfl) (gS rfl (fun A B E G H d0=>rP (y_neq (eI d0) rfl)) (gE ok2 fun a3 s3 ok3 D3=>?_)));refine tn ?_
 refine cond_p (p:=((gensMay (((n:Nat):Int)) (gens)) ≠ (0:Int))) (D3.m 1 rfl) (fun c1=>?_) (fun c1=>?_)
 ·
  exfalso
  rw [hmay] at c1;exact c1 rfl
 ·
  refine wp_skip (tn (wp_seq ?_))
  refine gI a3 s3 ok3 (gM (D3.k (D2.k q1)) (gM (D3.k (D2.k q2)) (gE2 ok3 fun a4 s4 ok4 D4=>?_)))
  refine tL ok4 (y_callL (L:=[]) [] [(41,41),(42,42),(43,43)] _ rfl dE Try.func63 rfl rfl my2 (gOf_fn (n) (gens) _ lW _ _ (uL (D4.m 0 rfl)) (uL (D4.m 1 rfl))  oX oX oX)) fun a5 s5 hs1 ok5 r1 sm1=>?_
  obtain ⟨t1,⟨g1,g2,x1,x2,x3,hT1,o1,o2,o3,hp1⟩,B1⟩:=r1
  have q12:At (Ty.val x1) s5 a5 (.tmp 15):=Ty.up _ B1.le hT1
  have o4:OwnP s5 41 x1 [(Ty.nat n),(Ty.val x3),(Ty.val x2)]:=OwnP.ren o1 (B1.ren dE rfl)
  have o5:ChnU s5 42 22 108 x2 n (g1) (g2):=ChnU.ren o2 (B1.ren dE rfl)
  have o6:Own s5 43 22 1 x3 (List.length gens) (List.map Ty.ints gens):=Own.ren o3 (B1.ren dE rfl)
  refine tL ok5 (Yld.toL (y_as q12)) fun a6 s6 hs2 ok6 r2 sm2=>?_
  have q13:At (Ty.val x1) s6 a6 (.tmp 4):=r2
  clear r2
  refine tL (R:=(fun v τ=>Pr.has (Ty.pr (Ty.int (0:Int))) τ v)) ok6 (Yld.toL (y_assign rfl)) fun a7 s7 hs3 ok7 r3 sm3=>?_
  have q15:At (Ty.int (0:Int)) s7 a7 (.tmp 5):=r3
  clear r3;refine wpList_nil (tn (wp_ret ?_))
  exact retL2 rfl ok7 (((((((F0.step0 D1.stp).step0 D2.stp).step0 D3.stp).step0 D4.stp).sl hs1).sl hs2).sl hs3) ⟨(g1),(g2),x1,x2,x3,(hasT2 (kq hs3 sm3 4 q13) q15),(OwnP.kl (OwnP.kl o4 hs2) hs3),(cvch (by (rfl)) (ChnU.kl (ChnU.kl o5 hs2) hs3)),(Own.kl (Own.kl o6 hs2) hs3),(by assumption)⟩
set_option maxHeartbeats 4000000 in
set_option maxRecDepth 100000 in
theorem gSaysB_fn (n:Nat) (gens:List (List Int)) (r:List Int) (word:List Int) (bell:Int) (σ:GW)  (v0 v1 v2 v3 v4:Value) (hv0:Ty.has (Ty.nat n) σ v0) (hv1:Ty.has (Ty.lst Ty.ints gens) σ v1) (hv2:Ty.has (Ty.lst Ty.int r) σ v2) (hv3:Ty.has (Ty.lst Ty.int word) σ v3) (hv4:Ty.has (Ty.int bell) σ v4)  (hw64:∀ x ∈ word,-9223372036854775808 ≤ x∧x ≤ 9223372036854775807) (hG0:gensMay (n:Int) gens = 0) :
    FnC Try.prog 8 #[v0,v1,v2,v3,v4] σ (Ty.bool true):=by
 obtain ⟨hn,hGl,hG⟩:=may_nat hG0
 have hwb:=getD_i64 hw64
 have hGl2:gens.length ≤ 1000000:=oM
 have hGl3:gens.length ≤ 1000:=oM
 have hsb:=szTo_bd (n:=n) (S:=fun y=>y ∈ gens) (k:=n) hn.2
 refine fn_intro0 Try.func8 rfl Try.ntmps8 (Nat.le_of_ble_eq_true rfl) (fun s0 a0 hle F0 ok0 hargs=>?_)
 have p0:=pA hle (hargs 0 _ rfl) hv0
 have p1:=pA hle (hargs 1 _ rfl) hv1
 have b1:=sl_le p1
 have p2:=pA hle (hargs 2 _ rfl) hv2
 have b2:=sl_le p2
 have p3:=pA hle (hargs 3 _ rfl) hv3
 have b3:=sl_le p3
 have p4:=pA hle (hargs 4 _ rfl) hv4
 clear hargs;refine wp_seq ?_
 refine gI a0 s0 ok0 (gC (Ty.bool false) (gE ok0 fun a1 s1 ok1 D1=>?_));have q4:=D1.k p3;refine tn (wp_seq (wp_seq ?_))
 refine gI a1 s1 ok1 (gM q4 (gS rfl (fun A B E G H d0=>rP (y_len Try.underlying22 (eI d0))) (gS rfl (fun A B E G H d0=>rP (y_gtr (eI d0) rfl)) (gS rfl (fun A B E G H d0=>rP (y_move (eI d0))) (gS rfl (fun A B E G H d0=>gu G (eI d0) fun hg=>y_move (kp (H 3 rfl) E q4)) (gS rfl (fun A B E G H d0 d1=>gu G (eI d1) fun hg=>y_len Try.underlying22 ((ef d0 rfl).1 hg)) (gS rfl (fun A B E G H d0 d1=>gu G (eI d1) fun hg=>y_lss ((ef d0 rfl).1 hg) rfl) (gS rfl (fun A B E G H d0 d1=>rP (y_pick_and (eI d0) (eI d1) rfl)) (gE ok1 fun a2 s2 ok2 D2=>?_)))))))));have F2:=(F0.step0 D1.stp).step0 D2.stp;have q6:=D2.k (D1.k p0);have q7:=D2.k (D1.k p1);refine tn ?_
 refine cond_t (D2.m 7 rfl) (fun c1=>?_) (fun c1=>?_)
 ·
  obtain ⟨d1,d2⟩:=Bool.and_eq_true_iff.mp c1
  replace d1:=of_decide_eq_true d1
  replace d2:=of_decide_eq_true d2
  refine wp_seq ?_
  refine gI a2 s2 ok2 (gC (Ty.bool true) (gE ok2 fun a3 s3 ok3 D3=>?_));refine tn (wp_ret (tr ?_))
  exact retL1 rfl ok3 (F2.step0 D3.stp) (D3.m 0 rfl)
 ·
  refine wp_skip (tn (wp_seq ?_))
  refine gI a2 s2 ok2 (gM q6 (gM q7 (gE2 ok2 fun a4 s4 ok4 D4=>?_)))
  refine tL ok4 (y_callL (L:=[]) [] [(41,61),(42,62),(43,63)] _ rfl dE Try.func17 rfl rfl my2 (gMake_fn (n) (gens) _ lW _ _ (uL (D4.m 0 rfl)) (uL (D4.m 1 rfl))  oX oX oX)) fun a5 s5 hs1 ok5 r1 sm1=>?_
  obtain ⟨t1,⟨g1,g2,x1,x2,x3,hT1,o1,o2,o3,hp1⟩,B1⟩:=r1
  have q25:At (Ty.tup2 (Ty.val x1) (Ty.int (0:Int))) s5 a5 (.tmp 30):=Ty.up _ B1.le hT1
  have o4:OwnP s5 61 x1 [(Ty.nat n),(Ty.val x3),(Ty.val x2)]:=OwnP.ren o1 (B1.ren dE rfl)
  have o5:ChnU s5 62 22 108 x2 n (g1) (g2):=ChnU.ren o2 (B1.ren dE rfl)
  have o6:Own s5 63 22 1 x3 (List.length gens) (List.map Ty.ints gens):=Own.ren o3 (B1.ren dE rfl)
  refine tL ok5 (Yld.toL (y_mv q25)) fun a6 s6 hs2 ok6 r2 sm2=>?_
  have q31:At (Ty.tup2 (Ty.val x1) (Ty.int (0:Int))) s6 a6 (.tmp 27):=r2
  clear r2
  refine tL (R:=(fun v τ=>Pr.has (Ty.pr (Ty.val x1)) τ v)) ok6 (Yld.toL (y_ext2_0 q31)) fun a7 s7 hs3 ok7 r3 sm3=>?_
  have q38:At (Ty.val x1) s7 a7 (.tmp 31):=r3
  clear r3
  refine tL (R:=(fun v τ=>Pr.has (Ty.pr (Ty.int (0:Int))) τ v)) ok7 (Yld.toL (y_ext2_1 (kq hs3 sm3 27 q31))) fun a8 s8 hs4 ok8 r4 sm4=>?_
  have q45:At (Ty.int (0:Int)) s8 a8 (.tmp 32):=r4
  clear r4
  refine tL ok8 (Yld.toL (y_as (kq hs4 sm4 31 q38))) fun a9 s9 hs5 ok9 r5 sm5=>?_
  have q52:At (Ty.val x1) s9 a9 (.tmp 11):=r5
  clear r5
  refine tL ok9 (Yld.toL (y_as (kq hs5 sm5 32 q45))) fun a10 s10 hs6 ok10 r6 sm6=>?_
  have q53:=kq hs6 sm6 0 (kq hs5 sm5 0 (kq hs4 sm4 0 (kq hs3 sm3 0 (kq hs2 sm2 0 (kq hs1 sm1 0 (D4.k q6))))));have q54:=kq hs6 sm6 1 (kq hs5 sm5 1 (kq hs4 sm4 1 (kq hs3 sm3 1 (kq hs2 sm2 1 (kq hs1 sm1 1 (D4.k q7))))))
  have q59:At (Ty.int (0:Int)) s10 a10 (.tmp 12):=r6
  clear r6;refine wpList_nil (tn (wp_seq ?_))
  refine gI a10 s10 ok10 (gM q53 (gM q54 (gS rfl (fun A B E G H d0 d1=>rP (y_call _ Try.func24 rfl rfl my2 (rGensMay_fn (((n:Nat):Int)) (gens) _ _ _ (cvi (σ:=B) oM (ef d0 rfl)) (eI d1) ))) (gB 0 (gE ok10 fun a11 s11 ok11 D5=>?_)))));have q60:=D5.k q53;have q61:=D5.k q54;have q65:=D5.k (kq hs6 sm6 11 q52);have o22:=OwnP.k0 (OwnP.kl (OwnP.kl (OwnP.kl (OwnP.kl (OwnP.kl o4 hs2) hs3) hs4) hs5) hs6) D5.stp;have o23:=ChnU.k0 (ChnU.kl (ChnU.kl (ChnU.kl (ChnU.kl (ChnU.kl o5 hs2) hs3) hs4) hs5) hs6) D5.stp;have o24:=Own.k0 (Own.kl (Own.kl (Own.kl (Own.kl (Own.kl o6 hs2) hs3) hs4) hs5) hs6) D5.stp;have q67:=D5.m 3 rfl;refine tn (wp_seq (wp_seq ?_))
  refine gI a11 s11 ok11 (gM q60 (gM q61 (gS rfl (fun A B E G H d0 d1=>rP (y_call _ Try.func41 rfl rfl my2 (gCheck_fn (((n:Nat):Int)) (gens) _ _ _ (cvi (σ:=B) oM (ef d0 rfl)) (eI d1) ))) (gM q67 (gS rfl (fun A B E G H d0 d1=>rP (y_neq (eI d0) (eI d1))) (gS rfl (fun A B E G H d0 d1=>rP (y_move (eI d0))) (gS rfl (fun A B E G H d0=>gu G (eI d0) fun hg=>y_move (kp (H 12 rfl) E (D5.k q59))) (gS rfl (fun A B E G H d0=>gu G (eI d0) fun hg=>y_move (kp (H 13 rfl) E q67)) (gS rfl (fun A B E G H d0 d1 d2=>gu G (eI d2) fun hg=>y_neq ((ef d0 rfl).1 hg) ((ef d1 rfl).1 hg)) (gS rfl (fun A B E G H d0 d1=>rP (y_pick_or (eI d0) rfl (eI d1))) (gS rfl (fun A B E G H d0 d1=>rP (y_move (eI d0))) (gT (Ty.grd (((decide ((gensMay (((n:Nat):Int)) (gens)) ≠ (gensMay (((n:Nat):Int)) (gens)))) || (decide ((0:Int) ≠ (gensMay (((n:Nat):Int)) (gens))))) = false) (Ty.val x1)) rfl (by intro A B E G H d0;refine run_guard G rfl rfl dE (eI d0) (fun hg=>?_);obtain ⟨d3,d4⟩:=Bool.or_eq_false_iff.mp hg;have d3:=of_decide_eq_false d3;have d4:=of_decide_eq_false d4;exact y_move (kp (H 11 rfl) E q65)) ?_))))))))))))
  refine gT (Ty.grd (((decide ((gensMay (((n:Nat):Int)) (gens)) ≠ (gensMay (((n:Nat):Int)) (gens)))) || (decide ((0:Int) ≠ (gensMay (((n:Nat):Int)) (gens))))) = false) (Ty.bool false)) rfl (by intro A B E G H d0 d1;refine run_guard G rfl rfl dE (eI d1) (fun hg=>?_);obtain ⟨d5,d6⟩:=Bool.or_eq_false_iff.mp hg;have d5:=of_decide_eq_false d5;have d6:=of_decide_eq_false d6;exact y_pnil Try.underlying26 (OwnP.k0 o22 E) ((ef d0 rfl).1 hg) rfl) (gT (Ty.grd (((decide ((gensMay (((n:Nat):Int)) (gens)) ≠ (gensMay (((n:Nat):Int)) (gens)))) || (decide ((0:Int) ≠ (gensMay (((n:Nat):Int)) (gens))))) = false) (Ty.int (gensMay (((n:Nat):Int)) (gens)))) rfl (by intro A B E G H d0;refine run_guard G rfl rfl dE (eI d0) (fun hg=>?_);obtain ⟨d7,d8⟩:=Bool.or_eq_false_iff.mp hg;have d7:=of_decide_eq_false d7;have d8:=of_decide_eq_false d8;exact y_move (kp (H 13 rfl) E q67)) (gT (Ty.grd (((decide ((gensMay (((n:Nat):Int)) (gens)) ≠ (gensMay (((n:Nat):Int)) (gens)))) || (decide ((0:Int) ≠ (gensMay (((n:Nat):Int)) (gens))))) = false) (Ty.bool (decide ((gensMay (((n:Nat):Int)) (gens)) ≠ (0:Int))))) rfl (by intro A B E G H d0 d1;refine run_guard G rfl rfl dE (eI d1) (fun hg=>?_);obtain ⟨d9,d10⟩:=Bool.or_eq_false_iff.mp hg;have d9:=of_decide_eq_false d9;have d10:=of_decide_eq_false d10;exact y_neq ((ef d0 rfl).1 hg) rfl) ?_))
  refine gT (Ty.grd (((decide ((gensMay (((n:Nat):Int)) (gens)) ≠ (gensMay (((n:Nat):Int)) (gens)))) || (decide ((0:Int) ≠ (gensMay (((n:Nat):Int)) (gens))))) = false) (Ty.bool (false != (decide ((gensMay (((n:Nat):Int)) (gens)) ≠ (0:Int)))))) rfl (by intro A B E G H d0 d1 d2;refine run_guard G rfl rfl dE (eI d2) (fun hg=>?_);obtain ⟨d11,d12⟩:=Bool.or_eq_false_iff.mp hg;have d11:=of_decide_eq_false d11;have d12:=of_decide_eq_false d12;exact y_neqB Try.underlying4 ((ef d0 rfl).1 hg) ((ef d1 rfl).1 hg)) (gS rfl (fun A B E G H d0 d1=>rP (y_pick_or (eI d0) rfl (eI d1))) (gE ok11 fun a12 s12 ok12 D6=>?_));have o25:=OwnP.k0 o22 D6.stp;have o26:=ChnU.k0 o23 D6.stp;have o27:=Own.k0 o24 D6.stp;refine tn ?_
  refine cond_t (D6.m 16 rfl) (fun c2=>?_) (fun c2=>?_)
  ·
   exfalso
   simp [hG0] at c2
  ·
   obtain ⟨d13,d14⟩:=Bool.or_eq_false_iff.mp c2
   obtain ⟨d15,d16⟩:=Bool.or_eq_false_iff.mp d13
   replace d15:=of_decide_eq_false d15
   replace d16:=of_decide_eq_false d16
   refine wp_skip (tn (wp_seq (wp_seq ?_)))
   refine gI a12 s12 ok12 (gM (D6.k q67) (gS rfl (fun A B E G H d0=>rP (y_neq (eI d0) rfl)) (gE ok12 fun a13 s13 ok13 D7=>?_)));have q76:=D7.k (D6.k q60);have q77:=D7.k (D6.k q61);have o28:=OwnP.k0 o25 D7.stp;have o29:=ChnU.k0 o26 D7.stp;have o30:=Own.k0 o27 D7.stp;refine tn ?_
   refine cond_p (p:=((gensMay (((n:Nat):Int)) (gens)) ≠ (0:Int))) (D7.m 1 rfl) (fun c3=>?_) (fun c3=>?_)
   ·
    exfalso
    exact c3 hG0
   ·
    refine wp_skip (tn (wp_seq ?_))
    have hw:=hp1.wc
    refine gI a13 s13 ok13 (gM q76 (gM q77 (gS rfl (fun A B E G H d0 d1=>rP (y_call _ Try.func20 rfl rfl my2 (rSizes_fn (n) (gens) _ _ _ (eI d0) (eI d1) (by first | omega | assumption | exact hst1) (by first | omega | assumption | exact hst1) (by first | omega | assumption | exact hst1)))) (gB 0 (gE ok13 fun a14 s14 ok14 D8=>?_)))));have o31:=OwnP.k0 o28 D8.stp;have o32:=ChnU.k0 o29 D8.stp;have o33:=Own.k0 o30 D8.stp;refine tn (wp_seq (wp_seq ?_))
    refine gI a14 s14 ok14 (gE2 ok14 fun a15 s15 ok15 D9=>?_);have q95:=D9.k (D8.k (D7.k (D6.k q65)));have o34:=OwnP.k0 o31 D9.stp;have o35:=ChnU.k0 o32 D9.stp;have o36:=Own.k0 o33 D9.stp
    refine tL ok15 (Yld.toL (y_mv q95)) fun a16 s16 hs7 ok16 r7 sm7=>?_
    have q104:At (Ty.val x1) s16 a16 (.tmp 58):=r7
    clear r7
    refine tL ok16 (y_callL (L:=[41,42,43]) [(61,41),(62,42),(63,43)] [(41,61),(42,62),(43,63)] #[a16.eval (.tmp 58)] rfl dE Try.func42 rfl rfl my1 (gSize_fn (x1) (x3) (x2) ((g2)) (n) ((g1)) (gens) _ lW _ (uL q104) (OwnP.ren (OwnP.kl o34 hs7) (GW.ren_lend _ _ dE rfl)) (ChnU.ren (cvch (by (rfl)) (ChnU.kl o35 hs7)) (GW.ren_lend _ _ dE rfl)) (Own.ren (Own.kl o36 hs7) (GW.ren_lend _ _ dE rfl)) oX oX)) fun a17 s17 hs8 ok17 r8 sm8=>?_
    have q111:=kq hs8 sm8 14 (kq hs7 sm7 14 (D9.k (D8.m 3 rfl)))
    obtain ⟨t2,⟨hT2,o40,o41,o42⟩,B2⟩:=r8
    have q112:At (Ty.nat (szTo n (fun y=>y ∈ gens) n)) s17 a17 (.tmp 59):=Ty.up _ B2.le hT2
    have o43:OwnP s17 61 x1 [(Ty.nat n),(Ty.val x3),(Ty.val x2)]:=OwnP.ren o40 (B2.ren dE rfl)
    have o44:ChnU s17 62 22 108 x2 n ((g1)) ((g2)):=ChnU.ren o41 (B2.ren dE rfl)
    have o45:Own s17 63 22 1 x3 (List.length gens) (List.map Ty.ints gens):=Own.ren o42 (B2.ren dE rfl)
    refine tL ok17 (Yld.toL (y_mv q111)) fun a18 s18 hs9 ok18 r9 sm9=>?_
    have q121:At (Ty.nat (szTo n (fun y=>y ∈ gens) n)) s18 a18 (.tmp 60):=r9
    clear r9
    refine tL (R:=(fun v τ=>Pr.has (Ty.pr (Ty.bool (decide ((((szTo n (fun y=>y ∈ gens) n):Nat):Int) ≠ (((szTo n (fun y=>y ∈ gens) n):Nat):Int))))) τ v)) ok18 (Yld.toL (y_neq (kq hs9 sm9 59 q112) q121)) fun a19 s19 hs10 ok19 r10 sm10=>?_
    have q129:At (Ty.bool (decide ((((szTo n (fun y=>y ∈ gens) n):Nat):Int) ≠ (((szTo n (fun y=>y ∈ gens) n):Nat):Int)))) s19 a19 (.tmp 61):=r10
    clear r10
    refine tL ok19 (Yld.toL (y_mv q129)) fun a20 s20 hs11 ok20 r11 sm11=>?_
    have q135:=kq hs11 sm11 11 (kq hs10 sm10 11 (kq hs9 sm9 11 (kq hs8 sm8 11 (kq hs7 sm7 11 q95))))
    have q137:At (Ty.bool (decide ((((szTo n (fun y=>y ∈ gens) n):Nat):Int) ≠ (((szTo n (fun y=>y ∈ gens) n):Nat):Int)))) s20 a20 (.tmp 62):=r11
    clear r11
    rcases Bool.eq_false_or_eq_true (decide ((((szTo n (fun y=>y ∈ gens) n):Nat):Int) ≠ (((szTo n (fun y=>y ∈ gens) n):Nat):Int))) with hg1 | hg1
    · exact absurd rfl (of_decide_eq_true hg1)
    ·
     have q138:At (Ty.bool false) s20 a20 (.tmp 62):=cvb hg1 q137
     refine tD (T:=(Ty.val x1)) ok20 q138 (y_move q135) fun a21 s21 hs12 ok21 r12 sm12=>?_
     have q146:=kq hs12 sm12 62 q138
     have q147:At (Ty.val x1) s21 a21 (.tmp 63):=r12
     clear r12
     refine tailDo (L:=[61,62,63]) (R:=(fun v τ'=>∃ τ,(fun v τ=>(Ty.has (Ty.nat n) τ v)∧(OwnP τ 41 x1 [(Ty.nat n),(Ty.val x3),(Ty.val x2)])∧(ChnU τ 42 22 108 x2 n (((g1))) (((g2))))∧(Own τ 43 22 1 x3 (List.length gens) (List.map Ty.ints gens))) v τ∧Back [(41,61),(42,62),(43,63)] τ τ')) ok21 rfl rfl dE q146 rfl rfl dE (y_callL (L:=[41,42,43]) [(61,41),(62,42),(63,43)] [(41,61),(42,62),(43,63)] #[a21.eval (.tmp 63)] rfl dE Try.func43 rfl rfl my1 (gBells_fn (x1) (x3) (x2) (((g2))) (n) (((g1))) (gens) _ lW _ (uL q147) (OwnP.ren (OwnP.kl (OwnP.kl (OwnP.kl (OwnP.kl o43 hs9) hs10) hs11) hs12) (GW.ren_lend _ _ dE rfl)) (ChnU.ren (cvch (by (rfl)) (ChnU.kl (ChnU.kl (ChnU.kl (ChnU.kl o44 hs9) hs10) hs11) hs12)) (GW.ren_lend _ _ dE rfl)) (Own.ren (Own.kl (Own.kl (Own.kl (Own.kl o45 hs9) hs10) hs11) hs12) (GW.ren_lend _ _ dE rfl)) )) (fun a22 s22 hs13 ok22 r13 sm13=>?_)
     have q148:=kq hs13 sm13 0 (kq hs12 sm12 0 (kq hs11 sm11 0 (kq hs10 sm10 0 (kq hs9 sm9 0 (kq hs8 sm8 0 (kq hs7 sm7 0 (D9.k (D8.k q76))))))));have q155:=kq hs13 sm13 62 q146
     obtain ⟨t3,⟨hT3,o58,o59,o60⟩,B3⟩:=r13
     have q156:At (Ty.nat n) s22 a22 (.tmp 64):=Ty.up _ B3.le hT3
     have o61:OwnP s22 61 x1 [(Ty.nat n),(Ty.val x3),(Ty.val x2)]:=OwnP.ren o58 (B3.ren dE rfl)
     have o62:ChnU s22 62 22 108 x2 n (((g1))) (((g2))):=ChnU.ren o59 (B3.ren dE rfl)
     have o63:Own s22 63 22 1 x3 (List.length gens) (List.map Ty.ints gens):=Own.ren o60 (B3.ren dE rfl)
     refine tD (T:=(Ty.nat n)) ok22 q155 (y_move q148) fun a23 s23 hs14 ok23 r14 sm14=>?_
     have q164:=kq hs14 sm14 62 q155
     have q166:At (Ty.nat n) s23 a23 (.tmp 65):=r14
     clear r14
     refine tD (T:=(Ty.bool (decide (((n:Nat):Int) ≠ ((n:Nat):Int))))) ok23 q164 (y_neq (kq hs14 sm14 64 q156) q166) fun a24 s24 hs15 ok24 r15 sm15=>?_
     have q175:At (Ty.bool (decide (((n:Nat):Int) ≠ ((n:Nat):Int)))) s24 a24 (.tmp 66):=r15
     clear r15
     refine tL (R:=(fun v τ=>Pr.has (Ty.pr (Ty.bool (decide (((n:Nat):Int) ≠ ((n:Nat):Int))))) τ v)) ok24 (Yld.toL (y_pickF (kq hs15 sm15 62 q164) q175)) fun a25 s25 hs16 ok25 r16 sm16=>?_
     have q179:=kq hs16 sm16 3 (kq hs15 sm15 3 (kq hs14 sm14 3 (kq hs13 sm13 3 (kq hs12 sm12 3 (kq hs11 sm11 3 (kq hs10 sm10 3 (kq hs9 sm9 3 (kq hs8 sm8 3 (kq hs7 sm7 3 (D9.k (D8.k (D7.k (D6.k (D5.k (kq hs6 sm6 3 (kq hs5 sm5 3 (kq hs4 sm4 3 (kq hs3 sm3 3 (kq hs2 sm2 3 (kq hs1 sm1 3 (D4.k (D2.k q4))))))))))))))))))))));have q181:=kq hs16 sm16 11 (kq hs15 sm15 11 (kq hs14 sm14 11 (kq hs13 sm13 11 (kq hs12 sm12 11 q135))))
     have q183:At (Ty.bool (decide (((n:Nat):Int) ≠ ((n:Nat):Int)))) s25 a25 (.tmp 67):=r16
     clear r16;refine wpList_nil (tn ?_)
     refine cond_p (p:=(((n:Nat):Int) ≠ ((n:Nat):Int))) q183 (fun c4=>?_) (fun c4=>?_)
     ·
      exfalso
      simp at c4
     ·
      refine wp_skip (tn (wp_seq ?_))
      refine gI a25 s25 ok25 (gM q181 (gM q179 (gE2 ok25 fun a26 s26 ok26 D10=>?_)));have o73:=OwnP.k0 (OwnP.kl (OwnP.kl (OwnP.kl o61 hs14) hs15) hs16) D10.stp;have o74:=ChnU.k0 (ChnU.kl (ChnU.kl (ChnU.kl o62 hs14) hs15) hs16) D10.stp;have o75:=Own.k0 (Own.kl (Own.kl (Own.kl o63 hs14) hs15) hs16) D10.stp
      have q191:At (Ty.val x1) s26 a26 (.tmp 69):=D10.done 0 dE
      refine tL ok26 (y_callL (L:=[41,43]) [(61,41),(63,43)] [(41,61),(43,63)] #[a26.eval (.tmp 69),a26.eval (.tmp 70)] rfl dE Try.func44 rfl rfl my2 (gSay_fn (x1) (x3) (x2) (n) (gens) (word) _ lW _ _ (uL q191) (uL (D10.m 1 rfl)) (OwnP.ren o73 (GW.ren_lend _ _ dE rfl)) (Own.ren o75 (GW.ren_lend _ _ dE rfl)) oX oX oX)) fun a27 s27 hs17 ok27 r17 sm17=>?_
      obtain ⟨t4,⟨hT4,o76,o77⟩,B4⟩:=r17
      have q200:At (Ty.tup2 (Ty.lst Ty.int (sayR n gens (word))) (Ty.int (sayE gens (word)))) s27 a27 (.tmp 71):=Ty.up _ B4.le hT4
      have o78:OwnP s27 61 x1 [(Ty.nat n),(Ty.val x3),(Ty.val x2)]:=OwnP.ren o76 (B4.ren dE rfl)
      have o79:Own s27 63 22 1 x3 (List.length gens) (List.map Ty.ints gens):=Own.ren o77 (B4.ren dE rfl)
      refine tL ok27 (Yld.toL (y_mv q200)) fun a28 s28 hs18 ok28 r18 sm18=>?_
      have q208:At (Ty.tup2 (Ty.lst Ty.int (sayR n gens (word))) (Ty.int (sayE gens (word)))) s28 a28 (.tmp 68):=r18
      clear r18
      refine tL (R:=(fun v τ=>Pr.has (Ty.pr (Ty.lst Ty.int (sayR n gens (word)))) τ v)) ok28 (Yld.toL (y_ext2_0 q208)) fun a29 s29 hs19 ok29 r19 sm19=>?_
      have q217:At (Ty.lst Ty.int (sayR n gens (word))) s29 a29 (.tmp 72):=r19
      clear r19
      refine tL (R:=(fun v τ=>Pr.has (Ty.pr (Ty.int (sayE gens (word)))) τ v)) ok29 (Yld.toL (y_ext2_1 (kq hs19 sm19 68 q208))) fun a30 s30 hs20 ok30 r20 sm20=>?_
      have q226:At (Ty.int (sayE gens (word))) s30 a30 (.tmp 73):=r20
      clear r20
      refine tL ok30 (Yld.toL (y_as (kq hs20 sm20 72 q217))) fun a31 s31 hs21 ok31 r21 sm21=>?_
      have q235:At (Ty.lst Ty.int (sayR n gens (word))) s31 a31 (.tmp 15):=r21
      clear r21
      refine tL ok31 (Yld.toL (y_as (kq hs21 sm21 73 q226))) fun a32 s32 hs22 ok32 r22 sm22=>?_
      have q236:=kq hs22 sm22 0 (kq hs21 sm21 0 (kq hs20 sm20 0 (kq hs19 sm19 0 (kq hs18 sm18 0 (kq hs17 sm17 0 (D10.k (kq hs16 sm16 0 (kq hs15 sm15 0 (kq hs14 sm14 0 q148)))))))));have q237:=kq hs22 sm22 1 (kq hs21 sm21 1 (kq hs20 sm20 1 (kq hs19 sm19 1 (kq hs18 sm18 1 (kq hs17 sm17 1 (D10.k (kq hs16 sm16 1 (kq hs15 sm15 1 (kq hs14 sm14 1 (kq hs13 sm13 1 (kq hs12 sm12 1 (kq hs11 sm11 1 (kq hs10 sm10 1 (kq hs9 sm9 1 (kq hs8 sm8 1 (kq hs7 sm7 1 (D9.k (D8.k q77))))))))))))))))))
      have q244:At (Ty.int (sayE gens (word))) s32 a32 (.tmp 12):=r22
      clear r22;refine wpList_nil (tn (wp_seq ?_))
      refine gI a32 s32 ok32 (gM q236 (gM q237 (gM (kq hs22 sm22 3 (kq hs21 sm21 3 (kq hs20 sm20 3 (kq hs19 sm19 3 (kq hs18 sm18 3 (kq hs17 sm17 3 (D10.k q179))))))) (gS rfl (fun A B E G H d0 d1 d2=>rP (y_call _ Try.func45 rfl rfl my3 (rSay_fn (n) (gens) (word) _ _ _ _ (eI d0) (eI d1) (eI d2) oX oX oX oX))) (gS rfl (fun A B E G H d0=>rP (y_move (eI d0))) (gT (Ty.lst Ty.int (sayR n (gens) (word))) rfl (fun A B E G H d0=>rP (y_ext2_0 (eI d0))) (gT (Ty.int (sayE (gens) (word))) rfl (fun A B E G H d0 d1=>rP (y_ext2_1 (eI d0))) (gB 0 (gB 0 (gE ok32 fun a33 s33 ok33 D11=>?_))))))))));have o96:=ChnU.k0 (ChnU.kl (ChnU.kl (ChnU.kl (ChnU.kl (ChnU.kl (ChnU.kl o74 hs17) hs18) hs19) hs20) hs21) hs22) D11.stp;have o97:=OwnP.k0 (OwnP.kl (OwnP.kl (OwnP.kl (OwnP.kl (OwnP.kl o78 hs18) hs19) hs20) hs21) hs22) D11.stp;have o98:=Own.k0 (Own.kl (Own.kl (Own.kl (Own.kl (Own.kl o79 hs18) hs19) hs20) hs21) hs22) D11.stp;refine tn (wp_seq (wp_seq ?_))
      refine gI a33 s33 ok33 (gM (D11.k q244) (gM (D11.m 8 rfl) (gS rfl (fun A B E G H d0 d1=>rP (y_neq (eI d0) (eI d1))) (gS rfl (fun A B E G H d0=>rP (y_move (eI d0))) (gS rfl (fun A B E G H d0=>gu G (eI d0) fun hg=>y_move (kp (H 15 rfl) E (D11.k (kq hs22 sm22 15 q235)))) (gS rfl (fun A B E G H d0=>gu G (eI d0) fun hg=>y_move (kp (H 16 rfl) E (D11.m 7 rfl))) (gS rfl (fun A B E G H d0 d1 d2 d3=>guf G (eI d2) fun hg hp=>y_call _ Try.func37 rfl rfl my2 (rsame_fn ((sayR n gens (word))) ((sayR n (gens) (word))) _ _ _ ((ef d0 rfl).1 hg) ((ef d1 rfl).1 hg) )) (gS rfl (fun A B E G H d0 d1=>gu G (eI d1) fun hg=>y_not ((ef d0 rfl).1 hg)) (gS rfl (fun A B E G H d0 d1=>rP (y_pick_or (eI d0) rfl (eI d1))) (gE ok33 fun a34 s34 ok34 D12=>?_))))))))));have q257:=D12.k (D11.k (kq hs22 sm22 2 (kq hs21 sm21 2 (kq hs20 sm20 2 (kq hs19 sm19 2 (kq hs18 sm18 2 (kq hs17 sm17 2 (D10.k (kq hs16 sm16 2 (kq hs15 sm15 2 (kq hs14 sm14 2 (kq hs13 sm13 2 (kq hs12 sm12 2 (kq hs11 sm11 2 (kq hs10 sm10 2 (kq hs9 sm9 2 (kq hs8 sm8 2 (kq hs7 sm7 2 (D9.k (D8.k (D7.k (D6.k (D5.k (kq hs6 sm6 2 (kq hs5 sm5 2 (kq hs4 sm4 2 (kq hs3 sm3 2 (kq hs2 sm2 2 (kq hs1 sm1 2 (D4.k (D2.k (D1.k p2))))))))))))))))))))))))))))))));have o99:=ChnU.k0 o96 D12.stp;have o100:=OwnP.k0 o97 D12.stp;have o101:=Own.k0 o98 D12.stp;refine tn ?_
      refine cond_t (D12.m 8 rfl) (fun c5=>?_) (fun c5=>?_)
      ·
       exfalso
       simp at c5
      ·
       obtain ⟨d17,d18⟩:=Bool.or_eq_false_iff.mp c5
       replace d17:=of_decide_eq_false d17
       refine wp_skip (tn (wp_seq ?_))
       refine gI a34 s34 ok34 (gM q257 (gS rfl (fun A B E G H d0=>rP (y_call _ Try.func36 rfl rfl my1 (rRowMay_fn (r) _ _ (eI d0) ))) (gB 0 (gE ok34 fun a35 s35 ok35 D13=>?_))));have q262:=D13.k (D12.k (D11.k q236));have q264:=D13.k q257;have o102:=ChnU.k0 o99 D13.stp;have o103:=OwnP.k0 o100 D13.stp;have o104:=Own.k0 o101 D13.stp;have q268:=D13.m 2 rfl;refine tn (wp_seq (wp_seq ?_))
       refine gI a35 s35 ok35 (gM q268 (gS rfl (fun A B E G H d0=>rP (y_eql (eI d0) rfl)) (gS rfl (fun A B E G H d0=>rP (y_move (eI d0))) (gS rfl (fun A B E G H d0=>gu G (eI d0) fun hg=>y_move (kp (H 2 rfl) E q264)) (gS rfl (fun A B E G H d0 d1=>gu G (eI d1) fun hg=>y_len Try.underlying22 ((ef d0 rfl).1 hg)) (gS rfl (fun A B E G H d0=>gu G (eI d0) fun hg=>y_move (kp (H 0 rfl) E q262)) (gS rfl (fun A B E G H d0 d1 d2=>gu G (eI d2) fun hg=>y_neq ((ef d0 rfl).1 hg) ((ef d1 rfl).1 hg)) (gS rfl (fun A B E G H d0 d1=>rP (y_pick_and (eI d0) (eI d1) rfl)) (gE ok35 fun a36 s36 ok36 D14=>?_)))))))));have F36:=((((((((((((((((((((((((((((((((F2.step0 D4.stp).sl hs1).sl hs2).sl hs3).sl hs4).sl hs5).sl hs6).step0 D5.stp).step0 D6.stp).step0 D7.stp).step0 D8.stp).step0 D9.stp).sl hs7).sl hs8).sl hs9).sl hs10).sl hs11).sl hs12).sl hs13).sl hs14).sl hs15).sl hs16).step0 D10.stp).sl hs17).sl hs18).sl hs19).sl hs20).sl hs21).sl hs22).step0 D11.stp).step0 D12.stp).step0 D13.stp).step0 D14.stp;have q269:=D14.k q262;have q270:=D14.k (D13.k (D12.k (D11.k q237)));have q271:=D14.k q264;have q272:=D14.k (D13.k (D12.k (D11.k (kq hs22 sm22 4 (kq hs21 sm21 4 (kq hs20 sm20 4 (kq hs19 sm19 4 (kq hs18 sm18 4 (kq hs17 sm17 4 (D10.k (kq hs16 sm16 4 (kq hs15 sm15 4 (kq hs14 sm14 4 (kq hs13 sm13 4 (kq hs12 sm12 4 (kq hs11 sm11 4 (kq hs10 sm10 4 (kq hs9 sm9 4 (kq hs8 sm8 4 (kq hs7 sm7 4 (D9.k (D8.k (D7.k (D6.k (D5.k (kq hs6 sm6 4 (kq hs5 sm5 4 (kq hs4 sm4 4 (kq hs3 sm3 4 (kq hs2 sm2 4 (kq hs1 sm1 4 (D4.k (D2.k (D1.k p4))))))))))))))))))))))))))))))))));have q273:=D14.k (D13.k (D12.k (D11.k (kq hs22 sm22 11 (kq hs21 sm21 11 (kq hs20 sm20 11 (kq hs19 sm19 11 (kq hs18 sm18 11 (kq hs17 sm17 11 (D10.k q181))))))))));have q274:=D14.k (D13.k (D12.k (D11.k (kq hs22 sm22 14 (kq hs21 sm21 14 (kq hs20 sm20 14 (kq hs19 sm19 14 (kq hs18 sm18 14 (kq hs17 sm17 14 (D10.k (kq hs16 sm16 14 (kq hs15 sm15 14 (kq hs14 sm14 14 (kq hs13 sm13 14 (kq hs12 sm12 14 (kq hs11 sm11 14 (kq hs10 sm10 14 (kq hs9 sm9 14 q111))))))))))))))))));have o105:=ChnU.k0 o102 D14.stp;have o106:=OwnP.k0 o103 D14.stp;have o107:=Own.k0 o104 D14.stp;refine tn ?_
       refine Go.KL.join_then (Q':=fun a37 w1=>∃ (t5:GW),t5.w = w1∧FromL [] s0 t5∧Ok 142 [] a37∧At (Ty.int (fitsE n r)) t5 a37 (.tmp 13)∧At (Ty.nat n) t5 a37 (.tmp 0)∧At (Ty.lst Ty.ints gens) t5 a37 (.tmp 1)∧At (Ty.lst Ty.int r) t5 a37 (.tmp 2)∧At (Ty.int bell) t5 a37 (.tmp 4)∧At (Ty.val x1) t5 a37 (.tmp 11)∧At (Ty.nat (szTo n (fun y=>y ∈ gens) n)) t5 a37 (.tmp 14)∧ChnU t5 62 22 108 x2 n (((g1))) (((g2)))∧OwnP t5 61 x1 [(Ty.nat n),(Ty.val x3),(Ty.val x2)]∧Own t5 63 22 1 x3 (List.length gens) (List.map Ty.ints gens)∧True) ?_ ?_
       ·
        refine cond_t (D14.m 7 rfl) (fun c6=>?_) (fun c6=>?_)
        ·
         obtain ⟨d19,d20⟩:=Bool.and_eq_true_iff.mp c6
         replace d19:=of_decide_eq_true d19
         replace d20:=of_decide_eq_true d20
         refine gI a36 s36 ok36 (gC (Ty.int (1:Int)) (gE ok36 fun a38 s37 ok37 D15=>?_));have o108:=ChnU.k0 o105 D15.stp;have o109:=OwnP.k0 o106 D15.stp;have o110:=Own.k0 o107 D15.stp
         exact tn ⟨s37,rfl,(F36.step0 D15.stp),ok37,(cvi (by (simp only [Bool.and_eq_true,decide_eq_true_eq] at c6;unfold fitsE;rw [if_neg (fun h_=>h_ c6.1),if_pos oM])) (D15.m 0 rfl)),(D15.k q269),(D15.k q270),(D15.k q271),(D15.k q272),(D15.k q273),(D15.k q274),o108,o109,o110,trivial⟩
        ·
         refine wp_skip ?_
         exact tn ⟨s36,rfl,F36,ok36,(cvi (by (simp only [Bool.and_eq_false_iff,decide_eq_false_iff_not] at c6;unfold fitsE;(by_cases h_:rowMay r = 0;(rw [if_neg (fun h2_=>h2_ h_),if_neg oM];exact h_);(rw [if_pos h_])))) (D14.k q268)),q269,q270,q271,q272,q273,q274,o105,o106,o107,trivial⟩
       ·
        rintro a39 w2 ⟨t6,rfl,F38,ok38,q284,q285,q286,q287,q288,q289,q290,o111,o112,o113,-⟩
        refine wp_seq ?_
        refine gI a39 t6 ok38 (gM q289 (gM q287 (gE2 ok38 fun a40 s38 ok39 D16=>?_)));have o114:=ChnU.k0 o111 D16.stp;have o115:=OwnP.k0 o112 D16.stp;have o116:=Own.k0 o113 D16.stp
        have q298:At (Ty.val x1) s38 a40 (.tmp 101):=D16.done 0 dE
        refine tL ok39 (y_callL (L:=[41,42]) [(61,41),(62,42)] [(41,61),(42,62)] #[a40.eval (.tmp 101),a40.eval (.tmp 102)] rfl dE Try.func46 rfl rfl my2 (gHas_fn (x1) (x3) (x2) ((((g2)))) (n) ((((g1)))) (r) _ lW _ _ (uL q298) (uL (D16.m 1 rfl)) (OwnP.ren o115 (GW.ren_lend _ _ dE rfl)) (ChnU.ren (cvch (by (rfl)) o114) (GW.ren_lend _ _ dE rfl)) oX)) fun a41 s39 hs23 ok40 r23 sm23=>?_
        obtain ⟨t7,⟨hT5,o117,o118⟩,B5⟩:=r23
        have q307:At (Ty.tup2 (Ty.bool (hasB n ((((g1)))) r)) (Ty.int (fitsE n r))) s39 a41 (.tmp 103):=Ty.up _ B5.le hT5
        have o119:OwnP s39 61 x1 [(Ty.nat n),(Ty.val x3),(Ty.val x2)]:=OwnP.ren o117 (B5.ren dE rfl)
        have o120:ChnU s39 62 22 108 x2 n ((((g1)))) ((((g2)))):=ChnU.ren o118 (B5.ren dE rfl)
        refine tL ok40 (Yld.toL (y_mv q307)) fun a42 s40 hs24 ok41 r24 sm24=>?_
        have q315:At (Ty.tup2 (Ty.bool (hasB n ((((g1)))) r)) (Ty.int (fitsE n r))) s40 a42 (.tmp 100):=r24
        clear r24
        refine tL (R:=(fun v τ=>Pr.has (Ty.pr (Ty.bool (hasB n ((((g1)))) r))) τ v)) ok41 (Yld.toL (y_ext2_0 q315)) fun a43 s41 hs25 ok42 r25 sm25=>?_
        have q324:At (Ty.bool (hasB n ((((g1)))) r)) s41 a43 (.tmp 104):=r25
        clear r25
        refine tL (R:=(fun v τ=>Pr.has (Ty.pr (Ty.int (fitsE n r))) τ v)) ok42 (Yld.toL (y_ext2_1 (kq hs25 sm25 100 q315))) fun a44 s42 hs26 ok43 r26 sm26=>?_
        have q333:At (Ty.int (fitsE n r)) s42 a44 (.tmp 105):=r26
        clear r26
        refine tL ok43 (Yld.toL (y_as (kq hs26 sm26 104 q324))) fun a45 s43 hs27 ok44 r27 sm27=>?_
        have q342:At (Ty.bool (hasB n ((((g1)))) r)) s43 a45 (.tmp 17):=r27
        clear r27
        refine tL ok44 (Yld.toL (y_as (kq hs27 sm27 105 q333))) fun a46 s44 hs28 ok45 r28 sm28=>?_
        have q351:At (Ty.int (fitsE n r)) s44 a46 (.tmp 12):=r28
        clear r28;refine wpList_nil (tn (wp_seq ?_))
        refine gI a46 s44 ok45 (gE2 ok45 fun a47 s45 ok46 D17=>?_);have q352:=D17.k (kq hs28 sm28 13 (kq hs27 sm27 13 (kq hs26 sm26 13 (kq hs25 sm25 13 (kq hs24 sm24 13 (kq hs23 sm23 13 (D16.k q284)))))));have o137:=Own.k0 (Own.kl (Own.kl (Own.kl (Own.kl (Own.kl (Own.kl o116 hs23) hs24) hs25) hs26) hs27) hs28) D17.stp;have o138:=OwnP.k0 (OwnP.kl (OwnP.kl (OwnP.kl (OwnP.kl (OwnP.kl o119 hs24) hs25) hs26) hs27) hs28) D17.stp;have o139:=ChnU.k0 (ChnU.kl (ChnU.kl (ChnU.kl (ChnU.kl (ChnU.kl o120 hs24) hs25) hs26) hs27) hs28) D17.stp
        refine tL ok46 (Yld.toL (y_mv q352)) fun a48 s46 hs29 ok47 r29 sm29=>?_
        have q370:At (Ty.int (fitsE n r)) s46 a48 (.tmp 106):=r29
        clear r29
        refine tL (R:=(fun v τ=>Pr.has (Ty.pr (Ty.bool (decide ((fitsE n r) = (0:Int))))) τ v)) ok47 (Yld.toL (y_eql q370 rfl)) fun a49 s47 hs30 ok48 r30 sm30=>?_
        have q380:At (Ty.bool (decide ((fitsE n r) = (0:Int)))) s47 a49 (.tmp 107):=r30
        clear r30
        refine tL ok48 (Yld.toL (y_mv q380)) fun a50 s48 hs31 ok49 r31 sm31=>?_
        have F49:=((((((((((F38.step0 D16.stp).sl hs23).sl hs24).sl hs25).sl hs26).sl hs27).sl hs28).step0 D17.stp).sl hs29).sl hs30).sl hs31;have q381:=kq hs31 sm31 13 (kq hs30 sm30 13 (kq hs29 sm29 13 q352));have q382:=kq hs31 sm31 0 (kq hs30 sm30 0 (kq hs29 sm29 0 (D17.k (kq hs28 sm28 0 (kq hs27 sm27 0 (kq hs26 sm26 0 (kq hs25 sm25 0 (kq hs24 sm24 0 (kq hs23 sm23 0 (D16.k q285))))))))));have q383:=kq hs31 sm31 1 (kq hs30 sm30 1 (kq hs29 sm29 1 (D17.k (kq hs28 sm28 1 (kq hs27 sm27 1 (kq hs26 sm26 1 (kq hs25 sm25 1 (kq hs24 sm24 1 (kq hs23 sm23 1 (D16.k q286))))))))));have q384:=kq hs31 sm31 2 (kq hs30 sm30 2 (kq hs29 sm29 2 (D17.k (kq hs28 sm28 2 (kq hs27 sm27 2 (kq hs26 sm26 2 (kq hs25 sm25 2 (kq hs24 sm24 2 (kq hs23 sm23 2 (D16.k q287))))))))));have q385:=kq hs31 sm31 4 (kq hs30 sm30 4 (kq hs29 sm29 4 (D17.k (kq hs28 sm28 4 (kq hs27 sm27 4 (kq hs26 sm26 4 (kq hs25 sm25 4 (kq hs24 sm24 4 (kq hs23 sm23 4 (D16.k q288))))))))));have q386:=kq hs31 sm31 11 (kq hs30 sm30 11 (kq hs29 sm29 11 (D17.k (kq hs28 sm28 11 (kq hs27 sm27 11 (kq hs26 sm26 11 (kq hs25 sm25 11 (kq hs24 sm24 11 (kq hs23 sm23 11 (D16.k q289))))))))));have q387:=kq hs31 sm31 14 (kq hs30 sm30 14 (kq hs29 sm29 14 (D17.k (kq hs28 sm28 14 (kq hs27 sm27 14 (kq hs26 sm26 14 (kq hs25 sm25 14 (kq hs24 sm24 14 (kq hs23 sm23 14 (D16.k q290))))))))));have q388:=kq hs31 sm31 17 (kq hs30 sm30 17 (kq hs29 sm29 17 (D17.k (kq hs28 sm28 17 q342))));have q389:=kq hs31 sm31 12 (kq hs30 sm30 12 (kq hs29 sm29 12 (D17.k q351)));have o146:=Own.kl (Own.kl (Own.kl o137 hs29) hs30) hs31;have o147:=OwnP.kl (OwnP.kl (OwnP.kl o138 hs29) hs30) hs31;have o148:=ChnU.kl (ChnU.kl (ChnU.kl o139 hs29) hs30) hs31
        have q390:At (Ty.bool (decide ((fitsE n r) = (0:Int)))) s48 a50 (.tmp 108):=r31
        clear r31
        rcases Bool.eq_false_or_eq_true (decide ((fitsE n r) = (0:Int))) with hg2 | hg2
        ·
         have q391:At (Ty.bool true) s48 a50 (.tmp 108):=cvb hg2 q390
         have hf0:fitsE n r = 0:=of_decide_eq_true hg2
         have hrn:=fits_ok.1 hf0
         have hhas:=has_szB hp1 hG hrn
         have hGr:∀ x ∈ gens ++ [r],RowN n x:=(fun x hx=>(List.mem_append.1 hx).elim (hG x) (fun h=>(by rw [List.mem_singleton.1 h];exact hrn)))
         have hGrl:(gens ++ [r]).length ≤ 1000:=(by rw [List.length_append,List.length_singleton];omega)
         refine tD (T:=(Ty.nat n)) ok49 q391 (y_move q382) fun a51 s49 hs32 ok50 r32 sm32=>?_
         have q401:=kq hs32 sm32 108 q391
         have q402:At (Ty.nat n) s49 a51 (.tmp 109):=r32
         clear r32
         refine tailDo (L:=[]) (R:=(fun v τ=>Pr.has (Pr.own 20 22 1 0 (List.map Ty.ints ([]:List (List Int)))) τ v)) ok50 rfl rfl dE q401 rfl rfl dE (Yld.toL ((y_lit0 (k:=20) Try.underlying24 Try.inf22).mono (fun _ _ h=>cvo (by simp) (by simp) h))) (fun a52 s50 hs33 ok51 r33 sm33=>?_)
         have q405:=kq hs33 sm33 1 (kq hs32 sm32 1 q383);have q412:=kq hs33 sm33 108 q401
         obtain ⟨x4,hx1⟩:∃ x,a52.eval (.tmp 110) = x:=⟨_,rfl⟩
         have q414:At (Ty.val x4) s50 a52 (.tmp 110):=hx1
         have o152:=al2 (R:=(Pr.own 20 22 1 0 (List.map Ty.ints ([]:List (List Int))))) hx1 r33
         clear r33
         refine tD (T:=(Ty.lst Ty.ints gens)) ok51 q412 (y_move q405) fun a53 s51 hs34 ok52 r34 sm34=>?_
         have q424:=kq hs34 sm34 108 q412
         have q427:At (Ty.lst Ty.ints gens) s51 a53 (.tmp 111):=r34
         clear r34
         refine tailDo (L:=[20]) (R:=(fun v τ=>Own τ 20 22 1 v (0 + (List.length gens)) ((List.map Ty.ints ([]:List (List Int))) ++ (List.map Ty.ints gens)))) ok52 rfl rfl dE q424 rfl rfl dE (YldM.toL (m_append Try.underlying24 Try.inf22 dE rfl dE (al (R:=(Pr.own 20 22 1 0 (List.map Ty.ints ([]:List (List Int))))) (kq hs34 sm34 110 q414) (Own.kl o152 hs34)) q427 (one_map (fun _=>one_sl)) oM oM)) (fun a54 s52 hs35 ok53 r35 sm35=>?_)
         have q431:=kq hs35 sm35 2 (kq hs34 sm34 2 (kq hs33 sm33 2 (kq hs32 sm32 2 q384)));have q437:=kq hs35 sm35 108 q424
         obtain ⟨x5,hx2⟩:∃ x,a54.eval (.tmp 112) = x:=⟨_,rfl⟩
         have q439:At (Ty.val x5) s52 a54 (.tmp 112):=hx2
         have o160:=al2 (R:=(Pr.own 20 22 1 (List.length gens) (List.map Ty.ints gens))) hx2 (cvo (by first | (simp;done) | (simp;omega)) (by first | (rw [List.map_append];rfl) | simp) r35)
         clear r35
         refine tD (T:=(Ty.lst Ty.int r)) ok53 q437 (y_move q431) fun a55 s53 hs36 ok54 r36 sm36=>?_
         have q449:=kq hs36 sm36 108 q437
         have q452:At (Ty.lst Ty.int r) s53 a55 (.tmp 113):=r36
         clear r36
         refine tD (T:=(Ty.sl 1 1 [(Ty.lst Ty.int r)])) ok54 q449 (y_build1o Try.underlying24 Try.inf22 rfl (one_sl) q452) fun a56 s54 hs37 ok55 r37 sm37=>?_
         have q462:=kq hs37 sm37 108 q449
         have q465:At (Ty.sl 1 1 [(Ty.lst Ty.int r)]) s54 a56 (.tmp 114):=r37
         clear r37
         refine tailDo (L:=[20]) (R:=(fun v τ=>Own τ 20 22 1 v ((List.length gens) + 1) ((List.map Ty.ints gens) ++ [(Ty.lst Ty.int r)]))) ok55 rfl rfl dE q462 rfl rfl dE (YldM.toL (m_append Try.underlying24 Try.inf22 dE rfl dE (al (R:=(Pr.own 20 22 1 (List.length gens) (List.map Ty.ints gens))) (kq hs37 sm37 112 (kq hs36 sm36 112 q439)) (Own.kl (Own.kl o160 hs36) hs37)) q465 (by intro U hU;simp at hU;subst hU;exact one_sl) oM oM)) (fun a57 s55 hs38 ok56 r38 sm38=>?_)
         obtain ⟨x6,hx3⟩:∃ x,a57.eval (.tmp 115) = x:=⟨_,rfl⟩
         have q477:At (Ty.val x6) s55 a57 (.tmp 115):=hx3
         have o172:=al2 (R:=(Pr.own 20 22 1 (List.length (gens ++ [r])) (List.map Ty.ints (gens ++ [r])))) hx3 (cvo (by simp) (by first | (rw [List.map_append];rfl) | simp) r38)
         clear r38
         obtain ⟨t8,e1,h1,q478⟩:=Own.seal o172 dE
         rw [← e1]
         have F57:=(((((((F49.sl hs32).sl hs33).sl hs34).sl hs35).sl hs36).sl hs37).sl hs38).step h1 dE;have o176:=Own.keepL (Own.kl (Own.kl (Own.kl (Own.kl (Own.kl (Own.kl (Own.kl o146 hs32) hs33) hs34) hs35) hs36) hs37) hs38) (h1.toL (L:=[20]) (by simp)) dE dE;have o177:=OwnP.keepL (OwnP.kl (OwnP.kl (OwnP.kl (OwnP.kl (OwnP.kl (OwnP.kl (OwnP.kl o147 hs32) hs33) hs34) hs35) hs36) hs37) hs38) (h1.toL (L:=[20]) (by simp)) dE dE;have o178:=ChnU.keepL (ChnU.kl (ChnU.kl (ChnU.kl (ChnU.kl (ChnU.kl (ChnU.kl (ChnU.kl o148 hs32) hs33) hs34) hs35) hs36) hs37) hs38) (h1.toL (L:=[20]) (by simp)) dE dE;have q479:=Ty.up (Ty.int (fitsE n r)) (h1.le dE) (kq hs38 sm38 13 (kq hs37 sm37 13 (kq hs36 sm36 13 (kq hs35 sm35 13 (kq hs34 sm34 13 (kq hs33 sm33 13 (kq hs32 sm32 13 q381)))))));have q480:=Ty.up (Ty.nat n) (h1.le dE) (kq hs38 sm38 0 (kq hs37 sm37 0 (kq hs36 sm36 0 (kq hs35 sm35 0 (kq hs34 sm34 0 (kq hs33 sm33 0 (kq hs32 sm32 0 q382)))))));have q481:=Ty.up (Ty.lst Ty.ints gens) (h1.le dE) (kq hs38 sm38 1 (kq hs37 sm37 1 (kq hs36 sm36 1 (kq hs35 sm35 1 (kq hs34 sm34 1 q405)))));have q482:=Ty.up (Ty.lst Ty.int r) (h1.le dE) (kq hs38 sm38 2 (kq hs37 sm37 2 (kq hs36 sm36 2 q431)));have q483:=Ty.up (Ty.int bell) (h1.le dE) (kq hs38 sm38 4 (kq hs37 sm37 4 (kq hs36 sm36 4 (kq hs35 sm35 4 (kq hs34 sm34 4 (kq hs33 sm33 4 (kq hs32 sm32 4 q385)))))));have q484:=Ty.up (Ty.val x1) (h1.le dE) (kq hs38 sm38 11 (kq hs37 sm37 11 (kq hs36 sm36 11 (kq hs35 sm35 11 (kq hs34 sm34 11 (kq hs33 sm33 11 (kq hs32 sm32 11 q386)))))));have q485:=Ty.up (Ty.nat (szTo n (fun y=>y ∈ gens) n)) (h1.le dE) (kq hs38 sm38 14 (kq hs37 sm37 14 (kq hs36 sm36 14 (kq hs35 sm35 14 (kq hs34 sm34 14 (kq hs33 sm33 14 (kq hs32 sm32 14 q387)))))));have q486:=Ty.up (Ty.bool (hasB n ((((g1)))) r)) (h1.le dE) (kq hs38 sm38 17 (kq hs37 sm37 17 (kq hs36 sm36 17 (kq hs35 sm35 17 (kq hs34 sm34 17 (kq hs33 sm33 17 (kq hs32 sm32 17 q388)))))));have q487:=Ty.up (Ty.int (fitsE n r)) (h1.le dE) (kq hs38 sm38 12 (kq hs37 sm37 12 (kq hs36 sm36 12 (kq hs35 sm35 12 (kq hs34 sm34 12 (kq hs33 sm33 12 (kq hs32 sm32 12 q389)))))))
         have q488:=Ty.up (Ty.bool true) (h1.le dE) (kq hs38 sm38 108 q462);have q489:=Ty.up (Ty.nat n) (h1.le dE) (kq hs38 sm38 109 (kq hs37 sm37 109 (kq hs36 sm36 109 (kq hs35 sm35 109 (kq hs34 sm34 109 (kq hs33 sm33 109 q402))))))
         have q490:At (Ty.lst Ty.ints (gens ++ [r])) t8 a57 (.tmp 115):=by have e:a57.eval (.tmp 115) = x6:=q477;show Ty.has _ _ _;rw [e];exact q478
         refine tD (T:=(Ty.nat (szTo n (fun y=>y ∈ ((gens ++ [r]))) n))) ok56 q488 (y_call _ Try.func20 rfl rfl my2 (rSizes_fn (n) ((gens ++ [r])) _ _ _ q489 q490 (by first | omega | assumption | exact hst1) (by first | omega | assumption | exact hst1) (by first | omega | assumption | exact hst1))) fun a58 s56 hs39 ok57 r39 sm39=>?_
         have q497:=kq hs39 sm39 14 q485;have q500:=kq hs39 sm39 108 q488
         have q501:At (Ty.nat (szTo n (fun y=>y ∈ ((gens ++ [r]))) n)) s56 a58 (.tmp 116):=r39
         clear r39
         refine tD (T:=(Ty.nat (szTo n (fun y=>y ∈ gens) n))) ok57 q500 (y_move q497) fun a59 s57 hs40 ok58 r40 sm40=>?_
         have q511:=kq hs40 sm40 108 q500
         have q513:At (Ty.nat (szTo n (fun y=>y ∈ gens) n)) s57 a59 (.tmp 117):=r40
         clear r40
         refine tD (T:=(Ty.bool (decide ((((szTo n (fun y=>y ∈ ((gens ++ [r]))) n):Nat):Int) = (((szTo n (fun y=>y ∈ gens) n):Nat):Int))))) ok58 q511 (y_eql (kq hs40 sm40 116 q501) q513) fun a60 s58 hs41 ok59 r41 sm41=>?_
         have q524:At (Ty.bool (decide ((((szTo n (fun y=>y ∈ ((gens ++ [r]))) n):Nat):Int) = (((szTo n (fun y=>y ∈ gens) n):Nat):Int)))) s58 a60 (.tmp 118):=r41
         clear r41
         refine tL (R:=(fun v τ=>Pr.has (Ty.pr (Ty.bool (decide ((((szTo n (fun y=>y ∈ ((gens ++ [r]))) n):Nat):Int) = (((szTo n (fun y=>y ∈ gens) n):Nat):Int))))) τ v)) ok59 (Yld.toL (y_pickT (kq hs41 sm41 108 q511) q524)) fun a61 s59 hs42 ok60 r42 sm42=>?_
         have q534:At (Ty.bool (decide ((((szTo n (fun y=>y ∈ ((gens ++ [r]))) n):Nat):Int) = (((szTo n (fun y=>y ∈ gens) n):Nat):Int)))) s59 a61 (.tmp 119):=r42
         clear r42
         refine tL ok60 (Yld.toL (y_as q534)) fun a62 s60 hs43 ok61 r43 sm43=>?_
         have q535:=kq hs43 sm43 13 (kq hs42 sm42 13 (kq hs41 sm41 13 (kq hs40 sm40 13 (kq hs39 sm39 13 q479))))
         have q544:At (Ty.bool (decide ((((szTo n (fun y=>y ∈ ((gens ++ [r]))) n):Nat):Int) = (((szTo n (fun y=>y ∈ gens) n):Nat):Int)))) s60 a62 (.tmp 18):=r43
         clear r43;refine wpList_nil (tn (wp_seq (wp_seq ?_)))
         refine gI a62 s60 ok61 (gM (kq hs43 sm43 12 (kq hs42 sm42 12 (kq hs41 sm41 12 (kq hs40 sm40 12 (kq hs39 sm39 12 q487))))) (gM q535 (gS rfl (fun A B E G H d0 d1=>rP (y_neq (eI d0) (eI d1))) (gS rfl (fun A B E G H d0=>rP (y_move (eI d0))) (gS rfl (fun A B E G H d0=>gu G (eI d0) fun hg=>y_move (kp (H 17 rfl) E (kq hs43 sm43 17 (kq hs42 sm42 17 (kq hs41 sm41 17 (kq hs40 sm40 17 (kq hs39 sm39 17 q486))))))) (gS rfl (fun A B E G H d0=>gu G (eI d0) fun hg=>y_move (kp (H 18 rfl) E q544)) (gT (Ty.grd ((decide ((fitsE n r) ≠ (fitsE n r))) = false) (Ty.bool ((hasB n ((((g1)))) r) != (decide ((((szTo n (fun y=>y ∈ ((gens ++ [r]))) n):Nat):Int) = (((szTo n (fun y=>y ∈ gens) n):Nat):Int)))))) rfl (fun A B E G H d0 d1 d2=>gu G (eI d2) fun hg=>y_neqB Try.underlying4 ((ef d0 rfl).1 hg) ((ef d1 rfl).1 hg)) (gS rfl (fun A B E G H d0 d1=>rP (y_pick_or (eI d0) rfl (eI d1))) (gE ok61 fun a63 s61 ok62 D18=>?_)))))))));have q551:=D18.k (kq hs43 sm43 14 (kq hs42 sm42 14 (kq hs41 sm41 14 (kq hs40 sm40 14 q497))));have o194:=Own.k0 (Own.kl (Own.kl (Own.kl (Own.kl (Own.kl o176 hs39) hs40) hs41) hs42) hs43) D18.stp;have o195:=OwnP.k0 (OwnP.kl (OwnP.kl (OwnP.kl (OwnP.kl (OwnP.kl o177 hs39) hs40) hs41) hs42) hs43) D18.stp;have o196:=ChnU.k0 (ChnU.kl (ChnU.kl (ChnU.kl (ChnU.kl (ChnU.kl o178 hs39) hs40) hs41) hs42) hs43) D18.stp;refine tn ?_
         refine cond_t (D18.m 7 rfl) (fun c7=>?_) (fun c7=>?_)
         ·
          exfalso
          (first | (simp [hb0] at c7;done) | (rw [hhas] at c7;simp at c7;done) | (simp [hhas] at c7;done))
         ·
          obtain ⟨d21,d22⟩:=Bool.or_eq_false_iff.mp c7
          replace d21:=of_decide_eq_false d21
          refine wp_skip (tn (wp_seq (wp_seq ?_)))
          refine gI a63 s61 ok62 (gM q551 (gS rfl (fun A B E G H d0=>rP (y_gtr (eI d0) rfl)) (gS rfl (fun A B E G H d0=>rP (y_move (eI d0))) (gS rfl (fun A B E G H d0=>gu G (eI d0) fun hg=>y_move (kp (H 14 rfl) E q551)) (gS rfl (fun A B E G H d0 d1=>gu G (eI d1) fun hg=>y_lss ((ef d0 rfl).1 hg) rfl) (gS rfl (fun A B E G H d0 d1=>rP (y_pick_and (eI d0) (eI d1) rfl)) (gE ok62 fun a64 s62 ok63 D19=>?_)))))));have F64:=((((((F57.sl hs39).sl hs40).sl hs41).sl hs42).sl hs43).step0 D18.stp).step0 D19.stp;have o197:=Own.k0 o194 D19.stp;have o198:=OwnP.k0 o195 D19.stp;have o199:=ChnU.k0 o196 D19.stp;refine tn ?_
          refine cond_t (D19.m 5 rfl) (fun c8=>?_) (fun c8=>?_)
          ·
           obtain ⟨d23,d24⟩:=Bool.and_eq_true_iff.mp c8
           replace d23:=of_decide_eq_true d23
           replace d24:=of_decide_eq_true d24
           refine wp_seq ?_
           refine gI a64 s62 ok63 (gC (Ty.bool true) (gE ok63 fun a65 s63 ok64 D20=>?_));have o200:=Own.k0 o197 D20.stp;have o201:=OwnP.k0 o198 D20.stp;have o202:=ChnU.k0 o199 D20.stp;refine tn (wp_ret (tr ?_))
           exact retL1 rfl ok64 (F64.step0 D20.stp) (D20.m 0 rfl)
          ·
           refine wp_skip (tn (wp_seq ?_))
           refine gI a64 s62 ok63 (gM (D19.k (D18.k (kq hs43 sm43 11 (kq hs42 sm42 11 (kq hs41 sm41 11 (kq hs40 sm40 11 (kq hs39 sm39 11 q484))))))) (gM (D19.k (D18.k (kq hs43 sm43 0 (kq hs42 sm42 0 (kq hs41 sm41 0 (kq hs40 sm40 0 (kq hs39 sm39 0 q480))))))) (gM (D19.k (D18.k (kq hs43 sm43 1 (kq hs42 sm42 1 (kq hs41 sm41 1 (kq hs40 sm40 1 (kq hs39 sm39 1 q481))))))) (gM (D19.k (D18.k (kq hs43 sm43 2 (kq hs42 sm42 2 (kq hs41 sm41 2 (kq hs40 sm40 2 (kq hs39 sm39 2 q482))))))) (gM (D19.k (D18.k q535)) (gM (D19.k (D18.k (kq hs43 sm43 4 (kq hs42 sm42 4 (kq hs41 sm41 4 (kq hs40 sm40 4 (kq hs39 sm39 4 q483))))))) (gM (D19.k q551) (gE2 ok63 fun a66 s64 ok65 D21=>?_))))))));have o203:=Own.k0 o197 D21.stp;have o204:=OwnP.k0 o198 D21.stp;have o205:=ChnU.k0 o199 D21.stp
           have q562:At (Ty.val x1) s64 a66 (.tmp 134):=D21.done 0 dE
           refine tL ok65 (y_callL (L:=[41,42,43]) [(61,41),(62,42),(63,43)] [(41,61),(42,62),(43,63)] #[a66.eval (.tmp 134),a66.eval (.tmp 135),a66.eval (.tmp 136),a66.eval (.tmp 137),a66.eval (.tmp 138),a66.eval (.tmp 139),a66.eval (.tmp 140)] rfl dE Try.func47 rfl rfl my7 (gRows_fn (x1) (x3) (x2) (((((g2))))) (n) (((((g1))))) (gens) (r) (bell) _ lW _ _ _ _ _ _ _ (uL q562) (uL (D21.m 1 rfl)) (uL (D21.m 2 rfl)) (uL (D21.m 3 rfl)) (uL (D21.m 4 rfl)) (uL (D21.m 5 rfl)) (uL (D21.m 6 rfl)) (OwnP.ren o204 (GW.ren_lend _ _ dE rfl)) (ChnU.ren (cvch (by (rfl)) o205) (GW.ren_lend _ _ dE rfl)) (Own.ren o203 (GW.ren_lend _ _ dE rfl)) oX oX oX)) fun a67 s65 hs44 ok66 r44 sm44=>?_
           obtain ⟨t9,⟨hT6,o206,o207,o208⟩,B6⟩:=r44
           have q569:At (Ty.bool true) s65 a67 (.tmp 141):=Ty.up _ B6.le hT6
           have o209:OwnP s65 61 x1 [(Ty.nat n),(Ty.val x3),(Ty.val x2)]:=OwnP.ren o206 (B6.ren dE rfl)
           have o210:ChnU s65 62 22 108 x2 n (((((g1))))) (((((g2))))):=ChnU.ren o207 (B6.ren dE rfl)
           have o211:Own s65 63 22 1 x3 (List.length gens) (List.map Ty.ints gens):=Own.ren o208 (B6.ren dE rfl)
           refine tL ok66 (Yld.toL (y_as q569)) fun a68 s66 hs45 ok67 r45 sm45=>?_
           have o212:=OwnP.kl o209 hs45;have o213:=ChnU.kl o210 hs45;have o214:=Own.kl o211 hs45
           have q570:At (Ty.bool true) s66 a68 (.tmp 10):=r45
           clear r45;refine wpList_nil (tn (wp_ret ?_))
           exact retL1 rfl ok67 (((F64.step0 D21.stp).sl hs44).sl hs45) q570
        ·
         have q571:At (Ty.bool false) s48 a50 (.tmp 108):=cvb hg2 q390
         have hf0:¬ fitsE n r = 0:=of_decide_eq_false hg2
         have hb0:=hasB_no (c:=g1) hf0
         refine tailSkip ok49 rfl rfl dE q571 rfl rfl dE (fun a69 ok68 q572 sm46=>?_)
         have q573:At (Ty.int (fitsE n r)) s48 a69 (.tmp 13):=kp (sm46 13 dE) (Stp.refl _ _) q381
         have q574:At (Ty.nat n) s48 a69 (.tmp 0):=kp (sm46 0 dE) (Stp.refl _ _) q382
         have q575:At (Ty.lst Ty.ints gens) s48 a69 (.tmp 1):=kp (sm46 1 dE) (Stp.refl _ _) q383
         have q576:At (Ty.lst Ty.int r) s48 a69 (.tmp 2):=kp (sm46 2 dE) (Stp.refl _ _) q384
         have q577:At (Ty.int bell) s48 a69 (.tmp 4):=kp (sm46 4 dE) (Stp.refl _ _) q385
         have q578:At (Ty.val x1) s48 a69 (.tmp 11):=kp (sm46 11 dE) (Stp.refl _ _) q386
         have q579:At (Ty.nat (szTo n (fun y=>y ∈ gens) n)) s48 a69 (.tmp 14):=kp (sm46 14 dE) (Stp.refl _ _) q387
         have q580:At (Ty.bool (hasB n ((((g1)))) r)) s48 a69 (.tmp 17):=kp (sm46 17 dE) (Stp.refl _ _) q388
         have q581:At (Ty.int (fitsE n r)) s48 a69 (.tmp 12):=kp (sm46 12 dE) (Stp.refl _ _) q389
         have q582:At (Ty.bool false) s48 a69 (.tmp 108):=kp (sm46 108 dE) (Stp.refl _ _) q571
         refine tailSkip ok68 rfl rfl dE q582 rfl rfl dE (fun a70 ok69 q583 sm47=>?_)
         have q584:At (Ty.int (fitsE n r)) s48 a70 (.tmp 13):=kp (sm47 13 dE) (Stp.refl _ _) q573
         have q585:At (Ty.nat n) s48 a70 (.tmp 0):=kp (sm47 0 dE) (Stp.refl _ _) q574
         have q586:At (Ty.lst Ty.ints gens) s48 a70 (.tmp 1):=kp (sm47 1 dE) (Stp.refl _ _) q575
         have q587:At (Ty.lst Ty.int r) s48 a70 (.tmp 2):=kp (sm47 2 dE) (Stp.refl _ _) q576
         have q588:At (Ty.int bell) s48 a70 (.tmp 4):=kp (sm47 4 dE) (Stp.refl _ _) q577
         have q589:At (Ty.val x1) s48 a70 (.tmp 11):=kp (sm47 11 dE) (Stp.refl _ _) q578
         have q590:At (Ty.nat (szTo n (fun y=>y ∈ gens) n)) s48 a70 (.tmp 14):=kp (sm47 14 dE) (Stp.refl _ _) q579
         have q591:At (Ty.bool (hasB n ((((g1)))) r)) s48 a70 (.tmp 17):=kp (sm47 17 dE) (Stp.refl _ _) q580
         have q592:At (Ty.int (fitsE n r)) s48 a70 (.tmp 12):=kp (sm47 12 dE) (Stp.refl _ _) q581
         have q593:At (Ty.bool false) s48 a70 (.tmp 108):=kp (sm47 108 dE) (Stp.refl _ _) q582
         have q594:At (Ty.val undef) s48 a70 (.tmp 109):=kp (sm47 109 dE) (Stp.refl _ _) q572
         refine tailSkip ok69 rfl rfl dE q593 rfl rfl dE (fun a71 ok70 q595 sm48=>?_)
         have q596:At (Ty.int (fitsE n r)) s48 a71 (.tmp 13):=kp (sm48 13 dE) (Stp.refl _ _) q584
         have q597:At (Ty.nat n) s48 a71 (.tmp 0):=kp (sm48 0 dE) (Stp.refl _ _) q585
         have q598:At (Ty.lst Ty.ints gens) s48 a71 (.tmp 1):=kp (sm48 1 dE) (Stp.refl _ _) q586
         have q599:At (Ty.lst Ty.int r) s48 a71 (.tmp 2):=kp (sm48 2 dE) (Stp.refl _ _) q587
         have q600:At (Ty.int bell) s48 a71 (.tmp 4):=kp (sm48 4 dE) (Stp.refl _ _) q588
         have q601:At (Ty.val x1) s48 a71 (.tmp 11):=kp (sm48 11 dE) (Stp.refl _ _) q589
         have q602:At (Ty.nat (szTo n (fun y=>y ∈ gens) n)) s48 a71 (.tmp 14):=kp (sm48 14 dE) (Stp.refl _ _) q590
         have q603:At (Ty.bool (hasB n ((((g1)))) r)) s48 a71 (.tmp 17):=kp (sm48 17 dE) (Stp.refl _ _) q591
         have q604:At (Ty.int (fitsE n r)) s48 a71 (.tmp 12):=kp (sm48 12 dE) (Stp.refl _ _) q592
         have q605:At (Ty.bool false) s48 a71 (.tmp 108):=kp (sm48 108 dE) (Stp.refl _ _) q593
         have q606:At (Ty.val undef) s48 a71 (.tmp 109):=kp (sm48 109 dE) (Stp.refl _ _) q594
         have q607:At (Ty.val undef) s48 a71 (.tmp 110):=kp (sm48 110 dE) (Stp.refl _ _) q583
         refine tailSkip ok70 rfl rfl dE q605 rfl rfl dE (fun a72 ok71 q608 sm49=>?_)
         have q609:At (Ty.int (fitsE n r)) s48 a72 (.tmp 13):=kp (sm49 13 dE) (Stp.refl _ _) q596
         have q610:At (Ty.nat n) s48 a72 (.tmp 0):=kp (sm49 0 dE) (Stp.refl _ _) q597
         have q611:At (Ty.lst Ty.ints gens) s48 a72 (.tmp 1):=kp (sm49 1 dE) (Stp.refl _ _) q598
         have q612:At (Ty.lst Ty.int r) s48 a72 (.tmp 2):=kp (sm49 2 dE) (Stp.refl _ _) q599
         have q613:At (Ty.int bell) s48 a72 (.tmp 4):=kp (sm49 4 dE) (Stp.refl _ _) q600
         have q614:At (Ty.val x1) s48 a72 (.tmp 11):=kp (sm49 11 dE) (Stp.refl _ _) q601
         have q615:At (Ty.nat (szTo n (fun y=>y ∈ gens) n)) s48 a72 (.tmp 14):=kp (sm49 14 dE) (Stp.refl _ _) q602
         have q616:At (Ty.bool (hasB n ((((g1)))) r)) s48 a72 (.tmp 17):=kp (sm49 17 dE) (Stp.refl _ _) q603
         have q617:At (Ty.int (fitsE n r)) s48 a72 (.tmp 12):=kp (sm49 12 dE) (Stp.refl _ _) q604
         have q618:At (Ty.bool false) s48 a72 (.tmp 108):=kp (sm49 108 dE) (Stp.refl _ _) q605
         have q619:At (Ty.val undef) s48 a72 (.tmp 109):=kp (sm49 109 dE) (Stp.refl _ _) q606
         refine tailSkip ok71 rfl rfl dE q618 rfl rfl dE (fun a73 ok72 q620 sm50=>?_)
         have q621:At (Ty.int (fitsE n r)) s48 a73 (.tmp 13):=kp (sm50 13 dE) (Stp.refl _ _) q609
         have q622:At (Ty.nat n) s48 a73 (.tmp 0):=kp (sm50 0 dE) (Stp.refl _ _) q610
         have q623:At (Ty.lst Ty.ints gens) s48 a73 (.tmp 1):=kp (sm50 1 dE) (Stp.refl _ _) q611
         have q624:At (Ty.lst Ty.int r) s48 a73 (.tmp 2):=kp (sm50 2 dE) (Stp.refl _ _) q612
         have q625:At (Ty.int bell) s48 a73 (.tmp 4):=kp (sm50 4 dE) (Stp.refl _ _) q613
         have q626:At (Ty.val x1) s48 a73 (.tmp 11):=kp (sm50 11 dE) (Stp.refl _ _) q614
         have q627:At (Ty.nat (szTo n (fun y=>y ∈ gens) n)) s48 a73 (.tmp 14):=kp (sm50 14 dE) (Stp.refl _ _) q615
         have q628:At (Ty.bool (hasB n ((((g1)))) r)) s48 a73 (.tmp 17):=kp (sm50 17 dE) (Stp.refl _ _) q616
         have q629:At (Ty.int (fitsE n r)) s48 a73 (.tmp 12):=kp (sm50 12 dE) (Stp.refl _ _) q617
         have q630:At (Ty.bool false) s48 a73 (.tmp 108):=kp (sm50 108 dE) (Stp.refl _ _) q618
         have q631:At (Ty.val undef) s48 a73 (.tmp 109):=kp (sm50 109 dE) (Stp.refl _ _) q619
         have q632:At (Ty.val undef) s48 a73 (.tmp 112):=kp (sm50 112 dE) (Stp.refl _ _) q608
         refine tailSkip ok72 rfl rfl dE q630 rfl rfl dE (fun a74 ok73 q633 sm51=>?_)
         have q634:At (Ty.int (fitsE n r)) s48 a74 (.tmp 13):=kp (sm51 13 dE) (Stp.refl _ _) q621
         have q635:At (Ty.nat n) s48 a74 (.tmp 0):=kp (sm51 0 dE) (Stp.refl _ _) q622
         have q636:At (Ty.lst Ty.ints gens) s48 a74 (.tmp 1):=kp (sm51 1 dE) (Stp.refl _ _) q623
         have q637:At (Ty.lst Ty.int r) s48 a74 (.tmp 2):=kp (sm51 2 dE) (Stp.refl _ _) q624
         have q638:At (Ty.int bell) s48 a74 (.tmp 4):=kp (sm51 4 dE) (Stp.refl _ _) q625
         have q639:At (Ty.val x1) s48 a74 (.tmp 11):=kp (sm51 11 dE) (Stp.refl _ _) q626
         have q640:At (Ty.nat (szTo n (fun y=>y ∈ gens) n)) s48 a74 (.tmp 14):=kp (sm51 14 dE) (Stp.refl _ _) q627
         have q641:At (Ty.bool (hasB n ((((g1)))) r)) s48 a74 (.tmp 17):=kp (sm51 17 dE) (Stp.refl _ _) q628
         have q642:At (Ty.int (fitsE n r)) s48 a74 (.tmp 12):=kp (sm51 12 dE) (Stp.refl _ _) q629
         have q643:At (Ty.bool false) s48 a74 (.tmp 108):=kp (sm51 108 dE) (Stp.refl _ _) q630
         have q644:At (Ty.val undef) s48 a74 (.tmp 109):=kp (sm51 109 dE) (Stp.refl _ _) q631
         have q645:At (Ty.val undef) s48 a74 (.tmp 112):=kp (sm51 112 dE) (Stp.refl _ _) q632
         refine tailSkip ok73 rfl rfl dE q643 rfl rfl dE (fun a75 ok74 q646 sm52=>?_)
         have q647:At (Ty.int (fitsE n r)) s48 a75 (.tmp 13):=kp (sm52 13 dE) (Stp.refl _ _) q634
         have q648:At (Ty.nat n) s48 a75 (.tmp 0):=kp (sm52 0 dE) (Stp.refl _ _) q635
         have q649:At (Ty.lst Ty.ints gens) s48 a75 (.tmp 1):=kp (sm52 1 dE) (Stp.refl _ _) q636
         have q650:At (Ty.lst Ty.int r) s48 a75 (.tmp 2):=kp (sm52 2 dE) (Stp.refl _ _) q637
         have q651:At (Ty.int bell) s48 a75 (.tmp 4):=kp (sm52 4 dE) (Stp.refl _ _) q638
         have q652:At (Ty.val x1) s48 a75 (.tmp 11):=kp (sm52 11 dE) (Stp.refl _ _) q639
         have q653:At (Ty.nat (szTo n (fun y=>y ∈ gens) n)) s48 a75 (.tmp 14):=kp (sm52 14 dE) (Stp.refl _ _) q640
         have q654:At (Ty.bool (hasB n ((((g1)))) r)) s48 a75 (.tmp 17):=kp (sm52 17 dE) (Stp.refl _ _) q641
         have q655:At (Ty.int (fitsE n r)) s48 a75 (.tmp 12):=kp (sm52 12 dE) (Stp.refl _ _) q642
         have q656:At (Ty.bool false) s48 a75 (.tmp 108):=kp (sm52 108 dE) (Stp.refl _ _) q643
         have q657:At (Ty.val undef) s48 a75 (.tmp 109):=kp (sm52 109 dE) (Stp.refl _ _) q644
         refine tailSkip ok74 rfl rfl dE q656 rfl rfl dE (fun a76 ok75 q658 sm53=>?_)
         have q659:At (Ty.int (fitsE n r)) s48 a76 (.tmp 13):=kp (sm53 13 dE) (Stp.refl _ _) q647
         have q660:At (Ty.nat n) s48 a76 (.tmp 0):=kp (sm53 0 dE) (Stp.refl _ _) q648
         have q661:At (Ty.lst Ty.ints gens) s48 a76 (.tmp 1):=kp (sm53 1 dE) (Stp.refl _ _) q649
         have q662:At (Ty.lst Ty.int r) s48 a76 (.tmp 2):=kp (sm53 2 dE) (Stp.refl _ _) q650
         have q663:At (Ty.int bell) s48 a76 (.tmp 4):=kp (sm53 4 dE) (Stp.refl _ _) q651
         have q664:At (Ty.val x1) s48 a76 (.tmp 11):=kp (sm53 11 dE) (Stp.refl _ _) q652
         have q665:At (Ty.nat (szTo n (fun y=>y ∈ gens) n)) s48 a76 (.tmp 14):=kp (sm53 14 dE) (Stp.refl _ _) q653
         have q666:At (Ty.bool (hasB n ((((g1)))) r)) s48 a76 (.tmp 17):=kp (sm53 17 dE) (Stp.refl _ _) q654
         have q667:At (Ty.int (fitsE n r)) s48 a76 (.tmp 12):=kp (sm53 12 dE) (Stp.refl _ _) q655
         have q668:At (Ty.bool false) s48 a76 (.tmp 108):=kp (sm53 108 dE) (Stp.refl _ _) q656
         refine tailSkip ok75 rfl rfl dE q668 rfl rfl dE (fun a77 ok76 q669 sm54=>?_)
         have q670:At (Ty.int (fitsE n r)) s48 a77 (.tmp 13):=kp (sm54 13 dE) (Stp.refl _ _) q659
         have q671:At (Ty.nat n) s48 a77 (.tmp 0):=kp (sm54 0 dE) (Stp.refl _ _) q660
         have q672:At (Ty.lst Ty.ints gens) s48 a77 (.tmp 1):=kp (sm54 1 dE) (Stp.refl _ _) q661
         have q673:At (Ty.lst Ty.int r) s48 a77 (.tmp 2):=kp (sm54 2 dE) (Stp.refl _ _) q662
         have q674:At (Ty.int bell) s48 a77 (.tmp 4):=kp (sm54 4 dE) (Stp.refl _ _) q663
         have q675:At (Ty.val x1) s48 a77 (.tmp 11):=kp (sm54 11 dE) (Stp.refl _ _) q664
         have q676:At (Ty.nat (szTo n (fun y=>y ∈ gens) n)) s48 a77 (.tmp 14):=kp (sm54 14 dE) (Stp.refl _ _) q665
         have q677:At (Ty.bool (hasB n ((((g1)))) r)) s48 a77 (.tmp 17):=kp (sm54 17 dE) (Stp.refl _ _) q666
         have q678:At (Ty.int (fitsE n r)) s48 a77 (.tmp 12):=kp (sm54 12 dE) (Stp.refl _ _) q667
         have q679:At (Ty.bool false) s48 a77 (.tmp 108):=kp (sm54 108 dE) (Stp.refl _ _) q668
         have q680:At (Ty.val undef) s48 a77 (.tmp 116):=kp (sm54 116 dE) (Stp.refl _ _) q658
         refine tailSkip ok76 rfl rfl dE q679 rfl rfl dE (fun a78 ok77 q681 sm55=>?_)
         have q682:At (Ty.int (fitsE n r)) s48 a78 (.tmp 13):=kp (sm55 13 dE) (Stp.refl _ _) q670
         have q683:At (Ty.nat n) s48 a78 (.tmp 0):=kp (sm55 0 dE) (Stp.refl _ _) q671
         have q684:At (Ty.lst Ty.ints gens) s48 a78 (.tmp 1):=kp (sm55 1 dE) (Stp.refl _ _) q672
         have q685:At (Ty.lst Ty.int r) s48 a78 (.tmp 2):=kp (sm55 2 dE) (Stp.refl _ _) q673
         have q686:At (Ty.int bell) s48 a78 (.tmp 4):=kp (sm55 4 dE) (Stp.refl _ _) q674
         have q687:At (Ty.val x1) s48 a78 (.tmp 11):=kp (sm55 11 dE) (Stp.refl _ _) q675
         have q688:At (Ty.nat (szTo n (fun y=>y ∈ gens) n)) s48 a78 (.tmp 14):=kp (sm55 14 dE) (Stp.refl _ _) q676
         have q689:At (Ty.bool (hasB n ((((g1)))) r)) s48 a78 (.tmp 17):=kp (sm55 17 dE) (Stp.refl _ _) q677
         have q690:At (Ty.int (fitsE n r)) s48 a78 (.tmp 12):=kp (sm55 12 dE) (Stp.refl _ _) q678
         have q691:At (Ty.bool false) s48 a78 (.tmp 108):=kp (sm55 108 dE) (Stp.refl _ _) q679
         refine tL (R:=(fun v τ=>Pr.has (Ty.pr (Ty.bool false)) τ v)) ok77 (Yld.toL (y_pickF q691 rfl)) fun a79 s67 hs46 ok78 r46 sm56=>?_
         have q701:At (Ty.bool false) s67 a79 (.tmp 119):=r46
         clear r46
         refine tL ok78 (Yld.toL (y_as q701)) fun a80 s68 hs47 ok79 r47 sm57=>?_
         have q702:=kq hs47 sm57 13 (kq hs46 sm56 13 q682)
         have q711:At (Ty.bool false) s68 a80 (.tmp 18):=r47
         clear r47;refine wpList_nil (tn (wp_seq (wp_seq ?_)))
         refine gI a80 s68 ok79 (gM (kq hs47 sm57 12 (kq hs46 sm56 12 q690)) (gM q702 (gS rfl (fun A B E G H d0 d1=>rP (y_neq (eI d0) (eI d1))) (gS rfl (fun A B E G H d0=>rP (y_move (eI d0))) (gS rfl (fun A B E G H d0=>gu G (eI d0) fun hg=>y_move (kp (H 17 rfl) E (kq hs47 sm57 17 (kq hs46 sm56 17 q689)))) (gS rfl (fun A B E G H d0=>gu G (eI d0) fun hg=>y_move (kp (H 18 rfl) E q711)) (gT (Ty.grd ((decide ((fitsE n r) ≠ (fitsE n r))) = false) (Ty.bool ((hasB n ((((g1)))) r) != false))) rfl (fun A B E G H d0 d1 d2=>gu G (eI d2) fun hg=>y_neqB Try.underlying4 ((ef d0 rfl).1 hg) ((ef d1 rfl).1 hg)) (gS rfl (fun A B E G H d0 d1=>rP (y_pick_or (eI d0) rfl (eI d1))) (gE ok79 fun a81 s69 ok80 D22=>?_)))))))));have F71:=((F49.sl hs46).sl hs47).step0 D22.stp;have q718:=D22.k (kq hs47 sm57 14 (kq hs46 sm56 14 q688));have o221:=Own.k0 (Own.kl (Own.kl o146 hs46) hs47) D22.stp;have o222:=OwnP.k0 (OwnP.kl (OwnP.kl o147 hs46) hs47) D22.stp;have o223:=ChnU.k0 (ChnU.kl (ChnU.kl o148 hs46) hs47) D22.stp;refine tn ?_
         refine cond_t (D22.m 7 rfl) (fun c9=>?_) (fun c9=>?_)
         ·
          refine wp_seq ?_
          refine gI a81 s69 ok80 (gC (Ty.bool false) (gE ok80 fun a82 s70 ok81 D23=>?_));have o224:=Own.k0 o221 D23.stp;have o225:=OwnP.k0 o222 D23.stp;have o226:=ChnU.k0 o223 D23.stp;refine tn (wp_ret (tr ?_))
          exact retL1 rfl ok81 (F71.step0 D23.stp) (cvb (by (first | rfl | omega | (simp_all;done) | (simp_all;omega))) (D23.m 0 rfl))
         ·
          obtain ⟨d25,d26⟩:=Bool.or_eq_false_iff.mp c9
          replace d25:=of_decide_eq_false d25
          refine wp_skip (tn (wp_seq (wp_seq ?_)))
          refine gI a81 s69 ok80 (gM q718 (gS rfl (fun A B E G H d0=>rP (y_gtr (eI d0) rfl)) (gS rfl (fun A B E G H d0=>rP (y_move (eI d0))) (gS rfl (fun A B E G H d0=>gu G (eI d0) fun hg=>y_move (kp (H 14 rfl) E q718)) (gS rfl (fun A B E G H d0 d1=>gu G (eI d1) fun hg=>y_lss ((ef d0 rfl).1 hg) rfl) (gS rfl (fun A B E G H d0 d1=>rP (y_pick_and (eI d0) (eI d1) rfl)) (gE ok80 fun a83 s71 ok82 D24=>?_)))))));have F73:=F71.step0 D24.stp;have o227:=Own.k0 o221 D24.stp;have o228:=OwnP.k0 o222 D24.stp;have o229:=ChnU.k0 o223 D24.stp;refine tn ?_
          refine cond_t (D24.m 5 rfl) (fun c10=>?_) (fun c10=>?_)
          ·
           obtain ⟨d27,d28⟩:=Bool.and_eq_true_iff.mp c10
           replace d27:=of_decide_eq_true d27
           replace d28:=of_decide_eq_true d28
           refine wp_seq ?_
           refine gI a83 s71 ok82 (gC (Ty.bool true) (gE ok82 fun a84 s72 ok83 D25=>?_));have o230:=Own.k0 o227 D25.stp;have o231:=OwnP.k0 o228 D25.stp;have o232:=ChnU.k0 o229 D25.stp;refine tn (wp_ret (tr ?_))
           exact retL1 rfl ok83 (F73.step0 D25.stp) (D25.m 0 rfl)
          ·
           refine wp_skip (tn (wp_seq ?_))
           refine gI a83 s71 ok82 (gM (D24.k (D22.k (kq hs47 sm57 11 (kq hs46 sm56 11 q687)))) (gM (D24.k (D22.k (kq hs47 sm57 0 (kq hs46 sm56 0 q683)))) (gM (D24.k (D22.k (kq hs47 sm57 1 (kq hs46 sm56 1 q684)))) (gM (D24.k (D22.k (kq hs47 sm57 2 (kq hs46 sm56 2 q685)))) (gM (D24.k (D22.k q702)) (gM (D24.k (D22.k (kq hs47 sm57 4 (kq hs46 sm56 4 q686)))) (gM (D24.k q718) (gE2 ok82 fun a85 s73 ok84 D26=>?_))))))));have o233:=Own.k0 o227 D26.stp;have o234:=OwnP.k0 o228 D26.stp;have o235:=ChnU.k0 o229 D26.stp
           have q730:At (Ty.val x1) s73 a85 (.tmp 134):=D26.done 0 dE
           refine tL ok84 (y_callL (L:=[41,42,43]) [(61,41),(62,42),(63,43)] [(41,61),(42,62),(43,63)] #[a85.eval (.tmp 134),a85.eval (.tmp 135),a85.eval (.tmp 136),a85.eval (.tmp 137),a85.eval (.tmp 138),a85.eval (.tmp 139),a85.eval (.tmp 140)] rfl dE Try.func47 rfl rfl my7 (gRows_fn (x1) (x3) (x2) (((((g2))))) (n) (((((g1))))) (gens) (r) (bell) _ lW _ _ _ _ _ _ _ (uL q730) (uL (D26.m 1 rfl)) (uL (D26.m 2 rfl)) (uL (D26.m 3 rfl)) (uL (D26.m 4 rfl)) (uL (D26.m 5 rfl)) (uL (D26.m 6 rfl)) (OwnP.ren o234 (GW.ren_lend _ _ dE rfl)) (ChnU.ren (cvch (by (rfl)) o235) (GW.ren_lend _ _ dE rfl)) (Own.ren o233 (GW.ren_lend _ _ dE rfl)) oX oX oX)) fun a86 s74 hs48 ok85 r48 sm58=>?_
           obtain ⟨t10,⟨hT7,o236,o237,o238⟩,B7⟩:=r48
           have q737:At (Ty.bool true) s74 a86 (.tmp 141):=Ty.up _ B7.le hT7
           have o239:OwnP s74 61 x1 [(Ty.nat n),(Ty.val x3),(Ty.val x2)]:=OwnP.ren o236 (B7.ren dE rfl)
           have o240:ChnU s74 62 22 108 x2 n (((((g1))))) (((((g2))))):=ChnU.ren o237 (B7.ren dE rfl)
           have o241:Own s74 63 22 1 x3 (List.length gens) (List.map Ty.ints gens):=Own.ren o238 (B7.ren dE rfl)
           refine tL ok85 (Yld.toL (y_as q737)) fun a87 s75 hs49 ok86 r49 sm59=>?_
           have o242:=OwnP.kl o239 hs49;have o243:=ChnU.kl o240 hs49;have o244:=Own.kl o241 hs49
           have q738:At (Ty.bool true) s75 a87 (.tmp 10):=r49
           clear r49;refine wpList_nil (tn (wp_ret ?_))
           exact retL1 rfl ok86 (((F73.step0 D26.stp).sl hs48).sl hs49) q738
theorem groupSays_fn (n:Int) (gens:List (List Int)) (r word:List Int) (bell:Int) (σ:GW) (v0 v1 v2 v3 v4:Value) (hv0:Ty.has (Ty.int n) σ v0) (hv1:Ty.has (Ty.lst Ty.ints gens) σ v1) (hv2:Ty.has (Ty.lst Ty.int r) σ v2) (hv3:Ty.has (Ty.lst Ty.int word) σ v3) (hv4:Ty.has (Ty.int bell) σ v4) (hw64:∀ x ∈ word,-9223372036854775808 ≤ x∧x ≤ 9223372036854775807):FnC Try.prog 8 #[v0,v1,v2,v3,v4] σ (Ty.bool true):=by
  by_cases h:gensMay n gens = 0
  · obtain ⟨m,rfl⟩:=may_int h
    exact gSaysB_fn m gens r word bell σ v0 v1 v2 v3 v4 hv0 hv1 hv2 hv3 hv4 hw64 h
  · exact gSaysA_fn n gens r word bell σ v0 v1 v2 v3 v4 hv0 hv1 hv2 hv3 hv4 hw64 h
end Go.Proofs.Ytkjifbgofckfeaa
