/- The functions that the law ColourSays reaches, each by its contract. Part 8. -/
import Derived.Test.YtkjifbgofckfeaaColourSaysW7
namespace Go.Proofs.Ytkjifbgofckfeaa
open Go.KL
set_option maxHeartbeats 4000000 in
set_option maxRecDepth 100000 in
theorem rcntB_fn (n:Int) (gens:List (List Int)) (C:Nat) (σ:GW) (hlow:Low [] σ) (v0 v1 v2:Value) (hv0:Ty.has (Ty.int n) σ v0) (hv1:Ty.has (Ty.lst Ty.ints gens) σ v1) (hv2:Ty.has (Ty.nat C) σ v2)  (hC:C ≤ 8) (hbad:gensMay n gens ≠ 0) :
    FnL Try.prog 52 #[v0,v1,v2] σ [] (fun v τ=>∃ (z:Nat),∃ (e:Int),(Ty.has (Ty.tup2 (Ty.nat z) (Ty.int e)) τ v)∧(CntP n gens (C:Int) z e)):=by
 refine fn_introL hlow Try.func52 rfl Try.ntmps52 (Nat.le_of_ble_eq_true rfl) (fun a0 F0 ok0 hargs=>?_)
 have p0:=pB (hargs 0 _ rfl) hv0
 have p1:=pB (hargs 1 _ rfl) hv1
 have b1:=sl_le p1
 have p2:=pB (hargs 2 _ rfl) hv2
 clear hargs;refine wp_seq ?_
 refine gI a0 σ ok0 (gC (Ty.int (0:Int)) (gC (Ty.int (0:Int)) (gE ok0 fun a1 s1 ok1 D1=>?_)));have q3:=D1.k p2;refine tn (wp_seq (wp_seq ?_))
 refine gI a1 s1 ok1 (gM q3 (gS rfl (fun A B G H I d0=>rP (y_lss (eI d0) rfl)) (gS rfl (fun A B G H I d0=>rP (y_move (eI d0))) (gS rfl (fun A B G H I d0=>gu H (eI d0) fun hg=>y_move (kp (I 2 rfl) G q3)) (gS rfl (fun A B G H I d0 d1=>gu H (eI d1) fun hg=>y_gtr ((ef d0 rfl).1 hg) rfl) (gS rfl (fun A B G H I d0 d1=>rP (y_pick_or (eI d0) rfl (eI d1))) (gE ok1 fun a2 s2 ok2 D2=>?_)))))));refine tn ?_
 refine cond_t (D2.m 5 rfl) (fun c1=>?_) (fun c1=>?_)
 ·
  exfalso
  simp only [Bool.or_eq_true,decide_eq_true_eq] at c1;omega
 ·
  obtain ⟨d1,d2⟩:=Bool.or_eq_false_iff.mp c1
  replace d1:=of_decide_eq_false d1
  replace d2:=of_decide_eq_false d2
  refine wp_skip (tn (wp_seq ?_))
  refine gI a2 s2 ok2 (gM (D2.k (D1.k p0)) (gM (D2.k (D1.k p1)) (gS rfl (fun A B G H I d0 d1=>rP (y_call _ Try.func24 rfl rfl my2 (rGensMay_fn (n) (gens) _ _ _ (eI d0) (eI d1) ))) (gB 0 (gE ok2 fun a3 s3 ok3 D3=>?_)))));have q11:=D3.m 3 rfl;refine tn (wp_seq (wp_seq ?_))
  refine gI a3 s3 ok3 (gM q11 (gS rfl (fun A B G H I d0=>rP (y_neq (eI d0) rfl)) (gE ok3 fun a4 s4 ok4 D4=>?_)));refine tn ?_
  refine cond_p (p:=((gensMay n (gens)) ≠ (0:Int))) (D4.m 1 rfl) (fun c2=>?_) (fun c2=>?_)
  ·
   refine wp_seq ?_
   refine gI a4 s4 ok4 (gM (D4.k q11) (gC (Ty.int (0:Int)) (gB 0 (gE ok4 fun a5 s5 ok5 D5=>?_))));refine tn (wp_ret (tr ?_))
   exact retL2 rfl ok5 (((((F0.step0 D1.stp).step0 D2.stp).step0 D3.stp).step0 D4.stp).step0 D5.stp) ⟨0,(gensMay n gens),(hasT2 (cvi (by (rfl)) (D5.m 1 rfl)) (cvi (by (rfl)) (D5.m 2 rfl))),(by exact CntP.gen hC hbad)⟩
  ·
   exfalso
   exact c2 hbad
set_option maxHeartbeats 4000000 in
set_option maxRecDepth 100000 in
theorem rcntC_fn (n:Nat) (gens:List (List Int)) (C:Nat) (σ:GW) (hlow:Low [] σ) (v0 v1 v2:Value) (hv0:Ty.has (Ty.nat n) σ v0) (hv1:Ty.has (Ty.lst Ty.ints gens) σ v1) (hv2:Ty.has (Ty.nat C) σ v2)  (hC:C ≤ 8) (hG0:gensMay (n:Int) gens = 0) (hL:5040 < szTo n (fun y=>y ∈ gens) n) :
    FnL Try.prog 52 #[v0,v1,v2] σ [] (fun v τ=>∃ (z:Nat),∃ (e:Int),(Ty.has (Ty.tup2 (Ty.nat z) (Ty.int e)) τ v)∧(CntP (n:Int) gens (C:Int) z e)):=by
 obtain ⟨hn,hGl,hG⟩:=may_nat hG0
 have hGl2:gens.length ≤ 1000000:=oM
 have hGl3:gens.length ≤ 1000:=oM
 refine fn_introL hlow Try.func52 rfl Try.ntmps52 (Nat.le_of_ble_eq_true rfl) (fun a0 F0 ok0 hargs=>?_)
 have p0:=pB (hargs 0 _ rfl) hv0
 have p1:=pB (hargs 1 _ rfl) hv1
 have b1:=sl_le p1
 have p2:=pB (hargs 2 _ rfl) hv2
 clear hargs;refine wp_seq ?_
 refine gI a0 σ ok0 (gC (Ty.int (0:Int)) (gC (Ty.int (0:Int)) (gE ok0 fun a1 s1 ok1 D1=>?_)));have q3:=D1.k p2;refine tn (wp_seq (wp_seq ?_))
 refine gI a1 s1 ok1 (gM q3 (gS rfl (fun A B G H I d0=>rP (y_lss (eI d0) rfl)) (gS rfl (fun A B G H I d0=>rP (y_move (eI d0))) (gS rfl (fun A B G H I d0=>gu H (eI d0) fun hg=>y_move (kp (I 2 rfl) G q3)) (gS rfl (fun A B G H I d0 d1=>gu H (eI d1) fun hg=>y_gtr ((ef d0 rfl).1 hg) rfl) (gS rfl (fun A B G H I d0 d1=>rP (y_pick_or (eI d0) rfl (eI d1))) (gE ok1 fun a2 s2 ok2 D2=>?_)))))));have q4:=D2.k (D1.k p0);have q5:=D2.k (D1.k p1);refine tn ?_
 refine cond_t (D2.m 5 rfl) (fun c1=>?_) (fun c1=>?_)
 ·
  exfalso
  simp only [Bool.or_eq_true,decide_eq_true_eq] at c1;omega
 ·
  obtain ⟨d1,d2⟩:=Bool.or_eq_false_iff.mp c1
  replace d1:=of_decide_eq_false d1
  replace d2:=of_decide_eq_false d2
  refine wp_skip (tn (wp_seq ?_))
  refine gI a2 s2 ok2 (gM q4 (gM q5 (gS rfl (fun A B G H I d0 d1=>rP (y_call _ Try.func24 rfl rfl my2 (rGensMay_fn (((n:Nat):Int)) (gens) _ _ _ (cvi (σ:=B) oM (ef d0 rfl)) (eI d1) ))) (gB 0 (gE ok2 fun a3 s3 ok3 D3=>?_)))));refine tn (wp_seq (wp_seq ?_))
  refine gI a3 s3 ok3 (gM (D3.m 3 rfl) (gS rfl (fun A B G H I d0=>rP (y_neq (eI d0) rfl)) (gE ok3 fun a4 s4 ok4 D4=>?_)));refine tn ?_
  refine cond_p (p:=((gensMay (((n:Nat):Int)) (gens)) ≠ (0:Int))) (D4.m 1 rfl) (fun c2=>?_) (fun c2=>?_)
  ·
   exfalso
   exact c2 hG0
  ·
   refine wp_skip (tn (wp_seq ?_))
   refine gI a4 s4 ok4 (gM (D4.k (D3.k q4)) (gM (D4.k (D3.k q5)) (gS rfl (fun A B G H I d0 d1=>rP (y_call #[A.eval (.tmp 27),A.eval (.tmp 28),A.eval ((Operand.const (Value.int IntKind.i64 5040)))] Try.func19 rfl rfl my3 (rClosedN_fn (n) (gens) (5040) _ _ _ _ (eI d0) (eI d1) (cvi (σ:=B) oX rfl) oX oX oX oX oX))) (gS rfl (fun A B G H I d0=>rP (y_move (eI d0))) (gT (Ty.val (Value.slice none 0 0)) rfl (fun A B G H I d0=>rP (y_ext2_0 (eI d0))) (gT (Ty.val (Value.slice none 0 0)) rfl (fun A B G H I d0 d1=>rP (y_ext2_1 (eI d0))) (gB 0 (gB 0 (gE ok4 fun a5 s5 ok5 D5=>?_)))))))));refine tn (wp_seq (wp_seq ?_))
   refine gI a5 s5 ok5 (gM (D5.m 6 rfl) (gT (Ty.bool true) rfl (fun A B G H I d0=>rP (y_slnn Try.underlying24 (eI d0) rfl)) (gE ok5 fun a6 s6 ok6 D6=>?_)));refine tn ?_
   refine cond_t (D6.m 1 rfl) (fun _=>?_) (fun c3=>(by cases c3))
   refine wp_seq ?_
   refine gI a6 s6 ok6 (gC (Ty.int (0:Int)) (gC (Ty.int (3:Int)) (gE ok6 fun a7 s7 ok7 D7=>?_)));refine tn (wp_ret (tr ?_))
   exact retL2 rfl ok7 (((((((F0.step0 D1.stp).step0 D2.stp).step0 D3.stp).step0 D4.stp).step0 D5.stp).step0 D6.stp).step0 D7.stp) ⟨0,(3:Int),(hasT2 (cvi (by (rfl)) (D7.m 0 rfl)) (cvi (by (rfl)) (D7.m 1 rfl))),(by exact CntP.lim hC hG0 hL)⟩
set_option maxHeartbeats 4000000 in
set_option maxRecDepth 100000 in
theorem rcntD_fn (n:Nat) (gens:List (List Int)) (C:Nat) (σ:GW) (hlow:Low [] σ) (v0 v1 v2:Value) (hv0:Ty.has (Ty.nat n) σ v0) (hv1:Ty.has (Ty.lst Ty.ints gens) σ v1) (hv2:Ty.has (Ty.nat C) σ v2)  (hC:C ≤ 8) (hG0:gensMay (n:Int) gens = 0) (hL:szTo n (fun y=>y ∈ gens) n ≤ 5040) :
    FnL Try.prog 52 #[v0,v1,v2] σ [] (fun v τ=>∃ (z:Nat),∃ (e:Int),(Ty.has (Ty.tup2 (Ty.nat z) (Ty.int e)) τ v)∧(CntP (n:Int) gens (C:Int) z e)):=by
 obtain ⟨hn,hGl,hG⟩:=may_nat hG0
 have hGl2:gens.length ≤ 1000000:=oM
 have hGl3:gens.length ≤ 1000:=oM
 refine fn_introL hlow Try.func52 rfl Try.ntmps52 (Nat.le_of_ble_eq_true rfl) (fun a0 F0 ok0 hargs=>?_)
 have p0:=pB (hargs 0 _ rfl) hv0
 have p1:=pB (hargs 1 _ rfl) hv1
 have b1:=sl_le p1
 have p2:=pB (hargs 2 _ rfl) hv2
 clear hargs;refine wp_seq ?_
 refine gI a0 σ ok0 (gC (Ty.int (0:Int)) (gC (Ty.int (0:Int)) (gE ok0 fun a1 s1 ok1 D1=>?_)));have q3:=D1.k p2;refine tn (wp_seq (wp_seq ?_))
 refine gI a1 s1 ok1 (gM q3 (gS rfl (fun A B G H I d0=>rP (y_lss (eI d0) rfl)) (gS rfl (fun A B G H I d0=>rP (y_move (eI d0))) (gS rfl (fun A B G H I d0=>gu H (eI d0) fun hg=>y_move (kp (I 2 rfl) G q3)) (gS rfl (fun A B G H I d0 d1=>gu H (eI d1) fun hg=>y_gtr ((ef d0 rfl).1 hg) rfl) (gS rfl (fun A B G H I d0 d1=>rP (y_pick_or (eI d0) rfl (eI d1))) (gE ok1 fun a2 s2 ok2 D2=>?_)))))));have q4:=D2.k (D1.k p0);have q5:=D2.k (D1.k p1);refine tn ?_
 refine cond_t (D2.m 5 rfl) (fun c1=>?_) (fun c1=>?_)
 ·
  exfalso
  simp only [Bool.or_eq_true,decide_eq_true_eq] at c1;omega
 ·
  obtain ⟨d1,d2⟩:=Bool.or_eq_false_iff.mp c1
  replace d1:=of_decide_eq_false d1
  replace d2:=of_decide_eq_false d2
  refine wp_skip (tn (wp_seq ?_))
  refine gI a2 s2 ok2 (gM q4 (gM q5 (gS rfl (fun A B G H I d0 d1=>rP (y_call _ Try.func24 rfl rfl my2 (rGensMay_fn (((n:Nat):Int)) (gens) _ _ _ (cvi (σ:=B) oM (ef d0 rfl)) (eI d1) ))) (gB 0 (gE ok2 fun a3 s3 ok3 D3=>?_)))));refine tn (wp_seq (wp_seq ?_))
  refine gI a3 s3 ok3 (gM (D3.m 3 rfl) (gS rfl (fun A B G H I d0=>rP (y_neq (eI d0) rfl)) (gE ok3 fun a4 s4 ok4 D4=>?_)));refine tn ?_
  refine cond_p (p:=((gensMay (((n:Nat):Int)) (gens)) ≠ (0:Int))) (D4.m 1 rfl) (fun c2=>?_) (fun c2=>?_)
  ·
   exfalso
   exact c2 hG0
  ·
   refine wp_skip (tn (wp_seq ?_))
   refine gI a4 s4 ok4 (gM (D4.k (D3.k q4)) (gM (D4.k (D3.k q5)) (gE2 ok4 fun a5 s5 ok5 D5=>?_)))
   refine tL ok5 (y_callL (L:=[]) [] [] #[a5.eval (.tmp 27),a5.eval (.tmp 28),a5.eval ((Operand.const (Value.int IntKind.i64 5040)))] rfl dE Try.func19 rfl rfl my3 (rClosed_fn (n) (gens) (5040) _ lW _ _ _ (uL (D5.m 0 rfl)) (uL (D5.m 1 rfl)) (uL (cvi (σ:=s5) oX rfl))  oX oX oX oX)) fun a6 s6 hs1 ok6 r1 sm1=>?_
   obtain ⟨t1,⟨g1,g2,hT1,hp1⟩,B1⟩:=r1
   have q21:At (Ty.tup2 (Ty.lst Ty.ints (g1)) (Ty.lst Ty.ints (g2))) s6 a6 (.tmp 29):=Ty.up _ B1.le hT1
   refine tL ok6 (Yld.toL (y_mv q21)) fun a7 s7 hs2 ok7 r2 sm2=>?_
   have q23:At (Ty.tup2 (Ty.lst Ty.ints (g1)) (Ty.lst Ty.ints (g2))) s7 a7 (.tmp 26):=r2
   clear r2
   refine tL (R:=(fun v τ=>Pr.has (Ty.pr (Ty.lst Ty.ints (g1))) τ v)) ok7 (Yld.toL (y_ext2_0 q23)) fun a8 s8 hs3 ok8 r3 sm3=>?_
   have q26:At (Ty.lst Ty.ints (g1)) s8 a8 (.tmp 30):=r3
   clear r3
   refine tL (R:=(fun v τ=>Pr.has (Ty.pr (Ty.lst Ty.ints (g2))) τ v)) ok8 (Yld.toL (y_ext2_1 (kq hs3 sm3 26 q23))) fun a9 s9 hs4 ok9 r4 sm4=>?_
   have q29:At (Ty.lst Ty.ints (g2)) s9 a9 (.tmp 31):=r4
   clear r4
   refine tL ok9 (Yld.toL (y_as (kq hs4 sm4 30 q26))) fun a10 s10 hs5 ok10 r5 sm5=>?_
   have q32:At (Ty.lst Ty.ints (g1)) s10 a10 (.tmp 9):=r5
   clear r5
   refine tL ok10 (Yld.toL (y_as (kq hs5 sm5 31 q29))) fun a11 s11 hs6 ok11 r6 sm6=>?_
   have q34:=kq hs6 sm6 9 q32
   have q35:At (Ty.lst Ty.ints (g2)) s11 a11 (.tmp 10):=r6
   clear r6;refine wpList_nil (tn (wp_seq (wp_seq ?_)))
   obtain ⟨E,hE⟩:=elts_ex hn hG
   have hRC:g1.Nodup∧(∀ x,x ∈ g1 ↔ Cl n (fun y=>y ∈ gens) x)∧g1.length ≤ 5040:=(by rcases hp1 with ⟨_,L,h1,h2,h3⟩ | h;(have h_:=nd_sub h1 (fun x hx=>(hE.mem x).2 (h2 x hx));have h2_:=hE.len;omega);exact ⟨h.1,h.2.1,h.2.2.1⟩)
   obtain ⟨hRn,hRm,hRl⟩:=hRC
   have hRr:∀ x ∈ g1,RowN n x:=fun x hx=>((hRm x).1 hx).row hn hG
   have hRp:E.Perm g1:=elts_perm hE.nd hRn (fun x=>(hE.mem x).trans (hRm x).symm)
   have hR0:0 < g1.length:=List.length_pos_of_mem ((hRm _).2 .one)
   refine gI a11 s11 ok11 (gM q34 (gT (Ty.bool false) rfl (fun A B G H I d0=>rP (y_slnil Try.underlying24 (eI d0) (by (intro h_;rw [List.map_eq_nil_iff] at h_;rw [h_] at hR0;simp at hR0)) rfl)) (gE ok11 fun a12 s12 ok12 D6=>?_)));refine tn ?_
   refine cond_t (D6.m 1 rfl) (fun c3=>(by cases c3)) (fun _=>?_)
   refine wp_skip (tn (wp_seq ?_))
   refine gI a12 s12 ok12 (gC (Ty.int (0:Int)) (gE ok12 fun a13 s13 ok13 D7=>?_));refine tn (wp_seq (wp_seq ?_))
   refine gI a13 s13 ok13 (gC (Ty.int (0:Int)) (gE ok13 fun a14 s14 ok14 D8=>?_));refine tn (wp_block ?_)
   refine loop (fun n1 a15 w1=>∃ (t2:GW) (i:Nat),t2.w = w1∧FromL [] σ t2∧Ok 55 [] a15∧At (Ty.nat i) t2 a15 (.tmp 12)∧At (Ty.nat (cntT g1 C i)) t2 a15 (.tmp 11)∧At (Ty.nat C) t2 a15 (.tmp 2)∧At (Ty.lst Ty.ints (g1)) t2 a15 (.tmp 9)∧(i ≤ g1.length)∧n1 = g1.length - i) (g1.length - (0)) ?_ ?_
   ·
    exact ⟨s14,0,rfl,((((((((((((((F0.step0 D1.stp).step0 D2.stp).step0 D3.stp).step0 D4.stp).step0 D5.stp).sl hs1).sl hs2).sl hs3).sl hs4).sl hs5).sl hs6).step0 D6.stp).step0 D7.stp).step0 D8.stp),ok14,(cJ (D8.m 0 rfl)),(cvi (by (simp [cntT])) (D8.k (D7.m 0 rfl))),(D8.k (D7.k (D6.k (kq hs6 sm6 2 (kq hs5 sm5 2 (kq hs4 sm4 2 (kq hs3 sm3 2 (kq hs2 sm2 2 (kq hs1 sm1 2 (D5.k (D4.k (D3.k (D2.k q3))))))))))))),(D8.k (D7.k (D6.k q34))),by omega,rfl⟩
   ·
    rintro n2 a16 w2 ⟨t3,i,rfl,F15,ok15,q46,q47,q48,q49,hi,rfl⟩
    have hcb:=cntT_bd (i:=i) hRr hn.2 hC hRl
    refine wp_seq (wp_seq ?_)
    refine gI a16 t3 ok15 (gM q46 (gM q49 (gS rfl (fun A B G H I d0=>rP (y_len Try.underlying24 (eI d0))) (gS rfl (fun A B G H I d0 d1=>rP (y_lss (eI d0) (eI d1))) (gE ok15 fun a17 s15 ok16 D9=>?_)))));have F16:=F15.step0 D9.stp;have q50:=D9.k q46;have q51:=D9.k q47;have q53:=D9.k q49;refine tn ?_
    refine cond_p (p:=(((i:Nat):Int) < (((List.length (g1)):Nat):Int))) (D9.m 3 rfl) (fun c4=>?_) (fun c4=>?_)
    ·
     have hri:=hRr _ (mem_atD [] (show i < g1.length by omega));have hcl:=cyc_few (r:=g1.getD i []);have hril:=hri.len;have hrii:=hri.row;have hcb2:=cntT_bd (i:=i + 1) hRr hn.2 hC hRl;rw [cntT_succ oM] at hcb2
     refine wp_skip (tn (wp_seq (wp_block (wp_seq ?_))))
     refine gI a17 s15 ok16 (gM q53 (gM q50 (gT (Ty.ref [(Ty.lst Ty.int ((g1).getD i []))]) rfl (fun A B G H I d0 d1=>rP (y_index1 Try.underlying24 Try.inf22 (eI d0) (eI d1) oM (lst_get Ty.ints (g1) [] i oM))) (gS rfl (fun A B G H I d0=>rP (y_load Try.underlying22 rfl (eI d0) rfl)) (gS rfl (fun A B G H I d0=>rP (y_call _ Try.func85 rfl rfl my1 (rCycles_fn (((g1).getD i [])) _ _ (eI d0) oX))) (gB 0 (gE ok16 fun a18 s16 ok17 D10=>?_)))))));have q57:=D10.k (D9.k q48);refine tn ?_
     refine gI a18 s16 ok17 (gM (D10.k q51) (gM q57 (gM (D10.m 5 rfl) (gS rfl (fun A B G H I d0=>rP (y_len Try.underlying24 (eI d0))) (gS rfl (fun A B G H I d0 d1=>rP (y_call _ Try.func86 rfl rfl my2 (power_fn (C) ((List.length (cyclesL (((g1).getD i []))))) _ _ _ (cvi (σ:=B) (by first | omega | assumption | cases hg | exact absurd (of_decide_eq_true hg) hbad) (ef d0 rfl)) (cvi (σ:=B) (by first | omega | assumption | cases hg | exact absurd (of_decide_eq_true hg) hbad) (ef d1 rfl)) (by first | omega | assumption | cases hg | exact absurd (of_decide_eq_true hg) hbad) (by first | omega | assumption | cases hg | exact absurd (of_decide_eq_true hg) hbad)))) (gT (Ty.nat ((cntT g1 C i) + ((C) ^ ((List.length (cyclesL (((g1).getD i [])))))))) rfl (fun A B G H I d0 d1=>rP ((y_add (eI d0) (eI d1) wX).mono (fun τ _ h=>cN (σ:=τ) h))) (gB 0 (gE ok17 fun a19 s17 ok18 D11=>?_))))))));refine bn (tn ?_)
     refine gI a19 s17 ok18 (gM (D11.k (D10.k q50)) (gT (Ty.nat (i + 1)) rfl (fun A B G H I d0=>rP ((y_add (eI d0) rfl wX).mono (fun τ _ h=>cN (σ:=τ) h))) (gB 0 (gE ok18 fun a20 s18 ok19 D12=>?_))))
     exact tn ⟨g1.length - ((i+1)),by omega,s18,(i+1),rfl,(((F16.step0 D10.stp).step0 D11.stp).step0 D12.stp),ok19,(cJ (D12.m 2 rfl)),(cvi (by (rw [cntT_succ oM])) (D12.k (D11.m 6 rfl))),(D12.k (D11.k q57)),(D12.k (D11.k (D10.k q53))),by omega,rfl⟩
    ·
     have ei:i = g1.length:=oM;have hz0:(0:Int) ≤ ((cntT g1 C i / g1.length:Nat):Int):=Int.natCast_nonneg _
     refine wp_exit (tx (tx (bx (tn (wp_seq ?_)))))
     refine gI a17 s15 ok16 (gM q51 (gM q53 (gS rfl (fun A B G H I d0=>rP (y_len Try.underlying24 (eI d0))) (gT (Ty.nat ((cntT g1 C i) / (List.length (g1)))) rfl (fun A B G H I d0 d1=>rP (y_quoN (eI d0) (eI d1) oM oM)) (gB 0 (gC (Ty.int (0:Int)) (gE ok16 fun a21 s19 ok20 D13=>?_)))))));refine tn (wp_ret ?_)
     exact retL2 rfl ok20 (F16.step0 D13.stp) ⟨(cntE E C),(0:Int),(hasT2 (cvi (by (rw [ei,cntT_all,cntE_perm hRp])) (D13.m 4 rfl)) (cvi (by (rfl)) (D13.m 5 rfl))),(by exact CntP.ok hC hG0 hL hE)⟩
theorem rcount_fn (n:Int) (gens:List (List Int)) (colours:Int) (σ:GW) (hlow:Low [] σ) (v0 v1 v2:Value) (hv0:Ty.has (Ty.int n) σ v0) (hv1:Ty.has (Ty.lst Ty.ints gens) σ v1) (hv2:Ty.has (Ty.int colours) σ v2) :
    FnL Try.prog 52 #[v0,v1,v2] σ [] (fun v τ=>∃ (z:Nat) (e:Int),(Ty.has (Ty.tup2 (Ty.nat z) (Ty.int e)) τ v)∧(CntP n gens colours z e)):=by
  by_cases hb:colours < 0 ∨ 8 < colours
  · exact rcntA_fn n gens colours σ hlow v0 v1 v2 hv0 hv1 hv2 hb
  · obtain ⟨C,rfl⟩:∃ C:Nat,colours = (C:Int):=⟨colours.toNat,by omega⟩
    by_cases h:gensMay n gens = 0
    · obtain ⟨m,rfl⟩:=may_int h
      by_cases G:5040 < szTo m (fun y=>y ∈ gens) m
      · exact rcntC_fn m gens C σ hlow v0 v1 v2 hv0 hv1 hv2 oM h G
      · exact rcntD_fn m gens C σ hlow v0 v1 v2 hv0 hv1 hv2 oM h oM
    · exact rcntB_fn n gens C σ hlow v0 v1 v2 hv0 hv1 hv2 oM h
set_option maxHeartbeats 4000000 in
set_option maxRecDepth 100000 in
theorem first1_fn (c:List Int) (E:List (List Int)) (σ:GW)  (v0 v1:Value) (hv0:Ty.has (Ty.lst Ty.int c) σ v0) (hv1:Ty.has (Ty.lst Ty.ints E) σ v1)  (hE:∀ x ∈ E,RowN c.length x) (hc:c.length ≤ 12) (hl:E.length ≤ 5040) :
    FnC Try.prog 99 #[v0,v1] σ (Ty.bool (fstP E c)):=by
 refine fn_intro0 Try.func99 rfl Try.ntmps99 (Nat.le_of_ble_eq_true rfl) (fun s0 a0 hle F0 ok0 hargs=>?_)
 have p0:=pA hle (hargs 0 _ rfl) hv0
 have b1:=sl_le p0
 have p1:=pA hle (hargs 1 _ rfl) hv1
 have b2:=sl_le p1
 clear hargs;refine wp_seq ?_
 refine gI a0 s0 ok0 (gC (Ty.bool false) (gE ok0 fun a1 s1 ok1 D1=>?_));refine tn (wp_seq (wp_seq ?_))
 refine gI a1 s1 ok1 (gM (D1.k p1) (gS rfl (fun A B G H I d0=>rP (y_len Try.underlying24 (eI d0))) (gT (Ty.int (0:Int)) rfl (fun A B G H I=>rP (y_move rfl)) (gE ok1 fun a2 s2 ok2 D2=>?_))));refine tn (wp_block ?_)
 refine loop (fun n1 a3 w1=>∃ (t1:GW) (i:Nat),t1.w = w1∧FromL [] s0 t1∧Ok 20 [] a3∧At (Ty.nat i) t1 a3 (.tmp 9)∧At (Ty.lst Ty.int c) t1 a3 (.tmp 0)∧At (Ty.lst Ty.ints E) t1 a3 (.tmp 7)∧At (Ty.nat (List.length E)) t1 a3 (.tmp 8)∧(i ≤ E.length)∧(∀ k,k < i → belowL (byL c (E.getD k [])) c = false)∧n1 = E.length - i) (E.length - (0)) ?_ ?_
 ·
  exact ⟨s2,0,rfl,((F0.step0 D1.stp).step0 D2.stp),ok2,(cJ (D2.m 2 rfl)),(D2.k (D1.k p0)),(D2.m 0 rfl),(D2.m 1 rfl),by omega,fun k h=>by omega,rfl⟩
 ·
  rintro n2 a4 w2 ⟨t2,i,rfl,F3,ok3,q7,q8,q9,q10,hi,hA,rfl⟩
  refine wp_seq ?_
  refine gI a4 t2 ok3 (gS rfl (fun A B G H I=>rP (y_lss (kp (I 9 rfl) G q7) (kp (I 8 rfl) G q10))) (gE ok3 fun a5 s3 ok4 D3=>?_));have F4:=F3.step0 D3.stp;have q11:=D3.k q7;have q13:=D3.k q9;refine tn (wp_seq ?_)
  refine cond_p (p:=(((i:Nat):Int) < (((List.length E):Nat):Int))) (D3.m 0 rfl) (fun c1=>?_) (fun c1=>?_)
  ·
   have hri:=hE _ (mem_atD [] (show i < E.length by omega));have hrl:=hri.len;have hrb:=hri.bd
   refine wp_skip (tn (wp_seq (wp_block (wp_seq ?_))))
   refine gI a5 s3 ok4 (gT (Ty.ref [(Ty.lst Ty.int (E.getD i []))]) rfl (fun A B G H I=>rP (y_index1 Try.underlying24 Try.inf22 (kp (I 7 rfl) G q13) (kp (I 9 rfl) G q11) oM (lst_get Ty.ints E [] i oM))) (gS rfl (fun A B G H I d0=>rP (y_load Try.underlying22 rfl (eI d0) rfl)) (gB 0 (gE ok4 fun a6 s4 ok5 D4=>?_))));have q17:=D4.k (D3.k q8);refine tn (wp_seq ?_)
   refine gI a6 s4 ok5 (gM q17 (gM (D4.m 2 rfl) (gS rfl (fun A B G H I d0 d1=>rP (y_call _ Try.func64 rfl rfl my2 (product_fn (c) ((E.getD i [])) _ _ _ (eI d0) (eI d1) (by first | assumption | omega) (by first | assumption | omega) (by first | assumption | omega)))) (gM q17 (gS rfl (fun A B G H I d0 d1 d2=>rP (y_call _ Try.func82 rfl rfl my2 (slCompare_fn ((byL (c) ((E.getD i [])))) (c) _ _ _ (eI d0) (eI d1) ))) (gS rfl (fun A B G H I d0=>rP (y_lss (eI d0) rfl)) (gE ok5 fun a7 s5 ok6 D5=>?_)))))));have F6:=(F4.step0 D4.stp).step0 D5.stp;refine tn ?_
   refine cond_p (p:=((cmpL ((byL (c) ((E.getD i [])))) (c)) < (0:Int))) (D5.m 5 rfl) (fun c2=>?_) (fun c2=>?_)
   ·
    have hfl:fstP E c = false:=fst_no (i:=i) oM (by rw [← cmpL_lt];exact decide_eq_true (by first | exact c2 | omega))
    refine wp_seq ?_
    refine gI a7 s5 ok6 (gC (Ty.bool false) (gE ok6 fun a8 s6 ok7 D6=>?_));refine tn (wp_ret (br (tr (tr (br (tr ?_))))))
    exact retL1 rfl ok7 (F6.step0 D6.stp) (cvb (by (rw [hfl])) (D6.m 0 rfl))
   ·
    have hA2:∀ k,k < i + 1 → belowL (byL c (E.getD k [])) c = false:=fst_put hA (by rw [← cmpL_lt];exact decide_eq_false (by first | exact c2 | omega))
    refine wp_skip (bn (tn ?_))
    refine gI a7 s5 ok6 (gT (Ty.nat (i + 1)) rfl (fun A B G H I=>rP ((y_add (kp (I 9 rfl) G (D5.k (D4.k q11))) rfl wX).mono (fun τ _ h=>cN (σ:=τ) h))) (gS rfl (fun A B G H I d0=>rP (y_move (eI d0))) (gE ok6 fun a9 s7 ok8 D7=>?_)))
    exact tn ⟨E.length - ((i+1)),by omega,s7,(i+1),rfl,(F6.step0 D7.stp),ok8,(cJ (D7.m 1 rfl)),(D7.k (D5.k q17)),(D7.k (D5.k (D4.k q13))),(D7.k (D5.k (D4.k (D3.k q10)))),by omega,hA2,rfl⟩
  ·
   have hfl:fstP E c = true:=(fst_all (fun k hk=>hA k oM))
   refine wp_exit (tx (tx (bx (tn (wp_seq ?_)))))
   refine gI a5 s3 ok4 (gC (Ty.bool true) (gE ok4 fun a10 s8 ok9 D8=>?_));refine tn (wp_ret ?_)
   exact retL1 rfl ok9 (F4.step0 D8.stp) (cvb (by (rw [hfl])) (D8.m 0 rfl))
set_option maxHeartbeats 4000000 in
set_option maxRecDepth 100000 in
theorem pattA_fn (n:Int) (gens:List (List Int)) (colours:Int) (σ:GW)  (v0 v1 v2:Value) (hv0:Ty.has (Ty.int n) σ v0) (hv1:Ty.has (Ty.lst Ty.ints gens) σ v1) (hv2:Ty.has (Ty.int colours) σ v2)  (hbc:colours < 0 ∨ 8 < colours) :
    FnC Try.prog 61 #[v0,v1,v2] σ (Ty.tup2 (Ty.lst Ty.ints ([]:List (List Int))) (Ty.int (12:Int))):=by
 refine fn_intro0 Try.func61 rfl Try.ntmps61 (Nat.le_of_ble_eq_true rfl) (fun s0 a0 hle F0 ok0 hargs=>?_)
 have p0:=pA hle (hargs 0 _ rfl) hv0
 have p1:=pA hle (hargs 1 _ rfl) hv1
 have b1:=sl_le p1
 have p2:=pA hle (hargs 2 _ rfl) hv2
 clear hargs;refine wp_seq ?_
 refine gI a0 s0 ok0 (gC (Ty.val (Value.slice none 0 0)) (gC (Ty.int (0:Int)) (gE ok0 fun a1 s1 ok1 D1=>?_)));have q3:=D1.k p2;refine tn (wp_seq (wp_seq ?_))
 refine gI a1 s1 ok1 (gM q3 (gS rfl (fun A B G H I d0=>rP (y_lss (eI d0) rfl)) (gS rfl (fun A B G H I d0=>rP (y_move (eI d0))) (gS rfl (fun A B G H I d0=>gu H (eI d0) fun hg=>y_move (kp (I 2 rfl) G q3)) (gS rfl (fun A B G H I d0 d1=>gu H (eI d1) fun hg=>y_gtr ((ef d0 rfl).1 hg) rfl) (gS rfl (fun A B G H I d0 d1=>rP (y_pick_or (eI d0) rfl (eI d1))) (gE ok1 fun a2 s2 ok2 D2=>?_)))))));refine tn ?_
 refine cond_t (D2.m 5 rfl) (fun c1=>?_) (fun c1=>?_)
 ·
  refine wp_seq ?_
  refine gI a2 s2 ok2 (gC (Ty.val (Value.slice none 0 0)) (gC (Ty.int (12:Int)) (gE ok2 fun a3 s3 ok3 D3=>?_)));refine tn (wp_ret (tr ?_))
  exact retL2 rfl ok3 (((F0.step0 D1.stp).step0 D2.stp).step0 D3.stp) (hasT2 (nil_lst (by (first | rfl | omega | (simp_all;done) | (simp_all;omega))) (D3.m 0 rfl)) (D3.m 1 rfl))
 ·
  exfalso
  simp only [Bool.or_eq_false_iff,decide_eq_false_iff_not] at c1;omega
set_option maxHeartbeats 4000000 in
set_option maxRecDepth 100000 in
theorem pattB_fn (n:Int) (gens:List (List Int)) (C:Nat) (σ:GW)  (v0 v1 v2:Value) (hv0:Ty.has (Ty.int n) σ v0) (hv1:Ty.has (Ty.lst Ty.ints gens) σ v1) (hv2:Ty.has (Ty.nat C) σ v2)  (hC:C ≤ 8) (hbad:gensMay n gens ≠ 0) :
    FnC Try.prog 61 #[v0,v1,v2] σ (Ty.tup2 (Ty.lst Ty.ints ([]:List (List Int))) (Ty.int (gensMay n gens))):=by
 refine fn_intro0 Try.func61 rfl Try.ntmps61 (Nat.le_of_ble_eq_true rfl) (fun s0 a0 hle F0 ok0 hargs=>?_)
 have p0:=pA hle (hargs 0 _ rfl) hv0
 have p1:=pA hle (hargs 1 _ rfl) hv1
 have b1:=sl_le p1
 have p2:=pA hle (hargs 2 _ rfl) hv2
 clear hargs;refine wp_seq ?_
 refine gI a0 s0 ok0 (gC (Ty.val (Value.slice none 0 0)) (gC (Ty.int (0:Int)) (gE ok0 fun a1 s1 ok1 D1=>?_)));have q3:=D1.k p2;refine tn (wp_seq (wp_seq ?_))
 refine gI a1 s1 ok1 (gM q3 (gS rfl (fun A B G H I d0=>rP (y_lss (eI d0) rfl)) (gS rfl (fun A B G H I d0=>rP (y_move (eI d0))) (gS rfl (fun A B G H I d0=>gu H (eI d0) fun hg=>y_move (kp (I 2 rfl) G q3)) (gS rfl (fun A B G H I d0 d1=>gu H (eI d1) fun hg=>y_gtr ((ef d0 rfl).1 hg) rfl) (gS rfl (fun A B G H I d0 d1=>rP (y_pick_or (eI d0) rfl (eI d1))) (gE ok1 fun a2 s2 ok2 D2=>?_)))))));refine tn ?_
 refine cond_t (D2.m 5 rfl) (fun c1=>?_) (fun c1=>?_)
 ·
  exfalso
  simp only [Bool.or_eq_true,decide_eq_true_eq] at c1;omega
 ·
  obtain ⟨d1,d2⟩:=Bool.or_eq_false_iff.mp c1
  replace d1:=of_decide_eq_false d1
  replace d2:=of_decide_eq_false d2
  refine wp_skip (tn (wp_seq ?_))
  refine gI a2 s2 ok2 (gM (D2.k (D1.k p0)) (gM (D2.k (D1.k p1)) (gS rfl (fun A B G H I d0 d1=>rP (y_call _ Try.func17 rfl rfl my2 (gMakeE_fn (n) (gens) _ _ _ (eI d0) (eI d1) oM))) (gS rfl (fun A B G H I d0=>rP (y_move (eI d0))) (gT (Ty.val (Value.pointer none)) rfl (fun A B G H I d0=>rP (y_ext2_0 (eI d0))) (gT (Ty.int (gensMay n gens)) rfl (fun A B G H I d0 d1=>rP (y_ext2_1 (eI d0))) (gB 0 (gB 0 (gE ok2 fun a3 s3 ok3 D3=>?_)))))))));have q11:=D3.m 7 rfl;refine tn (wp_seq (wp_seq ?_))
  refine gI a3 s3 ok3 (gM q11 (gS rfl (fun A B G H I d0=>rP (y_neq (eI d0) rfl)) (gE ok3 fun a4 s4 ok4 D4=>?_)));refine tn ?_
  refine cond_p (p:=((gensMay n gens) ≠ (0:Int))) (D4.m 1 rfl) (fun c2=>?_) (fun c2=>?_)
  ·
   refine wp_seq ?_
   refine gI a4 s4 ok4 (gM (D4.k q11) (gC (Ty.val (Value.slice none 0 0)) (gB 0 (gE ok4 fun a5 s5 ok5 D5=>?_))));refine tn (wp_ret (tr ?_))
   exact retL2 rfl ok5 (((((F0.step0 D1.stp).step0 D2.stp).step0 D3.stp).step0 D4.stp).step0 D5.stp) (hasT2 (nil_lst (by (first | rfl | omega | (simp_all;done) | (simp_all;omega))) (D5.m 1 rfl)) (D5.m 2 rfl))
  ·
   exfalso
   exact c2 hbad
set_option maxHeartbeats 4000000 in
set_option maxRecDepth 100000 in
theorem pattC_fn (n:Nat) (gens:List (List Int)) (C:Nat) (σ:GW)  (v0 v1 v2:Value) (hv0:Ty.has (Ty.nat n) σ v0) (hv1:Ty.has (Ty.lst Ty.ints gens) σ v1) (hv2:Ty.has (Ty.nat C) σ v2)  (hC:C ≤ 8) (hG0:gensMay (n:Int) gens = 0) (hL:5040 < szTo n (fun y=>y ∈ gens) n) :
    FnC Try.prog 61 #[v0,v1,v2] σ (Ty.tup2 (Ty.lst Ty.ints ([]:List (List Int))) (Ty.int (3:Int))):=by
 obtain ⟨hn,hGl,hG⟩:=may_nat hG0
 have hGl2:gens.length ≤ 1000000:=oM
 have hGl3:gens.length ≤ 1000:=oM
 refine fn_intro0 Try.func61 rfl Try.ntmps61 (Nat.le_of_ble_eq_true rfl) (fun s0 a0 hle F0 ok0 hargs=>?_)
 have p0:=pA hle (hargs 0 _ rfl) hv0
 have p1:=pA hle (hargs 1 _ rfl) hv1
 have b1:=sl_le p1
 have p2:=pA hle (hargs 2 _ rfl) hv2
 clear hargs;refine wp_seq ?_
 refine gI a0 s0 ok0 (gC (Ty.val (Value.slice none 0 0)) (gC (Ty.int (0:Int)) (gE ok0 fun a1 s1 ok1 D1=>?_)));have q3:=D1.k p2;refine tn (wp_seq (wp_seq ?_))
 refine gI a1 s1 ok1 (gM q3 (gS rfl (fun A B G H I d0=>rP (y_lss (eI d0) rfl)) (gS rfl (fun A B G H I d0=>rP (y_move (eI d0))) (gS rfl (fun A B G H I d0=>gu H (eI d0) fun hg=>y_move (kp (I 2 rfl) G q3)) (gS rfl (fun A B G H I d0 d1=>gu H (eI d1) fun hg=>y_gtr ((ef d0 rfl).1 hg) rfl) (gS rfl (fun A B G H I d0 d1=>rP (y_pick_or (eI d0) rfl (eI d1))) (gE ok1 fun a2 s2 ok2 D2=>?_)))))));have q4:=D2.k (D1.k p0);refine tn ?_
 refine cond_t (D2.m 5 rfl) (fun c1=>?_) (fun c1=>?_)
 ·
  exfalso
  simp only [Bool.or_eq_true,decide_eq_true_eq] at c1;omega
 ·
  obtain ⟨d1,d2⟩:=Bool.or_eq_false_iff.mp c1
  replace d1:=of_decide_eq_false d1
  replace d2:=of_decide_eq_false d2
  refine wp_skip (tn (wp_seq ?_))
  refine gI a2 s2 ok2 (gM q4 (gM (D2.k (D1.k p1)) (gE2 ok2 fun a3 s3 ok3 D3=>?_)))
  refine tL ok3 (y_callL (L:=[]) [] [(41,41),(42,42),(43,43)] _ rfl dE Try.func17 rfl rfl my2 (gMake_fn (n) (gens) _ lW _ _ (uL (D3.m 0 rfl)) (uL (D3.m 1 rfl))  oX oX oX)) fun a4 s4 hs1 ok4 r1 sm1=>?_
  obtain ⟨t1,⟨g1,g2,x1,x2,x3,hT1,o1,o2,o3,hp1⟩,B1⟩:=r1
  have q14:At (Ty.tup2 (Ty.val x1) (Ty.int (0:Int))) s4 a4 (.tmp 26):=Ty.up _ B1.le hT1
  have o4:OwnP s4 41 x1 [(Ty.nat n),(Ty.val x3),(Ty.val x2)]:=OwnP.ren o1 (B1.ren dE rfl)
  have o5:ChnU s4 42 22 108 x2 n (g1) (g2):=ChnU.ren o2 (B1.ren dE rfl)
  have o6:Own s4 43 22 1 x3 (List.length gens) (List.map Ty.ints gens):=Own.ren o3 (B1.ren dE rfl)
  refine tL ok4 (Yld.toL (y_mv q14)) fun a5 s5 hs2 ok5 r2 sm2=>?_
  have q17:At (Ty.tup2 (Ty.val x1) (Ty.int (0:Int))) s5 a5 (.tmp 23):=r2
  clear r2
  refine tL (R:=(fun v τ=>Pr.has (Ty.pr (Ty.val x1)) τ v)) ok5 (Yld.toL (y_ext2_0 q17)) fun a6 s6 hs3 ok6 r3 sm3=>?_
  have q21:At (Ty.val x1) s6 a6 (.tmp 27):=r3
  clear r3
  refine tL (R:=(fun v τ=>Pr.has (Ty.pr (Ty.int (0:Int))) τ v)) ok6 (Yld.toL (y_ext2_1 (kq hs3 sm3 23 q17))) fun a7 s7 hs4 ok7 r4 sm4=>?_
  have q25:At (Ty.int (0:Int)) s7 a7 (.tmp 28):=r4
  clear r4
  refine tL ok7 (Yld.toL (y_as (kq hs4 sm4 27 q21))) fun a8 s8 hs5 ok8 r5 sm5=>?_
  have q29:At (Ty.val x1) s8 a8 (.tmp 8):=r5
  clear r5
  refine tL ok8 (Yld.toL (y_as (kq hs5 sm5 28 q25))) fun a9 s9 hs6 ok9 r6 sm6=>?_
  have q33:At (Ty.int (0:Int)) s9 a9 (.tmp 9):=r6
  clear r6;refine wpList_nil (tn (wp_seq (wp_seq ?_)))
  refine gI a9 s9 ok9 (gM q33 (gT (Ty.bool false) rfl (fun A B G H I d0=>rP ((y_neq (eI d0) rfl).mono (fun τ _ h=>cvb (σ:=τ) dE h))) (gE ok9 fun a10 s10 ok10 D4=>?_)));have o22:=OwnP.k0 (OwnP.kl (OwnP.kl (OwnP.kl (OwnP.kl (OwnP.kl o4 hs2) hs3) hs4) hs5) hs6) D4.stp;have o23:=ChnU.k0 (ChnU.kl (ChnU.kl (ChnU.kl (ChnU.kl (ChnU.kl o5 hs2) hs3) hs4) hs5) hs6) D4.stp;have o24:=Own.k0 (Own.kl (Own.kl (Own.kl (Own.kl (Own.kl o6 hs2) hs3) hs4) hs5) hs6) D4.stp;refine tn ?_
  refine cond_t (D4.m 1 rfl) (fun c2=>(by cases c2)) (fun _=>?_)
  refine wp_skip (tn (wp_seq ?_))
  refine gI a10 s10 ok10 (gM (D4.k (kq hs6 sm6 8 q29)) (gE2 ok10 fun a11 s11 ok11 D5=>?_));have o25:=OwnP.k0 o22 D5.stp;have o26:=ChnU.k0 o23 D5.stp;have o27:=Own.k0 o24 D5.stp
  have q42:At (Ty.val x1) s11 a11 (.tmp 33):=D5.done 0 dE
  refine tL ok11 (y_callL (L:=[41,42,43]) [(41,41),(42,42),(43,43)] [(41,41),(42,42),(43,43)] #[a11.eval (.tmp 33)] rfl dE Try.func60 rfl rfl my1 (gElts_fn (x1) (x3) (x2) ((g2)) (n) ((g1)) (gens) _ lW _ (uL q42) (OwnP.ren o25 (GW.ren_lend _ _ dE rfl)) (ChnU.ren (cvch (by (rfl)) o26) (GW.ren_lend _ _ dE rfl)) (Own.ren o27 (GW.ren_lend _ _ dE rfl)) oX oX)) fun a12 s12 hs7 ok12 r7 sm7=>?_
  obtain ⟨t2,⟨g3,hT2,o28,o29,o30,hp2⟩,B2⟩:=r7
  have q46:At (Ty.tup2 (Ty.lst Ty.ints (g3)) (Ty.int (eltE n gens))) s12 a12 (.tmp 34):=Ty.up _ B2.le hT2
  have o31:OwnP s12 41 x1 [(Ty.nat n),(Ty.val x3),(Ty.val x2)]:=OwnP.ren o28 (B2.ren dE rfl)
  have o32:ChnU s12 42 22 108 x2 n ((g1)) ((g2)):=ChnU.ren o29 (B2.ren dE rfl)
  have o33:Own s12 43 22 1 x3 (List.length gens) (List.map Ty.ints gens):=Own.ren o30 (B2.ren dE rfl)
  refine tL ok12 (Yld.toL (y_mv q46)) fun a13 s13 hs8 ok13 r8 sm8=>?_
  have q50:At (Ty.tup2 (Ty.lst Ty.ints (g3)) (Ty.int (eltE n gens))) s13 a13 (.tmp 32):=r8
  clear r8
  refine tL (R:=(fun v τ=>Pr.has (Ty.pr (Ty.lst Ty.ints (g3))) τ v)) ok13 (Yld.toL (y_ext2_0 q50)) fun a14 s14 hs9 ok14 r9 sm9=>?_
  have q55:At (Ty.lst Ty.ints (g3)) s14 a14 (.tmp 35):=r9
  clear r9
  refine tL (R:=(fun v τ=>Pr.has (Ty.pr (Ty.int (eltE n gens))) τ v)) ok14 (Yld.toL (y_ext2_1 (kq hs9 sm9 32 q50))) fun a15 s15 hs10 ok15 r10 sm10=>?_
  have q60:At (Ty.int (eltE n gens)) s15 a15 (.tmp 36):=r10
  clear r10
  refine tL ok15 (Yld.toL (y_as (kq hs10 sm10 35 q55))) fun a16 s16 hs11 ok16 r11 sm11=>?_
  have q63:=kq hs11 sm11 9 (kq hs10 sm10 9 (kq hs9 sm9 9 (kq hs8 sm8 9 (kq hs7 sm7 9 (D5.k (D4.k q33))))))
  have q65:At (Ty.lst Ty.ints (g3)) s16 a16 (.tmp 10):=r11
  clear r11
  refine tL ok16 (Yld.toL (y_as (kq hs11 sm11 36 q60))) fun a17 s17 hs12 ok17 r12 sm12=>?_
  have q66:=kq hs12 sm12 0 (kq hs11 sm11 0 (kq hs10 sm10 0 (kq hs9 sm9 0 (kq hs8 sm8 0 (kq hs7 sm7 0 (D5.k (D4.k (kq hs6 sm6 0 (kq hs5 sm5 0 (kq hs4 sm4 0 (kq hs3 sm3 0 (kq hs2 sm2 0 (kq hs1 sm1 0 (D3.k q4))))))))))))));have q67:=kq hs12 sm12 2 (kq hs11 sm11 2 (kq hs10 sm10 2 (kq hs9 sm9 2 (kq hs8 sm8 2 (kq hs7 sm7 2 (D5.k (D4.k (kq hs6 sm6 2 (kq hs5 sm5 2 (kq hs4 sm4 2 (kq hs3 sm3 2 (kq hs2 sm2 2 (kq hs1 sm1 2 (D3.k (D2.k q3)))))))))))))));have q68:=kq hs12 sm12 10 q65
  have q69:At (Ty.int (eltE n gens)) s17 a17 (.tmp 9):=r12
  clear r12;refine wpList_nil (tn (wp_seq (wp_seq ?_)))
  have hE3:eltE n gens = 3:=(by unfold eltE;rw [if_neg oM])
  refine gI a17 s17 ok17 (gM q69 (gS rfl (fun A B G H I d0=>rP (y_neq (eI d0) rfl)) (gE ok17 fun a18 s18 ok18 D6=>?_)));have o49:=OwnP.k0 (OwnP.kl (OwnP.kl (OwnP.kl (OwnP.kl (OwnP.kl o31 hs8) hs9) hs10) hs11) hs12) D6.stp;have o50:=ChnU.k0 (ChnU.kl (ChnU.kl (ChnU.kl (ChnU.kl (ChnU.kl o32 hs8) hs9) hs10) hs11) hs12) D6.stp;have o51:=Own.k0 (Own.kl (Own.kl (Own.kl (Own.kl (Own.kl o33 hs8) hs9) hs10) hs11) hs12) D6.stp;refine tn ?_
  refine cond_p (p:=((eltE n gens) ≠ (0:Int))) (D6.m 1 rfl) (fun c3=>?_) (fun c3=>?_)
  ·
   refine wp_seq ?_
   refine gI a18 s18 ok18 (gM (D6.k q69) (gC (Ty.val (Value.slice none 0 0)) (gB 0 (gE ok18 fun a19 s19 ok19 D7=>?_))));have o52:=OwnP.k0 o49 D7.stp;have o53:=ChnU.k0 o50 D7.stp;have o54:=Own.k0 o51 D7.stp;refine tn (wp_ret (tr ?_))
   exact retL2 rfl ok19 (((((((((((((((((((F0.step0 D1.stp).step0 D2.stp).step0 D3.stp).sl hs1).sl hs2).sl hs3).sl hs4).sl hs5).sl hs6).step0 D4.stp).step0 D5.stp).sl hs7).sl hs8).sl hs9).sl hs10).sl hs11).sl hs12).step0 D6.stp).step0 D7.stp) (hasT2 (nil_lst (by (rfl)) (D7.m 1 rfl)) (cvi (by (rw [hE3])) (D7.m 2 rfl)))
  ·
   exfalso
   (rw [hE3] at c3;simp at c3)
theorem pattErr_fn (n:Int) (gens:List (List Int)) (colours:Int) (e:Int) (σ:GW) (v0 v1 v2:Value) (hv0:Ty.has (Ty.int n) σ v0) (hv1:Ty.has (Ty.lst Ty.ints gens) σ v1) (hv2:Ty.has (Ty.int colours) σ v2) (hE:PErr n gens colours e) :
    FnC Try.prog 61 #[v0,v1,v2] σ (Ty.tup2 (Ty.lst Ty.ints ([]:List (List Int))) (Ty.int e)):=by
  rcases hE with ⟨h,rfl⟩ | ⟨h,hE⟩
  · exact pattA_fn n gens colours σ v0 v1 v2 hv0 hv1 hv2 h
  · obtain ⟨C,rfl⟩:∃ C:Nat,colours = (C:Int):=⟨colours.toNat,by omega⟩
    rcases hE with ⟨h2,rfl⟩ | ⟨m,rfl,h2,hL,rfl⟩
    · exact pattB_fn n gens C σ v0 v1 v2 hv0 hv1 hv2 oM h2
    · exact pattC_fn m gens C σ v0 v1 v2 hv0 hv1 hv2 oM h2 hL
set_option maxHeartbeats 4000000 in
set_option maxRecDepth 100000 in
theorem colAt_fn (n:Nat) (C:Nat) (k:Nat) (σ:GW)  (v0 v1 v2:Value) (hv0:Ty.has (Ty.nat n) σ v0) (hv1:Ty.has (Ty.nat C) σ v1) (hv2:Ty.has (Ty.nat k) σ v2)  (hn:1 ≤ n∧n ≤ 12) (hC:1 ≤ C∧C ≤ 8) (hk:k ≤ 68719476736) :
    FnC Try.prog 87 #[v0,v1,v2] σ (Ty.lst Ty.int (colAt n C k)):=by
 refine fn_intro0 Try.func87 rfl Try.ntmps87 (Nat.le_of_ble_eq_true rfl) (fun s0 a0 hle F0 ok0 hargs=>?_)
 have p0:=pA hle (hargs 0 _ rfl) hv0
 have p1:=pA hle (hargs 1 _ rfl) hv1
 have p2:=pA hle (hargs 2 _ rfl) hv2
 clear hargs;refine wp_seq ?_
 refine gI a0 s0 ok0 (gC (Ty.val (Value.slice none 0 0)) (gE ok0 fun a1 s1 ok1 D1=>?_));have q1:=D1.k p0;refine tn (wp_seq ?_)
 refine gI a1 s1 ok1 (gM q1 (gR (Pr.own 20 3 1 n (List.map Ty.int (List.replicate n 0))) rfl (by intro A B G H I d0 d1;have e0:=ed d0 rfl rfl rfl;exact rP ((y_make (k:=20) (T:=Ty.int 0) (n:=n) Try.underlying22 Try.inf3 rfl (fun _=>rfl) e0 e0 oM oM).mono (fun _ _ h=>cvo (by simp) (by simp) h))) (gE2 ok1 fun a2 s2 ok2 D2=>?_)))
 obtain ⟨x1,hx1⟩:∃ x,a2.eval (.tmp 10) = x:=⟨_,rfl⟩
 have q7:At (Ty.val x1) s2 a2 (.tmp 10):=hx1
 have o1:=al2 (R:=(Pr.own 20 3 1 n (List.map Ty.int (List.replicate n 0)))) hx1 (D2.done 1 dE)
 refine tL ok2 (Yld.toL (y_as q7)) fun a3 s3 hs1 ok3 r1 sm1=>?_
 have q11:At (Ty.val x1) s3 a3 (.tmp 7):=r1
 clear r1;refine wpList_nil (tn (wp_seq (wp_seq ?_)))
 refine gI a3 s3 ok3 (gM (kq hs1 sm1 0 (D2.k q1)) (gT (Ty.nat (n - 1)) rfl (fun A B G H I d0=>rP ((y_sub (eI d0) rfl wX).mono (fun τ _ h=>cvi (σ:=τ) oM h))) (gB 0 (gE ok3 fun a4 s4 ok4 D3=>?_))));have o3:=Own.k0 (Own.kl o1 hs1) D3.stp;refine tn (wp_block ?_)
 refine loop (fun n1 a5 w1=>∃ (t1:GW) (j:Nat) (x7_0:Value),t1.w = w1∧FromL [] s0 t1∧Ok 27 [] a5∧At (Ty.int ((n:Int) - 1 - (j:Int))) t1 a5 (.tmp 8)∧At (Ty.val x7_0) t1 a5 (.tmp 7)∧At (Ty.nat (k / C ^ j)) t1 a5 (.tmp 2)∧At (Ty.nat C) t1 a5 (.tmp 1)∧Own t1 20 3 1 x7_0 (List.length (colT n C k j)) (List.map Ty.int (colT n C k j))∧(j ≤ n)∧n1 = n - j) (n - (0)) ?_ ?_
 ·
  exact ⟨s4,0,x1,rfl,((((F0.step0 D1.stp).step0 D2.stp).sl hs1).step0 D3.stp),ok4,(cvi (by (omega)) (D3.m 2 rfl)),(D3.k q11),(cvi (by (simp)) (D3.k (kq hs1 sm1 2 (D2.k (D1.k p2))))),(D3.k (kq hs1 sm1 1 (D2.k (D1.k p1)))),(cvo (by (first | rfl | (rw [colT_zero];done) | simp [colT_zero])) (by (first | rfl | (rw [colT_zero];done) | simp [colT_zero])) o3),by omega,rfl⟩
 ·
  rintro n2 a6 w2 ⟨t2,j,x7_0,rfl,F5,ok5,q16,q17,q18,q19,o4,hj,rfl⟩
  have hcl:=colT_len (n:=n) (C:=C) (k:=k) (j:=j)
  have hkd:=Nat.div_le_self k (C ^ j)
  refine wp_seq (wp_seq ?_)
  refine gI a6 t2 ok5 (gM q16 (gS rfl (fun A B G H I d0=>rP (y_geq (eI d0) rfl)) (gE ok5 fun a7 s5 ok6 D4=>?_)));have F6:=F5.step0 D4.stp;have q20:=D4.k q16;have q21:=D4.k q17;have q22:=D4.k q18;have q23:=D4.k q19;have o5:=Own.k0 o4 D4.stp;refine tn ?_
  refine cond_p (p:=((0:Int) ≤ ((n:Int) - 1 - (j:Int)))) (D4.m 1 rfl) (fun c1=>?_) (fun c1=>?_)
  ·
   have hix:((n:Int) - 1 - (j:Int)).toNat = n - 1 - j:=oM
   refine wp_skip (tn (wp_seq (wp_block (wp_seq ?_))))
   refine gI a7 s5 ok6 (gM q21 (gM q20 (gM q22 (gM q23 (gT (Ty.nat ((k / C ^ j) % C)) rfl (fun A B G H I d0 d1=>rP (y_remN (eI d0) (eI d1) oM)) (gT (Ty.val (cellPtr x7_0 (((n:Int) - 1 - (j:Int))).toNat)) rfl (fun A B G H I d0 d1 d2 d3 d4 d5 d6=>rP (own_index1 (i:=((n:Int) - 1 - (j:Int))) Try.underlying22 Try.inf3 (Own.k0 o5 G) (eI d0) (eI d1) oM oM)) (gE2 ok6 fun a8 s6 ok7 D5=>?_)))))));have o6:=Own.k0 o5 D5.stp
   refine tailL0 (L:=[20]) (R:=(fun _ τ=>Own τ 20 3 1 x7_0 (List.length (colT n C k j)) ((List.map Ty.int (colT n C k j)).set (((n:Int) - 1 - (j:Int))).toNat (Ty.nat ((k / C ^ j) % C))))) rfl rfl (YldM.toL (m_store Try.inf3 dE o6 (D5.m 5 rfl) (by simp only [List.length_map,List.length_set];omega) (D5.m 4 rfl) (one_val rfl))) (fun v1 s7 hs2 r2=>?_)
   have q31:=kpL hs2 dE rfl (D5.k q20);have q32:=kpL hs2 dE rfl (D5.k q21);have q33:=kpL hs2 dE rfl (D5.k q22);have q34:=kpL hs2 dE rfl (D5.k q23)
   have o7:Own s7 20 3 1 x7_0 (List.length ((colT n C k j).set (((n:Int) - 1 - (j:Int))).toNat ((((k / C ^ j) % C):Nat):Int))) (List.map Ty.int ((colT n C k j).set (((n:Int) - 1 - (j:Int))).toNat ((((k / C ^ j) % C):Nat):Int))):=(cvo (by simp) (by first | (simp;done) | (rw [List.map_set];done) | (rw [List.map_set];rfl)) r2)
   clear r2;refine wpList_nil (tn ?_)
   refine gI a8 s7 ok7 (gM q33 (gM q34 (gT (Ty.nat ((k / C ^ j) / C)) rfl (fun A B G H I d0 d1=>rP (y_quoN (eI d0) (eI d1) oM oM)) (gB 0 (gE ok7 fun a9 s8 ok8 D6=>?_)))));have o8:=Own.k0 o7 D6.stp;refine bn (tn ?_)
   refine gI a9 s8 ok8 (gM (D6.k q31) (gT (Ty.int (((n:Int) - 1 - (j:Int)) - (1:Int))) rfl (fun A B G H I d0=>rP (y_sub (eI d0) rfl wX)) (gB 0 (gE ok8 fun a10 s9 ok9 D7=>?_))));have o9:=Own.k0 o8 D7.stp
   exact tn ⟨n - ((j + 1)),by omega,s9,(j + 1),x7_0,rfl,((((F6.step0 D5.stp).sl hs2).step0 D6.stp).step0 D7.stp),ok9,(cvi (by (omega)) (D7.m 2 rfl)),(D7.k (D6.k q32)),(cvi (by (rw [Nat.div_div_eq_div_mul,← Nat.pow_succ])) (D7.k (D6.m 3 rfl))),(D7.k (D6.k q34)),(cvo (by (first | rfl | (rw [← colT_step oM,hix];done) | (rw [← colT_step oM,hix];rfl))) (by (first | rfl | (rw [← colT_step oM,hix];done) | (rw [← colT_step oM,hix];rfl))) o9),by omega,rfl⟩
  ·
   have ej:j = n:=oM
   refine wp_exit (tx (tx (bx (tn (wp_seq ?_)))))
   refine gI a7 s5 ok6 (gM q21 (gB 0 (gE ok6 fun a11 s10 ok10 D8=>?_)));have o10:=Own.k0 o5 D8.stp
   have q44:At (Ty.val x7_0) s10 a11 (.tmp 6):=D8.done 1
   refine tn (wp_ret ?_)
   obtain ⟨t3,e1,h1,q45⟩:=Own.seal o10 dE
   rw [← e1]
   have F12:=(F6.step0 D8.stp).step h1 dE
   have q46:At (Ty.lst Ty.int (colT n C k j)) t3 a11 (.tmp 6):=by have e:a11.eval (.tmp 6) = x7_0:=q44;show Ty.has _ _ _;rw [e];exact q45
   exact retL1 rfl ok10 F12 (cvt (by (rw [ej];rfl)) q46)
set_option maxHeartbeats 4000000 in
set_option maxRecDepth 100000 in
theorem isFirst_fn (c:List Int) (E:List (List Int)) (σ:GW)  (v0 v1:Value) (hv0:Ty.has (Ty.lst Ty.int c) σ v0) (hv1:Ty.has (Ty.lst Ty.ints E) σ v1)  (hE:∀ x ∈ E,RowN c.length x) (hc:c.length ≤ 12) (hl:E.length ≤ 5040) :
    FnC Try.prog 88 #[v0,v1] σ (Ty.bool (fstP E c)):=by
 refine fn_intro0 Try.func88 rfl Try.ntmps88 (Nat.le_of_ble_eq_true rfl) (fun s0 a0 hle F0 ok0 hargs=>?_)
 have p0:=pA hle (hargs 0 _ rfl) hv0
 have b1:=sl_le p0
 have p1:=pA hle (hargs 1 _ rfl) hv1
 have b2:=sl_le p1
 clear hargs;refine wp_seq ?_
 refine gI a0 s0 ok0 (gC (Ty.bool false) (gE ok0 fun a1 s1 ok1 D1=>?_));refine tn (wp_seq (wp_seq ?_))
 refine gI a1 s1 ok1 (gC (Ty.int (0:Int)) (gE ok1 fun a2 s2 ok2 D2=>?_));refine tn (wp_block ?_)
 refine loop (fun n1 a3 w1=>∃ (t1:GW) (i:Nat),t1.w = w1∧FromL [] s0 t1∧Ok 22 [] a3∧At (Ty.nat i) t1 a3 (.tmp 5)∧At (Ty.lst Ty.int c) t1 a3 (.tmp 0)∧At (Ty.lst Ty.ints E) t1 a3 (.tmp 1)∧(i ≤ E.length)∧(∀ k,k < i → belowL (byL c (E.getD k [])) c = false)∧n1 = E.length - i) (E.length - (0)) ?_ ?_
 ·
  exact ⟨s2,0,rfl,((F0.step0 D1.stp).step0 D2.stp),ok2,(cJ (D2.m 0 rfl)),(D2.k (D1.k p0)),(D2.k (D1.k p1)),by omega,fun k h=>by omega,rfl⟩
 ·
  rintro n2 a4 w2 ⟨t2,i,rfl,F3,ok3,q6,q7,q8,hi,hA,rfl⟩
  refine wp_seq (wp_seq ?_)
  refine gI a4 t2 ok3 (gM q6 (gM q8 (gS rfl (fun A B G H I d0=>rP (y_len Try.underlying24 (eI d0))) (gS rfl (fun A B G H I d0 d1=>rP (y_lss (eI d0) (eI d1))) (gE ok3 fun a5 s3 ok4 D3=>?_)))));have F4:=F3.step0 D3.stp;have q9:=D3.k q6;have q10:=D3.k q7;have q11:=D3.k q8;refine tn ?_
  refine cond_p (p:=(((i:Nat):Int) < (((List.length E):Nat):Int))) (D3.m 3 rfl) (fun c1=>?_) (fun c1=>?_)
  ·
   have hri:=hE _ (mem_atD [] (show i < E.length by omega));have hrl:=hri.len;have hrb:=hri.bd
   refine wp_skip (tn (wp_seq (wp_block (wp_seq ?_))))
   refine gI a5 s3 ok4 (gM q10 (gM q11 (gM q9 (gT (Ty.ref [(Ty.lst Ty.int (E.getD i []))]) rfl (fun A B G H I d0 d1=>rP (y_index1 Try.underlying24 Try.inf22 (eI d0) (eI d1) oM (lst_get Ty.ints E [] i oM))) (gS rfl (fun A B G H I d0=>rP (y_load Try.underlying22 rfl (eI d0) rfl)) (gS rfl (fun A B G H I d0 d1=>rP (y_call _ Try.func22 rfl rfl my2 (rBy_fn (c) ((E.getD i [])) _ _ _ (eI d0) (eI d1) (by first | assumption | omega) (by first | assumption | omega)))) (gB 0 (gE ok4 fun a6 s4 ok5 D4=>?_))))))));have q14:=D4.k q10;refine tn (wp_seq ?_)
   refine gI a6 s4 ok5 (gM (D4.m 6 rfl) (gM q14 (gS rfl (fun A B G H I d0 d1=>rP (y_call _ Try.func67 rfl rfl my2 (rBelow_fn ((byL (c) ((E.getD i [])))) (c) _ _ _ (eI d0) (eI d1) ))) (gE ok5 fun a7 s5 ok6 D5=>?_))));have F6:=(F4.step0 D4.stp).step0 D5.stp;refine tn ?_
   refine cond_t (D5.m 2 rfl) (fun c2=>?_) (fun c2=>?_)
   ·
    have hfl:fstP E c = false:=fst_no (i:=i) oM c2
    refine wp_seq ?_
    refine gI a7 s5 ok6 (gC (Ty.bool false) (gE ok6 fun a8 s6 ok7 D6=>?_));refine tn (wp_ret (br (tr (tr (br (tr ?_))))))
    exact retL1 rfl ok7 (F6.step0 D6.stp) (cvb (by (rw [hfl])) (D6.m 0 rfl))
   ·
    have hA2:∀ k,k < i + 1 → belowL (byL c (E.getD k [])) c = false:=fst_put hA c2
    refine wp_skip (bn (tn ?_))
    refine gI a7 s5 ok6 (gM (D5.k (D4.k q9)) (gT (Ty.nat (i + 1)) rfl (fun A B G H I d0=>rP ((y_add (eI d0) rfl wX).mono (fun τ _ h=>cN (σ:=τ) h))) (gB 0 (gE ok6 fun a9 s7 ok8 D7=>?_))))
    exact tn ⟨E.length - ((i+1)),by omega,s7,(i+1),rfl,(F6.step0 D7.stp),ok8,(cJ (D7.m 2 rfl)),(D7.k (D5.k q14)),(D7.k (D5.k (D4.k q11))),by omega,hA2,rfl⟩
  ·
   have hfl:fstP E c = true:=(fst_all (fun k hk=>hA k oM))
   refine wp_exit (tx (tx (bx (tn (wp_seq ?_)))))
   refine gI a5 s3 ok4 (gC (Ty.bool true) (gE ok4 fun a10 s8 ok9 D8=>?_));refine tn (wp_ret ?_)
   exact retL1 rfl ok9 (F4.step0 D8.stp) (cvb (by (rw [hfl])) (D8.m 0 rfl))
set_option maxHeartbeats 4000000 in
set_option maxRecDepth 100000 in
theorem rSameAll_fn (a:List (List Int)) (b:List (List Int)) (σ:GW)  (v0 v1:Value) (hv0:Ty.has (Ty.lst Ty.ints a) σ v0) (hv1:Ty.has (Ty.lst Ty.ints b) σ v1)   :
    FnC Try.prog 29 #[v0,v1] σ (Ty.bool (decide (a = b))):=by
 refine fn_intro0 Try.func29 rfl Try.ntmps29 (Nat.le_of_ble_eq_true rfl) (fun s0 a0 hle F0 ok0 hargs=>?_)
 have p0:=pA hle (hargs 0 _ rfl) hv0
 have b1:=sl_le p0
 have p1:=pA hle (hargs 1 _ rfl) hv1
 have b2:=sl_le p1
 clear hargs;refine wp_seq ?_
 refine gI a0 s0 ok0 (gC (Ty.bool false) (gE ok0 fun a1 s1 ok1 D1=>?_));have q1:=D1.k p0;have q2:=D1.k p1;refine tn (wp_seq (wp_seq ?_))
 refine gI a1 s1 ok1 (gM q1 (gS rfl (fun A B G H I d0=>rP (y_len Try.underlying24 (eI d0))) (gM q2 (gS rfl (fun A B G H I d0=>rP (y_len Try.underlying24 (eI d0))) (gS rfl (fun A B G H I d0 d1=>rP (y_neq (eI d0) (eI d1))) (gE ok1 fun a2 s2 ok2 D2=>?_))))));have F2:=(F0.step0 D1.stp).step0 D2.stp;refine tn ?_
 refine cond_p (p:=((((List.length a):Nat):Int) ≠ (((List.length b):Nat):Int))) (D2.m 4 rfl) (fun c1=>?_) (fun c1=>?_)
 ·
  refine wp_seq ?_
  refine gI a2 s2 ok2 (gC (Ty.bool false) (gE ok2 fun a3 s3 ok3 D3=>?_));refine tn (wp_ret (tr ?_))
  exact retL1 rfl ok3 (F2.step0 D3.stp) (cvb (by (rw [decide_eq_false];intro e;subst e;omega)) (D3.m 0 rfl))
 ·
  refine wp_skip (tn (wp_seq (wp_seq ?_)))
  refine gI a2 s2 ok2 (gC (Ty.int (0:Int)) (gE ok2 fun a4 s4 ok4 D4=>?_));refine tn (wp_block ?_)
  refine loop (fun n1 a5 w1=>∃ (t1:GW) (k:Nat),t1.w = w1∧FromL [] s0 t1∧Ok 29 [] a5∧At (Ty.nat k) t1 a5 (.tmp 5)∧At (Ty.lst Ty.ints a) t1 a5 (.tmp 0)∧At (Ty.lst Ty.ints b) t1 a5 (.tmp 1)∧(k ≤ a.length)∧(a.length = b.length)∧(∀ j,j < k → a.getD j [] = b.getD j [])∧n1 = a.length - k) (a.length - (0)) ?_ ?_
  ·
   exact ⟨s4,0,rfl,(F2.step0 D4.stp),ok4,(cJ (D4.m 0 rfl)),(D4.k (D2.k q1)),(D4.k (D2.k q2)),by omega,by omega,fun j hj=>absurd hj (Nat.not_lt_zero j),rfl⟩
  ·
   rintro n2 a6 w2 ⟨t2,k,rfl,F5,ok5,q10,q11,q12,hk,hl,heq,rfl⟩
   refine wp_seq (wp_seq ?_)
   refine gI a6 t2 ok5 (gM q10 (gM q11 (gS rfl (fun A B G H I d0=>rP (y_len Try.underlying24 (eI d0))) (gS rfl (fun A B G H I d0 d1=>rP (y_lss (eI d0) (eI d1))) (gE ok5 fun a7 s5 ok6 D5=>?_)))));have F6:=F5.step0 D5.stp;have q13:=D5.k q10;have q14:=D5.k q11;have q15:=D5.k q12;refine tn ?_
   refine cond_p (p:=(((k:Nat):Int) < (((List.length a):Nat):Int))) (D5.m 3 rfl) (fun c2=>?_) (fun c2=>?_)
   ·
    refine wp_skip (tn (wp_seq (wp_block (wp_seq ?_))))
    refine gI a7 s5 ok6 (gM q14 (gM q13 (gT (Ty.ref [(Ty.lst Ty.int (a.getD k []))]) rfl (fun A B G H I d0 d1=>rP (y_index1 Try.underlying24 Try.inf22 (eI d0) (eI d1) oM (lst_get Ty.ints a [] k oM))) (gS rfl (fun A B G H I d0=>rP (y_load Try.underlying22 rfl (eI d0) rfl)) (gM q15 (gM q13 (gT (Ty.ref [(Ty.lst Ty.int (b.getD k []))]) rfl (fun A B G H I d0 d1=>rP (y_index1 Try.underlying24 Try.inf22 (eI d0) (eI d1) oM (lst_get Ty.ints b [] k oM))) (gS rfl (fun A B G H I d0=>rP (y_load Try.underlying22 rfl (eI d0) rfl)) (gS rfl (fun A B G H I d0 d1=>rP (y_call _ Try.func37 rfl rfl my2 (rsame_fn ((a.getD k [])) ((b.getD k [])) _ _ _ (eI d0) (eI d1) ))) (gB 0 (gE ok6 fun a8 s6 ok7 D6=>?_)))))))))));refine tn (wp_seq ?_)
    refine gI a8 s6 ok7 (gM (D6.m 9 rfl) (gS rfl (fun A B G H I d0=>rP (y_not (eI d0))) (gE ok7 fun a9 s7 ok8 D7=>?_)));have F8:=(F6.step0 D6.stp).step0 D7.stp;refine tn ?_
    refine cond_t (D7.m 1 rfl) (fun c3=>?_) (fun c3=>?_)
    ·
     refine wp_seq ?_
     refine gI a9 s7 ok8 (gC (Ty.bool false) (gE ok8 fun a10 s8 ok9 D8=>?_));refine tn (wp_ret (br (tr (tr (br (tr ?_))))))
     exact retL1 rfl ok9 (F8.step0 D8.stp) (cvb (by (exact (decide_eq_false (fun e=>by subst e;simp at c3)).symm)) (D8.m 0 rfl))
    ·
     refine wp_skip (bn (tn ?_))
     refine gI a9 s7 ok8 (gM (D7.k (D6.k q13)) (gT (Ty.int (((k:Nat):Int) + (1:Int))) rfl (fun A B G H I d0=>rP (y_add (eI d0) rfl wX)) (gB 0 (gE ok8 fun a11 s9 ok10 D9=>?_))))
     exact tn ⟨a.length - ((k+1)),by omega,s9,(k+1),rfl,(F8.step0 D9.stp),ok10,(cJ (D9.m 2 rfl)),(D9.k (D7.k (D6.k q14))),(D9.k (D7.k (D6.k q15))),by omega,by omega,all_snocs heq (by simpa using c3),rfl⟩
   ·
    refine wp_exit (tx (tx (bx (tn (wp_seq ?_)))))
    refine gI a7 s5 ok6 (gC (Ty.bool true) (gE ok6 fun a12 s10 ok11 D10=>?_));refine tn (wp_ret ?_)
    exact retL1 rfl ok11 (F6.step0 D10.stp) (cvb (by (exact (decide_eq_true (lists_ext oM (fun j hj=>heq j oM))).symm)) (D10.m 0 rfl))
set_option maxHeartbeats 4000000 in
set_option maxRecDepth 100000 in
theorem clErr_fn (n:Int) (gens:List (List Int)) (colours:Int) (rows:List (List Int)) (f:Int) (e:Int) (σ:GW)  (v0 v1 v2 v3 v4:Value) (hv0:Ty.has (Ty.int n) σ v0) (hv1:Ty.has (Ty.lst Ty.ints gens) σ v1) (hv2:Ty.has (Ty.int colours) σ v2) (hv3:Ty.has (Ty.lst Ty.ints rows) σ v3) (hv4:Ty.has (Ty.int f) σ v4)  (hE:PErr n gens colours e) (hfe:¬ (colours < 0 ∨ 8 < colours) → f = e) :
    FnC Try.prog 53 #[v0,v1,v2,v3,v4] σ (Ty.bool true):=by
 have hne0:=hE.ne
 refine fn_intro0 Try.func53 rfl Try.ntmps53 (Nat.le_of_ble_eq_true rfl) (fun s0 a0 hle F0 ok0 hargs=>?_)
 have p0:=pA hle (hargs 0 _ rfl) hv0
 have p1:=pA hle (hargs 1 _ rfl) hv1
 have b1:=sl_le p1
 have p2:=pA hle (hargs 2 _ rfl) hv2
 have p3:=pA hle (hargs 3 _ rfl) hv3
 have b2:=sl_le p3
 have p4:=pA hle (hargs 4 _ rfl) hv4
 clear hargs;refine wp_seq ?_
 refine gI a0 s0 ok0 (gC (Ty.bool false) (gE ok0 fun a1 s1 ok1 D1=>?_));have q3:=D1.k p2;refine tn (wp_seq (wp_seq ?_))
 refine gI a1 s1 ok1 (gM q3 (gS rfl (fun A B G H I d0=>rP (y_lss (eI d0) rfl)) (gS rfl (fun A B G H I d0=>rP (y_move (eI d0))) (gS rfl (fun A B G H I d0=>gu H (eI d0) fun hg=>y_move (kp (I 2 rfl) G q3)) (gS rfl (fun A B G H I d0 d1=>gu H (eI d1) fun hg=>y_gtr ((ef d0 rfl).1 hg) rfl) (gS rfl (fun A B G H I d0 d1=>rP (y_pick_or (eI d0) rfl (eI d1))) (gE ok1 fun a2 s2 ok2 D2=>?_)))))));have F2:=(F0.step0 D1.stp).step0 D2.stp;have q6:=D2.k (D1.k p0);have q7:=D2.k (D1.k p1);have q8:=D2.k q3;have q10:=D2.k (D1.k p4);refine tn ?_
 refine cond_t (D2.m 5 rfl) (fun c1=>?_) (fun c1=>?_)
 ·
  simp only [Bool.or_eq_true,decide_eq_true_eq] at c1;have he:e = 12:=hE.bad oM
  refine gI a2 s2 ok2 (gC (Ty.int (12:Int)) (gE ok2 fun a3 s3 ok3 D3=>?_));have q12:=D3.k q6;have q14:=D3.k q8;have q16:=D3.m 0 rfl;refine tn (wp_seq (wp_seq ?_))
  refine gI a3 s3 ok3 (gM q16 (gT (Ty.bool false) rfl (fun A B G H I d0=>rP ((y_eql (eI d0) rfl).mono (fun τ _ h=>cvb (σ:=τ) dE h))) (gS rfl (fun A B G H I d0=>rP (y_move (eI d0))) (gS rfl (fun A B G H I d0=>gu H (eI d0) fun hg=>y_move (kp (I 2 rfl) G q14)) (gS rfl (fun A B G H I d0=>gu H (eI d0) fun hg=>y_move (kp (I 0 rfl) G q12)) (gS rfl (fun A B G H I d0 d1 d2 d3=>gu H (eI d2) fun hg=>y_call _ Try.func86 rfl rfl my2 (power_fn ((colours).toNat) ((n).toNat) _ _ _ (cvi (σ:=B) (by first | omega | assumption | cases hg | exact absurd (of_decide_eq_true hg) hbad) ((ef d0 rfl).1 hg)) (cvi (σ:=B) (by first | omega | assumption | cases hg | exact absurd (of_decide_eq_true hg) hbad) ((ef d1 rfl).1 hg)) (by first | omega | assumption | cases hg | exact absurd (of_decide_eq_true hg) hbad) (by first | omega | assumption | cases hg | exact absurd (of_decide_eq_true hg) hbad))) (gS rfl (fun A B G H I d0 d1=>gu H (eI d1) fun hg=>y_gtr ((ef d0 rfl).1 hg) rfl) (gT (Ty.bool false) rfl (fun A B G H I d0 d1=>rP (y_pickF (eI d0) rfl)) (gS rfl (fun A B G H I d0 d1=>rP (y_move (eI d0))) (gS rfl (fun A B G H I d0=>gu H (eI d0) fun hg=>y_move (kp (I 2 rfl) G q14)) (gS rfl (fun A B G H I d0=>gu H (eI d0) fun hg=>y_move (kp (I 0 rfl) G q12)) ?_)))))))))))
  refine gS rfl (fun A B G H I d0 d1 d2 d3=>gu H (eI d2) fun hg=>y_call _ Try.func86 rfl rfl my2 (power_fn ((colours).toNat) ((n).toNat) _ _ _ (cvi (σ:=B) (by first | omega | assumption | cases hg | exact absurd (of_decide_eq_true hg) hbad) ((ef d0 rfl).1 hg)) (cvi (σ:=B) (by first | omega | assumption | cases hg | exact absurd (of_decide_eq_true hg) hbad) ((ef d1 rfl).1 hg)) (by first | omega | assumption | cases hg | exact absurd (of_decide_eq_true hg) hbad) (by first | omega | assumption | cases hg | exact absurd (of_decide_eq_true hg) hbad))) (gS rfl (fun A B G H I d0 d1=>gu H (eI d1) fun hg=>y_lss ((ef d0 rfl).1 hg) rfl) (gT (Ty.bool false) rfl (fun A B G H I d0 d1=>rP (y_pickF (eI d0) rfl)) (gE ok3 fun a4 s4 ok4 D4=>?_)));have q17:=D4.k q12;have q19:=D4.k q14;have q21:=D4.k q16;refine tn ?_
  refine cond_t (D4.m 13 rfl) (fun c2=>(by cases c2)) (fun _=>?_)
  refine wp_skip (tn (wp_seq (wp_seq ?_)))
  refine gI a4 s4 ok4 (gM q21 (gT (Ty.bool false) rfl (fun A B G H I d0=>rP ((y_eql (eI d0) rfl).mono (fun τ _ h=>cvb (σ:=τ) dE h))) (gS rfl (fun A B G H I d0=>rP (y_move (eI d0))) (gS rfl (fun A B G H I d0=>gu H (eI d0) fun hg=>y_move (kp (I 2 rfl) G q19)) (gS rfl (fun A B G H I d0=>gu H (eI d0) fun hg=>y_move (kp (I 0 rfl) G q17)) (gS rfl (fun A B G H I d0 d1 d2 d3=>gu H (eI d2) fun hg=>y_call _ Try.func86 rfl rfl my2 (power_fn ((colours).toNat) ((n).toNat) _ _ _ (cvi (σ:=B) (by first | omega | assumption | cases hg | exact absurd (of_decide_eq_true hg) hbad) ((ef d0 rfl).1 hg)) (cvi (σ:=B) (by first | omega | assumption | cases hg | exact absurd (of_decide_eq_true hg) hbad) ((ef d1 rfl).1 hg)) (by first | omega | assumption | cases hg | exact absurd (of_decide_eq_true hg) hbad) (by first | omega | assumption | cases hg | exact absurd (of_decide_eq_true hg) hbad))) (gS rfl (fun A B G H I d0 d1=>gu H (eI d1) fun hg=>y_gtr ((ef d0 rfl).1 hg) rfl) (gT (Ty.bool false) rfl (fun A B G H I d0 d1=>rP (y_pickF (eI d0) rfl)) (gE ok4 fun a5 s5 ok5 D5=>?_)))))))));refine tn ?_
  refine cond_t (D5.m 7 rfl) (fun c3=>(by cases c3)) (fun _=>?_)
  refine wp_skip (tn (wp_seq ?_))
  refine gI a5 s5 ok5 (gM (D5.k q17) (gM (D5.k (D4.k (D3.k q7))) (gM (D5.k q19) (gS rfl (fun A B G H I d0 d1 d2=>rP (y_call _ Try.func61 rfl rfl my3 (pattErr_fn (n) (gens) (colours) (e) _ _ _ _ (eI d0) (eI d1) (eI d2) oX))) (gS rfl (fun A B G H I d0=>rP (y_move (eI d0))) (gT (Ty.lst Ty.ints ([]:List (List Int))) rfl (fun A B G H I d0=>rP (y_ext2_0 (eI d0))) (gT (Ty.int e) rfl (fun A B G H I d0 d1=>rP (y_ext2_1 (eI d0))) (gB 0 (gB 0 (gE ok5 fun a6 s6 ok6 D6=>?_))))))))));have q32:=D6.k (D5.k q21);refine tn (wp_seq (wp_seq ?_))
  refine gI a6 s6 ok6 (gM q32 (gT (Ty.bool true) rfl (fun A B G H I d0=>rP ((y_neq (eI d0) rfl).mono (fun τ _ h=>cvb (σ:=τ) dE h))) (gE ok6 fun a7 s7 ok7 D7=>?_)));refine tn ?_
  refine cond_t (D7.m 1 rfl) (fun _=>?_) (fun c4=>(by cases c4))
  refine wp_seq ?_
  refine gI a7 s7 ok7 (gM (D7.k (D6.m 8 rfl)) (gM (D7.k q32) (gS rfl (fun A B G H I d0 d1=>rP (y_eql (eI d0) (eI d1))) (gS rfl (fun A B G H I d0=>rP (y_move (eI d0))) (gS rfl (fun A B G H I d0=>gu H (eI d0) fun hg=>y_move (kp (I 11 rfl) G (D7.k (D6.m 7 rfl)))) (gS rfl (fun A B G H I d0 d1=>gu H (eI d1) fun hg=>y_len Try.underlying24 ((ef d0 rfl).1 hg)) (gS rfl (fun A B G H I d0 d1=>gu H (eI d1) fun hg=>y_eql ((ef d0 rfl).1 hg) rfl) (gS rfl (fun A B G H I d0 d1=>rP (y_pick_and (eI d0) (eI d1) rfl)) (gB 0 (gE ok7 fun a8 s8 ok8 D8=>?_))))))))));refine tn (wp_ret (tr ?_))
  exact retL1 rfl ok8 ((((((F2.step0 D3.stp).step0 D4.stp).step0 D5.stp).step0 D6.stp).step0 D7.stp).step0 D8.stp) (cvb (by (simp [he])) (D8.m 8 rfl))
 ·
  obtain ⟨d1,d2⟩:=Bool.or_eq_false_iff.mp c1
  replace d1:=of_decide_eq_false d1
  replace d2:=of_decide_eq_false d2
  simp only [Bool.or_eq_false_iff,decide_eq_false_iff_not] at c1;have he:e = f:=(hfe oM).symm;have hbad:f ≠ 0:=(he ▸ hne0)
  refine wp_skip (tn (wp_seq (wp_seq ?_)))
  refine gI a2 s2 ok2 (gM q10 (gS rfl (fun A B G H I d0=>rP (y_eql (eI d0) rfl)) (gS rfl (fun A B G H I d0=>rP (y_move (eI d0))) (gS rfl (fun A B G H I d0=>gu H (eI d0) fun hg=>y_move (kp (I 2 rfl) G q8)) (gS rfl (fun A B G H I d0=>gu H (eI d0) fun hg=>y_move (kp (I 0 rfl) G q6)) (gS rfl (fun A B G H I d0 d1 d2 d3=>gut H (eI d2) fun hg hp=>y_call _ Try.func86 rfl rfl my2 (power_fn ((colours).toNat) ((n).toNat) _ _ _ (cvi (σ:=B) (by first | omega | assumption | cases hg | exact absurd (of_decide_eq_true hg) hbad) ((ef d0 rfl).1 hg)) (cvi (σ:=B) (by first | omega | assumption | cases hg | exact absurd (of_decide_eq_true hg) hbad) ((ef d1 rfl).1 hg)) (by first | omega | assumption | cases hg | exact absurd (of_decide_eq_true hg) hbad) (by first | omega | assumption | cases hg | exact absurd (of_decide_eq_true hg) hbad))) (gS rfl (fun A B G H I d0 d1=>gu H (eI d1) fun hg=>y_gtr ((ef d0 rfl).1 hg) rfl) (gS rfl (fun A B G H I d0 d1=>rP (y_pick_and (eI d0) (eI d1) rfl)) (gS rfl (fun A B G H I d0 d1=>rP (y_move (eI d0))) (gT (Ty.grd (((decide (f = (0:Int))) && (decide ((700:Int) < (((((colours).toNat) ^ ((n).toNat)):Nat):Int)))) = true) (Ty.int colours)) rfl (by intro A B G H I d0;refine run_guard H rfl rfl dE (eI d0) (fun hg=>?_);obtain ⟨d3,d4⟩:=Bool.and_eq_true_iff.mp hg;have d3:=of_decide_eq_true d3;have d4:=of_decide_eq_true d4;exact y_move (kp (I 2 rfl) G q8)) ?_))))))))))
  refine gT (Ty.grd (((decide (f = (0:Int))) && (decide ((700:Int) < (((((colours).toNat) ^ ((n).toNat)):Nat):Int)))) = true) (Ty.int n)) rfl (by intro A B G H I d0;refine run_guard H rfl rfl dE (eI d0) (fun hg=>?_);obtain ⟨d5,d6⟩:=Bool.and_eq_true_iff.mp hg;have d5:=of_decide_eq_true d5;have d6:=of_decide_eq_true d6;exact y_move (kp (I 0 rfl) G q6)) (gT (Ty.grd (((decide (f = (0:Int))) && (decide ((700:Int) < (((((colours).toNat) ^ ((n).toNat)):Nat):Int)))) = true) (Ty.nat (((colours).toNat) ^ ((n).toNat)))) rfl (by intro A B G H I d0 d1 d2 d3;refine run_guard H rfl rfl dE (eI d2) (fun hg=>?_);obtain ⟨d7,d8⟩:=Bool.and_eq_true_iff.mp hg;have d7:=of_decide_eq_true d7;have d8:=of_decide_eq_true d8;exact y_call _ Try.func86 rfl rfl my2 (power_fn ((colours).toNat) ((n).toNat) _ _ _ (cvi (σ:=B) (by first | omega | assumption | cases hg | exact absurd (of_decide_eq_true hg) hbad) ((ef d0 rfl).1 hg)) (cvi (σ:=B) (by first | omega | assumption | cases hg | exact absurd (of_decide_eq_true hg) hbad) ((ef d1 rfl).1 hg)) (by first | omega | assumption | cases hg | exact absurd (of_decide_eq_true hg) hbad) (by first | omega | assumption | cases hg | exact absurd (of_decide_eq_true hg) hbad))) (gT (Ty.grd (((decide (f = (0:Int))) && (decide ((700:Int) < (((((colours).toNat) ^ ((n).toNat)):Nat):Int)))) = true) (Ty.bool (decide ((((((colours).toNat) ^ ((n).toNat)):Nat):Int) < (5041:Int))))) rfl (by intro A B G H I d0 d1;refine run_guard H rfl rfl dE (eI d1) (fun hg=>?_);obtain ⟨d9,d10⟩:=Bool.and_eq_true_iff.mp hg;have d9:=of_decide_eq_true d9;have d10:=of_decide_eq_true d10;exact y_lss ((ef d0 rfl).1 hg) rfl) ?_))
  refine gS rfl (fun A B G H I d0 d1=>rP (y_pick_and (eI d0) (eI d1) rfl)) (gE ok2 fun a9 s9 ok9 D9=>?_);have q43:=D9.k q6;have q45:=D9.k q8;have q47:=D9.k q10;refine tn ?_
  refine cond_t (D9.m 13 rfl) (fun c5=>?_) (fun c5=>?_)
  ·
   exfalso
   (simp only [Bool.and_eq_true,decide_eq_true_eq] at c5;exact hbad c5.1.1)
  ·
   refine wp_skip (tn (wp_seq (wp_seq ?_)))
   refine gI a9 s9 ok9 (gM q47 (gS rfl (fun A B G H I d0=>rP (y_eql (eI d0) rfl)) (gS rfl (fun A B G H I d0=>rP (y_move (eI d0))) (gS rfl (fun A B G H I d0=>gu H (eI d0) fun hg=>y_move (kp (I 2 rfl) G q45)) (gS rfl (fun A B G H I d0=>gu H (eI d0) fun hg=>y_move (kp (I 0 rfl) G q43)) (gS rfl (fun A B G H I d0 d1 d2 d3=>gut H (eI d2) fun hg hp=>y_call _ Try.func86 rfl rfl my2 (power_fn ((colours).toNat) ((n).toNat) _ _ _ (cvi (σ:=B) (by first | omega | assumption | cases hg | exact absurd (of_decide_eq_true hg) hbad) ((ef d0 rfl).1 hg)) (cvi (σ:=B) (by first | omega | assumption | cases hg | exact absurd (of_decide_eq_true hg) hbad) ((ef d1 rfl).1 hg)) (by first | omega | assumption | cases hg | exact absurd (of_decide_eq_true hg) hbad) (by first | omega | assumption | cases hg | exact absurd (of_decide_eq_true hg) hbad))) (gS rfl (fun A B G H I d0 d1=>gu H (eI d1) fun hg=>y_gtr ((ef d0 rfl).1 hg) rfl) (gS rfl (fun A B G H I d0 d1=>rP (y_pick_and (eI d0) (eI d1) rfl)) (gE ok9 fun a10 s10 ok10 D10=>?_)))))))));refine tn ?_
   refine cond_t (D10.m 7 rfl) (fun c6=>?_) (fun c6=>?_)
   ·
    exfalso
    (simp only [Bool.and_eq_true,decide_eq_true_eq] at c6;exact hbad c6.1)
   ·
    refine wp_skip (tn (wp_seq ?_))
    refine gI a10 s10 ok10 (gM (D10.k q43) (gM (D10.k (D9.k q7)) (gM (D10.k q45) (gS rfl (fun A B G H I d0 d1 d2=>rP (y_call _ Try.func61 rfl rfl my3 (pattErr_fn (n) (gens) (colours) (e) _ _ _ _ (eI d0) (eI d1) (eI d2) oX))) (gS rfl (fun A B G H I d0=>rP (y_move (eI d0))) (gT (Ty.lst Ty.ints ([]:List (List Int))) rfl (fun A B G H I d0=>rP (y_ext2_0 (eI d0))) (gT (Ty.int e) rfl (fun A B G H I d0 d1=>rP (y_ext2_1 (eI d0))) (gB 0 (gB 0 (gE ok10 fun a11 s11 ok11 D11=>?_))))))))));have q58:=D11.k (D10.k q47);refine tn (wp_seq (wp_seq ?_))
    refine gI a11 s11 ok11 (gM q58 (gS rfl (fun A B G H I d0=>rP (y_neq (eI d0) rfl)) (gE ok11 fun a12 s12 ok12 D12=>?_)));refine tn ?_
    refine cond_p (p:=(f ≠ (0:Int))) (D12.m 1 rfl) (fun c7=>?_) (fun c7=>?_)
    ·
     refine wp_seq ?_
     refine gI a12 s12 ok12 (gM (D12.k (D11.m 8 rfl)) (gM (D12.k q58) (gS rfl (fun A B G H I d0 d1=>rP (y_eql (eI d0) (eI d1))) (gS rfl (fun A B G H I d0=>rP (y_move (eI d0))) (gS rfl (fun A B G H I d0=>gu H (eI d0) fun hg=>y_move (kp (I 11 rfl) G (D12.k (D11.m 7 rfl)))) (gS rfl (fun A B G H I d0 d1=>gu H (eI d1) fun hg=>y_len Try.underlying24 ((ef d0 rfl).1 hg)) (gS rfl (fun A B G H I d0 d1=>gu H (eI d1) fun hg=>y_eql ((ef d0 rfl).1 hg) rfl) (gS rfl (fun A B G H I d0 d1=>rP (y_pick_and (eI d0) (eI d1) rfl)) (gB 0 (gE ok12 fun a13 s13 ok13 D13=>?_))))))))));refine tn (wp_ret (tr ?_))
     exact retL1 rfl ok13 (((((F2.step0 D9.stp).step0 D10.stp).step0 D11.stp).step0 D12.stp).step0 D13.stp) (cvb (by (simp [he])) (D13.m 8 rfl))
    ·
     exfalso
     exact c7 hbad
set_option maxHeartbeats 4000000 in
set_option maxRecDepth 100000 in
theorem clD_fn (n:Nat) (gens:List (List Int)) (C:Nat) (rows:List (List Int)) (σ:GW)  (v0 v1 v2 v3 v4:Value) (hv0:Ty.has (Ty.nat n) σ v0) (hv1:Ty.has (Ty.lst Ty.ints gens) σ v1) (hv2:Ty.has (Ty.nat C) σ v2) (hv3:Ty.has (Ty.lst Ty.ints rows) σ v3) (hv4:Ty.has (Ty.int (0:Int)) σ v4)  (hC:C ≤ 8) (hn:1 ≤ n∧n ≤ 12) (hG0:gensMay (n:Int) gens = 0) (hL:szTo n (fun y=>y ∈ gens) n ≤ 5040) (hP:700 < C ^ n∧C ^ n < 5041) :
    FnC Try.prog 53 #[v0,v1,v2,v3,v4] σ (Ty.bool true):=by
 refine fn_intro0 Try.func53 rfl Try.ntmps53 (Nat.le_of_ble_eq_true rfl) (fun s0 a0 hle F0 ok0 hargs=>?_)
 have p0:=pA hle (hargs 0 _ rfl) hv0
 have p1:=pA hle (hargs 1 _ rfl) hv1
 have b1:=sl_le p1
 have p2:=pA hle (hargs 2 _ rfl) hv2
 have p3:=pA hle (hargs 3 _ rfl) hv3
 have b2:=sl_le p3
 have p4:=pA hle (hargs 4 _ rfl) hv4
 clear hargs;refine wp_seq ?_
 refine gI a0 s0 ok0 (gC (Ty.bool false) (gE ok0 fun a1 s1 ok1 D1=>?_));have q3:=D1.k p2;refine tn (wp_seq (wp_seq ?_))
 refine gI a1 s1 ok1 (gM q3 (gS rfl (fun A B G H I d0=>rP (y_lss (eI d0) rfl)) (gS rfl (fun A B G H I d0=>rP (y_move (eI d0))) (gS rfl (fun A B G H I d0=>gu H (eI d0) fun hg=>y_move (kp (I 2 rfl) G q3)) (gS rfl (fun A B G H I d0 d1=>gu H (eI d1) fun hg=>y_gtr ((ef d0 rfl).1 hg) rfl) (gS rfl (fun A B G H I d0 d1=>rP (y_pick_or (eI d0) rfl (eI d1))) (gE ok1 fun a2 s2 ok2 D2=>?_)))))));have q6:=D2.k (D1.k p0);have q8:=D2.k q3;refine tn ?_
 refine cond_t (D2.m 5 rfl) (fun c1=>?_) (fun c1=>?_)
 ·
  exfalso
  simp only [Bool.or_eq_true,decide_eq_true_eq] at c1;omega
 ·
  obtain ⟨d1,d2⟩:=Bool.or_eq_false_iff.mp c1
  replace d1:=of_decide_eq_false d1
  replace d2:=of_decide_eq_false d2
  refine wp_skip (tn (wp_seq (wp_seq ?_)))
  refine gI a2 s2 ok2 (gM (D2.k (D1.k p4)) (gT (Ty.bool true) rfl (fun A B G H I d0=>rP ((y_eql (eI d0) rfl).mono (fun τ _ h=>cvb (σ:=τ) dE h))) (gS rfl (fun A B G H I d0=>rP (y_move (eI d0))) (gS rfl (fun A B G H I d0=>gu H (eI d0) fun hg=>y_move (kp (I 2 rfl) G q8)) (gS rfl (fun A B G H I d0=>gu H (eI d0) fun hg=>y_move (kp (I 0 rfl) G q6)) (gS rfl (fun A B G H I d0 d1 d2 d3=>gu H (eI d2) fun hg=>y_call _ Try.func86 rfl rfl my2 (power_fn (C) (n) _ _ _ (cvi (σ:=B) (by first | omega | assumption | cases hg | exact absurd (of_decide_eq_true hg) hbad) ((ef d0 rfl).1 hg)) ((ef d1 rfl).1 hg) (by first | omega | assumption | cases hg | exact absurd (of_decide_eq_true hg) hbad) (by first | omega | assumption | cases hg | exact absurd (of_decide_eq_true hg) hbad))) (gS rfl (fun A B G H I d0 d1=>gu H (eI d1) fun hg=>y_gtr ((ef d0 rfl).1 hg) rfl) (gS rfl (fun A B G H I d0 d1=>rP (y_pick_and (eI d0) (eI d1) rfl)) (gS rfl (fun A B G H I d0 d1=>rP (y_move (eI d0))) (gT (Ty.grd ((true && (decide ((700:Int) < ((((C) ^ n):Nat):Int)))) = true) (Ty.nat C)) rfl (by intro A B G H I d0;refine run_guard H rfl rfl dE (eI d0) (fun hg=>?_);obtain ⟨d3,d4⟩:=Bool.and_eq_true_iff.mp hg;have d4:=of_decide_eq_true d4;exact y_move (kp (I 2 rfl) G q8)) (gT (Ty.grd ((true && (decide ((700:Int) < ((((C) ^ n):Nat):Int)))) = true) (Ty.nat n)) rfl (by intro A B G H I d0;refine run_guard H rfl rfl dE (eI d0) (fun hg=>?_);obtain ⟨d5,d6⟩:=Bool.and_eq_true_iff.mp hg;have d6:=of_decide_eq_true d6;exact y_move (kp (I 0 rfl) G q6)) ?_)))))))))))
  refine gT (Ty.grd ((true && (decide ((700:Int) < ((((C) ^ n):Nat):Int)))) = true) (Ty.nat ((C) ^ n))) rfl (by intro A B G H I d0 d1 d2 d3;refine run_guard H rfl rfl dE (eI d2) (fun hg=>?_);obtain ⟨d7,d8⟩:=Bool.and_eq_true_iff.mp hg;have d8:=of_decide_eq_true d8;exact y_call _ Try.func86 rfl rfl my2 (power_fn (C) (n) _ _ _ (cvi (σ:=B) (by first | omega | assumption | cases hg | exact absurd (of_decide_eq_true hg) hbad) ((ef d0 rfl).1 hg)) ((ef d1 rfl).1 hg) (by first | omega | assumption | cases hg | exact absurd (of_decide_eq_true hg) hbad) (by first | omega | assumption | cases hg | exact absurd (of_decide_eq_true hg) hbad))) (gT (Ty.grd ((true && (decide ((700:Int) < ((((C) ^ n):Nat):Int)))) = true) (Ty.bool (decide (((((C) ^ n):Nat):Int) < (5041:Int))))) rfl (by intro A B G H I d0 d1;refine run_guard H rfl rfl dE (eI d1) (fun hg=>?_);obtain ⟨d9,d10⟩:=Bool.and_eq_true_iff.mp hg;have d10:=of_decide_eq_true d10;exact y_lss ((ef d0 rfl).1 hg) rfl) (gS rfl (fun A B G H I d0 d1=>rP (y_pick_and (eI d0) (eI d1) rfl)) (gE ok2 fun a3 s3 ok3 D3=>?_)));refine tn ?_
  refine cond_t (D3.m 13 rfl) (fun c2=>?_) (fun c2=>?_)
  ·
   obtain ⟨d11,d12⟩:=Bool.and_eq_true_iff.mp c2
   obtain ⟨d13,d14⟩:=Bool.and_eq_true_iff.mp d11
   replace d14:=of_decide_eq_true d14
   replace d12:=of_decide_eq_true d12
   refine wp_seq ?_
   refine gI a3 s3 ok3 (gC (Ty.bool true) (gE ok3 fun a4 s4 ok4 D4=>?_));refine tn (wp_ret (tr ?_))
   exact retL1 rfl ok4 ((((F0.step0 D1.stp).step0 D2.stp).step0 D3.stp).step0 D4.stp) (D4.m 0 rfl)
  ·
   exfalso
   (simp only [Bool.and_eq_false_iff,decide_eq_false_iff_not,reduceCtorEq,false_or] at c2;omega)
end Go.Proofs.Ytkjifbgofckfeaa
