/- The functions that the law ColourSays reaches, each by its contract. Part 9. -/
import Derived.Test.YtkjifbgofckfeaaColourSaysW8
namespace Go.Proofs.Ytkjifbgofckfeaa
open Go.KL
set_option maxHeartbeats 4000000 in
set_option maxRecDepth 100000 in
theorem pattD_fn (n:Nat) (gens:List (List Int)) (C:Nat) (σ:GW)  (v0 v1 v2:Value) (hv0:Ty.has (Ty.nat n) σ v0) (hv1:Ty.has (Ty.lst Ty.ints gens) σ v1) (hv2:Ty.has (Ty.nat C) σ v2)  (hC:C ≤ 8) (hG0:gensMay (n:Int) gens = 0) (hL:szTo n (fun y=>y ∈ gens) n ≤ 5040) (hP:5040 < C ^ n) :
    FnC Try.prog 61 #[v0,v1,v2] σ (Ty.tup2 (Ty.lst Ty.ints ([]:List (List Int))) (Ty.int (3:Int))):=by
 obtain ⟨hn,hGl,hG⟩:=may_nat hG0
 have hGl2:gens.length ≤ 1000000:=oM
 have hGl3:gens.length ≤ 1000:=oM
 refine fn_intro0 Try.func61 rfl Try.ntmps61 (Nat.le_of_ble_eq_true rfl) (fun s0 a0 hle F0 ok0 hargs=>?_)
 have p0:=pA hle (hargs 0 _ rfl) hv0
 have p1:=pA hle (hargs 1 _ rfl) hv1
 have b1:=sl_le p1
 have p2:=pA hle (hargs 2 _ rfl) hv2
 clear hargs;refine wp_seq ?_
 refine gI a0 s0 ok0 (gC (Ty.val (Value.slice none 0 0)) (gC (Ty.int (0:Int)) (gE ok0 fun a1 s1 ok1 D1=>?_)));have q3:=D1.k p2;refine tn (wp_seq (wp_seq ?_))
 refine gI a1 s1 ok1 (gM q3 (gS rfl (fun A B G H I d0=>rP (y_lss (eI d0) rfl)) (gS rfl (fun A B G H I d0=>rP (y_move (eI d0))) (gS rfl (fun A B G H I d0=>gu H (eI d0) fun hg=>y_move (kp (I 2 rfl) G q3)) (gS rfl (fun A B G H I d0 d1=>gu H (eI d1) fun hg=>y_gtr ((ef d0 rfl).1 hg) rfl) (gS rfl (fun A B G H I d0 d1=>rP (y_pick_or (eI d0) rfl (eI d1))) (gE ok1 fun a2 s2 ok2 D2=>?_)))))));have q4:=D2.k (D1.k p0);refine tn ?_
 refine cond_t (D2.m 5 rfl) (fun c1=>?_) (fun c1=>?_)
 ·
  exfalso
  simp only [Bool.or_eq_true,decide_eq_true_eq] at c1;omega
 ·
  obtain ⟨d1,d2⟩:=Bool.or_eq_false_iff.mp c1
  replace d1:=of_decide_eq_false d1
  replace d2:=of_decide_eq_false d2
  refine wp_skip (tn (wp_seq ?_))
  refine gI a2 s2 ok2 (gM q4 (gM (D2.k (D1.k p1)) (gE2 ok2 fun a3 s3 ok3 D3=>?_)))
  refine tL ok3 (y_callL (L:=[]) [] [(41,41),(42,42),(43,43)] _ rfl dE Try.func17 rfl rfl my2 (gMake_fn (n) (gens) _ lW _ _ (uL (D3.m 0 rfl)) (uL (D3.m 1 rfl))  oX oX oX)) fun a4 s4 hs1 ok4 r1 sm1=>?_
  obtain ⟨t1,⟨g1,g2,x1,x2,x3,hT1,o1,o2,o3,hp1⟩,B1⟩:=r1
  have q14:At (Ty.tup2 (Ty.val x1) (Ty.int (0:Int))) s4 a4 (.tmp 26):=Ty.up _ B1.le hT1
  have o4:OwnP s4 41 x1 [(Ty.nat n),(Ty.val x3),(Ty.val x2)]:=OwnP.ren o1 (B1.ren dE rfl)
  have o5:ChnU s4 42 22 108 x2 n (g1) (g2):=ChnU.ren o2 (B1.ren dE rfl)
  have o6:Own s4 43 22 1 x3 (List.length gens) (List.map Ty.ints gens):=Own.ren o3 (B1.ren dE rfl)
  refine tL ok4 (Yld.toL (y_mv q14)) fun a5 s5 hs2 ok5 r2 sm2=>?_
  have q17:At (Ty.tup2 (Ty.val x1) (Ty.int (0:Int))) s5 a5 (.tmp 23):=r2
  clear r2
  refine tL (R:=(fun v τ=>Pr.has (Ty.pr (Ty.val x1)) τ v)) ok5 (Yld.toL (y_ext2_0 q17)) fun a6 s6 hs3 ok6 r3 sm3=>?_
  have q21:At (Ty.val x1) s6 a6 (.tmp 27):=r3
  clear r3
  refine tL (R:=(fun v τ=>Pr.has (Ty.pr (Ty.int (0:Int))) τ v)) ok6 (Yld.toL (y_ext2_1 (kq hs3 sm3 23 q17))) fun a7 s7 hs4 ok7 r4 sm4=>?_
  have q25:At (Ty.int (0:Int)) s7 a7 (.tmp 28):=r4
  clear r4
  refine tL ok7 (Yld.toL (y_as (kq hs4 sm4 27 q21))) fun a8 s8 hs5 ok8 r5 sm5=>?_
  have q29:At (Ty.val x1) s8 a8 (.tmp 8):=r5
  clear r5
  refine tL ok8 (Yld.toL (y_as (kq hs5 sm5 28 q25))) fun a9 s9 hs6 ok9 r6 sm6=>?_
  have q33:At (Ty.int (0:Int)) s9 a9 (.tmp 9):=r6
  clear r6;refine wpList_nil (tn (wp_seq (wp_seq ?_)))
  refine gI a9 s9 ok9 (gM q33 (gT (Ty.bool false) rfl (fun A B G H I d0=>rP ((y_neq (eI d0) rfl).mono (fun τ _ h=>cvb (σ:=τ) dE h))) (gE ok9 fun a10 s10 ok10 D4=>?_)));have o22:=OwnP.k0 (OwnP.kl (OwnP.kl (OwnP.kl (OwnP.kl (OwnP.kl o4 hs2) hs3) hs4) hs5) hs6) D4.stp;have o23:=ChnU.k0 (ChnU.kl (ChnU.kl (ChnU.kl (ChnU.kl (ChnU.kl o5 hs2) hs3) hs4) hs5) hs6) D4.stp;have o24:=Own.k0 (Own.kl (Own.kl (Own.kl (Own.kl (Own.kl o6 hs2) hs3) hs4) hs5) hs6) D4.stp;refine tn ?_
  refine cond_t (D4.m 1 rfl) (fun c2=>(by cases c2)) (fun _=>?_)
  refine wp_skip (tn (wp_seq ?_))
  refine gI a10 s10 ok10 (gM (D4.k (kq hs6 sm6 8 q29)) (gE2 ok10 fun a11 s11 ok11 D5=>?_));have o25:=OwnP.k0 o22 D5.stp;have o26:=ChnU.k0 o23 D5.stp;have o27:=Own.k0 o24 D5.stp
  have q42:At (Ty.val x1) s11 a11 (.tmp 33):=D5.done 0 dE
  refine tL ok11 (y_callL (L:=[41,42,43]) [(41,41),(42,42),(43,43)] [(41,41),(42,42),(43,43)] #[a11.eval (.tmp 33)] rfl dE Try.func60 rfl rfl my1 (gElts_fn (x1) (x3) (x2) ((g2)) (n) ((g1)) (gens) _ lW _ (uL q42) (OwnP.ren o25 (GW.ren_lend _ _ dE rfl)) (ChnU.ren (cvch (by (rfl)) o26) (GW.ren_lend _ _ dE rfl)) (Own.ren o27 (GW.ren_lend _ _ dE rfl)) oX oX)) fun a12 s12 hs7 ok12 r7 sm7=>?_
  obtain ⟨t2,⟨g3,hT2,o28,o29,o30,hp2⟩,B2⟩:=r7
  have q46:At (Ty.tup2 (Ty.lst Ty.ints (g3)) (Ty.int (eltE n gens))) s12 a12 (.tmp 34):=Ty.up _ B2.le hT2
  have o31:OwnP s12 41 x1 [(Ty.nat n),(Ty.val x3),(Ty.val x2)]:=OwnP.ren o28 (B2.ren dE rfl)
  have o32:ChnU s12 42 22 108 x2 n ((g1)) ((g2)):=ChnU.ren o29 (B2.ren dE rfl)
  have o33:Own s12 43 22 1 x3 (List.length gens) (List.map Ty.ints gens):=Own.ren o30 (B2.ren dE rfl)
  refine tL ok12 (Yld.toL (y_mv q46)) fun a13 s13 hs8 ok13 r8 sm8=>?_
  have q50:At (Ty.tup2 (Ty.lst Ty.ints (g3)) (Ty.int (eltE n gens))) s13 a13 (.tmp 32):=r8
  clear r8
  refine tL (R:=(fun v τ=>Pr.has (Ty.pr (Ty.lst Ty.ints (g3))) τ v)) ok13 (Yld.toL (y_ext2_0 q50)) fun a14 s14 hs9 ok14 r9 sm9=>?_
  have q55:At (Ty.lst Ty.ints (g3)) s14 a14 (.tmp 35):=r9
  clear r9
  refine tL (R:=(fun v τ=>Pr.has (Ty.pr (Ty.int (eltE n gens))) τ v)) ok14 (Yld.toL (y_ext2_1 (kq hs9 sm9 32 q50))) fun a15 s15 hs10 ok15 r10 sm10=>?_
  have q60:At (Ty.int (eltE n gens)) s15 a15 (.tmp 36):=r10
  clear r10
  refine tL ok15 (Yld.toL (y_as (kq hs10 sm10 35 q55))) fun a16 s16 hs11 ok16 r11 sm11=>?_
  have q63:=kq hs11 sm11 9 (kq hs10 sm10 9 (kq hs9 sm9 9 (kq hs8 sm8 9 (kq hs7 sm7 9 (D5.k (D4.k q33))))))
  have q65:At (Ty.lst Ty.ints (g3)) s16 a16 (.tmp 10):=r11
  clear r11
  refine tL ok16 (Yld.toL (y_as (kq hs11 sm11 36 q60))) fun a17 s17 hs12 ok17 r12 sm12=>?_
  have q69:At (Ty.int (eltE n gens)) s17 a17 (.tmp 9):=r12
  clear r12;refine wpList_nil (tn (wp_seq (wp_seq ?_)))
  have hE0:eltE n gens = 0:=(by unfold eltE;rw [if_pos hL])
  have hEO:=hp2.ok hL
  have hEl:=hEO.len
  have hEr:∀ r ∈ g3,RowN n r:=fun r hr=>((hEO.mem r).1 hr).row hn hG
  refine gI a17 s17 ok17 (gM q69 (gS rfl (fun A B G H I d0=>rP (y_neq (eI d0) rfl)) (gE ok17 fun a18 s18 ok18 D6=>?_)));have o49:=OwnP.k0 (OwnP.kl (OwnP.kl (OwnP.kl (OwnP.kl (OwnP.kl o31 hs8) hs9) hs10) hs11) hs12) D6.stp;have o50:=ChnU.k0 (ChnU.kl (ChnU.kl (ChnU.kl (ChnU.kl (ChnU.kl o32 hs8) hs9) hs10) hs11) hs12) D6.stp;have o51:=Own.k0 (Own.kl (Own.kl (Own.kl (Own.kl (Own.kl o33 hs8) hs9) hs10) hs11) hs12) D6.stp;refine tn ?_
  refine cond_p (p:=((eltE n gens) ≠ (0:Int))) (D6.m 1 rfl) (fun c3=>?_) (fun c3=>?_)
  ·
   exfalso
   (rw [hE0] at c3;exact c3 rfl)
  ·
   refine wp_skip (tn (wp_seq ?_))
   refine gI a18 s18 ok18 (gC (Ty.int (1:Int)) (gE ok18 fun a19 s19 ok19 D7=>?_));have q75:=D7.k (D6.k (kq hs12 sm12 0 (kq hs11 sm11 0 (kq hs10 sm10 0 (kq hs9 sm9 0 (kq hs8 sm8 0 (kq hs7 sm7 0 (D5.k (D4.k (kq hs6 sm6 0 (kq hs5 sm5 0 (kq hs4 sm4 0 (kq hs3 sm3 0 (kq hs2 sm2 0 (kq hs1 sm1 0 (D3.k q4))))))))))))))));have o52:=OwnP.k0 o49 D7.stp;have o53:=ChnU.k0 o50 D7.stp;have o54:=Own.k0 o51 D7.stp;refine tn (wp_seq (wp_seq ?_))
   refine gI a19 s19 ok19 (gM q75 (gT (Ty.int (0:Int)) rfl (fun A B G H I=>rP (y_move rfl)) (gE ok19 fun a20 s20 ok20 D8=>?_)));have o55:=OwnP.k0 o52 D8.stp;have o56:=ChnU.k0 o53 D8.stp;have o57:=Own.k0 o54 D8.stp;refine tn (wp_block ?_)
   refine loop (fun n1 a21 w1=>∃ (t3:GW) (i:Nat),t3.w = w1∧FromL [] s0 t3∧Ok 80 [] a21∧At (Ty.nat i) t3 a21 (.tmp 41)∧At (Ty.nat (C ^ i)) t3 a21 (.tmp 11)∧At (Ty.nat n) t3 a21 (.tmp 0)∧At (Ty.nat C) t3 a21 (.tmp 2)∧At (Ty.lst Ty.ints (g3)) t3 a21 (.tmp 10)∧At (Ty.nat n) t3 a21 (.tmp 40)∧OwnP t3 41 x1 [(Ty.nat n),(Ty.val x3),(Ty.val x2)]∧ChnU t3 42 22 108 x2 n ((g1)) ((g2))∧Own t3 43 22 1 x3 (List.length gens) (List.map Ty.ints gens)∧(i ≤ n)∧(C ^ i ≤ 5040)∧n1 = n - i) (n - (0)) ?_ ?_
   ·
    exact ⟨s20,0,rfl,((((((((((((((((((((F0.step0 D1.stp).step0 D2.stp).step0 D3.stp).sl hs1).sl hs2).sl hs3).sl hs4).sl hs5).sl hs6).step0 D4.stp).step0 D5.stp).sl hs7).sl hs8).sl hs9).sl hs10).sl hs11).sl hs12).step0 D6.stp).step0 D7.stp).step0 D8.stp),ok20,(cJ (D8.m 1 rfl)),(cvi (by (simp)) (D8.k (D7.m 0 rfl))),(D8.k q75),(D8.k (D7.k (D6.k (kq hs12 sm12 2 (kq hs11 sm11 2 (kq hs10 sm10 2 (kq hs9 sm9 2 (kq hs8 sm8 2 (kq hs7 sm7 2 (D5.k (D4.k (kq hs6 sm6 2 (kq hs5 sm5 2 (kq hs4 sm4 2 (kq hs3 sm3 2 (kq hs2 sm2 2 (kq hs1 sm1 2 (D3.k (D2.k q3))))))))))))))))))),(D8.k (D7.k (D6.k (kq hs12 sm12 10 q65)))),(D8.m 0 rfl),o55,o56,o57,by omega,by (rw [Nat.pow_zero];omega),rfl⟩
   ·
    rintro n2 a22 w2 ⟨t4,i,rfl,F21,ok21,q85,q86,q87,q88,q89,q90,o58,o59,o60,hi,hpS,rfl⟩
    have hpb:=pow_bd hC (show i ≤ 12 by omega)
    refine wp_seq ?_
    refine gI a22 t4 ok21 (gS rfl (fun A B G H I=>rP (y_lss (kp (I 41 rfl) G q85) (kp (I 40 rfl) G q90))) (gE ok21 fun a23 s21 ok22 D9=>?_));have q94:=D9.k q88;have o61:=OwnP.k0 o58 D9.stp;have o62:=ChnU.k0 o59 D9.stp;have o63:=Own.k0 o60 D9.stp;refine tn (wp_seq ?_)
    refine cond_p (p:=(((i:Nat):Int) < ((n:Nat):Int))) (D9.m 0 rfl) (fun c4=>?_) (fun c4=>?_)
    ·
     have hpb2:=pow_bd (e:=i + 1) hC oM;rw [Nat.pow_succ] at hpb2
     refine wp_skip (tn (wp_seq (wp_block (wp_seq ?_))))
     refine gI a23 s21 ok22 (gM (D9.k q86) (gM q94 (gT (Ty.nat ((C ^ i) * C)) rfl (fun A B G H I d0 d1=>rP ((y_mul (eI d0) (eI d1) wX).mono (fun τ _ h=>cN (σ:=τ) h))) (gB 0 (gE ok22 fun a24 s22 ok23 D10=>?_)))));have o64:=OwnP.k0 o61 D10.stp;have o65:=ChnU.k0 o62 D10.stp;have o66:=Own.k0 o63 D10.stp;have q103:=D10.m 3 rfl;refine tn (wp_seq ?_)
     refine gI a24 s22 ok23 (gM q103 (gS rfl (fun A B G H I d0=>rP (y_gtr (eI d0) rfl)) (gE ok23 fun a25 s23 ok24 D11=>?_)));have F24:=((F21.step0 D9.stp).step0 D10.stp).step0 D11.stp;have o67:=OwnP.k0 o64 D11.stp;have o68:=ChnU.k0 o65 D11.stp;have o69:=Own.k0 o66 D11.stp;refine tn ?_
     refine cond_p (p:=((5040:Int) < ((((C ^ i) * C):Nat):Int))) (D11.m 1 rfl) (fun c5=>?_) (fun c5=>?_)
     ·
      refine wp_seq ?_
      refine gI a25 s23 ok24 (gC (Ty.val (Value.slice none 0 0)) (gC (Ty.int (3:Int)) (gE ok24 fun a26 s24 ok25 D12=>?_)));have o70:=OwnP.k0 o67 D12.stp;have o71:=ChnU.k0 o68 D12.stp;have o72:=Own.k0 o69 D12.stp;refine tn (wp_ret (br (tr (tr (br (tr ?_))))))
      exact retL2 rfl ok25 (F24.step0 D12.stp) (hasT2 (nil_lst (by (first | rfl | omega | (simp_all;done) | (simp_all;omega))) (D12.m 0 rfl)) (D12.m 1 rfl))
     ·
      have hpS2:C ^ (i + 1) ≤ 5040:=(by rw [Nat.pow_succ];omega)
      refine wp_skip (bn (tn ?_))
      refine gI a25 s23 ok24 (gT (Ty.nat (i + 1)) rfl (fun A B G H I=>rP ((y_add (kp (I 41 rfl) G (D11.k (D10.k (D9.k q85)))) rfl wX).mono (fun τ _ h=>cN (σ:=τ) h))) (gS rfl (fun A B G H I d0=>rP (y_move (eI d0))) (gE ok24 fun a27 s25 ok26 D13=>?_)));have o73:=OwnP.k0 o67 D13.stp;have o74:=ChnU.k0 o68 D13.stp;have o75:=Own.k0 o69 D13.stp
      exact tn ⟨n - ((i+1)),by omega,s25,(i+1),rfl,(F24.step0 D13.stp),ok26,(cJ (D13.m 1 rfl)),(cvi (by (rw [Nat.pow_succ])) (D13.k (D11.k q103))),(D13.k (D11.k (D10.k (D9.k q87)))),(D13.k (D11.k (D10.k q94))),(D13.k (D11.k (D10.k (D9.k q89)))),(D13.k (D11.k (D10.k (D9.k q90)))),o73,o74,o75,by omega,hpS2,rfl⟩
    ·
     exfalso
     (rw [show i = n by omega] at hpS;omega)
set_option maxHeartbeats 4000000 in
set_option maxRecDepth 100000 in
theorem clE_fn (n:Nat) (gens:List (List Int)) (C:Nat) (rows:List (List Int)) (σ:GW)  (v0 v1 v2 v3 v4:Value) (hv0:Ty.has (Ty.nat n) σ v0) (hv1:Ty.has (Ty.lst Ty.ints gens) σ v1) (hv2:Ty.has (Ty.nat C) σ v2) (hv3:Ty.has (Ty.lst Ty.ints rows) σ v3) (hv4:Ty.has (Ty.int (0:Int)) σ v4)  (hC:C ≤ 8) (hn:1 ≤ n∧n ≤ 12) (hG0:gensMay (n:Int) gens = 0) (hL:szTo n (fun y=>y ∈ gens) n ≤ 5040) (hP:5040 < C ^ n) :
    FnC Try.prog 53 #[v0,v1,v2,v3,v4] σ (Ty.bool true):=by
 refine fn_intro0 Try.func53 rfl Try.ntmps53 (Nat.le_of_ble_eq_true rfl) (fun s0 a0 hle F0 ok0 hargs=>?_)
 have p0:=pA hle (hargs 0 _ rfl) hv0
 have p1:=pA hle (hargs 1 _ rfl) hv1
 have b1:=sl_le p1
 have p2:=pA hle (hargs 2 _ rfl) hv2
 have p3:=pA hle (hargs 3 _ rfl) hv3
 have b2:=sl_le p3
 have p4:=pA hle (hargs 4 _ rfl) hv4
 clear hargs;refine wp_seq ?_
 refine gI a0 s0 ok0 (gC (Ty.bool false) (gE ok0 fun a1 s1 ok1 D1=>?_));have q3:=D1.k p2;refine tn (wp_seq (wp_seq ?_))
 refine gI a1 s1 ok1 (gM q3 (gS rfl (fun A B G H I d0=>rP (y_lss (eI d0) rfl)) (gS rfl (fun A B G H I d0=>rP (y_move (eI d0))) (gS rfl (fun A B G H I d0=>gu H (eI d0) fun hg=>y_move (kp (I 2 rfl) G q3)) (gS rfl (fun A B G H I d0 d1=>gu H (eI d1) fun hg=>y_gtr ((ef d0 rfl).1 hg) rfl) (gS rfl (fun A B G H I d0 d1=>rP (y_pick_or (eI d0) rfl (eI d1))) (gE ok1 fun a2 s2 ok2 D2=>?_)))))));have q6:=D2.k (D1.k p0);have q8:=D2.k q3;have q10:=D2.k (D1.k p4);refine tn ?_
 refine cond_t (D2.m 5 rfl) (fun c1=>?_) (fun c1=>?_)
 ·
  exfalso
  simp only [Bool.or_eq_true,decide_eq_true_eq] at c1;omega
 ·
  obtain ⟨d1,d2⟩:=Bool.or_eq_false_iff.mp c1
  replace d1:=of_decide_eq_false d1
  replace d2:=of_decide_eq_false d2
  refine wp_skip (tn (wp_seq (wp_seq ?_)))
  refine gI a2 s2 ok2 (gM q10 (gT (Ty.bool true) rfl (fun A B G H I d0=>rP ((y_eql (eI d0) rfl).mono (fun τ _ h=>cvb (σ:=τ) dE h))) (gS rfl (fun A B G H I d0=>rP (y_move (eI d0))) (gS rfl (fun A B G H I d0=>gu H (eI d0) fun hg=>y_move (kp (I 2 rfl) G q8)) (gS rfl (fun A B G H I d0=>gu H (eI d0) fun hg=>y_move (kp (I 0 rfl) G q6)) (gS rfl (fun A B G H I d0 d1 d2 d3=>gu H (eI d2) fun hg=>y_call _ Try.func86 rfl rfl my2 (power_fn (C) (n) _ _ _ (cvi (σ:=B) (by first | omega | assumption | cases hg | exact absurd (of_decide_eq_true hg) hbad) ((ef d0 rfl).1 hg)) ((ef d1 rfl).1 hg) (by first | omega | assumption | cases hg | exact absurd (of_decide_eq_true hg) hbad) (by first | omega | assumption | cases hg | exact absurd (of_decide_eq_true hg) hbad))) (gS rfl (fun A B G H I d0 d1=>gu H (eI d1) fun hg=>y_gtr ((ef d0 rfl).1 hg) rfl) (gS rfl (fun A B G H I d0 d1=>rP (y_pick_and (eI d0) (eI d1) rfl)) (gS rfl (fun A B G H I d0 d1=>rP (y_move (eI d0))) (gT (Ty.grd ((true && (decide ((700:Int) < ((((C) ^ n):Nat):Int)))) = true) (Ty.nat C)) rfl (by intro A B G H I d0;refine run_guard H rfl rfl dE (eI d0) (fun hg=>?_);obtain ⟨d3,d4⟩:=Bool.and_eq_true_iff.mp hg;have d4:=of_decide_eq_true d4;exact y_move (kp (I 2 rfl) G q8)) (gT (Ty.grd ((true && (decide ((700:Int) < ((((C) ^ n):Nat):Int)))) = true) (Ty.nat n)) rfl (by intro A B G H I d0;refine run_guard H rfl rfl dE (eI d0) (fun hg=>?_);obtain ⟨d5,d6⟩:=Bool.and_eq_true_iff.mp hg;have d6:=of_decide_eq_true d6;exact y_move (kp (I 0 rfl) G q6)) ?_)))))))))))
  refine gT (Ty.grd ((true && (decide ((700:Int) < ((((C) ^ n):Nat):Int)))) = true) (Ty.nat ((C) ^ n))) rfl (by intro A B G H I d0 d1 d2 d3;refine run_guard H rfl rfl dE (eI d2) (fun hg=>?_);obtain ⟨d7,d8⟩:=Bool.and_eq_true_iff.mp hg;have d8:=of_decide_eq_true d8;exact y_call _ Try.func86 rfl rfl my2 (power_fn (C) (n) _ _ _ (cvi (σ:=B) (by first | omega | assumption | cases hg | exact absurd (of_decide_eq_true hg) hbad) ((ef d0 rfl).1 hg)) ((ef d1 rfl).1 hg) (by first | omega | assumption | cases hg | exact absurd (of_decide_eq_true hg) hbad) (by first | omega | assumption | cases hg | exact absurd (of_decide_eq_true hg) hbad))) (gT (Ty.grd ((true && (decide ((700:Int) < ((((C) ^ n):Nat):Int)))) = true) (Ty.bool (decide (((((C) ^ n):Nat):Int) < (5041:Int))))) rfl (by intro A B G H I d0 d1;refine run_guard H rfl rfl dE (eI d1) (fun hg=>?_);obtain ⟨d9,d10⟩:=Bool.and_eq_true_iff.mp hg;have d10:=of_decide_eq_true d10;exact y_lss ((ef d0 rfl).1 hg) rfl) (gS rfl (fun A B G H I d0 d1=>rP (y_pick_and (eI d0) (eI d1) rfl)) (gE ok2 fun a3 s3 ok3 D3=>?_)));have q12:=D3.k q6;have q14:=D3.k q8;refine tn ?_
  refine cond_t (D3.m 13 rfl) (fun c2=>?_) (fun c2=>?_)
  ·
   exfalso
   (simp only [Bool.and_eq_true,decide_eq_true_eq] at c2;omega)
  ·
   refine wp_skip (tn (wp_seq (wp_seq ?_)))
   refine gI a3 s3 ok3 (gM (D3.k q10) (gT (Ty.bool true) rfl (fun A B G H I d0=>rP ((y_eql (eI d0) rfl).mono (fun τ _ h=>cvb (σ:=τ) dE h))) (gS rfl (fun A B G H I d0=>rP (y_move (eI d0))) (gS rfl (fun A B G H I d0=>gu H (eI d0) fun hg=>y_move (kp (I 2 rfl) G q14)) (gS rfl (fun A B G H I d0=>gu H (eI d0) fun hg=>y_move (kp (I 0 rfl) G q12)) (gS rfl (fun A B G H I d0 d1 d2 d3=>gu H (eI d2) fun hg=>y_call _ Try.func86 rfl rfl my2 (power_fn (C) (n) _ _ _ (cvi (σ:=B) (by first | omega | assumption | cases hg | exact absurd (of_decide_eq_true hg) hbad) ((ef d0 rfl).1 hg)) ((ef d1 rfl).1 hg) (by first | omega | assumption | cases hg | exact absurd (of_decide_eq_true hg) hbad) (by first | omega | assumption | cases hg | exact absurd (of_decide_eq_true hg) hbad))) (gS rfl (fun A B G H I d0 d1=>gu H (eI d1) fun hg=>y_gtr ((ef d0 rfl).1 hg) rfl) (gS rfl (fun A B G H I d0 d1=>rP (y_pick_and (eI d0) (eI d1) rfl)) (gE ok3 fun a4 s4 ok4 D4=>?_)))))))));refine tn ?_
   refine cond_t (D4.m 7 rfl) (fun c3=>?_) (fun c3=>?_)
   ·
    obtain ⟨d11,d12⟩:=Bool.and_eq_true_iff.mp c3
    replace d12:=of_decide_eq_true d12
    refine gI a4 s4 ok4 (gC (Ty.int (3:Int)) (gE ok4 fun a5 s5 ok5 D5=>?_));refine tn (wp_seq ?_)
    refine gI a5 s5 ok5 (gM (D5.k (D4.k q12)) (gM (D5.k (D4.k (D3.k (D2.k (D1.k p1))))) (gM (D5.k (D4.k q14)) (gS rfl (fun A B G H I d0 d1 d2=>rP (y_call _ Try.func61 rfl rfl my3 (pattD_fn (n) (gens) (C) _ _ _ _ (eI d0) (eI d1) (eI d2) oX oX oX oX))) (gS rfl (fun A B G H I d0=>rP (y_move (eI d0))) (gT (Ty.lst Ty.ints ([]:List (List Int))) rfl (fun A B G H I d0=>rP (y_ext2_0 (eI d0))) (gT (Ty.int (3:Int)) rfl (fun A B G H I d0 d1=>rP (y_ext2_1 (eI d0))) (gB 0 (gB 0 (gE ok5 fun a6 s6 ok6 D6=>?_))))))))));have q32:=D6.k (D5.m 0 rfl);refine tn (wp_seq (wp_seq ?_))
    refine gI a6 s6 ok6 (gM q32 (gT (Ty.bool true) rfl (fun A B G H I d0=>rP ((y_neq (eI d0) rfl).mono (fun τ _ h=>cvb (σ:=τ) dE h))) (gE ok6 fun a7 s7 ok7 D7=>?_)));refine tn ?_
    refine cond_t (D7.m 1 rfl) (fun _=>?_) (fun c4=>(by cases c4))
    refine wp_seq ?_
    refine gI a7 s7 ok7 (gM (D7.k (D6.m 8 rfl)) (gM (D7.k q32) (gT (Ty.bool true) rfl (fun A B G H I d0 d1=>rP ((y_eql (eI d0) (eI d1)).mono (fun τ _ h=>cvb (σ:=τ) dE h))) (gS rfl (fun A B G H I d0=>rP (y_move (eI d0))) (gS rfl (fun A B G H I d0=>gu H (eI d0) fun hg=>y_move (kp (I 11 rfl) G (D7.k (D6.m 7 rfl)))) (gS rfl (fun A B G H I d0 d1=>gu H (eI d1) fun hg=>y_len Try.underlying24 ((ef d0 rfl).1 hg)) (gS rfl (fun A B G H I d0 d1=>gu H (eI d1) fun hg=>y_eql ((ef d0 rfl).1 hg) rfl) (gS rfl (fun A B G H I d0 d1=>rP (y_pick_and (eI d0) (eI d1) rfl)) (gB 0 (gE ok7 fun a8 s8 ok8 D8=>?_))))))))));refine tn (wp_ret (tr ?_))
    exact retL1 rfl ok8 ((((((((F0.step0 D1.stp).step0 D2.stp).step0 D3.stp).step0 D4.stp).step0 D5.stp).step0 D6.stp).step0 D7.stp).step0 D8.stp) (cvb (by (first | rfl | omega | (simp_all;done) | (simp_all;omega))) (D8.m 8 rfl))
   ·
    exfalso
    (simp only [Bool.and_eq_false_iff,decide_eq_false_iff_not,reduceCtorEq,false_or] at c3;omega)
set_option maxHeartbeats 4000000 in
set_option maxRecDepth 100000 in
theorem pattE_fn (n:Nat) (gens:List (List Int)) (C:Nat) (σ:GW) (hlow:Low [] σ) (v0 v1 v2:Value) (hv0:Ty.has (Ty.nat n) σ v0) (hv1:Ty.has (Ty.lst Ty.ints gens) σ v1) (hv2:Ty.has (Ty.nat C) σ v2)  (hC:C ≤ 8) (hG0:gensMay (n:Int) gens = 0) (hL:szTo n (fun y=>y ∈ gens) n ≤ 5040) (hP:C ^ n ≤ 5040) :
    FnL Try.prog 61 #[v0,v1,v2] σ [] (fun v τ=>∃ (L:(List (List Int))),(Ty.has (Ty.tup2 (Ty.lst Ty.ints L) (Ty.int (0:Int))) τ v)∧(∃ E,EltsOk n gens E∧L = (colsL n C).filter (fstP E))):=by
 obtain ⟨hn,hGl,hG⟩:=may_nat hG0
 have hGl2:gens.length ≤ 1000000:=oM
 have hGl3:gens.length ≤ 1000:=oM
 refine fn_introL hlow Try.func61 rfl Try.ntmps61 (Nat.le_of_ble_eq_true rfl) (fun a0 F0 ok0 hargs=>?_)
 have p0:=pB (hargs 0 _ rfl) hv0
 have p1:=pB (hargs 1 _ rfl) hv1
 have b1:=sl_le p1
 have p2:=pB (hargs 2 _ rfl) hv2
 clear hargs;refine wp_seq ?_
 refine gI a0 σ ok0 (gC (Ty.val (Value.slice none 0 0)) (gC (Ty.int (0:Int)) (gE ok0 fun a1 s1 ok1 D1=>?_)));have q3:=D1.k p2;refine tn (wp_seq (wp_seq ?_))
 refine gI a1 s1 ok1 (gM q3 (gS rfl (fun A B G H I d0=>rP (y_lss (eI d0) rfl)) (gS rfl (fun A B G H I d0=>rP (y_move (eI d0))) (gS rfl (fun A B G H I d0=>gu H (eI d0) fun hg=>y_move (kp (I 2 rfl) G q3)) (gS rfl (fun A B G H I d0 d1=>gu H (eI d1) fun hg=>y_gtr ((ef d0 rfl).1 hg) rfl) (gS rfl (fun A B G H I d0 d1=>rP (y_pick_or (eI d0) rfl (eI d1))) (gE ok1 fun a2 s2 ok2 D2=>?_)))))));have q4:=D2.k (D1.k p0);refine tn ?_
 refine cond_t (D2.m 5 rfl) (fun c1=>?_) (fun c1=>?_)
 ·
  exfalso
  simp only [Bool.or_eq_true,decide_eq_true_eq] at c1;omega
 ·
  obtain ⟨d1,d2⟩:=Bool.or_eq_false_iff.mp c1
  replace d1:=of_decide_eq_false d1
  replace d2:=of_decide_eq_false d2
  refine wp_skip (tn (wp_seq ?_))
  refine gI a2 s2 ok2 (gM q4 (gM (D2.k (D1.k p1)) (gE2 ok2 fun a3 s3 ok3 D3=>?_)))
  refine tL ok3 (y_callL (L:=[]) [] [(41,41),(42,42),(43,43)] _ rfl dE Try.func17 rfl rfl my2 (gMake_fn (n) (gens) _ lW _ _ (uL (D3.m 0 rfl)) (uL (D3.m 1 rfl))  oX oX oX)) fun a4 s4 hs1 ok4 r1 sm1=>?_
  obtain ⟨t1,⟨g1,g2,x1,x2,x3,hT1,o1,o2,o3,hp1⟩,B1⟩:=r1
  have q14:At (Ty.tup2 (Ty.val x1) (Ty.int (0:Int))) s4 a4 (.tmp 26):=Ty.up _ B1.le hT1
  have o4:OwnP s4 41 x1 [(Ty.nat n),(Ty.val x3),(Ty.val x2)]:=OwnP.ren o1 (B1.ren dE rfl)
  have o5:ChnU s4 42 22 108 x2 n (g1) (g2):=ChnU.ren o2 (B1.ren dE rfl)
  have o6:Own s4 43 22 1 x3 (List.length gens) (List.map Ty.ints gens):=Own.ren o3 (B1.ren dE rfl)
  refine tL ok4 (Yld.toL (y_mv q14)) fun a5 s5 hs2 ok5 r2 sm2=>?_
  have q17:At (Ty.tup2 (Ty.val x1) (Ty.int (0:Int))) s5 a5 (.tmp 23):=r2
  clear r2
  refine tL (R:=(fun v τ=>Pr.has (Ty.pr (Ty.val x1)) τ v)) ok5 (Yld.toL (y_ext2_0 q17)) fun a6 s6 hs3 ok6 r3 sm3=>?_
  have q21:At (Ty.val x1) s6 a6 (.tmp 27):=r3
  clear r3
  refine tL (R:=(fun v τ=>Pr.has (Ty.pr (Ty.int (0:Int))) τ v)) ok6 (Yld.toL (y_ext2_1 (kq hs3 sm3 23 q17))) fun a7 s7 hs4 ok7 r4 sm4=>?_
  have q25:At (Ty.int (0:Int)) s7 a7 (.tmp 28):=r4
  clear r4
  refine tL ok7 (Yld.toL (y_as (kq hs4 sm4 27 q21))) fun a8 s8 hs5 ok8 r5 sm5=>?_
  have q29:At (Ty.val x1) s8 a8 (.tmp 8):=r5
  clear r5
  refine tL ok8 (Yld.toL (y_as (kq hs5 sm5 28 q25))) fun a9 s9 hs6 ok9 r6 sm6=>?_
  have q33:At (Ty.int (0:Int)) s9 a9 (.tmp 9):=r6
  clear r6;refine wpList_nil (tn (wp_seq (wp_seq ?_)))
  refine gI a9 s9 ok9 (gM q33 (gT (Ty.bool false) rfl (fun A B G H I d0=>rP ((y_neq (eI d0) rfl).mono (fun τ _ h=>cvb (σ:=τ) dE h))) (gE ok9 fun a10 s10 ok10 D4=>?_)));have o22:=OwnP.k0 (OwnP.kl (OwnP.kl (OwnP.kl (OwnP.kl (OwnP.kl o4 hs2) hs3) hs4) hs5) hs6) D4.stp;have o23:=ChnU.k0 (ChnU.kl (ChnU.kl (ChnU.kl (ChnU.kl (ChnU.kl o5 hs2) hs3) hs4) hs5) hs6) D4.stp;have o24:=Own.k0 (Own.kl (Own.kl (Own.kl (Own.kl (Own.kl o6 hs2) hs3) hs4) hs5) hs6) D4.stp;refine tn ?_
  refine cond_t (D4.m 1 rfl) (fun c2=>(by cases c2)) (fun _=>?_)
  refine wp_skip (tn (wp_seq ?_))
  refine gI a10 s10 ok10 (gM (D4.k (kq hs6 sm6 8 q29)) (gE2 ok10 fun a11 s11 ok11 D5=>?_));have o25:=OwnP.k0 o22 D5.stp;have o26:=ChnU.k0 o23 D5.stp;have o27:=Own.k0 o24 D5.stp
  have q42:At (Ty.val x1) s11 a11 (.tmp 33):=D5.done 0 dE
  refine tL ok11 (y_callL (L:=[41,42,43]) [(41,41),(42,42),(43,43)] [(41,41),(42,42),(43,43)] #[a11.eval (.tmp 33)] rfl dE Try.func60 rfl rfl my1 (gElts_fn (x1) (x3) (x2) ((g2)) (n) ((g1)) (gens) _ lW _ (uL q42) (OwnP.ren o25 (GW.ren_lend _ _ dE rfl)) (ChnU.ren (cvch (by (rfl)) o26) (GW.ren_lend _ _ dE rfl)) (Own.ren o27 (GW.ren_lend _ _ dE rfl)) oX oX)) fun a12 s12 hs7 ok12 r7 sm7=>?_
  obtain ⟨t2,⟨g3,hT2,o28,o29,o30,hp2⟩,B2⟩:=r7
  have q46:At (Ty.tup2 (Ty.lst Ty.ints (g3)) (Ty.int (eltE n gens))) s12 a12 (.tmp 34):=Ty.up _ B2.le hT2
  have o31:OwnP s12 41 x1 [(Ty.nat n),(Ty.val x3),(Ty.val x2)]:=OwnP.ren o28 (B2.ren dE rfl)
  have o32:ChnU s12 42 22 108 x2 n ((g1)) ((g2)):=ChnU.ren o29 (B2.ren dE rfl)
  have o33:Own s12 43 22 1 x3 (List.length gens) (List.map Ty.ints gens):=Own.ren o30 (B2.ren dE rfl)
  refine tL ok12 (Yld.toL (y_mv q46)) fun a13 s13 hs8 ok13 r8 sm8=>?_
  have q50:At (Ty.tup2 (Ty.lst Ty.ints (g3)) (Ty.int (eltE n gens))) s13 a13 (.tmp 32):=r8
  clear r8
  refine tL (R:=(fun v τ=>Pr.has (Ty.pr (Ty.lst Ty.ints (g3))) τ v)) ok13 (Yld.toL (y_ext2_0 q50)) fun a14 s14 hs9 ok14 r9 sm9=>?_
  have q55:At (Ty.lst Ty.ints (g3)) s14 a14 (.tmp 35):=r9
  clear r9
  refine tL (R:=(fun v τ=>Pr.has (Ty.pr (Ty.int (eltE n gens))) τ v)) ok14 (Yld.toL (y_ext2_1 (kq hs9 sm9 32 q50))) fun a15 s15 hs10 ok15 r10 sm10=>?_
  have q60:At (Ty.int (eltE n gens)) s15 a15 (.tmp 36):=r10
  clear r10
  refine tL ok15 (Yld.toL (y_as (kq hs10 sm10 35 q55))) fun a16 s16 hs11 ok16 r11 sm11=>?_
  have q63:=kq hs11 sm11 9 (kq hs10 sm10 9 (kq hs9 sm9 9 (kq hs8 sm8 9 (kq hs7 sm7 9 (D5.k (D4.k q33))))))
  have q65:At (Ty.lst Ty.ints (g3)) s16 a16 (.tmp 10):=r11
  clear r11
  refine tL ok16 (Yld.toL (y_as (kq hs11 sm11 36 q60))) fun a17 s17 hs12 ok17 r12 sm12=>?_
  have q69:At (Ty.int (eltE n gens)) s17 a17 (.tmp 9):=r12
  clear r12;refine wpList_nil (tn (wp_seq (wp_seq ?_)))
  have hE0:eltE n gens = 0:=(by unfold eltE;rw [if_pos hL])
  have hEO:=hp2.ok hL
  have hEl:=hEO.len
  have hEr:∀ r ∈ g3,RowN n r:=fun r hr=>((hEO.mem r).1 hr).row hn hG
  refine gI a17 s17 ok17 (gM q69 (gS rfl (fun A B G H I d0=>rP (y_neq (eI d0) rfl)) (gE ok17 fun a18 s18 ok18 D6=>?_)));have o49:=OwnP.k0 (OwnP.kl (OwnP.kl (OwnP.kl (OwnP.kl (OwnP.kl o31 hs8) hs9) hs10) hs11) hs12) D6.stp;have o50:=ChnU.k0 (ChnU.kl (ChnU.kl (ChnU.kl (ChnU.kl (ChnU.kl o32 hs8) hs9) hs10) hs11) hs12) D6.stp;have o51:=Own.k0 (Own.kl (Own.kl (Own.kl (Own.kl (Own.kl o33 hs8) hs9) hs10) hs11) hs12) D6.stp;refine tn ?_
  refine cond_p (p:=((eltE n gens) ≠ (0:Int))) (D6.m 1 rfl) (fun c3=>?_) (fun c3=>?_)
  ·
   exfalso
   (rw [hE0] at c3;exact c3 rfl)
  ·
   refine wp_skip (tn (wp_seq ?_))
   refine gI a18 s18 ok18 (gC (Ty.int (1:Int)) (gE ok18 fun a19 s19 ok19 D7=>?_));have q75:=D7.k (D6.k (kq hs12 sm12 0 (kq hs11 sm11 0 (kq hs10 sm10 0 (kq hs9 sm9 0 (kq hs8 sm8 0 (kq hs7 sm7 0 (D5.k (D4.k (kq hs6 sm6 0 (kq hs5 sm5 0 (kq hs4 sm4 0 (kq hs3 sm3 0 (kq hs2 sm2 0 (kq hs1 sm1 0 (D3.k q4))))))))))))))));have o52:=OwnP.k0 o49 D7.stp;have o53:=ChnU.k0 o50 D7.stp;have o54:=Own.k0 o51 D7.stp;refine tn (wp_seq (wp_seq ?_))
   refine gI a19 s19 ok19 (gM q75 (gT (Ty.int (0:Int)) rfl (fun A B G H I=>rP (y_move rfl)) (gE ok19 fun a20 s20 ok20 D8=>?_)));have o55:=OwnP.k0 o52 D8.stp;have o56:=ChnU.k0 o53 D8.stp;have o57:=Own.k0 o54 D8.stp;refine tn (wp_block ?_)
   refine loop (fun n1 a21 w1=>∃ (t3:GW) (i:Nat),t3.w = w1∧FromL [] σ t3∧Ok 80 [] a21∧At (Ty.nat i) t3 a21 (.tmp 41)∧At (Ty.nat (C ^ i)) t3 a21 (.tmp 11)∧At (Ty.nat n) t3 a21 (.tmp 0)∧At (Ty.nat C) t3 a21 (.tmp 2)∧At (Ty.lst Ty.ints (g3)) t3 a21 (.tmp 10)∧At (Ty.nat n) t3 a21 (.tmp 40)∧OwnP t3 41 x1 [(Ty.nat n),(Ty.val x3),(Ty.val x2)]∧ChnU t3 42 22 108 x2 n ((g1)) ((g2))∧Own t3 43 22 1 x3 (List.length gens) (List.map Ty.ints gens)∧(i ≤ n)∧n1 = n - i) (n - (0)) ?_ ?_
   ·
    exact ⟨s20,0,rfl,((((((((((((((((((((F0.step0 D1.stp).step0 D2.stp).step0 D3.stp).sl hs1).sl hs2).sl hs3).sl hs4).sl hs5).sl hs6).step0 D4.stp).step0 D5.stp).sl hs7).sl hs8).sl hs9).sl hs10).sl hs11).sl hs12).step0 D6.stp).step0 D7.stp).step0 D8.stp),ok20,(cJ (D8.m 1 rfl)),(cvi (by (simp)) (D8.k (D7.m 0 rfl))),(D8.k q75),(D8.k (D7.k (D6.k (kq hs12 sm12 2 (kq hs11 sm11 2 (kq hs10 sm10 2 (kq hs9 sm9 2 (kq hs8 sm8 2 (kq hs7 sm7 2 (D5.k (D4.k (kq hs6 sm6 2 (kq hs5 sm5 2 (kq hs4 sm4 2 (kq hs3 sm3 2 (kq hs2 sm2 2 (kq hs1 sm1 2 (D3.k (D2.k q3))))))))))))))))))),(D8.k (D7.k (D6.k (kq hs12 sm12 10 q65)))),(D8.m 0 rfl),o55,o56,o57,by omega,rfl⟩
   ·
    rintro n2 a22 w2 ⟨t4,i,rfl,F21,ok21,q85,q86,q87,q88,q89,q90,o58,o59,o60,hi,rfl⟩
    have hpb:=pow_bd hC (show i ≤ 12 by omega)
    refine wp_seq ?_
    refine gI a22 t4 ok21 (gS rfl (fun A B G H I=>rP (y_lss (kp (I 41 rfl) G q85) (kp (I 40 rfl) G q90))) (gE ok21 fun a23 s21 ok22 D9=>?_));have F22:=F21.step0 D9.stp;have q92:=D9.k q86;have q93:=D9.k q87;have q94:=D9.k q88;have q95:=D9.k q89;have o61:=OwnP.k0 o58 D9.stp;have o62:=ChnU.k0 o59 D9.stp;have o63:=Own.k0 o60 D9.stp;refine tn (wp_seq ?_)
    refine cond_p (p:=(((i:Nat):Int) < ((n:Nat):Int))) (D9.m 0 rfl) (fun c4=>?_) (fun c4=>?_)
    ·
     have hpb2:=pow_bd (e:=i + 1) hC oM;rw [Nat.pow_succ] at hpb2;have hpm:C ^ (i + 1) ≤ 5040:=pow_le_c hP oM;rw [Nat.pow_succ] at hpm
     refine wp_skip (tn (wp_seq (wp_block (wp_seq ?_))))
     refine gI a23 s21 ok22 (gM q92 (gM q94 (gT (Ty.nat ((C ^ i) * C)) rfl (fun A B G H I d0 d1=>rP ((y_mul (eI d0) (eI d1) wX).mono (fun τ _ h=>cN (σ:=τ) h))) (gB 0 (gE ok22 fun a24 s22 ok23 D10=>?_)))));have o64:=OwnP.k0 o61 D10.stp;have o65:=ChnU.k0 o62 D10.stp;have o66:=Own.k0 o63 D10.stp;have q103:=D10.m 3 rfl;refine tn (wp_seq ?_)
     refine gI a24 s22 ok23 (gM q103 (gS rfl (fun A B G H I d0=>rP (y_gtr (eI d0) rfl)) (gE ok23 fun a25 s23 ok24 D11=>?_)));have o67:=OwnP.k0 o64 D11.stp;have o68:=ChnU.k0 o65 D11.stp;have o69:=Own.k0 o66 D11.stp;refine tn ?_
     refine cond_p (p:=((5040:Int) < ((((C ^ i) * C):Nat):Int))) (D11.m 1 rfl) (fun c5=>?_) (fun c5=>?_)
     ·
      exfalso
      omega
     ·
      refine wp_skip (bn (tn ?_))
      refine gI a25 s23 ok24 (gT (Ty.nat (i + 1)) rfl (fun A B G H I=>rP ((y_add (kp (I 41 rfl) G (D11.k (D10.k (D9.k q85)))) rfl wX).mono (fun τ _ h=>cN (σ:=τ) h))) (gS rfl (fun A B G H I d0=>rP (y_move (eI d0))) (gE ok24 fun a26 s24 ok25 D12=>?_)));have o70:=OwnP.k0 o67 D12.stp;have o71:=ChnU.k0 o68 D12.stp;have o72:=Own.k0 o69 D12.stp
      exact tn ⟨n - ((i+1)),by omega,s24,(i+1),rfl,(((F22.step0 D10.stp).step0 D11.stp).step0 D12.stp),ok25,(cJ (D12.m 1 rfl)),(cvi (by (rw [Nat.pow_succ])) (D12.k (D11.k q103))),(D12.k (D11.k (D10.k q93))),(D12.k (D11.k (D10.k q94))),(D12.k (D11.k (D10.k q95))),(D12.k (D11.k (D10.k (D9.k q90)))),o70,o71,o72,by omega,rfl⟩
    ·
     have ei:i = n:=oM
     refine wp_exit (tx (tx (bx (tn (wp_seq ?_)))))
     refine gI a23 s21 ok22 (gC (Ty.val (Value.slice none 0 0)) (gE ok22 fun a27 s25 ok26 D13=>?_));have o73:=OwnP.k0 o61 D13.stp;have o74:=ChnU.k0 o62 D13.stp;have o75:=Own.k0 o63 D13.stp
     have q122:At (Ty.nat (C ^ n)) s25 a27 (.tmp 11):=(cvi (by (rw [ei])) (D13.k q92))
     refine tn (wp_seq (wp_seq ?_))
     refine gI a27 s25 ok26 (gM q122 (gT (Ty.int (0:Int)) rfl (fun A B G H I=>rP (y_move rfl)) (gE ok26 fun a28 s26 ok27 D14=>?_)));have o76:=OwnP.k0 o73 D14.stp;have o77:=ChnU.k0 o74 D14.stp;have o78:=Own.k0 o75 D14.stp;refine tn (wp_block ?_)
     have o79:Own s26 24 22 1 (Value.slice none 0 0) 0 (List.map Ty.ints ([]:List (List Int))):=Own.nil _ _ _ _
     refine loop (fun n3 a29 w3=>∃ (t5:GW) (k:Nat) (x12_1:Value),t5.w = w3∧FromL [] σ t5∧Ok 80 [] a29∧At (Ty.nat k) t5 a29 (.tmp 50)∧At (Ty.val x12_1) t5 a29 (.tmp 12)∧At (Ty.nat n) t5 a29 (.tmp 0)∧At (Ty.nat C) t5 a29 (.tmp 2)∧At (Ty.lst Ty.ints (g3)) t5 a29 (.tmp 10)∧At (Ty.nat (C ^ n)) t5 a29 (.tmp 49)∧Own t5 24 22 1 x12_1 (List.length (pattT n C g3 k)) (List.map Ty.ints (pattT n C g3 k))∧OwnP t5 41 x1 [(Ty.nat n),(Ty.val x3),(Ty.val x2)]∧ChnU t5 42 22 108 x2 n ((g1)) ((g2))∧Own t5 43 22 1 x3 (List.length gens) (List.map Ty.ints gens)∧(k ≤ (C ^ n))∧n3 = (C ^ n) - k) ((C ^ n) - (0)) ?_ ?_
     ·
      exact ⟨s26,0,(Value.slice none 0 0),rfl,((F22.step0 D13.stp).step0 D14.stp),ok27,(cJ (D14.m 1 rfl)),(D14.k (D13.m 0 rfl)),(D14.k (D13.k q93)),(D14.k (D13.k q94)),(D14.k (D13.k q95)),(D14.m 0 rfl),(cvo (by (first | rfl | simp [pattT])) (by (first | rfl | simp [pattT])) o79),o76,o77,o78,by omega,rfl⟩
     ·
      rintro n4 a30 w4 ⟨t6,k,x12_1,rfl,F28,ok28,q129,q130,q131,q132,q133,q134,o80,o81,o82,o83,hk,rfl⟩
      have hptl:=pattT_len (n:=n) (C:=C) (E:=g3) (k:=k)
      have hC0:=pow_pos_c (C:=C) (n:=n) hn.1
      refine wp_seq ?_
      refine gI a30 t6 ok28 (gS rfl (fun A B G H I=>rP (y_lss (kp (I 50 rfl) G q129) (kp (I 49 rfl) G q134))) (gE ok28 fun a31 s27 ok29 D15=>?_));have F29:=F28.step0 D15.stp;have q135:=D15.k q129;have q136:=D15.k q130;have o84:=Own.k0 o80 D15.stp;have o85:=OwnP.k0 o81 D15.stp;have o86:=ChnU.k0 o82 D15.stp;have o87:=Own.k0 o83 D15.stp;refine tn (wp_seq ?_)
      refine cond_p (p:=(((k:Nat):Int) < (((C ^ n):Nat):Int))) (D15.m 0 rfl) (fun c6=>?_) (fun c6=>?_)
      ·
       have hkC:0 < C:=hC0 oM
       refine wp_skip (tn (wp_seq (wp_block (wp_seq ?_))))
       refine gI a31 s27 ok29 (gM q135 (gB 0 (gE ok29 fun a32 s28 ok30 D16=>?_)));have q144:=D16.k (D15.k q131);have o88:=Own.k0 o84 D16.stp;have o89:=OwnP.k0 o85 D16.stp;have o90:=ChnU.k0 o86 D16.stp;have o91:=Own.k0 o87 D16.stp;refine tn (wp_seq ?_)
       refine gI a32 s28 ok30 (gM q144 (gR (Pr.own 23 3 1 n (List.map Ty.int (List.replicate n 0))) rfl (by intro A B G H I d0 d1;have e0:=ed d0 rfl rfl rfl;exact rP ((y_make (k:=23) (T:=Ty.int 0) (n:=n) Try.underlying22 Try.inf3 rfl (fun _=>rfl) e0 e0 oM oM).mono (fun _ _ h=>cvo (by simp) (by simp) h))) (gE2 ok30 fun a33 s29 ok31 D17=>?_)));have o92:=Own.k0 o88 D17.stp;have o93:=OwnP.k0 o89 D17.stp;have o94:=ChnU.k0 o90 D17.stp;have o95:=Own.k0 o91 D17.stp
       obtain ⟨x4,hx1⟩:∃ x,a33.eval (.tmp 54) = x:=⟨_,rfl⟩
       have q156:At (Ty.val x4) s29 a33 (.tmp 54):=hx1
       have o96:=al2 (R:=(Pr.own 23 3 1 n (List.map Ty.int (List.replicate n 0)))) hx1 (D17.done 1 dE)
       refine tL ok31 (Yld.toL (y_as q156)) fun a34 s30 hs13 ok32 r13 sm13=>?_
       have q159:=kq hs13 sm13 0 (D17.k q144)
       have q164:At (Ty.val x4) s30 a34 (.tmp 14):=r13
       clear r13;refine wpList_nil (tn (wp_seq (wp_seq ?_)))
       refine gI a34 s30 ok32 (gM q159 (gT (Ty.nat (n - 1)) rfl (fun A B G H I d0=>rP ((y_sub (eI d0) rfl wX).mono (fun τ _ h=>cvi (σ:=τ) oM h))) (gM (kq hs13 sm13 13 (D17.k (D16.m 1 rfl))) (gB 0 (gB 0 (gE ok32 fun a35 s31 ok33 D18=>?_))))));have o102:=Own.k0 (Own.kl o92 hs13) D18.stp;have o103:=OwnP.k0 (OwnP.kl o93 hs13) D18.stp;have o104:=ChnU.k0 (ChnU.kl o94 hs13) D18.stp;have o105:=Own.k0 (Own.kl o95 hs13) D18.stp;have o106:=Own.k0 (Own.kl o96 hs13) D18.stp;refine tn (wp_block ?_)
       refine loop (fun n5 a36 w5=>∃ (t7:GW) (j:Nat) (x14_2:Value),t7.w = w5∧FromL [] σ t7∧Ok 80 [] a36∧At (Ty.int ((n:Int) - 1 - (j:Int))) t7 a36 (.tmp 15)∧At (Ty.val x14_2) t7 a36 (.tmp 14)∧At (Ty.nat (k / C ^ j)) t7 a36 (.tmp 16)∧At (Ty.nat k) t7 a36 (.tmp 50)∧At (Ty.val x12_1) t7 a36 (.tmp 12)∧At (Ty.nat n) t7 a36 (.tmp 0)∧At (Ty.nat C) t7 a36 (.tmp 2)∧At (Ty.lst Ty.ints (g3)) t7 a36 (.tmp 10)∧At (Ty.nat (C ^ n)) t7 a36 (.tmp 49)∧Own t7 23 3 1 x14_2 (List.length (colT n C k j)) (List.map Ty.int (colT n C k j))∧Own t7 24 22 1 x12_1 (List.length (pattT n C g3 k)) (List.map Ty.ints (pattT n C g3 k))∧OwnP t7 41 x1 [(Ty.nat n),(Ty.val x3),(Ty.val x2)]∧ChnU t7 42 22 108 x2 n ((g1)) ((g2))∧Own t7 43 22 1 x3 (List.length gens) (List.map Ty.ints gens)∧(j ≤ n)∧n5 = n - j) (n - (0)) ?_ ?_
       ·
        exact ⟨s31,0,x4,rfl,((((F29.step0 D16.stp).step0 D17.stp).sl hs13).step0 D18.stp),ok33,(cvi (by (omega)) (D18.m 3 rfl)),(D18.k q164),(cvi (by (simp)) (D18.m 4 rfl)),(D18.k (kq hs13 sm13 50 (D17.k (D16.k q135)))),(D18.k (kq hs13 sm13 12 (D17.k (D16.k q136)))),(D18.k q159),(D18.k (kq hs13 sm13 2 (D17.k (D16.k (D15.k q132))))),(D18.k (kq hs13 sm13 10 (D17.k (D16.k (D15.k q133))))),(D18.k (kq hs13 sm13 49 (D17.k (D16.k (D15.k q134))))),(cvo (by (first | rfl | (rw [colT_zero];done) | simp [colT_zero])) (by (first | rfl | (rw [colT_zero];done) | simp [colT_zero])) o106),o102,o103,o104,o105,by omega,rfl⟩
       ·
        rintro n6 a37 w6 ⟨t8,j,x14_2,rfl,F34,ok34,q174,q175,q176,q177,q178,q179,q180,q181,q182,o107,o108,o109,o110,o111,hj,rfl⟩
        have hcl:=colT_len (n:=n) (C:=C) (k:=k) (j:=j)
        have hkd:=Nat.div_le_self k (C ^ j)
        refine wp_seq (wp_seq ?_)
        refine gI a37 t8 ok34 (gM q174 (gS rfl (fun A B G H I d0=>rP (y_geq (eI d0) rfl)) (gE ok34 fun a38 s32 ok35 D19=>?_)));have F35:=F34.step0 D19.stp;have q183:=D19.k q174;have q184:=D19.k q175;have q185:=D19.k q176;have q186:=D19.k q177;have q187:=D19.k q178;have q188:=D19.k q179;have q189:=D19.k q180;have q190:=D19.k q181;have q191:=D19.k q182;have o112:=Own.k0 o107 D19.stp;have o113:=Own.k0 o108 D19.stp;have o114:=OwnP.k0 o109 D19.stp;have o115:=ChnU.k0 o110 D19.stp;have o116:=Own.k0 o111 D19.stp;have q192:=D19.m 1 rfl;refine tn ?_
        refine cond_p (p:=((0:Int) ≤ ((n:Int) - 1 - (j:Int)))) q192 (fun c7=>?_) (fun c7=>?_)
        ·
         have hix:((n:Int) - 1 - (j:Int)).toNat = n - 1 - j:=oM
         refine wp_skip (tn (wp_seq (wp_block ?_)))
         refine gI a38 s32 ok35 (gM q184 (gM q183 (gM q185 (gM q189 (gT (Ty.nat ((k / C ^ j) % C)) rfl (fun A B G H I d0 d1=>rP (y_remN (eI d0) (eI d1) oM)) (gT (Ty.val (cellPtr x14_2 (((n:Int) - 1 - (j:Int))).toNat)) rfl (fun A B G H I d0 d1 d2 d3 d4 d5 d6=>rP (own_index1 (i:=((n:Int) - 1 - (j:Int))) Try.underlying22 Try.inf3 (Own.k0 o112 G) (eI d0) (eI d1) oM oM)) (gE2 ok35 fun a39 s33 ok36 D20=>?_)))))));have o117:=Own.k0 o112 D20.stp;have o118:=Own.k0 o113 D20.stp;have o119:=OwnP.k0 o114 D20.stp;have o120:=ChnU.k0 o115 D20.stp;have o121:=Own.k0 o116 D20.stp
         refine tailL0 (L:=[23]) (R:=(fun _ τ=>Own τ 23 3 1 x14_2 (List.length (colT n C k j)) ((List.map Ty.int (colT n C k j)).set (((n:Int) - 1 - (j:Int))).toNat (Ty.nat ((k / C ^ j) % C))))) rfl rfl (YldM.toL (m_store Try.inf3 dE o117 (D20.m 5 rfl) (by simp only [List.length_map,List.length_set];omega) (D20.m 4 rfl) (one_val rfl))) (fun v1 s34 hs14 r14=>?_)
         have q204:=kpL hs14 dE rfl (D20.k q183);have q205:=kpL hs14 dE rfl (D20.k q184);have q206:=kpL hs14 dE rfl (D20.k q185);have q207:=kpL hs14 dE rfl (D20.k q186);have q208:=kpL hs14 dE rfl (D20.k q187);have q209:=kpL hs14 dE rfl (D20.k q188);have q210:=kpL hs14 dE rfl (D20.k q189);have q211:=kpL hs14 dE rfl (D20.k q190);have q212:=kpL hs14 dE rfl (D20.k q191)
         have o122:Own s34 23 3 1 x14_2 (List.length ((colT n C k j).set (((n:Int) - 1 - (j:Int))).toNat ((((k / C ^ j) % C):Nat):Int))) (List.map Ty.int ((colT n C k j).set (((n:Int) - 1 - (j:Int))).toNat ((((k / C ^ j) % C):Nat):Int))):=(cvo (by simp) (by first | (simp;done) | (rw [List.map_set];done) | (rw [List.map_set];rfl)) r14)
         clear r14;refine wpList_nil (bn (tn ?_))
         refine gI a39 s34 ok36 (gM q204 (gT (Ty.int (((n:Int) - 1 - (j:Int)) - (1:Int))) rfl (fun A B G H I d0=>rP (y_sub (eI d0) rfl wX)) (gM q206 (gM q210 (gT (Ty.nat ((k / C ^ j) / C)) rfl (fun A B G H I d0 d1 d2=>rP (y_quoN (eI d0) (eI d1) oM oM)) (gB 0 (gB 0 (gE ok36 fun a40 s35 ok37 D21=>?_))))))));have o127:=Own.k0 (Own.kl o118 hs14) D21.stp;have o128:=OwnP.k0 (OwnP.kl o119 hs14) D21.stp;have o129:=ChnU.k0 (ChnU.kl o120 hs14) D21.stp;have o130:=Own.k0 (Own.kl o121 hs14) D21.stp;have o131:=Own.k0 o122 D21.stp
         exact tn ⟨n - ((j + 1)),by omega,s35,(j + 1),x14_2,rfl,(((F35.step0 D20.stp).sl hs14).step0 D21.stp),ok37,(cvi (by (omega)) (D21.m 5 rfl)),(D21.k q205),(cvi (by (rw [Nat.div_div_eq_div_mul,← Nat.pow_succ])) (D21.m 6 rfl)),(D21.k q207),(D21.k q208),(D21.k q209),(D21.k q210),(D21.k q211),(D21.k q212),(cvo (by (first | rfl | (rw [← colT_step oM,hix];done) | (rw [← colT_step oM,hix];rfl))) (by (first | rfl | (rw [← colT_step oM,hix];done) | (rw [← colT_step oM,hix];rfl))) o131),o127,o128,o129,o130,by omega,rfl⟩
        ·
         have ej:j = n:=oM;have hcA:colT n C k j = colAt n C k:=(by rw [ej];rfl);have hErc:∀ x ∈ g3,RowN (colT n C k j).length x:=(by rw [colT_len];exact hEr)
         refine wp_exit (tx (tx (bx (tn (wp_seq ?_)))))
         obtain ⟨t9,e1,h1,q223⟩:=Own.seal o112 dE
         rw [← e1]
         have F39:=F35.step h1 dE;have o132:=Own.keepL o113 (h1.toL (L:=[23]) (by simp)) dE dE;have o133:=OwnP.keepL o114 (h1.toL (L:=[23]) (by simp)) dE dE;have o134:=ChnU.keepL o115 (h1.toL (L:=[23]) (by simp)) dE dE;have o135:=Own.keepL o116 (h1.toL (L:=[23]) (by simp)) dE dE;have q224:=Ty.up (Ty.int ((n:Int) - 1 - (j:Int))) (h1.le dE) q183
         have q225:At (Ty.lst Ty.int (colT n C k j)) t9 a38 (.tmp 14):=by have e:a38.eval (.tmp 14) = x14_2:=q184;show Ty.has _ _ _;rw [e];exact q223
         have q226:=Ty.up (Ty.nat (k / C ^ j)) (h1.le dE) q185;have q227:=Ty.up (Ty.nat k) (h1.le dE) q186;have q228:=Ty.up (Ty.val x12_1) (h1.le dE) q187;have q229:=Ty.up (Ty.nat n) (h1.le dE) q188;have q230:=Ty.up (Ty.nat C) (h1.le dE) q189;have q231:=Ty.up (Ty.lst Ty.ints (g3)) (h1.le dE) q190;have q232:=Ty.up (Ty.nat (C ^ n)) (h1.le dE) q191;have q233:=Ty.up (Ty.bool (decide ((0:Int) ≤ ((n:Int) - 1 - (j:Int))))) (h1.le dE) q192
         refine gI a38 t9 ok35 (gM q225 (gM q231 (gS rfl (fun A B G H I d0 d1=>rP (y_call _ Try.func99 rfl rfl my2 (first1_fn ((colT n C k j)) ((g3)) _ _ _ (eI d0) (eI d1) oX oX oX))) (gE ok35 fun a41 s36 ok38 D22=>?_))));have F40:=F39.step0 D22.stp;have q235:=D22.k q227;have q236:=D22.k q228;have q237:=D22.k q229;have q238:=D22.k q230;have q239:=D22.k q231;have q240:=D22.k q232;have o136:=Own.k0 o132 D22.stp;have o137:=OwnP.k0 o133 D22.stp;have o138:=ChnU.k0 o134 D22.stp;have o139:=Own.k0 o135 D22.stp;refine tn ?_
         refine cond_t (D22.m 2 rfl) (fun c8=>?_) (fun c8=>?_)
         ·
          have hfk:fstP g3 (colAt n C k) = true:=(hcA ▸ c8)
          refine gI a41 s36 ok38 (gM q236 (gM (D22.k q225) (gT (Ty.sl 1 1 [(Ty.lst Ty.int (colT n C k j))]) rfl (fun A B G H I d0=>rP (y_build1o Try.underlying24 Try.inf22 rfl (one_sl) (eI d0))) (gE2 ok38 fun a42 s37 ok39 D23=>?_))));have o140:=Own.k0 o136 D23.stp;have o141:=OwnP.k0 o137 D23.stp;have o142:=ChnU.k0 o138 D23.stp;have o143:=Own.k0 o139 D23.stp
          have q248:At (Ty.val x12_1) s37 a42 (.tmp 74):=D23.done 0 dE
          have q249:=D23.m 2 rfl
          have b2:=sl_le q249
          refine tL ok39 (YldM.toL (m_append Try.underlying24 Try.inf22 dE rfl dE (al (R:=(Pr.own 24 22 1 (List.length (pattT n C g3 k)) (List.map Ty.ints (pattT n C g3 k)))) q248 o140) q249 (by intro U hU;simp at hU;subst hU;exact one_sl) oM oM)) fun a43 s38 hs15 ok40 r15 sm14=>?_
          have q251:=kq hs15 sm14 12 (D23.k q236)
          obtain ⟨x5,hx2⟩:∃ x,a43.eval (.tmp 77) = x:=⟨_,rfl⟩
          have q256:At (Ty.val x5) s38 a43 (.tmp 77):=hx2
          have o144:=al2 (R:=(Pr.own 24 22 1 (List.length ((pattT n C g3 k) ++ [(colT n C k j)])) (List.map Ty.ints ((pattT n C g3 k) ++ [(colT n C k j)])))) hx2 (cvo (by simp) (by first | (rw [List.map_append];rfl) | simp) r15)
          clear r15
          refine tL ok40 (Yld.toL (y_as q256)) fun a44 s39 hs16 ok41 r16 sm15=>?_
          have q262:At (Ty.val x5) s39 a44 (.tmp 12):=r16
          clear r16;refine wpList_nil (bn (tn ?_))
          refine gI a44 s39 ok41 (gT (Ty.nat (k + 1)) rfl (fun A B G H I=>rP ((y_add (kp (I 50 rfl) G (kq hs16 sm15 50 (kq hs15 sm14 50 (D23.k q235)))) rfl wX).mono (fun τ _ h=>cN (σ:=τ) h))) (gS rfl (fun A B G H I d0=>rP (y_move (eI d0))) (gE ok41 fun a45 s40 ok42 D24=>?_)));have o152:=OwnP.k0 (OwnP.kl (OwnP.kl o141 hs15) hs16) D24.stp;have o153:=ChnU.k0 (ChnU.kl (ChnU.kl o142 hs15) hs16) D24.stp;have o154:=Own.k0 (Own.kl (Own.kl o143 hs15) hs16) D24.stp;have o155:=Own.k0 (Own.kl o144 hs16) D24.stp
          exact tn ⟨(C ^ n) - ((k+1)),by omega,s40,(k+1),x5,rfl,((((F40.step0 D23.stp).sl hs15).sl hs16).step0 D24.stp),ok42,(cJ (D24.m 1 rfl)),(D24.k q262),(D24.k (kq hs16 sm15 0 (kq hs15 sm14 0 (D23.k q237)))),(D24.k (kq hs16 sm15 2 (kq hs15 sm14 2 (D23.k q238)))),(D24.k (kq hs16 sm15 10 (kq hs15 sm14 10 (D23.k q239)))),(D24.k (kq hs16 sm15 49 (kq hs15 sm14 49 (D23.k q240)))),(cvo (by (rw [pattT_yes hfk,hcA])) (by (rw [pattT_yes hfk,hcA])) o155),o152,o153,o154,by omega,rfl⟩
         ·
          have hfk:fstP g3 (colAt n C k) = false:=(hcA ▸ c8)
          refine wp_skip (bn (tn ?_))
          refine gI a41 s36 ok38 (gT (Ty.nat (k + 1)) rfl (fun A B G H I=>rP ((y_add (kp (I 50 rfl) G q235) rfl wX).mono (fun τ _ h=>cN (σ:=τ) h))) (gS rfl (fun A B G H I d0=>rP (y_move (eI d0))) (gE ok38 fun a46 s41 ok43 D25=>?_)));have o156:=Own.k0 o136 D25.stp;have o157:=OwnP.k0 o137 D25.stp;have o158:=ChnU.k0 o138 D25.stp;have o159:=Own.k0 o139 D25.stp
          exact tn ⟨(C ^ n) - ((k+1)),by omega,s41,(k+1),x12_1,rfl,(F40.step0 D25.stp),ok43,(cJ (D25.m 1 rfl)),(D25.k q236),(D25.k q237),(D25.k q238),(D25.k q239),(D25.k q240),(cvo (by (rw [pattT_no hfk])) (by (rw [pattT_no hfk])) o156),o157,o158,o159,by omega,rfl⟩
      ·
       have ek:k = C ^ n:=oM
       refine wp_exit (tx (tx (bx (tn (wp_seq ?_)))))
       refine gI a31 s27 ok29 (gM q136 (gB 0 (gC (Ty.int (0:Int)) (gE ok29 fun a47 s42 ok44 D26=>?_))));have o160:=Own.k0 o84 D26.stp;have o161:=OwnP.k0 o85 D26.stp;have o162:=ChnU.k0 o86 D26.stp;have o163:=Own.k0 o87 D26.stp
       have q275:At (Ty.val x12_1) s42 a47 (.tmp 6):=D26.done 1
       refine tn (wp_ret ?_)
       obtain ⟨t10,e2,h2,q277⟩:=Own.seal o160 dE
       rw [← e2]
       have F47:=(F29.step0 D26.stp).step h2 dE;have o164:=OwnP.keepL o161 (h2.toL (L:=[24]) (by simp)) dE dE;have o165:=ChnU.keepL o162 (h2.toL (L:=[24]) (by simp)) dE dE;have o166:=Own.keepL o163 (h2.toL (L:=[24]) (by simp)) dE dE
       have q278:At (Ty.lst Ty.ints (pattT n C g3 k)) t10 a47 (.tmp 6):=by have e:a47.eval (.tmp 6) = x12_1:=q275;show Ty.has _ _ _;rw [e];exact q277
       have q279:=Ty.up (Ty.int (0:Int)) (h2.le dE) (D26.m 2 rfl)
       exact retL2 rfl ok44 F47 ⟨((colsL n C).filter (fstP g3)),(hasT2 (cvt (by ((rw [ek];rfl))) q278) q279),(by exact ⟨g3,hEO,rfl⟩)⟩
set_option maxHeartbeats 4000000 in
set_option maxRecDepth 100000 in
theorem clF_fn (n:Nat) (gens:List (List Int)) (C:Nat) (rows:List (List Int)) (σ:GW)  (v0 v1 v2 v3 v4:Value) (hv0:Ty.has (Ty.nat n) σ v0) (hv1:Ty.has (Ty.lst Ty.ints gens) σ v1) (hv2:Ty.has (Ty.nat C) σ v2) (hv3:Ty.has (Ty.lst Ty.ints rows) σ v3) (hv4:Ty.has (Ty.int (0:Int)) σ v4)  (hC:C ≤ 8) (hn:1 ≤ n∧n ≤ 12) (hG0:gensMay (n:Int) gens = 0) (hL:szTo n (fun y=>y ∈ gens) n ≤ 5040) (hP:C ^ n ≤ 700) (hRr:∀ x ∈ rows,RowN n x) (hRm:∀ x,x ∈ rows ↔ Cl n (fun y=>y ∈ gens) x) (hRl:rows.length ≤ 5040) :
    FnC Try.prog 53 #[v0,v1,v2,v3,v4] σ (Ty.bool true):=by
 refine fn_intro0 Try.func53 rfl Try.ntmps53 (Nat.le_of_ble_eq_true rfl) (fun s0 a0 hle F0 ok0 hargs=>?_)
 have p0:=pA hle (hargs 0 _ rfl) hv0
 have p1:=pA hle (hargs 1 _ rfl) hv1
 have b1:=sl_le p1
 have p2:=pA hle (hargs 2 _ rfl) hv2
 have p3:=pA hle (hargs 3 _ rfl) hv3
 have b2:=sl_le p3
 have p4:=pA hle (hargs 4 _ rfl) hv4
 clear hargs;refine wp_seq ?_
 refine gI a0 s0 ok0 (gC (Ty.bool false) (gE ok0 fun a1 s1 ok1 D1=>?_));have q3:=D1.k p2;refine tn (wp_seq (wp_seq ?_))
 refine gI a1 s1 ok1 (gM q3 (gS rfl (fun A B G H I d0=>rP (y_lss (eI d0) rfl)) (gS rfl (fun A B G H I d0=>rP (y_move (eI d0))) (gS rfl (fun A B G H I d0=>gu H (eI d0) fun hg=>y_move (kp (I 2 rfl) G q3)) (gS rfl (fun A B G H I d0 d1=>gu H (eI d1) fun hg=>y_gtr ((ef d0 rfl).1 hg) rfl) (gS rfl (fun A B G H I d0 d1=>rP (y_pick_or (eI d0) rfl (eI d1))) (gE ok1 fun a2 s2 ok2 D2=>?_)))))));have q6:=D2.k (D1.k p0);have q8:=D2.k q3;have q10:=D2.k (D1.k p4);refine tn ?_
 refine cond_t (D2.m 5 rfl) (fun c1=>?_) (fun c1=>?_)
 ·
  exfalso
  simp only [Bool.or_eq_true,decide_eq_true_eq] at c1;omega
 ·
  obtain ⟨d1,d2⟩:=Bool.or_eq_false_iff.mp c1
  replace d1:=of_decide_eq_false d1
  replace d2:=of_decide_eq_false d2
  refine wp_skip (tn (wp_seq (wp_seq ?_)))
  refine gI a2 s2 ok2 (gM q10 (gT (Ty.bool true) rfl (fun A B G H I d0=>rP ((y_eql (eI d0) rfl).mono (fun τ _ h=>cvb (σ:=τ) dE h))) (gS rfl (fun A B G H I d0=>rP (y_move (eI d0))) (gS rfl (fun A B G H I d0=>gu H (eI d0) fun hg=>y_move (kp (I 2 rfl) G q8)) (gS rfl (fun A B G H I d0=>gu H (eI d0) fun hg=>y_move (kp (I 0 rfl) G q6)) (gS rfl (fun A B G H I d0 d1 d2 d3=>gu H (eI d2) fun hg=>y_call _ Try.func86 rfl rfl my2 (power_fn (C) (n) _ _ _ (cvi (σ:=B) (by first | omega | assumption | cases hg | exact absurd (of_decide_eq_true hg) hbad) ((ef d0 rfl).1 hg)) ((ef d1 rfl).1 hg) (by first | omega | assumption | cases hg | exact absurd (of_decide_eq_true hg) hbad) (by first | omega | assumption | cases hg | exact absurd (of_decide_eq_true hg) hbad))) (gS rfl (fun A B G H I d0 d1=>gu H (eI d1) fun hg=>y_gtr ((ef d0 rfl).1 hg) rfl) (gS rfl (fun A B G H I d0 d1=>rP (y_pick_and (eI d0) (eI d1) rfl)) (gS rfl (fun A B G H I d0 d1=>rP (y_move (eI d0))) (gT (Ty.grd ((true && (decide ((700:Int) < ((((C) ^ n):Nat):Int)))) = true) (Ty.nat C)) rfl (by intro A B G H I d0;refine run_guard H rfl rfl dE (eI d0) (fun hg=>?_);obtain ⟨d3,d4⟩:=Bool.and_eq_true_iff.mp hg;have d4:=of_decide_eq_true d4;exact y_move (kp (I 2 rfl) G q8)) (gT (Ty.grd ((true && (decide ((700:Int) < ((((C) ^ n):Nat):Int)))) = true) (Ty.nat n)) rfl (by intro A B G H I d0;refine run_guard H rfl rfl dE (eI d0) (fun hg=>?_);obtain ⟨d5,d6⟩:=Bool.and_eq_true_iff.mp hg;have d6:=of_decide_eq_true d6;exact y_move (kp (I 0 rfl) G q6)) ?_)))))))))))
  refine gT (Ty.grd ((true && (decide ((700:Int) < ((((C) ^ n):Nat):Int)))) = true) (Ty.nat ((C) ^ n))) rfl (by intro A B G H I d0 d1 d2 d3;refine run_guard H rfl rfl dE (eI d2) (fun hg=>?_);obtain ⟨d7,d8⟩:=Bool.and_eq_true_iff.mp hg;have d8:=of_decide_eq_true d8;exact y_call _ Try.func86 rfl rfl my2 (power_fn (C) (n) _ _ _ (cvi (σ:=B) (by first | omega | assumption | cases hg | exact absurd (of_decide_eq_true hg) hbad) ((ef d0 rfl).1 hg)) ((ef d1 rfl).1 hg) (by first | omega | assumption | cases hg | exact absurd (of_decide_eq_true hg) hbad) (by first | omega | assumption | cases hg | exact absurd (of_decide_eq_true hg) hbad))) (gT (Ty.grd ((true && (decide ((700:Int) < ((((C) ^ n):Nat):Int)))) = true) (Ty.bool (decide (((((C) ^ n):Nat):Int) < (5041:Int))))) rfl (by intro A B G H I d0 d1;refine run_guard H rfl rfl dE (eI d1) (fun hg=>?_);obtain ⟨d9,d10⟩:=Bool.and_eq_true_iff.mp hg;have d10:=of_decide_eq_true d10;exact y_lss ((ef d0 rfl).1 hg) rfl) (gS rfl (fun A B G H I d0 d1=>rP (y_pick_and (eI d0) (eI d1) rfl)) (gE ok2 fun a3 s3 ok3 D3=>?_)));have q12:=D3.k q6;have q14:=D3.k q8;have q16:=D3.k q10;refine tn ?_
  refine cond_t (D3.m 13 rfl) (fun c2=>?_) (fun c2=>?_)
  ·
   exfalso
   (simp only [Bool.and_eq_true,decide_eq_true_eq] at c2;omega)
  ·
   refine wp_skip (tn (wp_seq (wp_seq ?_)))
   refine gI a3 s3 ok3 (gM q16 (gT (Ty.bool true) rfl (fun A B G H I d0=>rP ((y_eql (eI d0) rfl).mono (fun τ _ h=>cvb (σ:=τ) dE h))) (gS rfl (fun A B G H I d0=>rP (y_move (eI d0))) (gS rfl (fun A B G H I d0=>gu H (eI d0) fun hg=>y_move (kp (I 2 rfl) G q14)) (gS rfl (fun A B G H I d0=>gu H (eI d0) fun hg=>y_move (kp (I 0 rfl) G q12)) (gS rfl (fun A B G H I d0 d1 d2 d3=>gu H (eI d2) fun hg=>y_call _ Try.func86 rfl rfl my2 (power_fn (C) (n) _ _ _ (cvi (σ:=B) (by first | omega | assumption | cases hg | exact absurd (of_decide_eq_true hg) hbad) ((ef d0 rfl).1 hg)) ((ef d1 rfl).1 hg) (by first | omega | assumption | cases hg | exact absurd (of_decide_eq_true hg) hbad) (by first | omega | assumption | cases hg | exact absurd (of_decide_eq_true hg) hbad))) (gS rfl (fun A B G H I d0 d1=>gu H (eI d1) fun hg=>y_gtr ((ef d0 rfl).1 hg) rfl) (gS rfl (fun A B G H I d0 d1=>rP (y_pick_and (eI d0) (eI d1) rfl)) (gE ok3 fun a4 s4 ok4 D4=>?_)))))))));have q18:=D4.k q12;have q20:=D4.k q14;refine tn ?_
   refine cond_t (D4.m 7 rfl) (fun c3=>?_) (fun c3=>?_)
   ·
    exfalso
    (simp only [Bool.and_eq_true,decide_eq_true_eq] at c3;omega)
   ·
    refine wp_skip (tn (wp_seq ?_))
    refine gI a4 s4 ok4 (gM q18 (gM (D4.k (D3.k (D2.k (D1.k p1)))) (gM q20 (gE2 ok4 fun a5 s5 ok5 D5=>?_))))
    refine tL ok5 (y_callL (L:=[]) [] [] _ rfl dE Try.func61 rfl rfl my3 (pattE_fn (n) (gens) (C) _ lW _ _ _ (uL (D5.m 0 rfl)) (uL (D5.m 1 rfl)) (uL (D5.m 2 rfl))  oX oX oX oX)) fun a6 s6 hs1 ok6 r1 sm1=>?_
    obtain ⟨t1,⟨g1,hT1,hp1⟩,B1⟩:=r1
    have q35:At (Ty.tup2 (Ty.lst Ty.ints (g1)) (Ty.int (0:Int))) s6 a6 (.tmp 49):=Ty.up _ B1.le hT1
    refine tL ok6 (Yld.toL (y_mv q35)) fun a7 s7 hs2 ok7 r2 sm2=>?_
    have q40:At (Ty.tup2 (Ty.lst Ty.ints (g1)) (Ty.int (0:Int))) s7 a7 (.tmp 45):=r2
    clear r2
    refine tL (R:=(fun v τ=>Pr.has (Ty.pr (Ty.lst Ty.ints (g1))) τ v)) ok7 (Yld.toL (y_ext2_0 q40)) fun a8 s8 hs3 ok8 r3 sm3=>?_
    have q46:At (Ty.lst Ty.ints (g1)) s8 a8 (.tmp 50):=r3
    clear r3
    refine tL (R:=(fun v τ=>Pr.has (Ty.pr (Ty.int (0:Int))) τ v)) ok8 (Yld.toL (y_ext2_1 (kq hs3 sm3 45 q40))) fun a9 s9 hs4 ok9 r4 sm4=>?_
    have q52:At (Ty.int (0:Int)) s9 a9 (.tmp 51):=r4
    clear r4
    refine tL ok9 (Yld.toL (y_as (kq hs4 sm4 50 q46))) fun a10 s10 hs5 ok10 r5 sm5=>?_
    have q58:At (Ty.lst Ty.ints (g1)) s10 a10 (.tmp 11):=r5
    clear r5
    refine tL ok10 (Yld.toL (y_as (kq hs5 sm5 51 q52))) fun a11 s11 hs6 ok11 r6 sm6=>?_
    have q64:At (Ty.int (0:Int)) s11 a11 (.tmp 12):=r6
    clear r6;refine wpList_nil (tn (wp_seq (wp_seq ?_)))
    obtain ⟨E,hE,hLE⟩:=hp1
    refine gI a11 s11 ok11 (gM (kq hs6 sm6 4 (kq hs5 sm5 4 (kq hs4 sm4 4 (kq hs3 sm3 4 (kq hs2 sm2 4 (kq hs1 sm1 4 (D5.k (D4.k q16)))))))) (gT (Ty.bool false) rfl (fun A B G H I d0=>rP ((y_neq (eI d0) rfl).mono (fun τ _ h=>cvb (σ:=τ) dE h))) (gE ok11 fun a12 s12 ok12 D6=>?_)));refine tn ?_
    refine cond_t (D6.m 1 rfl) (fun c4=>(by cases c4)) (fun _=>?_)
    refine wp_skip (tn (wp_seq ?_))
    refine gI a12 s12 ok12 (gC (Ty.val (Value.slice none 0 0)) (gE ok12 fun a13 s13 ok13 D7=>?_));refine tn (wp_seq (wp_seq ?_))
    refine gI a13 s13 ok13 (gC (Ty.int (0:Int)) (gE ok13 fun a14 s14 ok14 D8=>?_));refine tn (wp_block ?_)
    have o1:Own s14 20 22 1 (Value.slice none 0 0) 0 (List.map Ty.ints ([]:List (List Int))):=Own.nil _ _ _ _
    refine loop (fun n1 a15 w1=>∃ (t2:GW) (k:Nat) (x13_0:Value),t2.w = w1∧FromL [] s0 t2∧Ok 88 [] a15∧At (Ty.nat k) t2 a15 (.tmp 14)∧At (Ty.val x13_0) t2 a15 (.tmp 13)∧At (Ty.nat n) t2 a15 (.tmp 0)∧At (Ty.nat C) t2 a15 (.tmp 2)∧At (Ty.lst Ty.ints rows) t2 a15 (.tmp 3)∧At (Ty.lst Ty.ints (g1)) t2 a15 (.tmp 11)∧At (Ty.int (0:Int)) t2 a15 (.tmp 12)∧Own t2 20 22 1 x13_0 (List.length (pattT n C rows k)) (List.map Ty.ints (pattT n C rows k))∧(k ≤ (C ^ n))∧n1 = (C ^ n) - k) ((C ^ n) - (0)) ?_ ?_
    ·
     exact ⟨s14,0,(Value.slice none 0 0),rfl,((((((((((((((F0.step0 D1.stp).step0 D2.stp).step0 D3.stp).step0 D4.stp).step0 D5.stp).sl hs1).sl hs2).sl hs3).sl hs4).sl hs5).sl hs6).step0 D6.stp).step0 D7.stp).step0 D8.stp),ok14,(cJ (D8.m 0 rfl)),(D8.k (D7.m 0 rfl)),(D8.k (D7.k (D6.k (kq hs6 sm6 0 (kq hs5 sm5 0 (kq hs4 sm4 0 (kq hs3 sm3 0 (kq hs2 sm2 0 (kq hs1 sm1 0 (D5.k q18)))))))))),(D8.k (D7.k (D6.k (kq hs6 sm6 2 (kq hs5 sm5 2 (kq hs4 sm4 2 (kq hs3 sm3 2 (kq hs2 sm2 2 (kq hs1 sm1 2 (D5.k q20)))))))))),(D8.k (D7.k (D6.k (kq hs6 sm6 3 (kq hs5 sm5 3 (kq hs4 sm4 3 (kq hs3 sm3 3 (kq hs2 sm2 3 (kq hs1 sm1 3 (D5.k (D4.k (D3.k (D2.k (D1.k p3)))))))))))))),(D8.k (D7.k (D6.k (kq hs6 sm6 11 q58)))),(D8.k (D7.k (D6.k q64))),(cvo (by (first | rfl | simp [pattT])) (by (first | rfl | simp [pattT])) o1),by omega,rfl⟩
    ·
     rintro n2 a16 w2 ⟨t3,k,x13_0,rfl,F15,ok15,q85,q86,q87,q88,q89,q90,q91,o2,hk,rfl⟩
     have hptl:=pattT_len (n:=n) (C:=C) (E:=rows) (k:=k)
     have hC0:=pow_pos_c (C:=C) (n:=n) hn.1
     have hRc:∀ x ∈ rows,RowN (colAt n C k).length x:=(by rw [colAt_len];exact hRr)
     have hcl:=colAt_len (n:=n) (C:=C) (k:=k)
     refine wp_seq (wp_seq ?_)
     refine gI a16 t3 ok15 (gM q85 (gM q88 (gM q87 (gS rfl (fun A B G H I d0 d1=>rP (y_call _ Try.func86 rfl rfl my2 (power_fn (C) (n) _ _ _ (cvi (σ:=B) (by first | omega | assumption | cases hg | exact absurd (of_decide_eq_true hg) hbad) (ef d0 rfl)) (eI d1) (by first | omega | assumption | cases hg | exact absurd (of_decide_eq_true hg) hbad) (by first | omega | assumption | cases hg | exact absurd (of_decide_eq_true hg) hbad)))) (gS rfl (fun A B G H I d0 d1=>rP (y_lss (eI d0) (eI d1))) (gE ok15 fun a17 s15 ok16 D9=>?_))))));have F16:=F15.step0 D9.stp;have q92:=D9.k q85;have q93:=D9.k q86;have q94:=D9.k q87;have q95:=D9.k q88;have q96:=D9.k q89;have q97:=D9.k q90;have q98:=D9.k q91;have o3:=Own.k0 o2 D9.stp;have q99:=D9.m 4 rfl;refine tn ?_
     refine cond_p (p:=(((k:Nat):Int) < ((((C) ^ n):Nat):Int))) q99 (fun c5=>?_) (fun c5=>?_)
     ·
      refine wp_skip (tn (wp_seq (wp_block (wp_seq ?_))))
      refine gI a17 s15 ok16 (gM q94 (gM q95 (gM q92 (gS rfl (fun A B G H I d0 d1 d2=>rP (y_call _ Try.func87 rfl rfl my3 (colAt_fn (n) (C) (k) _ _ _ _ (eI d0) (eI d1) (eI d2) oX oX oX))) (gB 0 (gE ok16 fun a18 s16 ok17 D10=>?_))))));have q104:=D10.k q96;have o4:=Own.k0 o3 D10.stp;have q107:=D10.m 4 rfl;refine tn (wp_seq ?_)
      refine gI a18 s16 ok17 (gM q107 (gM q104 (gS rfl (fun A B G H I d0 d1=>rP (y_call _ Try.func88 rfl rfl my2 (isFirst_fn ((colAt n C k)) (rows) _ _ _ (eI d0) (eI d1) oX oX oX))) (gB 0 (gE ok17 fun a19 s17 ok18 D11=>?_)))));have o5:=Own.k0 o4 D11.stp;refine tn (wp_seq ?_)
      refine gI a19 s17 ok18 (gM (D11.m 3 rfl) (gE ok18 fun a20 s18 ok19 D12=>?_));have F19:=((F16.step0 D10.stp).step0 D11.stp).step0 D12.stp;have q117:=D12.k (D11.k (D10.k q92));have q118:=D12.k (D11.k (D10.k q93));have q119:=D12.k (D11.k (D10.k q94));have q120:=D12.k (D11.k (D10.k q95));have q121:=D12.k (D11.k q104);have q122:=D12.k (D11.k (D10.k q97));have q123:=D12.k (D11.k (D10.k q98));have o6:=Own.k0 o5 D12.stp;refine tn ?_
      refine cond_t (D12.m 0 rfl) (fun c6=>?_) (fun c6=>?_)
      ·
       have hfk:=c6
       refine gI a20 s18 ok19 (gM q118 (gM (D12.k (D11.k q107)) (gT (Ty.sl 1 1 [(Ty.lst Ty.int (colAt n C k))]) rfl (fun A B G H I d0=>rP (y_build1o Try.underlying24 Try.inf22 rfl (one_sl) (eI d0))) (gE2 ok19 fun a21 s19 ok20 D13=>?_))));have o7:=Own.k0 o6 D13.stp
       have q133:At (Ty.val x13_0) s19 a21 (.tmp 77):=D13.done 0 dE
       have q134:=D13.m 2 rfl
       have b3:=sl_le q134
       refine tL ok20 (YldM.toL (m_append Try.underlying24 Try.inf22 dE rfl dE (al (R:=(Pr.own 20 22 1 (List.length (pattT n C rows k)) (List.map Ty.ints (pattT n C rows k)))) q133 o7) q134 (by intro U hU;simp at hU;subst hU;exact one_sl) oM oM)) fun a22 s20 hs7 ok21 r7 sm7=>?_
       have q136:=kq hs7 sm7 13 (D13.k q118)
       obtain ⟨x1,hx1⟩:∃ x,a22.eval (.tmp 80) = x:=⟨_,rfl⟩
       have q142:At (Ty.val x1) s20 a22 (.tmp 80):=hx1
       have o8:=al2 (R:=(Pr.own 20 22 1 (List.length ((pattT n C rows k) ++ [(colAt n C k)])) (List.map Ty.ints ((pattT n C rows k) ++ [(colAt n C k)])))) hx1 (cvo (by simp) (by first | (rw [List.map_append];rfl) | simp) r7)
       clear r7
       refine tL ok21 (Yld.toL (y_as q142)) fun a23 s21 hs8 ok22 r8 sm8=>?_
       have q149:At (Ty.val x1) s21 a23 (.tmp 13):=r8
       clear r8;refine wpList_nil (bn (tn ?_))
       refine gI a23 s21 ok22 (gM (kq hs8 sm8 14 (kq hs7 sm7 14 (D13.k q117))) (gT (Ty.nat (k + 1)) rfl (fun A B G H I d0=>rP ((y_add (eI d0) rfl wX).mono (fun τ _ h=>cN (σ:=τ) h))) (gB 0 (gE ok22 fun a24 s22 ok23 D14=>?_))));have o10:=Own.k0 (Own.kl o8 hs8) D14.stp
       exact tn ⟨(C ^ n) - ((k+1)),by omega,s22,(k+1),x1,rfl,((((F19.step0 D13.stp).sl hs7).sl hs8).step0 D14.stp),ok23,(cJ (D14.m 2 rfl)),(D14.k q149),(D14.k (kq hs8 sm8 0 (kq hs7 sm7 0 (D13.k q119)))),(D14.k (kq hs8 sm8 2 (kq hs7 sm7 2 (D13.k q120)))),(D14.k (kq hs8 sm8 3 (kq hs7 sm7 3 (D13.k q121)))),(D14.k (kq hs8 sm8 11 (kq hs7 sm7 11 (D13.k q122)))),(D14.k (kq hs8 sm8 12 (kq hs7 sm7 12 (D13.k q123)))),(cvo (by (rw [pattT_yes hfk])) (by (rw [pattT_yes hfk])) o10),by omega,rfl⟩
      ·
       have hfk:=c6
       refine wp_skip (bn (tn ?_))
       refine gI a20 s18 ok19 (gM q117 (gT (Ty.nat (k + 1)) rfl (fun A B G H I d0=>rP ((y_add (eI d0) rfl wX).mono (fun τ _ h=>cN (σ:=τ) h))) (gB 0 (gE ok19 fun a25 s23 ok24 D15=>?_))));have o11:=Own.k0 o6 D15.stp
       exact tn ⟨(C ^ n) - ((k+1)),by omega,s23,(k+1),x13_0,rfl,(F19.step0 D15.stp),ok24,(cJ (D15.m 2 rfl)),(D15.k q118),(D15.k q119),(D15.k q120),(D15.k q121),(D15.k q122),(D15.k q123),(cvo (by (rw [pattT_no hfk])) (by (rw [pattT_no hfk])) o11),by omega,rfl⟩
     ·
      have ek:k = C ^ n:=oM
      refine wp_exit (tx (tx (bx (tn (wp_seq ?_)))))
      obtain ⟨t4,e1,h1,q164⟩:=Own.seal o3 dE
      rw [← e1]
      have F25:=F16.step h1 dE;have q165:=Ty.up (Ty.nat k) (h1.le dE) q92
      have q166:At (Ty.lst Ty.ints (pattT n C rows k)) t4 a17 (.tmp 13):=by have e:a17.eval (.tmp 13) = x13_0:=q93;show Ty.has _ _ _;rw [e];exact q164
      have q167:=Ty.up (Ty.nat n) (h1.le dE) q94;have q168:=Ty.up (Ty.nat C) (h1.le dE) q95;have q169:=Ty.up (Ty.lst Ty.ints rows) (h1.le dE) q96;have q170:=Ty.up (Ty.lst Ty.ints (g1)) (h1.le dE) q97;have q171:=Ty.up (Ty.int (0:Int)) (h1.le dE) q98;have q172:=Ty.up (Ty.bool (decide (((k:Nat):Int) < ((((C) ^ n):Nat):Int)))) (h1.le dE) q99
      refine gI a17 t4 ok16 (gM q171 (gT (Ty.bool true) rfl (fun A B G H I d0=>rP ((y_eql (eI d0) rfl).mono (fun τ _ h=>cvb (σ:=τ) dE h))) (gS rfl (fun A B G H I d0=>rP (y_move (eI d0))) (gS rfl (fun A B G H I d0=>gu H (eI d0) fun hg=>y_move (kp (I 11 rfl) G q170)) (gS rfl (fun A B G H I d0=>gu H (eI d0) fun hg=>y_move (kp (I 13 rfl) G q166)) (gS rfl (fun A B G H I d0 d1 d2 d3=>gu H (eI d2) fun hg=>y_call _ Try.func29 rfl rfl my2 (rSameAll_fn ((g1)) ((pattT n C rows k)) _ _ _ ((ef d0 rfl).1 hg) ((ef d1 rfl).1 hg) )) (gS rfl (fun A B G H I d0 d1=>rP (y_pick_and (eI d0) (eI d1) rfl)) (gB 0 (gE ok16 fun a26 s24 ok25 D16=>?_)))))))));refine tn (wp_ret ?_)
      exact retL1 rfl ok25 (F25.step0 D16.stp) (cvb (by ((rw [hLE,ek,pattT_full,filter_fst (fun x=>(hE.mem x).trans (hRm x).symm)];simp))) (D16.m 7 rfl))
theorem colourList_fn (n:Int) (gens:List (List Int)) (colours:Int) (rows:List (List Int)) (f:Int) (σ:GW) (v0 v1 v2 v3 v4:Value) (hv0:Ty.has (Ty.int n) σ v0) (hv1:Ty.has (Ty.lst Ty.ints gens) σ v1) (hv2:Ty.has (Ty.int colours) σ v2) (hv3:Ty.has (Ty.lst Ty.ints rows) σ v3) (hv4:Ty.has (Ty.int f) σ v4) (hF:FOk n gens rows f) :
    FnC Try.prog 53 #[v0,v1,v2,v3,v4] σ (Ty.bool true):=by
  by_cases hb:colours < 0 ∨ 8 < colours
  · exact clErr_fn n gens colours rows f 12 σ v0 v1 v2 v3 v4 hv0 hv1 hv2 hv3 hv4 (.inl ⟨hb,rfl⟩) fun h=>absurd hb h
  · rcases hF.err with h | ⟨m,rfl,hn,h,hL,rfl,hr,hm,hl⟩
    · exact clErr_fn n gens colours rows f f σ v0 v1 v2 v3 v4 hv0 hv1 hv2 hv3 hv4 (.inr ⟨hb,h⟩) fun _=>rfl
    · obtain ⟨C,rfl⟩:∃ C:Nat,colours = (C:Int):=⟨colours.toNat,by omega⟩
      by_cases h1:C ^ m ≤ 700
      · exact clF_fn m gens C rows σ v0 v1 v2 v3 v4 hv0 hv1 hv2 hv3 hv4 oM hn h hL h1 hr hm hl
      · by_cases h2:5040 < C ^ m
        · exact clE_fn m gens C rows σ v0 v1 v2 v3 v4 hv0 hv1 hv2 hv3 hv4 oM hn h hL h2
        · exact clD_fn m gens C rows σ v0 v1 v2 v3 v4 hv0 hv1 hv2 hv3 hv4 oM hn h hL oM
set_option maxHeartbeats 4000000 in
set_option maxRecDepth 100000 in
theorem cloneN_fn (xs:List Int) (σ:GW) (hlow:Low [] σ) (v0:Value) (hv0:Ty.has (Ty.lst Ty.int xs) σ v0)  (hx2:xs.length ≤ 1000000) (hx1:1 ≤ xs.length) :
    FnL Try.prog 101 #[v0] σ [] (fun v τ=>∃ (z:Value),(Ty.has (Ty.val z) τ v)∧(Own τ 41 3 1 z (List.length xs) (List.map Ty.int xs))):=by
 refine fn_introL hlow Try.func101 rfl Try.ntmps101 (Nat.le_of_ble_eq_true rfl) (fun a0 F0 ok0 hargs=>?_)
 have p0:=pB (hargs 0 _ rfl) hv0
 have b1:=sl_le p0
 clear hargs;refine wp_seq ?_
 refine gI a0 σ ok0 (gC (Ty.val (Value.slice none 0 0)) (gE ok0 fun a1 s1 ok1 D1=>?_));have q1:=D1.k p0;refine tn (wp_seq (wp_seq ?_))
 refine gI a1 s1 ok1 (gM q1 (gT (Ty.bool false) rfl (fun A B G H I d0=>rP (y_slnil Try.underlying22 (eI d0) (by (intro h_;rw [List.map_eq_nil_iff] at h_;rw [h_] at hx1;simp at hx1)) rfl)) (gE ok1 fun a2 s2 ok2 D2=>?_)));refine tn ?_
 refine cond_t (D2.m 1 rfl) (fun c1=>(by cases c1)) (fun _=>?_)
 refine wp_skip (tn (wp_seq ?_))
 refine gI a2 s2 ok2 (gR (Pr.own 41 3 1 0 (List.map Ty.int ([]:List Int))) rfl (by intro A B G H I;exact rP ((y_lit0 (k:=41) Try.underlying22 Try.inf3).mono (fun _ _ h=>cvo (by simp) (by simp) h))) (gM (D2.k q1) (gE2 ok2 fun a3 s3 ok3 D3=>?_)))
 obtain ⟨x1,hx1⟩:∃ x,a3.eval (.tmp 5) = x:=⟨_,rfl⟩
 have q4:At (Ty.val x1) s3 a3 (.tmp 5):=hx1
 have o1:=al2 (R:=(Pr.own 41 3 1 0 (List.map Ty.int ([]:List Int)))) hx1 (D3.done 0 dE)
 refine tL ok3 (YldM.toL (m_append Try.underlying22 Try.inf3 dE rfl dE (al (R:=(Pr.own 41 3 1 0 (List.map Ty.int ([]:List Int)))) q4 o1) (D3.m 1 rfl) (one_map (fun _=>one_val rfl)) oM oM)) fun a4 s4 hs1 ok4 r1 sm1=>?_
 obtain ⟨x2,hx2⟩:∃ x,a4.eval (.tmp 7) = x:=⟨_,rfl⟩
 have q6:At (Ty.val x2) s4 a4 (.tmp 7):=hx2
 have o2:=al2 (R:=(Pr.own 41 3 1 (List.length xs) (List.map Ty.int xs))) hx2 (cvo (by first | (simp;done) | (simp;omega)) (by first | (rw [List.map_append];rfl) | simp) r1)
 clear r1
 refine tL ok4 (Yld.toL (y_as q6)) fun a5 s5 hs2 ok5 r2 sm2=>?_
 have q7:At (Ty.val x2) s5 a5 (.tmp 2):=r2
 clear r2;refine wpList_nil (tn (wp_ret ?_))
 exact retL1 rfl ok5 (((((F0.step0 D1.stp).step0 D2.stp).step0 D3.stp).sl hs1).sl hs2) ⟨x2,q7,(Own.kl o2 hs2)⟩
end Go.Proofs.Ytkjifbgofckfeaa
