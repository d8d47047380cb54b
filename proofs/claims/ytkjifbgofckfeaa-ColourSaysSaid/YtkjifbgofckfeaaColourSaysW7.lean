/- The functions that the law ColourSays reaches, each by its contract. Part 7. -/
import Derived.Test.YtkjifbgofckfeaaColourSaysW6
namespace Go.Proofs.Ytkjifbgofckfeaa
open Go.KL
set_option maxHeartbeats 4000000 in
set_option maxRecDepth 100000 in
theorem cKindsC_fn (n:Nat) (gens:List (List Int)) (σ:GW) (hlow:Low [] σ) (v0 v1:Value) (hv0:Ty.has (Ty.nat n) σ v0) (hv1:Ty.has (Ty.lst Ty.ints gens) σ v1)  (hG0:gensMay (n:Int) gens = 0) (hL:szTo n (fun y=>y ∈ gens) n ≤ 5040) :
    FnL Try.prog 48 #[v0,v1] σ [] (fun v τ=>∃ (K:(List Knd)),(Ty.has (Ty.tup2 (Ty.lstc 2 kndC K) (Ty.int (0:Int))) τ v)∧(∃ E,EltsOk n gens E∧KindP (E.map lensL) K)):=by
 obtain ⟨hn,hGl,hG⟩:=may_nat hG0
 have hGl2:gens.length ≤ 1000000:=oM
 have hGl3:gens.length ≤ 1000:=oM
 refine fn_introL hlow Try.func48 rfl Try.ntmps48 (Nat.le_of_ble_eq_true rfl) (fun a0 F0 ok0 hargs=>?_)
 have p0:=pB (hargs 0 _ rfl) hv0
 have p1:=pB (hargs 1 _ rfl) hv1
 have b1:=sl_le p1
 clear hargs;refine wp_seq ?_
 refine gI a0 σ ok0 (gC (Ty.val (Value.slice none 0 0)) (gC (Ty.int (0:Int)) (gE ok0 fun a1 s1 ok1 D1=>?_)));refine tn (wp_seq ?_)
 refine gI a1 s1 ok1 (gM (D1.k p0) (gM (D1.k p1) (gE2 ok1 fun a2 s2 ok2 D2=>?_)))
 refine tL ok2 (y_callL (L:=[]) [] [(41,41),(42,42),(43,43)] _ rfl dE Try.func17 rfl rfl my2 (gMake_fn (n) (gens) _ lW _ _ (uL (D2.m 0 rfl)) (uL (D2.m 1 rfl))  oX oX oX)) fun a3 s3 hs1 ok3 r1 sm1=>?_
 obtain ⟨t1,⟨g1,g2,x1,x2,x3,hT1,o1,o2,o3,hp1⟩,B1⟩:=r1
 have q5:At (Ty.tup2 (Ty.val x1) (Ty.int (0:Int))) s3 a3 (.tmp 18):=Ty.up _ B1.le hT1
 have o4:OwnP s3 41 x1 [(Ty.nat n),(Ty.val x3),(Ty.val x2)]:=OwnP.ren o1 (B1.ren dE rfl)
 have o5:ChnU s3 42 22 108 x2 n (g1) (g2):=ChnU.ren o2 (B1.ren dE rfl)
 have o6:Own s3 43 22 1 x3 (List.length gens) (List.map Ty.ints gens):=Own.ren o3 (B1.ren dE rfl)
 refine tL ok3 (Yld.toL (y_mv q5)) fun a4 s4 hs2 ok4 r2 sm2=>?_
 have q6:At (Ty.tup2 (Ty.val x1) (Ty.int (0:Int))) s4 a4 (.tmp 15):=r2
 clear r2
 refine tL (R:=(fun v τ=>Pr.has (Ty.pr (Ty.val x1)) τ v)) ok4 (Yld.toL (y_ext2_0 q6)) fun a5 s5 hs3 ok5 r3 sm3=>?_
 have q8:At (Ty.val x1) s5 a5 (.tmp 19):=r3
 clear r3
 refine tL (R:=(fun v τ=>Pr.has (Ty.pr (Ty.int (0:Int))) τ v)) ok5 (Yld.toL (y_ext2_1 (kq hs3 sm3 15 q6))) fun a6 s6 hs4 ok6 r4 sm4=>?_
 have q10:At (Ty.int (0:Int)) s6 a6 (.tmp 20):=r4
 clear r4
 refine tL ok6 (Yld.toL (y_as (kq hs4 sm4 19 q8))) fun a7 s7 hs5 ok7 r5 sm5=>?_
 have q12:At (Ty.val x1) s7 a7 (.tmp 6):=r5
 clear r5
 refine tL ok7 (Yld.toL (y_as (kq hs5 sm5 20 q10))) fun a8 s8 hs6 ok8 r6 sm6=>?_
 have q14:At (Ty.int (0:Int)) s8 a8 (.tmp 7):=r6
 clear r6;refine wpList_nil (tn (wp_seq (wp_seq ?_)))
 refine gI a8 s8 ok8 (gM q14 (gT (Ty.bool false) rfl (fun A B G H I d0=>rP ((y_neq (eI d0) rfl).mono (fun τ _ h=>cvb (σ:=τ) dE h))) (gE ok8 fun a9 s9 ok9 D3=>?_)));have o22:=OwnP.k0 (OwnP.kl (OwnP.kl (OwnP.kl (OwnP.kl (OwnP.kl o4 hs2) hs3) hs4) hs5) hs6) D3.stp;have o23:=ChnU.k0 (ChnU.kl (ChnU.kl (ChnU.kl (ChnU.kl (ChnU.kl o5 hs2) hs3) hs4) hs5) hs6) D3.stp;have o24:=Own.k0 (Own.kl (Own.kl (Own.kl (Own.kl (Own.kl o6 hs2) hs3) hs4) hs5) hs6) D3.stp;refine tn ?_
 refine cond_t (D3.m 1 rfl) (fun c1=>(by cases c1)) (fun _=>?_)
 refine wp_skip (tn (wp_seq ?_))
 refine gI a9 s9 ok9 (gM (D3.k (kq hs6 sm6 6 q12)) (gE2 ok9 fun a10 s10 ok10 D4=>?_));have o25:=OwnP.k0 o22 D4.stp;have o26:=ChnU.k0 o23 D4.stp;have o27:=Own.k0 o24 D4.stp
 have q19:At (Ty.val x1) s10 a10 (.tmp 25):=D4.done 0 dE
 refine tL ok10 (y_callL (L:=[41,42,43]) [(41,41),(42,42),(43,43)] [(41,41),(42,42),(43,43)] #[a10.eval (.tmp 25)] rfl dE Try.func60 rfl rfl my1 (gElts_fn (x1) (x3) (x2) ((g2)) (n) ((g1)) (gens) _ lW _ (uL q19) (OwnP.ren o25 (GW.ren_lend _ _ dE rfl)) (ChnU.ren (cvch (by (rfl)) o26) (GW.ren_lend _ _ dE rfl)) (Own.ren o27 (GW.ren_lend _ _ dE rfl)) oX oX)) fun a11 s11 hs7 ok11 r7 sm7=>?_
 obtain ⟨t2,⟨g3,hT2,o28,o29,o30,hp2⟩,B2⟩:=r7
 have q21:At (Ty.tup2 (Ty.lst Ty.ints (g3)) (Ty.int (eltE n gens))) s11 a11 (.tmp 26):=Ty.up _ B2.le hT2
 have o31:OwnP s11 41 x1 [(Ty.nat n),(Ty.val x3),(Ty.val x2)]:=OwnP.ren o28 (B2.ren dE rfl)
 have o32:ChnU s11 42 22 108 x2 n ((g1)) ((g2)):=ChnU.ren o29 (B2.ren dE rfl)
 have o33:Own s11 43 22 1 x3 (List.length gens) (List.map Ty.ints gens):=Own.ren o30 (B2.ren dE rfl)
 refine tL ok11 (Yld.toL (y_mv q21)) fun a12 s12 hs8 ok12 r8 sm8=>?_
 have q23:At (Ty.tup2 (Ty.lst Ty.ints (g3)) (Ty.int (eltE n gens))) s12 a12 (.tmp 24):=r8
 clear r8
 refine tL (R:=(fun v τ=>Pr.has (Ty.pr (Ty.lst Ty.ints (g3))) τ v)) ok12 (Yld.toL (y_ext2_0 q23)) fun a13 s13 hs9 ok13 r9 sm9=>?_
 have q26:At (Ty.lst Ty.ints (g3)) s13 a13 (.tmp 27):=r9
 clear r9
 refine tL (R:=(fun v τ=>Pr.has (Ty.pr (Ty.int (eltE n gens))) τ v)) ok13 (Yld.toL (y_ext2_1 (kq hs9 sm9 24 q23))) fun a14 s14 hs10 ok14 r10 sm10=>?_
 have q29:At (Ty.int (eltE n gens)) s14 a14 (.tmp 28):=r10
 clear r10
 refine tL ok14 (Yld.toL (y_as (kq hs10 sm10 27 q26))) fun a15 s15 hs11 ok15 r11 sm11=>?_
 have q30:=kq hs11 sm11 7 (kq hs10 sm10 7 (kq hs9 sm9 7 (kq hs8 sm8 7 (kq hs7 sm7 7 (D4.k (D3.k q14))))))
 have q32:At (Ty.lst Ty.ints (g3)) s15 a15 (.tmp 8):=r11
 clear r11
 refine tL ok15 (Yld.toL (y_as (kq hs11 sm11 28 q29))) fun a16 s16 hs12 ok16 r12 sm12=>?_
 have q34:At (Ty.int (eltE n gens)) s16 a16 (.tmp 7):=r12
 clear r12;refine wpList_nil (tn (wp_seq (wp_seq ?_)))
 have hE0:eltE n gens = 0:=(by unfold eltE;rw [if_pos hL])
 have hEO:=hp2.ok hL
 have hEl:=hEO.len
 refine gI a16 s16 ok16 (gM q34 (gS rfl (fun A B G H I d0=>rP (y_neq (eI d0) rfl)) (gE ok16 fun a17 s17 ok17 D5=>?_)));have o49:=OwnP.k0 (OwnP.kl (OwnP.kl (OwnP.kl (OwnP.kl (OwnP.kl o31 hs8) hs9) hs10) hs11) hs12) D5.stp;have o50:=ChnU.k0 (ChnU.kl (ChnU.kl (ChnU.kl (ChnU.kl (ChnU.kl o32 hs8) hs9) hs10) hs11) hs12) D5.stp;have o51:=Own.k0 (Own.kl (Own.kl (Own.kl (Own.kl (Own.kl o33 hs8) hs9) hs10) hs11) hs12) D5.stp;refine tn ?_
 refine cond_p (p:=((eltE n gens) ≠ (0:Int))) (D5.m 1 rfl) (fun c2=>?_) (fun c2=>?_)
 ·
  exfalso
  (rw [hE0] at c2;exact c2 rfl)
 ·
  refine wp_skip (tn (wp_seq ?_))
  refine gI a17 s17 ok17 (gC (Ty.val (Value.slice none 0 0)) (gE ok17 fun a18 s18 ok18 D6=>?_));have o52:=OwnP.k0 o49 D6.stp;have o53:=ChnU.k0 o50 D6.stp;have o54:=Own.k0 o51 D6.stp;refine tn (wp_seq (wp_seq ?_))
  refine gI a18 s18 ok18 (gM (D6.k (D5.k (kq hs12 sm12 8 q32))) (gS rfl (fun A B G H I d0=>rP (y_len Try.underlying24 (eI d0))) (gT (Ty.int (0:Int)) rfl (fun A B G H I=>rP (y_move rfl)) (gE ok18 fun a19 s19 ok19 D7=>?_))));have o55:=OwnP.k0 o52 D7.stp;have o56:=ChnU.k0 o53 D7.stp;have o57:=Own.k0 o54 D7.stp;refine tn (wp_block ?_)
  have o58:Own s19 22 117 2 (Value.slice none 0 0) 0 (List.flatMap kndC ([]:List Knd)):=Own.nil _ _ _ _
  refine loop (fun n1 a20 w1=>∃ (t3:GW) (k:Nat) (K:(List Knd)) (x9_0:Value),t3.w = w1∧FromL [] σ t3∧Ok 63 [] a20∧At (Ty.nat k) t3 a20 (.tmp 34)∧At (Ty.val x9_0) t3 a20 (.tmp 9)∧At (Ty.lst Ty.ints (g3)) t3 a20 (.tmp 32)∧At (Ty.nat (List.length (g3))) t3 a20 (.tmp 33)∧Own t3 22 117 2 x9_0 (List.length K) (List.flatMap kndC K)∧OwnP t3 41 x1 [(Ty.nat n),(Ty.val x3),(Ty.val x2)]∧ChnU t3 42 22 108 x2 n ((g1)) ((g2))∧Own t3 43 22 1 x3 (List.length gens) (List.map Ty.ints gens)∧(k ≤ g3.length)∧(KindP ((g3.take k).map lensL) K)∧n1 = g3.length - k) (g3.length - (0)) ?_ ?_
  ·
   exact ⟨s19,0,([]:List Knd),(Value.slice none 0 0),rfl,(((((((((((((((((((F0.step0 D1.stp).step0 D2.stp).sl hs1).sl hs2).sl hs3).sl hs4).sl hs5).sl hs6).step0 D3.stp).step0 D4.stp).sl hs7).sl hs8).sl hs9).sl hs10).sl hs11).sl hs12).step0 D5.stp).step0 D6.stp).step0 D7.stp),ok19,(cJ (D7.m 2 rfl)),(D7.k (D6.m 0 rfl)),(D7.m 0 rfl),(D7.m 1 rfl),(cvo (by (simp)) (by (simp)) o58),o55,o56,o57,by omega,KindP.nil,rfl⟩
  ·
   rintro n2 a21 w2 ⟨t4,k,K,x9_0,rfl,F20,ok20,q44,q45,q46,q47,o59,o60,o61,o62,hk,hKP,rfl⟩
   have hsrt:=hKP.srt
   have hKl:=hKP.len
   have hKm:=lens_map (E:=g3) (f:=lensL) (k:=k)
   refine wp_seq ?_
   refine gI a21 t4 ok20 (gS rfl (fun A B G H I=>rP (y_lss (kp (I 34 rfl) G q44) (kp (I 33 rfl) G q47))) (gE ok20 fun a22 s20 ok21 D8=>?_));have F21:=F20.step0 D8.stp;have q48:=D8.k q44;have q49:=D8.k q45;have q50:=D8.k q46;have o63:=Own.k0 o59 D8.stp;have o64:=OwnP.k0 o60 D8.stp;have o65:=ChnU.k0 o61 D8.stp;have o66:=Own.k0 o62 D8.stp;refine tn (wp_seq ?_)
   refine cond_p (p:=(((k:Nat):Int) < (((List.length (g3)):Nat):Int))) (D8.m 0 rfl) (fun c3=>?_) (fun c3=>?_)
   ·
    have hkr:=(((hEO.mem _).1 (mem_atD [] (show k < g3.length by omega))).row hn hG).row
    refine wp_skip (tn (wp_seq (wp_block (wp_seq ?_))))
    refine gI a22 s20 ok21 (gT (Ty.ref [(Ty.lst Ty.int ((g3).getD k []))]) rfl (fun A B G H I=>rP (y_index1 Try.underlying24 Try.inf22 (kp (I 32 rfl) G q50) (kp (I 34 rfl) G q48) oM (lst_get Ty.ints (g3) [] k oM))) (gS rfl (fun A B G H I d0=>rP (y_load Try.underlying22 rfl (eI d0) rfl)) (gB 0 (gE ok21 fun a23 s21 ok22 D9=>?_))));have o67:=Own.k0 o63 D9.stp;have o68:=OwnP.k0 o64 D9.stp;have o69:=ChnU.k0 o65 D9.stp;have o70:=Own.k0 o66 D9.stp;refine tn (wp_seq ?_)
    refine gI a23 s21 ok22 (gM (D9.m 2 rfl) (gS rfl (fun A B G H I d0=>rP (y_call _ Try.func79 rfl rfl my1 (lengths_fn (((g3).getD k [])) _ _ (eI d0) oX))) (gT (Ty.agg [(Ty.lst Ty.int (lensL (((g3).getD k [])))),(Ty.int (1:Int))]) rfl (fun A B G H I d0=>rP (y_bld [(0,(.tmp 39),(Ty.lst Ty.int (lensL (((g3).getD k []))))),(1,((Operand.const (Value.int IntKind.i64 1))),(Ty.int (1:Int)))] [(Ty.val (Value.slice none 0 0)),(Ty.int (0:Int))] (l:=[(0,1),(1,1)]) rfl Try.inf117 rfl (alloc_vals (vs:=[.slice none 0 0,.int .i64 0]) rfl) rfl (by intro p hp;simp only [List.mem_cons,List.not_mem_nil,or_false] at hp;rcases hp with rfl | rfl;exact ⟨one_sl,(eI d0)⟩;exact ⟨one_val rfl,rfl⟩))) (gR (Pr.ownp 61 [(Ty.val (Value.slice none 0 0)),(Ty.int (0:Int))]) rfl (by intro A B G H I;exact rP (y_alloc Try.inf117 rfl (alloc_vals (vs:=[.slice none 0 0,.int .i64 0]) rfl))) (gE2 ok22 fun a24 s22 ok23 D10=>?_)))));have o71:=Own.k0 o67 D10.stp;have o72:=OwnP.k0 o68 D10.stp;have o73:=ChnU.k0 o69 D10.stp;have o74:=Own.k0 o70 D10.stp
    obtain ⟨x4,hx1⟩:∃ x,a24.eval (.tmp 12) = x:=⟨_,rfl⟩
    have q63:At (Ty.val x4) s22 a24 (.tmp 12):=hx1
    have o75:=al2 (R:=(Pr.ownp 61 [(Ty.val (Value.slice none 0 0)),(Ty.int (0:Int))])) hx1 (D10.done 3 dE)
    refine tailL0 (L:=[61]) (R:=(fun _ τ=>OwnP τ 61 x4 [(Ty.lst Ty.int (lensL (((g3).getD k [])))),(Ty.int (1:Int))])) rfl rfl (YldM.toL (m_storeagg Try.inf117 dE o75 q63 rfl (D10.m 2 rfl) (by intro U hU;simp only [List.mem_cons,List.not_mem_nil,or_false] at hU;rcases hU with rfl | rfl <;> first | exact one_val rfl | exact one_sl | exact one_flt | exact one_cx | exact one_ref))) (fun v1 s23 hs13 r13=>?_)
    have q64:=kpL hs13 dE rfl (D10.k (D9.k q48));have q65:=kpL hs13 dE rfl (D10.k (D9.k q49));have q66:=kpL hs13 dE rfl (D10.k (D9.k q50));have q67:=kpL hs13 dE rfl (D10.k (D9.k (D8.k q47)));have q68:=kpL hs13 dE rfl q63
    have o76:OwnP s23 61 x4 [(Ty.lst Ty.int (lensL (((g3).getD k [])))),(Ty.int (1:Int))]:=r13
    clear r13;refine wpList_nil (tn (wp_seq ?_))
    refine gI a24 s23 ok23 (gM q65 (gT (Ty.agg [(Ty.lst Ty.int (lensL (((g3).getD k [])))),(Ty.int (1:Int))]) rfl (fun A B G H I=>rP (ownp_loadagg Try.underlying117 Try.inf117 (OwnP.k0 o76 G) (kp (I 12 rfl) G q68))) (gE2 ok23 fun a25 s24 ok24 D11=>?_)));have o81:=Own.k0 (Own.kl o71 hs13) D11.stp;have o82:=OwnP.k0 (OwnP.kl o72 hs13) D11.stp;have o83:=ChnU.k0 (ChnU.kl o73 hs13) D11.stp;have o84:=Own.k0 (Own.kl o74 hs13) D11.stp;have o85:=OwnP.k0 o76 D11.stp
    have q75:At (Ty.val x9_0) s24 a25 (.tmp 42):=D11.done 0 dE
    refine tL ok24 (y_callL (L:=[40]) [(22,40)] [(40,22)] #[a25.eval (.tmp 42),a25.eval (.tmp 43),a25.eval ((Operand.func 81))] rfl dE Try.func80 rfl rfl my3 (bsearch_fn (x9_0) (K) ((lensL (((g3).getD k [])))) ((1:Int)) _ lW _ _ _ (uL q75) (uL (D11.m 1 rfl)) (uL rfl) (Own.ren o81 (GW.ren_lend _ _ dE rfl)) oX oX)) fun a26 s25 hs14 ok25 r14 sm13=>?_
    obtain ⟨t5,⟨g4,hT3,o86,hp3⟩,B3⟩:=r14
    have q82:At (Ty.tup2 (Ty.nat (g4)) (Ty.bool (decide ((g4) < K.length) && decide ((K.getD (g4) ([],0)).1 = ((lensL (((g3).getD k [])))))))) s25 a26 (.tmp 44):=Ty.up _ B3.le hT3
    have o87:Own s25 22 117 2 x9_0 (List.length K) (List.flatMap kndC K):=Own.ren o86 (B3.ren dE rfl)
    refine tL ok25 (Yld.toL (y_mv q82)) fun a27 s26 hs15 ok26 r15 sm14=>?_
    have q88:At (Ty.tup2 (Ty.nat (g4)) (Ty.bool (decide ((g4) < K.length) && decide ((K.getD (g4) ([],0)).1 = ((lensL (((g3).getD k [])))))))) s26 a27 (.tmp 41):=r15
    clear r15
    refine tL (R:=(fun v τ=>Pr.has (Ty.pr (Ty.nat (g4))) τ v)) ok26 (Yld.toL (y_ext2_0 q88)) fun a28 s27 hs16 ok27 r16 sm15=>?_
    have q95:At (Ty.nat (g4)) s27 a28 (.tmp 45):=r16
    clear r16
    refine tL (R:=(fun v τ=>Pr.has (Ty.pr (Ty.bool (decide ((g4) < K.length) && decide ((K.getD (g4) ([],0)).1 = ((lensL (((g3).getD k [])))))))) τ v)) ok27 (Yld.toL (y_ext2_1 (kq hs16 sm15 41 q88))) fun a29 s28 hs17 ok28 r17 sm16=>?_
    have q102:At (Ty.bool (decide ((g4) < K.length) && decide ((K.getD (g4) ([],0)).1 = ((lensL (((g3).getD k []))))))) s28 a29 (.tmp 46):=r17
    clear r17
    refine tL ok28 (Yld.toL (y_as (kq hs17 sm16 45 q95))) fun a30 s29 hs18 ok29 r18 sm17=>?_
    have q109:At (Ty.nat (g4)) s29 a30 (.tmp 13):=r18
    clear r18
    refine tL ok29 (Yld.toL (y_as (kq hs18 sm17 46 q102))) fun a31 s30 hs19 ok30 r19 sm18=>?_
    have q116:At (Ty.bool (decide ((g4) < K.length) && decide ((K.getD (g4) ([],0)).1 = ((lensL (((g3).getD k []))))))) s30 a31 (.tmp 14):=r19
    clear r19;refine wpList_nil (tn (wp_seq ?_))
    refine gI a31 s30 ok30 (gM q116 (gE ok30 fun a32 s31 ok31 D12=>?_));have F32:=((((((((((F21.step0 D9.stp).step0 D10.stp).sl hs13).step0 D11.stp).sl hs14).sl hs15).sl hs16).sl hs17).sl hs18).sl hs19).step0 D12.stp;have q117:=D12.k (kq hs19 sm18 34 (kq hs18 sm17 34 (kq hs17 sm16 34 (kq hs16 sm15 34 (kq hs15 sm14 34 (kq hs14 sm13 34 (D11.k q64)))))));have q118:=D12.k (kq hs19 sm18 9 (kq hs18 sm17 9 (kq hs17 sm16 9 (kq hs16 sm15 9 (kq hs15 sm14 9 (kq hs14 sm13 9 (D11.k q65)))))));have q119:=D12.k (kq hs19 sm18 32 (kq hs18 sm17 32 (kq hs17 sm16 32 (kq hs16 sm15 32 (kq hs15 sm14 32 (kq hs14 sm13 32 (D11.k q66)))))));have q120:=D12.k (kq hs19 sm18 33 (kq hs18 sm17 33 (kq hs17 sm16 33 (kq hs16 sm15 33 (kq hs15 sm14 33 (kq hs14 sm13 33 (D11.k q67)))))));have q122:=D12.k (kq hs19 sm18 13 q109);have o117:=OwnP.k0 (OwnP.kl (OwnP.kl (OwnP.kl (OwnP.kl (OwnP.kl (OwnP.kl o82 hs14) hs15) hs16) hs17) hs18) hs19) D12.stp;have o118:=ChnU.k0 (ChnU.kl (ChnU.kl (ChnU.kl (ChnU.kl (ChnU.kl (ChnU.kl o83 hs14) hs15) hs16) hs17) hs18) hs19) D12.stp;have o119:=Own.k0 (Own.kl (Own.kl (Own.kl (Own.kl (Own.kl (Own.kl o84 hs14) hs15) hs16) hs17) hs18) hs19) D12.stp;have o120:=OwnP.k0 (OwnP.kl (OwnP.kl (OwnP.kl (OwnP.kl (OwnP.kl (OwnP.kl o85 hs14) hs15) hs16) hs17) hs18) hs19) D12.stp;have o121:=Own.k0 (Own.kl (Own.kl (Own.kl (Own.kl (Own.kl o87 hs15) hs16) hs17) hs18) hs19) D12.stp;refine tn ?_
    refine cond_t (D12.m 0 rfl) (fun c4=>?_) (fun c4=>?_)
    ·
     simp only [Bool.and_eq_true,decide_eq_true_eq] at c4;have hKP4:=hKP.hit c4.1 c4.2;rw [← take_map (f:=lensL) (show k < g3.length by omega)] at hKP4;have hKb:=hKP.bd _ (mem_atD ([],0) c4.1)
     refine gI a32 s31 ok31 (gM q118 (gM q122 (gT (Ty.val (cellPtr x9_0 ((g4) * 2))) rfl (fun A B G H I d0 d1=>rP (y_idxc (i:=(g4)) Try.underlying73 Try.inf117 (Own.k0 o121 G) (eI d0) (eI d1) oM)) (gT (Ty.val (cellPtr x9_0 ((g4) * 2 + 1))) rfl (fun A B G H I d0=>rP (y_fieldcc Try.fld117_1 Try.inf3 dE (Own.k0 o121 G) oM (eI d0))) (gS rfl (fun A B G H I d0=>rP (own_load Try.underlying3 rfl (Own.k0 o121 G) (eI d0) (knds_get (xs:=K) (i:=(g4)) (f:=1) oM dE rfl))) (gT (Ty.int (((K.getD (g4) ([],0))).2 + (1:Int))) rfl (fun A B G H I d0=>rP (y_add (eI d0) rfl wX)) (gT (Ty.val (cellPtr x9_0 ((g4) * 2))) rfl (fun A B G H I d0 d1 d2 d3 d4 d5 d6 d7=>rP (y_idxc (i:=(g4)) Try.underlying73 Try.inf117 (Own.k0 o121 G) (eI d0) (eI d1) oM)) (gT (Ty.val (cellPtr x9_0 ((g4) * 2 + 1))) rfl (fun A B G H I d0 d1 d2 d3 d4 d5 d6=>rP (y_fieldcc Try.fld117_1 Try.inf3 dE (Own.k0 o121 G) oM (eI d0))) (gE2 ok31 fun a33 s32 ok32 D13=>?_)))))))));have o122:=OwnP.k0 o117 D13.stp;have o123:=ChnU.k0 o118 D13.stp;have o124:=Own.k0 o119 D13.stp;have o125:=OwnP.k0 o120 D13.stp;have o126:=Own.k0 o121 D13.stp
     refine tailL0 (L:=[22]) (R:=(fun _ τ=>Own τ 22 117 2 x9_0 (List.length K) ((List.flatMap kndC K).set ((g4) * 2 + 1) (Ty.int (((K.getD (g4) ([],0))).2 + (1:Int)))))) rfl rfl (YldM.toL (m_store Try.inf3 dE o126 (D13.m 7 rfl) (by rw [knds_len];omega) (D13.m 5 rfl) (one_val rfl))) (fun v2 s33 hs20 r20=>?_)
     have q130:=kpL hs20 dE rfl (D13.k q117);have q131:=kpL hs20 dE rfl (D13.k q118);have q132:=kpL hs20 dE rfl (D13.k q119);have q133:=kpL hs20 dE rfl (D13.k q120);have o131:=OwnP.kl o125 hs20
     have o127:Own s33 22 117 2 x9_0 (List.length K) (List.flatMap kndC (K.set (g4) ((K.getD (g4) ([],0)).1,(((K.getD (g4) ([],0))).2 + (1:Int))))):=(cvo rfl (knds_set oM) r20)
     clear r20;refine wpList_nil (bn (tn ?_))
     refine gI a33 s33 ok32 (gT (Ty.nat (k + 1)) rfl (fun A B G H I=>rP ((y_add (kp (I 34 rfl) G q130) rfl wX).mono (fun τ _ h=>cN (σ:=τ) h))) (gS rfl (fun A B G H I d0=>rP (y_move (eI d0))) (gE ok32 fun a34 s34 ok33 D14=>?_)));have o132:=OwnP.k0 (OwnP.kl o122 hs20) D14.stp;have o133:=ChnU.k0 (ChnU.kl o123 hs20) D14.stp;have o134:=Own.k0 (Own.kl o124 hs20) D14.stp;have o135:=Own.k0 o127 D14.stp
     exact tn ⟨g3.length - ((k+1)),by omega,s34,(k+1),(K.set g4 ((K.getD g4 ([],0)).1,(K.getD g4 ([],0)).2 + 1)),x9_0,rfl,(((F32.step0 D13.stp).sl hs20).step0 D14.stp),ok33,(cJ (D14.m 1 rfl)),(D14.k q131),(D14.k q132),(D14.k q133),(cvo (by (simp)) (by (simp)) o135),o132,o133,o134,by omega,hKP4,rfl⟩
    ·
     have hKP4:=hKP.put hp3 c4;rw [← take_map (f:=lensL) (show k < g3.length by omega),← ins_one] at hKP4;have hg4:=hp3.le
     refine gI a32 s31 ok31 (gM q118 (gM q122 (gT (Ty.agg [(Ty.lst Ty.int (lensL (((g3).getD k [])))),(Ty.int (1:Int))]) rfl (fun A B G H I=>rP (ownp_loadagg Try.underlying117 Try.inf117 (OwnP.k0 o120 G) (kp (I 12 rfl) G (D12.k (kq hs19 sm18 12 (kq hs18 sm17 12 (kq hs17 sm16 12 (kq hs16 sm15 12 (kq hs15 sm14 12 (kq hs14 sm13 12 (D11.k q68))))))))))) (gR (Pr.own 50 117 2 1 (List.flatMap kndC [((lensL (((g3).getD k []))),(1:Int))])) rfl (by intro A B G H I d0;exact rP ((y_lit1c (k:=50) (c:=2) Try.underlying73 Try.inf117 rfl dE dE rfl (eI d0)).mono (fun _ _ h=>cvo (by simp) rfl h))) (gE2 ok31 fun a35 s35 ok34 D15=>?_)))));have o136:=OwnP.k0 o117 D15.stp;have o137:=ChnU.k0 o118 D15.stp;have o138:=Own.k0 o119 D15.stp;have o139:=OwnP.k0 o120 D15.stp;have o140:=Own.k0 o121 D15.stp
     have q143:At (Ty.val x9_0) s35 a35 (.tmp 56):=D15.done 0 dE
     obtain ⟨x5,hx2⟩:∃ x,a35.eval (.tmp 59) = x:=⟨_,rfl⟩
     have q145:At (Ty.val x5) s35 a35 (.tmp 59):=hx2
     have o141:=al2 (R:=(Pr.own 50 117 2 1 (List.flatMap kndC [((lensL (((g3).getD k []))),(1:Int))]))) hx2 (D15.done 3 dE)
     refine tL ok34 (y_callL (L:=[40,41]) [(22,40),(50,41)] [(40,22),(41,50)] #[a35.eval (.tmp 56),a35.eval (.tmp 57),a35.eval (.tmp 59)] rfl dE Try.func83 rfl rfl my3 (insK_fn (x9_0) (K) ((g4)) (x5) ([((lensL (((g3).getD k []))),(1:Int))]) _ lW _ _ _ (uL q143) (uL (cvi (σ:=s35) (by first | omega | assumption | exact ⟨_,rfl⟩) (D15.m 1 rfl))) (uL q145) (Own.ren o140 (GW.ren_lend _ _ dE rfl)) (Own.ren (cvo (by (simp)) (by (simp)) o141) (GW.ren_lend _ _ dE rfl)) (by first | omega | assumption | exact ⟨_,rfl⟩) (by first | omega | assumption | exact ⟨_,rfl⟩) (by first | omega | assumption | exact ⟨_,rfl⟩))) fun a36 s36 hs21 ok35 r21 sm19=>?_
     have q147:=kq hs21 sm19 9 (D15.k q118)
     obtain ⟨t6,⟨x6,hT4,o142⟩,B4⟩:=r21
     have q150:At (Ty.val x6) s36 a36 (.tmp 60):=Ty.up _ B4.le hT4
     have o143:Own s36 22 117 2 x6 (List.length (K.take ((g4)) ++ ([((lensL (((g3).getD k []))),(1:Int))]) ++ K.drop ((g4)))) (List.flatMap kndC (K.take ((g4)) ++ ([((lensL (((g3).getD k []))),(1:Int))]) ++ K.drop ((g4)))):=Own.ren o142 (B4.ren dE rfl)
     refine tL ok35 (Yld.toL (y_as q150)) fun a37 s37 hs22 ok36 r22 sm20=>?_
     have o151:=OwnP.kl (OwnP.kl o139 hs21) hs22
     have q154:At (Ty.val x6) s37 a37 (.tmp 9):=r22
     clear r22;refine wpList_nil (bn (tn ?_))
     refine gI a37 s37 ok36 (gT (Ty.nat (k + 1)) rfl (fun A B G H I=>rP ((y_add (kp (I 34 rfl) G (kq hs22 sm20 34 (kq hs21 sm19 34 (D15.k q117)))) rfl wX).mono (fun τ _ h=>cN (σ:=τ) h))) (gS rfl (fun A B G H I d0=>rP (y_move (eI d0))) (gE ok36 fun a38 s38 ok37 D16=>?_)));have o153:=OwnP.k0 (OwnP.kl (OwnP.kl o136 hs21) hs22) D16.stp;have o154:=ChnU.k0 (ChnU.kl (ChnU.kl o137 hs21) hs22) D16.stp;have o155:=Own.k0 (Own.kl (Own.kl o138 hs21) hs22) D16.stp;have o156:=Own.k0 (Own.kl o143 hs22) D16.stp
     exact tn ⟨g3.length - ((k+1)),by omega,s38,(k+1),(K.take g4 ++ [(lensL (g3.getD k []),1)] ++ K.drop g4),x6,rfl,((((F32.step0 D15.stp).sl hs21).sl hs22).step0 D16.stp),ok37,(cJ (D16.m 1 rfl)),(D16.k q154),(D16.k (kq hs22 sm20 32 (kq hs21 sm19 32 (D15.k q119)))),(D16.k (kq hs22 sm20 33 (kq hs21 sm19 33 (D15.k q120)))),(cvo (by (simp)) (by (simp)) o156),o153,o154,o155,by omega,hKP4,rfl⟩
   ·
    have ek:k = g3.length:=oM
    refine wp_exit (tx (tx (bx (tn (wp_seq ?_)))))
    refine gI a22 s20 ok21 (gM q49 (gB 0 (gC (Ty.int (0:Int)) (gE ok21 fun a39 s39 ok38 D17=>?_))));have o157:=Own.k0 o63 D17.stp;have o158:=OwnP.k0 o64 D17.stp;have o159:=ChnU.k0 o65 D17.stp;have o160:=Own.k0 o66 D17.stp
    have q159:At (Ty.val x9_0) s39 a39 (.tmp 4):=D17.done 1
    refine tn (wp_ret ?_)
    obtain ⟨t7,e1,h1,q161⟩:=Own.seal o157 dE
    rw [← e1]
    have F41:=(F21.step0 D17.stp).step h1 dE;have o161:=OwnP.keepL o158 (h1.toL (L:=[22]) (by simp)) dE dE;have o162:=ChnU.keepL o159 (h1.toL (L:=[22]) (by simp)) dE dE;have o163:=Own.keepL o160 (h1.toL (L:=[22]) (by simp)) dE dE
    have q162:At (Ty.lstc 2 kndC K) t7 a39 (.tmp 4):=by have e:a39.eval (.tmp 4) = x9_0:=q159;show Ty.has _ _ _;rw [e];exact q161
    have q163:=Ty.up (Ty.int (0:Int)) (h1.le dE) (D17.m 2 rfl)
    exact retL2 rfl ok38 F41 ⟨K,(hasT2 q162 q163),(by exact ⟨g3,hEO,by (have h_:=hKP;rw [ek,List.take_length] at h_;exact h_)⟩)⟩
set_option maxHeartbeats 4000000 in
set_option maxRecDepth 100000 in
theorem countD_fn (n:Nat) (gens:List (List Int)) (C:Nat) (σ:GW) (hlow:Low [] σ) (v0 v1 v2:Value) (hv0:Ty.has (Ty.nat n) σ v0) (hv1:Ty.has (Ty.lst Ty.ints gens) σ v1) (hv2:Ty.has (Ty.nat C) σ v2)  (hC:C ≤ 8) (hG0:gensMay (n:Int) gens = 0) (hL:szTo n (fun y=>y ∈ gens) n ≤ 5040) :
    FnL Try.prog 51 #[v0,v1,v2] σ [] (fun v τ=>∃ (z:Nat),∃ (e:Int),(Ty.has (Ty.tup2 (Ty.nat z) (Ty.int e)) τ v)∧(CntP (n:Int) gens (C:Int) z e)):=by
 refine fn_introL hlow Try.func51 rfl Try.ntmps51 (Nat.le_of_ble_eq_true rfl) (fun a0 F0 ok0 hargs=>?_)
 have p0:=pB (hargs 0 _ rfl) hv0
 have p1:=pB (hargs 1 _ rfl) hv1
 have b1:=sl_le p1
 have p2:=pB (hargs 2 _ rfl) hv2
 clear hargs;refine wp_seq ?_
 refine gI a0 σ ok0 (gC (Ty.int (0:Int)) (gC (Ty.int (0:Int)) (gE ok0 fun a1 s1 ok1 D1=>?_)));have q3:=D1.k p2;refine tn (wp_seq (wp_seq ?_))
 refine gI a1 s1 ok1 (gM q3 (gS rfl (fun A B G H I d0=>rP (y_lss (eI d0) rfl)) (gS rfl (fun A B G H I d0=>rP (y_move (eI d0))) (gS rfl (fun A B G H I d0=>gu H (eI d0) fun hg=>y_move (kp (I 2 rfl) G q3)) (gS rfl (fun A B G H I d0 d1=>gu H (eI d1) fun hg=>y_gtr ((ef d0 rfl).1 hg) rfl) (gS rfl (fun A B G H I d0 d1=>rP (y_pick_or (eI d0) rfl (eI d1))) (gE ok1 fun a2 s2 ok2 D2=>?_)))))));refine tn ?_
 refine cond_t (D2.m 5 rfl) (fun c1=>?_) (fun c1=>?_)
 ·
  exfalso
  simp only [Bool.or_eq_true,decide_eq_true_eq] at c1;omega
 ·
  obtain ⟨d1,d2⟩:=Bool.or_eq_false_iff.mp c1
  replace d1:=of_decide_eq_false d1
  replace d2:=of_decide_eq_false d2
  refine wp_skip (tn (wp_seq ?_))
  refine gI a2 s2 ok2 (gM (D2.k (D1.k p0)) (gM (D2.k (D1.k p1)) (gE2 ok2 fun a3 s3 ok3 D3=>?_)))
  refine tL ok3 (y_callL (L:=[]) [] [] _ rfl dE Try.func48 rfl rfl my2 (cKindsC_fn (n) (gens) _ lW _ _ (uL (D3.m 0 rfl)) (uL (D3.m 1 rfl))  (by first | omega | assumption | exact hKP.srt) (by first | omega | assumption | exact hKP.srt))) fun a4 s4 hs1 ok4 r1 sm1=>?_
  obtain ⟨t1,⟨g1,hT1,hp1⟩,B1⟩:=r1
  have q12:At (Ty.tup2 (Ty.lstc 2 kndC (g1)) (Ty.int (0:Int))) s4 a4 (.tmp 29):=Ty.up _ B1.le hT1
  refine tL ok4 (Yld.toL (y_mv q12)) fun a5 s5 hs2 ok5 r2 sm2=>?_
  have q14:At (Ty.tup2 (Ty.lstc 2 kndC (g1)) (Ty.int (0:Int))) s5 a5 (.tmp 26):=r2
  clear r2
  refine tL (R:=(fun v τ=>Pr.has (Ty.pr (Ty.lstc 2 kndC (g1))) τ v)) ok5 (Yld.toL (y_ext2_0 q14)) fun a6 s6 hs3 ok6 r3 sm3=>?_
  have q17:At (Ty.lstc 2 kndC (g1)) s6 a6 (.tmp 30):=r3
  clear r3
  refine tL (R:=(fun v τ=>Pr.has (Ty.pr (Ty.int (0:Int))) τ v)) ok6 (Yld.toL (y_ext2_1 (kq hs3 sm3 26 q14))) fun a7 s7 hs4 ok7 r4 sm4=>?_
  have q20:At (Ty.int (0:Int)) s7 a7 (.tmp 31):=r4
  clear r4
  refine tL ok7 (Yld.toL (y_as (kq hs4 sm4 30 q17))) fun a8 s8 hs5 ok8 r5 sm5=>?_
  have q23:At (Ty.lstc 2 kndC (g1)) s8 a8 (.tmp 8):=r5
  clear r5
  refine tL ok8 (Yld.toL (y_as (kq hs5 sm5 31 q20))) fun a9 s9 hs6 ok9 r6 sm6=>?_
  have q26:At (Ty.int (0:Int)) s9 a9 (.tmp 9):=r6
  clear r6;refine wpList_nil (tn (wp_seq (wp_seq ?_)))
  obtain ⟨E,hE,hKP⟩:=hp1
  obtain ⟨hn,hGl,hG⟩:=may_nat hG0
  have hEr:∀ r ∈ E,RowN n r:=fun r hr=>((hE.mem r).1 hr).row hn hG
  have hEl:E.length ≤ 5040:=(by rw [hE.len];exact hL)
  have hB:=hKP.bds hn hEr hEl
  have hne:0 < E.length:=List.length_pos_of_mem ((hE.mem _).2 .one)
  have hKl:=hKP.len
  rw [List.length_map] at hKl
  have hsz:kSz g1 g1.length = E.length:=(by unfold kSz;rw [List.take_length];exact hKP.total)
  refine gI a9 s9 ok9 (gM q26 (gT (Ty.bool false) rfl (fun A B G H I d0=>rP ((y_neq (eI d0) rfl).mono (fun τ _ h=>cvb (σ:=τ) dE h))) (gE ok9 fun a10 s10 ok10 D4=>?_)));refine tn ?_
  refine cond_t (D4.m 1 rfl) (fun c2=>(by cases c2)) (fun _=>?_)
  refine wp_skip (tn (wp_seq ?_))
  refine gI a10 s10 ok10 (gC (Ty.int (0:Int)) (gC (Ty.int (0:Int)) (gC (Ty.int (0:Int)) (gE ok10 fun a11 s11 ok11 D5=>?_))));have q32:=D5.k (D4.k (kq hs6 sm6 8 q23));refine tn (wp_seq (wp_seq ?_))
  refine gI a11 s11 ok11 (gM q32 (gS rfl (fun A B G H I d0=>rP (y_len Try.underlying73 (eI d0))) (gT (Ty.int (0:Int)) rfl (fun A B G H I=>rP (y_move rfl)) (gE ok11 fun a12 s12 ok12 D6=>?_))));refine tn (wp_block ?_)
  refine loop (fun n1 a13 w1=>∃ (t2:GW) (j:Nat),t2.w = w1∧FromL [] σ t2∧Ok 85 [] a13∧At (Ty.nat j) t2 a13 (.tmp 37)∧At (Ty.nat (kSz g1 j)) t2 a13 (.tmp 10)∧At (Ty.nat C) t2 a13 (.tmp 2)∧At (Ty.lstc 2 kndC (g1)) t2 a13 (.tmp 8)∧At (Ty.int (0:Int)) t2 a13 (.tmp 11)∧At (Ty.int (0:Int)) t2 a13 (.tmp 12)∧At (Ty.lstc 2 kndC (g1)) t2 a13 (.tmp 35)∧At (Ty.nat (List.length (g1))) t2 a13 (.tmp 36)∧(j ≤ g1.length)∧n1 = g1.length - j) (g1.length - (0)) ?_ ?_
  ·
   exact ⟨s12,0,rfl,((((((((((((F0.step0 D1.stp).step0 D2.stp).step0 D3.stp).sl hs1).sl hs2).sl hs3).sl hs4).sl hs5).sl hs6).step0 D4.stp).step0 D5.stp).step0 D6.stp),ok12,(cJ (D6.m 2 rfl)),(cvi (by (simp [kSz])) (D6.k (D5.m 0 rfl))),(D6.k (D5.k (D4.k (kq hs6 sm6 2 (kq hs5 sm5 2 (kq hs4 sm4 2 (kq hs3 sm3 2 (kq hs2 sm2 2 (kq hs1 sm1 2 (D3.k (D2.k q3))))))))))),(D6.k q32),(D6.k (D5.m 1 rfl)),(D6.k (D5.m 2 rfl)),(D6.m 0 rfl),(D6.m 1 rfl),by omega,rfl⟩
  ·
   rintro n2 a14 w2 ⟨t3,j,rfl,F13,ok13,q44,q45,q46,q47,q48,q49,q50,q51,hj,rfl⟩
   have hkb:=kSz_bd (j:=j) hB
   refine wp_seq ?_
   refine gI a14 t3 ok13 (gS rfl (fun A B G H I=>rP (y_lss (kp (I 37 rfl) G q44) (kp (I 36 rfl) G q51))) (gE ok13 fun a15 s13 ok14 D7=>?_));have F14:=F13.step0 D7.stp;have q52:=D7.k q44;have q53:=D7.k q45;have q54:=D7.k q46;have q55:=D7.k q47;have q56:=D7.k q48;have q57:=D7.k q49;have q58:=D7.k q50;refine tn (wp_seq ?_)
   refine cond_p (p:=(((j:Nat):Int) < (((List.length (g1)):Nat):Int))) (D7.m 0 rfl) (fun c3=>?_) (fun c3=>?_)
   ·
    have hmb:=hB.many _ (mem_atD ([],0) (show j < g1.length by omega))
    refine wp_skip (tn (wp_seq (wp_block (wp_seq ?_))))
    refine gI a15 s13 ok14 (gT (Ty.ref [(Ty.lst Ty.int (((g1).getD j ([],0))).1),(Ty.int (((g1).getD j ([],0))).2)]) rfl (fun A B G H I=>rP (y_indexc (i:=((j:Nat):Int)) ([],0) Try.underlying73 Try.inf117 (kp (I 35 rfl) G q58) (kp (I 37 rfl) G q52) oM oM dE (fun _=>rfl))) (gS rfl (fun A B G H I d0=>rP (y_loadagg Try.underlying117 Try.inf117 (eI d0))) (gR (Pr.ownp 61 [(Ty.val (Value.slice none 0 0)),(Ty.int (0:Int))]) rfl (by intro A B G H I;exact rP (y_alloc Try.inf117 rfl (alloc_vals (vs:=[.slice none 0 0,.int .i64 0]) rfl))) (gE2 ok14 fun a16 s14 ok15 D8=>?_))))
    obtain ⟨x1,hx1⟩:∃ x,a16.eval (.tmp 14) = x:=⟨_,rfl⟩
    have q70:At (Ty.val x1) s14 a16 (.tmp 14):=hx1
    have o1:=al2 (R:=(Pr.ownp 61 [(Ty.val (Value.slice none 0 0)),(Ty.int (0:Int))])) hx1 (D8.done 2 dE)
    refine tailL0 (L:=[61]) (R:=(fun _ τ=>OwnP τ 61 x1 [(Ty.lst Ty.int (((g1).getD j ([],0))).1),(Ty.int (((g1).getD j ([],0))).2)])) rfl rfl (YldM.toL (m_storeagg Try.inf117 dE o1 q70 rfl (D8.m 1 rfl) (by intro U hU;simp only [List.mem_cons,List.not_mem_nil,or_false] at hU;rcases hU with rfl | rfl <;> first | exact one_val rfl | exact one_sl | exact one_flt | exact one_cx | exact one_ref))) (fun v1 s15 hs7 r7=>?_)
    have q71:=kpL hs7 dE rfl (D8.k q52);have q72:=kpL hs7 dE rfl (D8.k q53);have q73:=kpL hs7 dE rfl (D8.k q54);have q74:=kpL hs7 dE rfl (D8.k q55);have q75:=kpL hs7 dE rfl (D8.k q56);have q76:=kpL hs7 dE rfl (D8.k q57);have q77:=kpL hs7 dE rfl (D8.k q58);have q78:=kpL hs7 dE rfl (D8.k (D7.k q51));have q79:=kpL hs7 dE rfl q70
    have o2:OwnP s15 61 x1 [(Ty.lst Ty.int (((g1).getD j ([],0))).1),(Ty.int (((g1).getD j ([],0))).2)]:=r7
    clear r7;refine wpList_nil (tn ?_)
    refine gI a16 s15 ok15 (gM q72 (gT (Ty.val (ptrAt x1 1)) rfl (fun A B G H I=>rP (ownp_field Try.fld117_1 Try.inf3 dE (OwnP.k0 o2 G) (kp (I 14 rfl) G q79))) (gS rfl (fun A B G H I d0=>rP (ownp_load Try.underlying3 rfl (OwnP.k0 o2 G) (eI d0) rfl)) (gT (Ty.int ((((kSz g1 j):Nat):Int) + (((g1).getD j ([],0))).2)) rfl (fun A B G H I d0 d1=>rP (y_add (eI d0) (eI d1) wX)) (gB 0 (gE ok15 fun a17 s16 ok16 D9=>?_))))));have o3:=OwnP.k0 o2 D9.stp;refine bn (tn ?_)
    refine gI a17 s16 ok16 (gT (Ty.nat (j + 1)) rfl (fun A B G H I=>rP ((y_add (kp (I 37 rfl) G (D9.k q71)) rfl wX).mono (fun τ _ h=>cN (σ:=τ) h))) (gS rfl (fun A B G H I d0=>rP (y_move (eI d0))) (gE ok16 fun a18 s17 ok17 D10=>?_)))
    exact tn ⟨g1.length - ((j+1)),by omega,s17,(j+1),rfl,((((F14.step0 D8.stp).sl hs7).step0 D9.stp).step0 D10.stp),ok17,(cJ (D10.m 1 rfl)),(cvi (by ((rw [kSz_succ oM];omega))) (D10.k (D9.m 4 rfl))),(D10.k (D9.k q73)),(D10.k (D9.k q74)),(D10.k (D9.k q75)),(D10.k (D9.k q76)),(D10.k (D9.k q77)),(D10.k (D9.k q78)),by omega,rfl⟩
   ·
    have ej:j = g1.length:=oM
    refine wp_exit (tx (tx (bx (tn (wp_seq (wp_seq ?_))))))
    refine gI a15 s13 ok14 (gM q55 (gS rfl (fun A B G H I d0=>rP (y_len Try.underlying73 (eI d0))) (gT (Ty.int (0:Int)) rfl (fun A B G H I=>rP (y_move rfl)) (gE ok14 fun a19 s18 ok18 D11=>?_))))
    have q104:At (Ty.nat E.length) s18 a19 (.tmp 10):=(cvi (by (rw [ej,hsz])) (D11.k q53))
    refine tn (wp_block ?_)
    refine loop (fun n3 a20 w3=>∃ (t4:GW) (j:Nat),t4.w = w3∧FromL [] σ t4∧Ok 85 [] a20∧At (Ty.nat j) t4 a20 (.tmp 48)∧At (Ty.nat (kQuo C n E.length g1 j)) t4 a20 (.tmp 11)∧At (Ty.nat (kRem C n E.length g1 j)) t4 a20 (.tmp 12)∧At (Ty.nat E.length) t4 a20 (.tmp 10)∧At (Ty.nat C) t4 a20 (.tmp 2)∧At (Ty.lstc 2 kndC (g1)) t4 a20 (.tmp 46)∧At (Ty.nat (List.length (g1))) t4 a20 (.tmp 47)∧(j ≤ g1.length)∧n3 = g1.length - j) (g1.length - (0)) ?_ ?_
    ·
     exact ⟨s18,0,rfl,(F14.step0 D11.stp),ok18,(cJ (D11.m 2 rfl)),(cvi (by (simp [kQuo])) (D11.k q56)),(cvi (by (simp [kRem])) (D11.k q57)),q104,(D11.k q54),(D11.m 0 rfl),(D11.m 1 rfl),by omega,rfl⟩
    ·
     rintro n4 a21 w4 ⟨t5,j,rfl,F20,ok19,q105,q106,q107,q108,q109,q110,q111,hj,rfl⟩
     have hqb:=kQuo_bd (j:=j) (s:=E.length) hB hC
     have hrb:=kRem_bd (j:=j) (s:=E.length) hB hC
     refine wp_seq ?_
     refine gI a21 t5 ok19 (gS rfl (fun A B G H I=>rP (y_lss (kp (I 48 rfl) G q105) (kp (I 47 rfl) G q111))) (gE ok19 fun a22 s19 ok20 D12=>?_));have F21:=F20.step0 D12.stp;have q112:=D12.k q105;have q113:=D12.k q106;have q114:=D12.k q107;have q115:=D12.k q108;have q117:=D12.k q110;refine tn (wp_seq ?_)
     refine cond_p (p:=(((j:Nat):Int) < (((List.length (g1)):Nat):Int))) (D12.m 0 rfl) (fun c4=>?_) (fun c4=>?_)
     ·
      have hmb:=hB.many _ (mem_atD ([],0) (show j < g1.length by omega));have hvl:=hB.len _ (mem_atD ([],0) (show j < g1.length by omega));have hvb:=hB.v _ (mem_atD ([],0) (show j < g1.length by omega));have hvs:=hB.sum _ (mem_atD ([],0) (show j < g1.length by omega))
      refine wp_skip (tn (wp_seq (wp_block (wp_seq ?_))))
      refine gI a22 s19 ok20 (gT (Ty.ref [(Ty.lst Ty.int (((g1).getD j ([],0))).1),(Ty.int (((g1).getD j ([],0))).2)]) rfl (fun A B G H I=>rP (y_indexc (i:=((j:Nat):Int)) ([],0) Try.underlying73 Try.inf117 (kp (I 46 rfl) G q117) (kp (I 48 rfl) G q112) oM oM dE (fun _=>rfl))) (gS rfl (fun A B G H I d0=>rP (y_loadagg Try.underlying117 Try.inf117 (eI d0))) (gR (Pr.ownp 62 [(Ty.val (Value.slice none 0 0)),(Ty.int (0:Int))]) rfl (by intro A B G H I;exact rP (y_alloc Try.inf117 rfl (alloc_vals (vs:=[.slice none 0 0,.int .i64 0]) rfl))) (gE2 ok20 fun a23 s20 ok21 D13=>?_))))
      obtain ⟨x2,hx2⟩:∃ x,a23.eval (.tmp 16) = x:=⟨_,rfl⟩
      have q128:At (Ty.val x2) s20 a23 (.tmp 16):=hx2
      have o4:=al2 (R:=(Pr.ownp 62 [(Ty.val (Value.slice none 0 0)),(Ty.int (0:Int))])) hx2 (D13.done 2 dE)
      refine tailL0 (L:=[62]) (R:=(fun _ τ=>OwnP τ 62 x2 [(Ty.lst Ty.int (((g1).getD j ([],0))).1),(Ty.int (((g1).getD j ([],0))).2)])) rfl rfl (YldM.toL (m_storeagg Try.inf117 dE o4 q128 rfl (D13.m 1 rfl) (by intro U hU;simp only [List.mem_cons,List.not_mem_nil,or_false] at hU;rcases hU with rfl | rfl <;> first | exact one_val rfl | exact one_sl | exact one_flt | exact one_cx | exact one_ref))) (fun v2 s21 hs8 r8=>?_)
      have q129:=kpL hs8 dE rfl (D13.k q112);have q130:=kpL hs8 dE rfl (D13.k q113);have q131:=kpL hs8 dE rfl (D13.k q114);have q132:=kpL hs8 dE rfl (D13.k q115);have q133:=kpL hs8 dE rfl (D13.k (D12.k q109));have q134:=kpL hs8 dE rfl (D13.k q117);have q135:=kpL hs8 dE rfl (D13.k (D12.k q111));have q136:=kpL hs8 dE rfl q128
      have o5:OwnP s21 62 x2 [(Ty.lst Ty.int (((g1).getD j ([],0))).1),(Ty.int (((g1).getD j ([],0))).2)]:=r8
      clear r8;refine wpList_nil (tn (wp_seq ?_))
      refine gI a23 s21 ok21 (gT (Ty.val (ptrAt x2 1)) rfl (fun A B G H I=>rP (ownp_field Try.fld117_1 Try.inf3 dE (OwnP.k0 o5 G) (kp (I 16 rfl) G q136))) (gS rfl (fun A B G H I d0=>rP (ownp_load Try.underlying3 rfl (OwnP.k0 o5 G) (eI d0) rfl)) (gB 0 (gE ok21 fun a24 s22 ok22 D14=>?_))));have o6:=OwnP.k0 o5 D14.stp;refine tn (wp_seq (wp_seq ?_))
      refine gI a24 s22 ok22 (gT (Ty.val (ptrAt x2 0)) rfl (fun A B G H I=>rP (ownp_field Try.fld117_0 Try.inf22 dE (OwnP.k0 o6 G) (kp (I 16 rfl) G (D14.k q136)))) (gS rfl (fun A B G H I d0=>rP (ownp_load Try.underlying22 rfl (OwnP.k0 o6 G) (eI d0) rfl)) (gS rfl (fun A B G H I d0=>rP (y_len Try.underlying22 (eI d0))) (gT (Ty.int (0:Int)) rfl (fun A B G H I=>rP (y_move rfl)) (gE ok22 fun a25 s23 ok23 D15=>?_)))));have o7:=OwnP.k0 o6 D15.stp;have q155:=D15.m 1 rfl
      have b2:=sl_le q155
      refine tn (wp_block ?_)
      refine loop (fun n5 a26 w5=>∃ (t6:GW) (a:Nat),t6.w = w5∧FromL [] σ t6∧Ok 85 [] a26∧At (Ty.nat a) t6 a26 (.tmp 57)∧At (Ty.nat (((g1.getD j ([],0)).2).toNat * C ^ vsum ((g1.getD j ([],0)).1) a)) t6 a26 (.tmp 17)∧At (Ty.nat j) t6 a26 (.tmp 48)∧At (Ty.nat (kQuo C n E.length g1 j)) t6 a26 (.tmp 11)∧At (Ty.nat (kRem C n E.length g1 j)) t6 a26 (.tmp 12)∧At (Ty.nat E.length) t6 a26 (.tmp 10)∧At (Ty.nat C) t6 a26 (.tmp 2)∧At (Ty.lstc 2 kndC (g1)) t6 a26 (.tmp 46)∧At (Ty.nat (List.length (g1))) t6 a26 (.tmp 47)∧At (Ty.lst Ty.int (((g1).getD j ([],0))).1) t6 a26 (.tmp 55)∧At (Ty.nat (List.length (((g1).getD j ([],0))).1)) t6 a26 (.tmp 56)∧(a ≤ ((g1.getD j ([],0)).1).length)∧n5 = ((g1.getD j ([],0)).1).length - a) (((g1.getD j ([],0)).1).length - (0)) ?_ ?_
      ·
       exact ⟨s23,0,rfl,((((F21.step0 D13.stp).sl hs8).step0 D14.stp).step0 D15.stp),ok23,(cJ (D15.m 3 rfl)),(cvi (by ((rw [vsum,Nat.pow_zero,Nat.mul_one];omega))) (D15.k (D14.m 2 rfl))),(D15.k (D14.k q129)),(D15.k (D14.k q130)),(D15.k (D14.k q131)),(D15.k (D14.k q132)),(D15.k (D14.k q133)),(D15.k (D14.k q134)),(D15.k (D14.k q135)),q155,(D15.m 2 rfl),by omega,rfl⟩
      ·
       rintro n6 a27 w6 ⟨t7,a,rfl,F26,ok24,q158,q159,q160,q161,q162,q163,q164,q165,q166,q167,q168,ha,rfl⟩
       refine wp_seq ?_
       refine gI a27 t7 ok24 (gS rfl (fun A B G H I=>rP (y_lss (kp (I 57 rfl) G q158) (kp (I 56 rfl) G q168))) (gE ok24 fun a28 s24 ok25 D16=>?_));have F27:=F26.step0 D16.stp;have q169:=D16.k q158;have q170:=D16.k q159;have q171:=D16.k q160;have q172:=D16.k q161;have q173:=D16.k q162;have q174:=D16.k q163;have q175:=D16.k q164;have q176:=D16.k q165;have q177:=D16.k q166;have q178:=D16.k q167;refine tn (wp_seq ?_)
       refine cond_p (p:=(((a:Nat):Int) < (((List.length (((g1).getD j ([],0))).1):Nat):Int))) (D16.m 0 rfl) (fun c5=>?_) (fun c5=>?_)
       ·
        have hva:=hvb a;have hvm:=vsum_mono (v:=(g1.getD j ([],0)).1) (show a + 1 ≤ n by omega);rw [vsum] at hvm
        refine wp_skip (tn (wp_seq (wp_block (wp_seq ?_))))
        refine gI a28 s24 ok25 (gT (Ty.ref [(Ty.int ((((g1).getD j ([],0))).1.getD a 0))]) rfl (fun A B G H I=>rP (y_index1 Try.underlying22 Try.inf3 (kp (I 55 rfl) G q178) (kp (I 57 rfl) G q169) oM (lst_get Ty.int (((g1).getD j ([],0))).1 0 a oM))) (gS rfl (fun A B G H I d0=>rP (y_load Try.underlying3 rfl (eI d0) rfl)) (gB 0 (gE ok25 fun a29 s25 ok26 D17=>?_))));refine tn (wp_seq ?_)
        refine gI a29 s25 ok26 (gM (D17.m 2 rfl) (gT (Ty.int (0:Int)) rfl (fun A B G H I=>rP (y_move rfl)) (gE ok26 fun a30 s26 ok27 D18=>?_)));refine tn (wp_block ?_)
        refine loop (fun n7 a31 w7=>∃ (t8:GW) (b:Nat),t8.w = w7∧FromL [] σ t8∧Ok 85 [] a31∧At (Ty.nat b) t8 a31 (.tmp 62)∧At (Ty.nat (((g1.getD j ([],0)).2).toNat * C ^ (vsum ((g1.getD j ([],0)).1) a + b))) t8 a31 (.tmp 17)∧At (Ty.nat a) t8 a31 (.tmp 57)∧At (Ty.nat j) t8 a31 (.tmp 48)∧At (Ty.nat (kQuo C n E.length g1 j)) t8 a31 (.tmp 11)∧At (Ty.nat (kRem C n E.length g1 j)) t8 a31 (.tmp 12)∧At (Ty.nat E.length) t8 a31 (.tmp 10)∧At (Ty.nat C) t8 a31 (.tmp 2)∧At (Ty.lstc 2 kndC (g1)) t8 a31 (.tmp 46)∧At (Ty.nat (List.length (g1))) t8 a31 (.tmp 47)∧At (Ty.lst Ty.int (((g1).getD j ([],0))).1) t8 a31 (.tmp 55)∧At (Ty.nat (List.length (((g1).getD j ([],0))).1)) t8 a31 (.tmp 56)∧At (Ty.int ((((g1).getD j ([],0))).1.getD a 0)) t8 a31 (.tmp 61)∧(b ≤ (((g1.getD j ([],0)).1).getD a 0).toNat)∧n7 = (((g1.getD j ([],0)).1).getD a 0).toNat - b) ((((g1.getD j ([],0)).1).getD a 0).toNat - (0)) ?_ ?_
        ·
         exact ⟨s26,0,rfl,((F27.step0 D17.stp).step0 D18.stp),ok27,(cJ (D18.m 1 rfl)),(cvi (by (simp)) (D18.k (D17.k q170))),(D18.k (D17.k q169)),(D18.k (D17.k q171)),(D18.k (D17.k q172)),(D18.k (D17.k q173)),(D18.k (D17.k q174)),(D18.k (D17.k q175)),(D18.k (D17.k q176)),(D18.k (D17.k q177)),(D18.k (D17.k q178)),(D18.k (D17.k (D16.k q168))),(D18.m 0 rfl),by omega,rfl⟩
        ·
         rintro n8 a32 w8 ⟨t9,b,rfl,F30,ok28,q206,q207,q208,q209,q210,q211,q212,q213,q214,q215,q216,q217,q218,hb,rfl⟩
         have hpb:=mul_bd (show ((g1.getD j ([],0)).2).toNat ≤ 5040 by omega) (pow_bd (e:=vsum ((g1.getD j ([],0)).1) a + b) hC oM)
         refine wp_seq ?_
         refine gI a32 t9 ok28 (gS rfl (fun A B G H I=>rP (y_lss (kp (I 62 rfl) G q206) (kp (I 61 rfl) G q218))) (gE ok28 fun a33 s27 ok29 D19=>?_));have F31:=F30.step0 D19.stp;have q220:=D19.k q207;have q221:=D19.k q208;have q222:=D19.k q209;have q223:=D19.k q210;have q224:=D19.k q211;have q225:=D19.k q212;have q226:=D19.k q213;have q227:=D19.k q214;have q228:=D19.k q215;have q229:=D19.k q216;have q230:=D19.k q217;refine tn (wp_seq ?_)
         refine cond_p (p:=(((b:Nat):Int) < ((((g1).getD j ([],0))).1.getD a 0))) (D19.m 0 rfl) (fun c6=>?_) (fun c6=>?_)
         ·
          have hpb2:=mul_bd (show ((g1.getD j ([],0)).2).toNat ≤ 5040 by omega) (pow_bd (e:=vsum ((g1.getD j ([],0)).1) a + (b + 1)) hC oM);rw [← Nat.add_assoc,Nat.pow_succ,← Nat.mul_assoc] at hpb2
          refine wp_skip (tn (wp_seq (wp_block ?_)))
          refine gI a33 s27 ok29 (gM q220 (gM q226 (gT (Ty.nat ((((g1.getD j ([],0)).2).toNat * C ^ (vsum ((g1.getD j ([],0)).1) a + b)) * C)) rfl (fun A B G H I d0 d1=>rP ((y_mul (eI d0) (eI d1) wX).mono (fun τ _ h=>cN (σ:=τ) h))) (gB 0 (gE ok29 fun a34 s28 ok30 D20=>?_)))));refine bn (tn ?_)
          refine gI a34 s28 ok30 (gT (Ty.nat (b + 1)) rfl (fun A B G H I=>rP ((y_add (kp (I 62 rfl) G (D20.k (D19.k q206))) rfl wX).mono (fun τ _ h=>cN (σ:=τ) h))) (gS rfl (fun A B G H I d0=>rP (y_move (eI d0))) (gE ok30 fun a35 s29 ok31 D21=>?_)))
          exact tn ⟨(((g1.getD j ([],0)).1).getD a 0).toNat - ((b+1)),by omega,s29,(b+1),rfl,((F31.step0 D20.stp).step0 D21.stp),ok31,(cJ (D21.m 1 rfl)),(cvi (by ((rw [← Nat.add_assoc,Nat.pow_succ,Nat.mul_assoc]))) (D21.k (D20.m 3 rfl))),(D21.k (D20.k q221)),(D21.k (D20.k q222)),(D21.k (D20.k q223)),(D21.k (D20.k q224)),(D21.k (D20.k q225)),(D21.k (D20.k q226)),(D21.k (D20.k q227)),(D21.k (D20.k q228)),(D21.k (D20.k q229)),(D21.k (D20.k q230)),(D21.k (D20.k (D19.k q218))),by omega,rfl⟩
         ·
          refine wp_exit (tx (tx (bx (bn (tn ?_)))))
          refine gI a33 s27 ok29 (gT (Ty.nat (a + 1)) rfl (fun A B G H I=>rP ((y_add (kp (I 57 rfl) G q221) rfl wX).mono (fun τ _ h=>cN (σ:=τ) h))) (gS rfl (fun A B G H I d0=>rP (y_move (eI d0))) (gE ok29 fun a36 s30 ok32 D22=>?_)))
          exact tn ⟨((g1.getD j ([],0)).1).length - ((a+1)),by omega,s30,(a+1),rfl,(F31.step0 D22.stp),ok32,(cJ (D22.m 1 rfl)),(cvi (by ((rw [vsum,show b = (((g1.getD j ([],0)).1).getD a 0).toNat by omega]))) (D22.k q220)),(D22.k q222),(D22.k q223),(D22.k q224),(D22.k q225),(D22.k q226),(D22.k q227),(D22.k q228),(D22.k q229),(D22.k q230),by omega,rfl⟩
       ·
        have ea:a = n:=oM;have hpw:((g1.getD j ([],0)).2).toNat * C ^ vsum ((g1.getD j ([],0)).1) a = pwK C n (g1.getD j ([],0)):=(by rw [ea];rfl);have hpwb:=mul_bd (show ((g1.getD j ([],0)).2).toNat ≤ 5040 by omega) (pow_bd (e:=vsum ((g1.getD j ([],0)).1) a) hC (by rw [ea];exact hvs));have hq2:=kQuo_bd (j:=j + 1) (s:=E.length) hB hC;have hr2:=kRem_bd (j:=j + 1) (s:=E.length) hB hC;rw [kQuo_succ oM] at hq2;rw [kRem_succ oM] at hr2;rw [← hpw] at hq2 hr2;have hq0:(0:Int) ≤ ((((g1.getD j ([],0)).2).toNat * C ^ vsum ((g1.getD j ([],0)).1) a / E.length:Nat):Int):=Int.natCast_nonneg _;have hr0:(0:Int) ≤ ((((g1.getD j ([],0)).2).toNat * C ^ vsum ((g1.getD j ([],0)).1) a % E.length:Nat):Int):=Int.natCast_nonneg _
        refine wp_exit (tx (tx (bx (tn (wp_seq ?_)))))
        refine gI a28 s24 ok25 (gM q172 (gM q170 (gM q174 (gT (Ty.nat ((((g1.getD j ([],0)).2).toNat * C ^ vsum ((g1.getD j ([],0)).1) a) / E.length)) rfl (fun A B G H I d0 d1=>rP (y_quoN (eI d0) (eI d1) oM oM)) (gT (Ty.nat ((kQuo C n E.length g1 j) + ((((g1.getD j ([],0)).2).toNat * C ^ vsum ((g1.getD j ([],0)).1) a) / E.length))) rfl (fun A B G H I d0 d1=>rP ((y_add (eI d0) (eI d1) wX).mono (fun τ _ h=>cN (σ:=τ) h))) (gB 0 (gE ok25 fun a37 s31 ok33 D23=>?_)))))));have q273:=D23.k q174;refine tn ?_
        refine gI a37 s31 ok33 (gM (D23.k q173) (gM (D23.k q170) (gM q273 (gT (Ty.nat ((((g1.getD j ([],0)).2).toNat * C ^ vsum ((g1.getD j ([],0)).1) a) % E.length)) rfl (fun A B G H I d0 d1=>rP (y_remN (eI d0) (eI d1) oM)) (gT (Ty.nat ((kRem C n E.length g1 j) + ((((g1.getD j ([],0)).2).toNat * C ^ vsum ((g1.getD j ([],0)).1) a) % E.length))) rfl (fun A B G H I d0 d1=>rP ((y_add (eI d0) (eI d1) wX).mono (fun τ _ h=>cN (σ:=τ) h))) (gB 0 (gE ok33 fun a38 s32 ok34 D24=>?_)))))));refine bn (tn ?_)
        refine gI a38 s32 ok34 (gT (Ty.nat (j + 1)) rfl (fun A B G H I=>rP ((y_add (kp (I 48 rfl) G (D24.k (D23.k q171))) rfl wX).mono (fun τ _ h=>cN (σ:=τ) h))) (gS rfl (fun A B G H I d0=>rP (y_move (eI d0))) (gE ok34 fun a39 s33 ok35 D25=>?_)))
        exact tn ⟨g1.length - ((j+1)),by omega,s33,(j+1),rfl,(((F27.step0 D23.stp).step0 D24.stp).step0 D25.stp),ok35,(cJ (D25.m 1 rfl)),(cvi (by ((rw [kQuo_succ oM,← hpw]))) (D25.k (D24.k (D23.m 5 rfl)))),(cvi (by ((rw [kRem_succ oM,← hpw]))) (D25.k (D24.m 5 rfl))),(D25.k (D24.k q273)),(D25.k (D24.k (D23.k q175))),(D25.k (D24.k (D23.k q176))),(D25.k (D24.k (D23.k q177))),by omega,rfl⟩
     ·
      have hz0:(0:Int) ≤ ((kRem C n E.length g1 j / E.length:Nat):Int):=Int.natCast_nonneg _;have hz1:=Nat.div_le_self (kRem C n E.length g1 j) E.length
      refine wp_exit (tx (tx (bx (tn (wp_seq ?_)))))
      refine gI a22 s19 ok20 (gM q113 (gM q114 (gM q115 (gT (Ty.nat ((kRem C n E.length g1 j) / E.length)) rfl (fun A B G H I d0 d1=>rP (y_quoN (eI d0) (eI d1) oM oM)) (gT (Ty.nat ((kQuo C n E.length g1 j) + ((kRem C n E.length g1 j) / E.length))) rfl (fun A B G H I d0 d1=>rP ((y_add (eI d0) (eI d1) wX).mono (fun τ _ h=>cN (σ:=τ) h))) (gB 0 (gC (Ty.int (0:Int)) (gE ok20 fun a40 s34 ok36 D26=>?_))))))));refine tn (wp_ret ?_)
      exact retL2 rfl ok36 (F21.step0 D26.stp) ⟨(cntE E C),(0:Int),(hasT2 (cvi (by (rw [← cnt_kinds hKP hEr hne,show j = g1.length by omega])) (D26.m 5 rfl)) (cvi (by (rfl)) (D26.m 6 rfl))),(by exact CntP.ok hC hG0 hL hE)⟩
theorem count_fn (n:Int) (gens:List (List Int)) (colours:Int) (σ:GW) (hlow:Low [] σ) (v0 v1 v2:Value) (hv0:Ty.has (Ty.int n) σ v0) (hv1:Ty.has (Ty.lst Ty.ints gens) σ v1) (hv2:Ty.has (Ty.int colours) σ v2) :
    FnL Try.prog 51 #[v0,v1,v2] σ [] (fun v τ=>∃ (z:Nat) (e:Int),(Ty.has (Ty.tup2 (Ty.nat z) (Ty.int e)) τ v)∧(CntP n gens colours z e)):=by
  by_cases hb:colours < 0 ∨ 8 < colours
  · exact countA_fn n gens colours σ hlow v0 v1 v2 hv0 hv1 hv2 hb
  · obtain ⟨C,rfl⟩:∃ C:Nat,colours = (C:Int):=⟨colours.toNat,by omega⟩
    by_cases h:gensMay n gens = 0
    · obtain ⟨m,rfl⟩:=may_int h
      by_cases G:5040 < szTo m (fun y=>y ∈ gens) m
      · exact countC_fn m gens C σ hlow v0 v1 v2 hv0 hv1 hv2 oM h G
      · exact countD_fn m gens C σ hlow v0 v1 v2 hv0 hv1 hv2 oM h oM
    · exact countB_fn n gens C σ hlow v0 v1 v2 hv0 hv1 hv2 oM h
set_option maxHeartbeats 4000000 in
set_option maxRecDepth 100000 in
theorem rClosedN_fn (n:Nat) (gens:List (List Int)) (most:Nat) (σ:GW)  (v0 v1 v2:Value) (hv0:Ty.has (Ty.nat n) σ v0) (hv1:Ty.has (Ty.lst Ty.ints gens) σ v1) (hv2:Ty.has (Ty.nat most) σ v2)  (hn:1 ≤ n∧n ≤ 12) (hg:∀ x ∈ gens,RowN n x) (hgl:gens.length ≤ 1000) (hms:1 ≤ most∧most ≤ 100000) (hL9:most < szTo n (fun y=>y ∈ gens) n) :
    FnC Try.prog 19 #[v0,v1,v2] σ (Ty.tup2 (Ty.val (Value.slice none 0 0)) (Ty.val (Value.slice none 0 0))):=by
 refine fn_intro0 Try.func19 rfl Try.ntmps19 (Nat.le_of_ble_eq_true rfl) (fun s0 a0 hle F0 ok0 hargs=>?_)
 have p0:=pA hle (hargs 0 _ rfl) hv0
 have p1:=pA hle (hargs 1 _ rfl) hv1
 have b1:=sl_le p1
 have p2:=pA hle (hargs 2 _ rfl) hv2
 clear hargs;refine wp_seq ?_
 refine gI a0 s0 ok0 (gC (Ty.val (Value.slice none 0 0)) (gC (Ty.val (Value.slice none 0 0)) (gE ok0 fun a1 s1 ok1 D1=>?_)));refine tn (wp_seq ?_)
 refine gI a1 s1 ok1 (gM (D1.k p0) (gS rfl (fun A B G H I d0=>rP (y_call _ Try.func39 rfl rfl my1 (rRounds_fn (n) _ _ (eI d0) oM))) (gR (Pr.own 20 22 1 1 (List.map Ty.ints [(roundsL n)])) rfl (by intro A B G H I d0;exact rP ((y_lit1 (k:=20) Try.underlying24 Try.inf22 rfl (one_sl) (eI d0)).mono (fun _ _ h=>cvo (by simp) (by first | (simp;done) | rfl) h))) (gE2 ok1 fun a2 s2 ok2 D2=>?_))))
 obtain ⟨x1,hx1⟩:∃ x,a2.eval (.tmp 19) = x:=⟨_,rfl⟩
 have q6:At (Ty.val x1) s2 a2 (.tmp 19):=hx1
 have o1:=al2 (R:=(Pr.own 20 22 1 1 (List.map Ty.ints [(roundsL n)]))) hx1 (D2.done 2 dE)
 refine tL ok2 (Yld.toL (y_as q6)) fun a3 s3 hs1 ok3 r1 sm1=>?_
 have q9:At (Ty.val x1) s3 a3 (.tmp 8):=r1
 clear r1;refine wpList_nil (tn (wp_seq ?_))
 refine gI a3 s3 ok3 (gR (Pr.own 21 22 1 1 (List.map Ty.ints [([]:List Int)])) rfl (by intro A B G H I;exact rP ((y_lit1 (k:=21) Try.underlying24 Try.inf22 rfl (one_sl) (nil_lst (f:=Ty.int) (xs:=([]:List Int)) rfl (show Ty.has (Ty.val (Value.slice none 0 0)) B (A.eval ((Operand.const (Value.slice none 0 0)))) from rfl))).mono (fun _ _ h=>cvo (by simp) (by first | (simp;done) | rfl) h))) (gE2 ok3 fun a4 s4 ok4 D3=>?_));have o3:=Own.k0 (Own.kl o1 hs1) D3.stp
 obtain ⟨x2,hx2⟩:∃ x,a4.eval (.tmp 20) = x:=⟨_,rfl⟩
 have q13:At (Ty.val x2) s4 a4 (.tmp 20):=hx2
 have o4:=al2 (R:=(Pr.own 21 22 1 1 (List.map Ty.ints [([]:List Int)]))) hx2 (D3.done 0 dE)
 refine tL ok4 (Yld.toL (y_as q13)) fun a5 s5 hs2 ok5 r2 sm2=>?_
 have q17:At (Ty.val x2) s5 a5 (.tmp 9):=r2
 clear r2;refine wpList_nil (tn (wp_seq ?_))
 refine gI a5 s5 ok5 (gR (Pr.ownm Ty.bool kI 22 (fun _=>none:Int → Option Bool)) rfl (by intro A B G H I;exact rP (y_makemap 22)) (gE2 ok5 fun a6 s6 ok6 D4=>?_));have o7:=Own.k0 (Own.kl o3 hs2) D4.stp;have o8:=Own.k0 (Own.kl o4 hs2) D4.stp
 obtain ⟨x3,hx3⟩:∃ x,a6.eval (.tmp 21) = x:=⟨_,rfl⟩
 have q22:At (Ty.val x3) s6 a6 (.tmp 21):=hx3
 have o9:=al2 (R:=(Pr.ownm Ty.bool kI 22 (fun _=>none:Int → Option Bool))) hx3 (D4.done 0 dE)
 refine tailL0 (L:=[22]) (R:=(fun _ τ=>OwnM Ty.bool kI τ 22 x3 (fun x_=>if x_ = (0:Int) then some true else (fun _=>none:Int → Option Bool) x_))) rfl rfl (YldM.toL (m_mapins (i:=(0:Int)) Try.underlying35 (keyInt Try.underlying3) dE o9 q22 rfl rfl)) (fun v1 s7 hs3 r3=>?_)
 have q23:=kpL hs3 dE rfl (D4.k (kq hs2 sm2 1 (D3.k (kq hs1 sm1 1 (D2.k (D1.k p1))))));have q24:=kpL hs3 dE rfl (D4.k (kq hs2 sm2 2 (D3.k (kq hs1 sm1 2 (D2.k (D1.k p2))))));have q25:=kpL hs3 dE rfl (D4.k (kq hs2 sm2 8 (D3.k q9)));have q26:=kpL hs3 dE rfl (D4.k q17);have q27:=kpL hs3 dE rfl q22
 have o10:OwnM Ty.bool kI s7 22 x3 (fun x_=>if x_ = (0:Int) then some true else (fun _=>none:Int → Option Bool) x_):=r3
 clear r3
 refine tL ok6 (Yld.toL (y_mv q27)) fun a7 s8 hs4 ok7 r4 sm3=>?_
 have q33:At (Ty.val x3) s8 a7 (.tmp 22):=r4
 clear r4
 refine tL ok7 (Yld.toL (y_as q33)) fun a8 s9 hs5 ok8 r5 sm4=>?_
 have q38:At (Ty.val x3) s9 a8 (.tmp 10):=r5
 clear r5;refine wpList_nil (tn (wp_seq (wp_seq ?_)))
 refine gI a8 s9 ok8 (gC (Ty.int (0:Int)) (gE ok8 fun a9 s10 ok9 D5=>?_));have o19:=Own.k0 (Own.kl (Own.kl (Own.kl o7 hs3) hs4) hs5) D5.stp;have o20:=Own.k0 (Own.kl (Own.kl (Own.kl o8 hs3) hs4) hs5) D5.stp;have o21:=OwnM.k0 (OwnM.kl (OwnM.kl o10 hs4) hs5) D5.stp;refine tn (wp_block ?_)
 refine loop (fun n1 a10 w1=>∃ (t1:GW) (i:Nat) (L:(List (List Int))) (W:(List (List Int))) (f:(Int → Option Bool)) (x8_0 x9_0:Value),t1.w = w1∧FromL [] s0 t1∧Ok 86 [] a10∧At (Ty.nat i) t1 a10 (.tmp 11)∧At (Ty.val x8_0) t1 a10 (.tmp 8)∧At (Ty.val x9_0) t1 a10 (.tmp 9)∧At (Ty.lst Ty.ints gens) t1 a10 (.tmp 1)∧At (Ty.nat most) t1 a10 (.tmp 2)∧At (Ty.val x3) t1 a10 (.tmp 10)∧Own t1 20 22 1 x8_0 (List.length L) (List.map Ty.ints L)∧Own t1 21 22 1 x9_0 (List.length W) (List.map Ty.ints W)∧OwnM Ty.bool kI t1 22 x3 f∧(i ≤ L.length)∧(L.length ≤ most)∧(ClI n gens L W i 0)∧(SeenB n L f)∧(WordsB W)∧n1 = most - i) (most - (0)) ?_ ?_
 ·
  exact ⟨s10,0,[roundsL n],[[]],(fun x=>if x = (0:Int) then some true else (fun _=>none) x),x1,x2,rfl,((((((((((F0.step0 D1.stp).step0 D2.stp).sl hs1).step0 D3.stp).sl hs2).step0 D4.stp).sl hs3).sl hs4).sl hs5).step0 D5.stp),ok9,(cJ (D5.m 0 rfl)),(D5.k (kq hs5 sm4 8 (kq hs4 sm3 8 q25))),(D5.k (kq hs5 sm4 9 (kq hs4 sm3 9 q26))),(D5.k (kq hs5 sm4 1 (kq hs4 sm3 1 q23))),(D5.k (kq hs5 sm4 2 (kq hs4 sm3 2 q24))),(D5.k q38),(cvo (by (first | rfl | simp)) (by (first | rfl | simp)) o19),(cvo (by (first | rfl | simp)) (by (first | rfl | simp)) o20),(cvm (by (rfl)) o21),by simp,hms.1,ClI.start,seenC_start hn,wordsB_start,rfl⟩
 ·
  rintro n2 a11 w2 ⟨t2,i,L,W,f,x8_0,x9_0,rfl,F11,ok10,q45,q46,q47,q48,q49,q50,o22,o23,o24,hi,hl,hC,hsn,hwb,rfl⟩
  have hwl:=hC.wl
  refine wp_seq (wp_seq ?_)
  refine gI a11 t2 ok10 (gM q45 (gM q46 (gT (Ty.nat (List.length L)) rfl (fun A B G H I d0=>rP (own_len Try.underlying24 (al (R:=(Pr.own 20 22 1 (List.length L) (List.map Ty.ints L))) (eI d0) (Own.k0 o22 G)))) (gS rfl (fun A B G H I d0 d1=>rP (y_lss (eI d0) (eI d1))) (gE ok10 fun a12 s11 ok11 D6=>?_)))));have o25:=Own.k0 o22 D6.stp;have o26:=Own.k0 o23 D6.stp;have o27:=OwnM.k0 o24 D6.stp;refine tn ?_
  refine cond_p (p:=(((i:Nat):Int) < (((List.length L):Nat):Int))) (D6.m 3 rfl) (fun c1=>?_) (fun c1=>?_)
  ·
   refine wp_skip (tn (wp_seq (wp_block (wp_seq ?_))))
   refine gI a12 s11 ok11 (gC (Ty.int (0:Int)) (gE ok11 fun a13 s12 ok12 D7=>?_));have o28:=Own.k0 o25 D7.stp;have o29:=Own.k0 o26 D7.stp;have o30:=OwnM.k0 o27 D7.stp;refine tn (wp_block ?_)
   refine loop (fun n3 a14 w3=>∃ (t3:GW) (j:Nat) (L2:(List (List Int))) (W2:(List (List Int))) (f2:(Int → Option Bool)) (x8_1 x9_1:Value),t3.w = w3∧FromL [] s0 t3∧Ok 86 [] a14∧At (Ty.nat j) t3 a14 (.tmp 12)∧At (Ty.val x8_1) t3 a14 (.tmp 8)∧At (Ty.val x9_1) t3 a14 (.tmp 9)∧At (Ty.nat i) t3 a14 (.tmp 11)∧At (Ty.lst Ty.ints gens) t3 a14 (.tmp 1)∧At (Ty.nat most) t3 a14 (.tmp 2)∧At (Ty.val x3) t3 a14 (.tmp 10)∧Own t3 20 22 1 x8_1 (List.length L2) (List.map Ty.ints L2)∧Own t3 21 22 1 x9_1 (List.length W2) (List.map Ty.ints W2)∧OwnM Ty.bool kI t3 22 x3 f2∧(j ≤ 2 * gens.length)∧(i < L2.length)∧(L2.length ≤ most)∧(ClI n gens L2 W2 i j)∧(SeenB n L2 f2)∧(WordsB W2)∧n3 = 2 * gens.length - j) (2 * gens.length - (0)) ?_ ?_
   ·
    exact ⟨s12,0,L,W,f,x8_0,x9_0,rfl,((F11.step0 D6.stp).step0 D7.stp),ok12,(cJ (D7.m 0 rfl)),(D7.k (D6.k q46)),(D7.k (D6.k q47)),(D7.k (D6.k q45)),(D7.k (D6.k q48)),(D7.k (D6.k q49)),(D7.k (D6.k q50)),(cvo (by (simp)) (by (simp)) o28),(cvo (by (simp)) (by (simp)) o29),(cvm (by (rfl)) o30),by omega,by omega,hl,hC,hsn,hwb,rfl⟩
   ·
    rintro n4 a15 w4 ⟨t4,j,L2,W2,f2,x8_1,x9_1,rfl,F14,ok13,q65,q66,q67,q68,q69,q70,q71,o31,o32,o33,hj,hil,hl2,hC2,hsn2,hwb2,rfl⟩
    have hwl2:=hC2.wl
    refine wp_seq (wp_seq ?_)
    refine gI a15 t4 ok13 (gM q65 (gM q69 (gS rfl (fun A B G H I d0=>rP (y_len Try.underlying24 (eI d0))) (gT (Ty.nat (2 * (List.length gens))) rfl (fun A B G H I d0=>rP ((y_mul rfl (eI d0) wX).mono (fun τ _ h=>cN (σ:=τ) h))) (gS rfl (fun A B G H I d0 d1=>rP (y_lss (eI d0) (eI d1))) (gE ok13 fun a16 s13 ok14 D8=>?_))))));have F15:=F14.step0 D8.stp;have q72:=D8.k q65;have q73:=D8.k q66;have q74:=D8.k q67;have q75:=D8.k q68;have q76:=D8.k q69;have q77:=D8.k q70;have q78:=D8.k q71;have o34:=Own.k0 o31 D8.stp;have o35:=Own.k0 o32 D8.stp;have o36:=OwnM.k0 o33 D8.stp;refine tn ?_
    refine cond_p (p:=(((j:Nat):Int) < (((2 * (List.length gens)):Nat):Int))) (D8.m 4 rfl) (fun c2=>?_) (fun c2=>?_)
    ·
     obtain ⟨hf1,hf2,hf3,hf4,hf5,hf6⟩:=hC2.fits hn hg hil oM
     refine wp_skip (tn (wp_seq (wp_block (wp_seq ?_))))
     refine gI a16 s13 ok14 (gM q76 (gM q72 (gT (Ty.nat (j / 2)) rfl (fun A B G H I d0=>rP (y_quoN (eI d0) (toN (σ:=B) rfl oM) oM oM)) (gT (Ty.ref [(Ty.lst Ty.int (gens.getD (j / 2) []))]) rfl (fun A B G H I d0 d1=>rP (y_index1 Try.underlying24 Try.inf22 (eI d0) (eI d1) oM (lst_get Ty.ints gens [] (j / 2) oM))) (gS rfl (fun A B G H I d0=>rP (y_load Try.underlying22 rfl (eI d0) rfl)) (gB 0 (gE ok14 fun a17 s14 ok15 D9=>?_)))))));have q80:=D9.k q72;have o37:=Own.k0 o34 D9.stp;have o38:=Own.k0 o35 D9.stp;have o39:=OwnM.k0 o36 D9.stp;refine tn (wp_seq ?_)
     refine gI a17 s14 ok15 (gM q80 (gT (Ty.nat (j / 2)) rfl (fun A B G H I d0=>rP (y_quoN (eI d0) (toN (σ:=B) rfl oM) oM oM)) (gT (Ty.nat ((j / 2) + 1)) rfl (fun A B G H I d0=>rP ((y_add (eI d0) rfl wX).mono (fun τ _ h=>cN (σ:=τ) h))) (gB 0 (gE ok15 fun a18 s15 ok16 D10=>?_)))));have q88:=D10.k q80;have o40:=Own.k0 o37 D10.stp;have o41:=Own.k0 o38 D10.stp;have o42:=OwnM.k0 o39 D10.stp;refine tn (wp_seq (wp_seq ?_))
     refine gI a18 s15 ok16 (gM q88 (gT (Ty.nat (j % 2)) rfl (fun A B G H I d0=>rP (y_remN (eI d0) (toN (σ:=B) rfl oM) oM)) (gS rfl (fun A B G H I d0=>rP (y_eql (eI d0) rfl)) (gE ok16 fun a19 s16 ok17 D11=>?_))));have F18:=((F15.step0 D9.stp).step0 D10.stp).step0 D11.stp;have q97:=D11.k q88;have q98:=D11.k (D10.k (D9.k q73));have q99:=D11.k (D10.k (D9.k q74));have q100:=D11.k (D10.k (D9.k q75));have q101:=D11.k (D10.k (D9.k q76));have q102:=D11.k (D10.k (D9.k q77));have q103:=D11.k (D10.k (D9.k q78));have q104:=D11.k (D10.k (D9.m 5 rfl));have q105:=D11.k (D10.m 3 rfl);have o43:=Own.k0 o40 D11.stp;have o44:=Own.k0 o41 D11.stp;have o45:=OwnM.k0 o42 D11.stp;refine tn ?_
     refine Go.KL.join_then (Q':=fun a20 w5=>∃ (t5:GW),t5.w = w5∧FromL [] s0 t5∧Ok 86 [] a20∧At (Ty.lst Ty.int (ltr gens j)) t5 a20 (.tmp 13)∧At (Ty.int (ltrN j)) t5 a20 (.tmp 14)∧At (Ty.nat j) t5 a20 (.tmp 12)∧At (Ty.val x8_1) t5 a20 (.tmp 8)∧At (Ty.val x9_1) t5 a20 (.tmp 9)∧At (Ty.nat i) t5 a20 (.tmp 11)∧At (Ty.lst Ty.ints gens) t5 a20 (.tmp 1)∧At (Ty.nat most) t5 a20 (.tmp 2)∧At (Ty.val x3) t5 a20 (.tmp 10)∧Own t5 20 22 1 x8_1 (List.length L2) (List.map Ty.ints L2)∧Own t5 21 22 1 x9_1 (List.length W2) (List.map Ty.ints W2)∧OwnM Ty.bool kI t5 22 x3 f2∧True) ?_ ?_
     ·
      refine cond_p (p:=((((j % 2):Nat):Int) = (1:Int))) (D11.m 2 rfl) (fun c3=>?_) (fun c3=>?_)
      ·
       refine wp_seq ?_
       refine gI a19 s16 ok17 (gM q104 (gS rfl (fun A B G H I d0=>rP (y_call _ Try.func23 rfl rfl my1 (rUndo_fn ((gens.getD (j / 2) [])) _ _ (eI d0) (by assumption)))) (gB 0 (gE ok17 fun a21 s17 ok18 D12=>?_))));have o46:=Own.k0 o43 D12.stp;have o47:=Own.k0 o44 D12.stp;have o48:=OwnM.k0 o45 D12.stp;refine tn ?_
       refine gI a21 s17 ok18 (gM (D12.k q105) (gT (Ty.int (-((((j / 2) + 1):Nat):Int))) rfl (fun A B G H I d0=>rP (y_neg (eI d0) wX)) (gB 0 (gE ok18 fun a22 s18 ok19 D13=>?_))));have o49:=Own.k0 o46 D13.stp;have o50:=Own.k0 o47 D13.stp;have o51:=OwnM.k0 o48 D13.stp
       exact tn ⟨s18,rfl,((F18.step0 D12.stp).step0 D13.stp),ok19,(cvt (by (unfold ltr;rw [if_pos oM])) (D13.k (D12.m 2 rfl))),(cvi (by (unfold ltrN;rw [if_pos oM])) (D13.m 2 rfl)),(D13.k (D12.k q97)),(D13.k (D12.k q98)),(D13.k (D12.k q99)),(D13.k (D12.k q100)),(D13.k (D12.k q101)),(D13.k (D12.k q102)),(D13.k (D12.k q103)),o49,o50,o51,trivial⟩
      ·
       refine wp_skip ?_
       exact tn ⟨s16,rfl,F18,ok17,(cvt (by (unfold ltr;rw [if_neg oM])) q104),(cvi (by (unfold ltrN;rw [if_neg oM])) q105),q97,q98,q99,q100,q101,q102,q103,o43,o44,o45,trivial⟩
     ·
      rintro a23 w6 ⟨t6,rfl,F21,ok20,q125,q126,q127,q128,q129,q130,q131,q132,q133,o52,o53,o54,-⟩
      refine wp_seq ?_
      refine gI a23 t6 ok20 (gM q128 (gM q130 (gT (Ty.val (cellPtr x8_1 i)) rfl (fun A B G H I d0 d1=>rP (own_index1 (i:=((i:Nat):Int)) Try.underlying24 Try.inf22 (Own.k0 o52 G) (eI d0) (eI d1) oM oM)) (gS rfl (fun A B G H I d0=>rP (own_load Try.underlying22 rfl (Own.k0 o52 G) (eI d0) (lst_get Ty.ints L2 [] i oM))) (gM q125 (gS rfl (fun A B G H I d0 d1=>rP (y_call _ Try.func22 rfl rfl my2 (rBy_fn ((L2.getD i [])) ((ltr gens j)) _ _ _ (eI d0) (eI d1) (by first | assumption | omega) (by first | assumption | omega)))) (gB 0 (gE ok20 fun a24 s19 ok21 D14=>?_))))))));have o55:=Own.k0 o52 D14.stp;have o56:=Own.k0 o53 D14.stp;have o57:=OwnM.k0 o54 D14.stp;have q142:=D14.m 6 rfl;refine tn (wp_seq ?_)
      refine gI a24 s19 ok21 (gM q142 (gS rfl (fun A B G H I d0=>rP (y_call _ Try.func21 rfl rfl my1 (rRank_fn ((byL ((L2.getD i [])) ((ltr gens j)))) _ _ (eI d0) oX))) (gB 0 (gE ok21 fun a25 s20 ok22 D15=>?_))));have q150:=D15.k (D14.k q133);have o58:=Own.k0 o55 D15.stp;have o59:=Own.k0 o56 D15.stp;have o60:=OwnM.k0 o57 D15.stp;have q152:=D15.m 2 rfl;refine tn (wp_seq (wp_seq ?_))
      refine gI a25 s20 ok22 (gM q150 (gM q152 (gT (Ty.bool ((f2 (((rankL ((byL ((L2.getD i [])) ((ltr gens j))))):Nat):Int)).getD false)) rfl (fun A B G H I d0 d1=>rP (y_lookup (i:=(((rankL ((byL ((L2.getD i [])) ((ltr gens j))))):Nat):Int)) (z:=false) Try.underlying35 (keyInt Try.underlying3) Try.inf4 (fun _=>rfl) (OwnM.k0 o60 G) (eI d0) (eI d1))) (gE ok22 fun a26 s21 ok23 D16=>?_))));have F24:=((F21.step0 D14.stp).step0 D15.stp).step0 D16.stp;have q154:=D16.k (D15.k (D14.k q127));have q155:=D16.k (D15.k (D14.k q128));have q156:=D16.k (D15.k (D14.k q129));have q157:=D16.k (D15.k (D14.k q130));have q158:=D16.k (D15.k (D14.k q131));have q159:=D16.k (D15.k (D14.k q132));have q160:=D16.k q150;have o61:=Own.k0 o58 D16.stp;have o62:=Own.k0 o59 D16.stp;have o63:=OwnM.k0 o60 D16.stp;refine tn ?_
      refine cond_t (D16.m 2 rfl) (fun c4=>?_) (fun c4=>?_)
      ·
       have hm:(byL (L2.getD i []) (ltr gens j)) ∈ L2:=(by have h_:=hsn2 _ hf4 hf5;rw [c4] at h_;exact of_decide_eq_true h_.symm)
       refine wp_exit (tx (bx (tn ?_)))
       refine gI a26 s21 ok23 (gM q154 (gT (Ty.nat (j + 1)) rfl (fun A B G H I d0=>rP ((y_add (eI d0) rfl wX).mono (fun τ _ h=>cN (σ:=τ) h))) (gB 0 (gE ok23 fun a27 s22 ok24 D17=>?_))));have o64:=Own.k0 o61 D17.stp;have o65:=Own.k0 o62 D17.stp;have o66:=OwnM.k0 o63 D17.stp
       exact tn ⟨2 * gens.length - ((j+1)),by omega,s22,(j+1),L2,W2,f2,x8_1,x9_1,rfl,(F24.step0 D17.stp),ok24,(cJ (D17.m 2 rfl)),(D17.k q155),(D17.k q156),(D17.k q157),(D17.k q158),(D17.k q159),(D17.k q160),o64,o65,o66,by omega,hil,hl2,hC2.old hm,hsn2,hwb2,rfl⟩
      ·
       have hm:(byL (L2.getD i []) (ltr gens j)) ∉ L2:=(by have h_:=hsn2 _ hf4 hf5;rw [c4] at h_;exact of_decide_eq_false h_.symm);have hC5:=hC2.new (w:=(W2.getD i [] ++ [ltrN j])) hn hg hil oM hm;have hsn5:=hsn2.put hf4 hf5;have hwi:=hwb2 i oM
       refine wp_skip (tn (wp_seq ?_))
       refine gI a26 s21 ok23 (gM q160 (gM (D16.k q152) (gE2 ok23 fun a28 s23 ok25 D18=>?_)));have o67:=Own.k0 o61 D18.stp;have o68:=Own.k0 o62 D18.stp;have o69:=OwnM.k0 o63 D18.stp
       have q180:At (Ty.val x3) s23 a28 (.tmp 62):=D18.done 0 dE
       refine tailL0 (L:=[22]) (R:=(fun _ τ=>OwnM Ty.bool kI τ 22 x3 (fun x_=>if x_ = (((rankL ((byL ((L2.getD i [])) ((ltr gens j))))):Nat):Int) then some true else f2 x_))) rfl rfl (YldM.toL (m_mapset (i:=(((rankL ((byL ((L2.getD i [])) ((ltr gens j))))):Nat):Int)) Try.underlying35 (keyInt Try.underlying3) dE o69 q180 (D18.m 1 rfl) rfl)) (fun v2 s24 hs6 r6=>?_)
       have q182:=kpL hs6 dE rfl (D18.k (D16.k (D15.k (D14.k q126))));have q183:=kpL hs6 dE rfl (D18.k q154);have q184:=kpL hs6 dE rfl (D18.k q155);have q185:=kpL hs6 dE rfl (D18.k q156);have q186:=kpL hs6 dE rfl (D18.k q157);have q187:=kpL hs6 dE rfl (D18.k q158);have q188:=kpL hs6 dE rfl (D18.k q159);have q189:=kpL hs6 dE rfl (D18.k q160);have q190:=kpL hs6 dE rfl (D18.k (D16.k (D15.k q142)))
       have o70:OwnM Ty.bool kI s24 22 x3 (fun x_=>if x_ = (((rankL ((byL ((L2.getD i [])) ((ltr gens j))))):Nat):Int) then some true else f2 x_):=r6
       clear r6;refine wpList_nil (tn (wp_seq ?_))
       refine gI a28 s24 ok25 (gM q184 (gM q190 (gT (Ty.sl 1 1 [(Ty.lst Ty.int (byL ((L2.getD i [])) ((ltr gens j))))]) rfl (fun A B G H I d0=>rP (y_build1o Try.underlying24 Try.inf22 rfl (one_sl) (eI d0))) (gE2 ok25 fun a29 s25 ok26 D19=>?_))));have o73:=Own.k0 (Own.kl o67 hs6) D19.stp;have o74:=Own.k0 (Own.kl o68 hs6) D19.stp;have o75:=OwnM.k0 o70 D19.stp
       have q200:At (Ty.val x8_1) s25 a29 (.tmp 64):=D19.done 0 dE
       have q201:=D19.m 2 rfl
       have b2:=sl_le q201
       refine tL ok26 (YldM.toL (m_append Try.underlying24 Try.inf22 dE rfl dE (al (R:=(Pr.own 20 22 1 (List.length L2) (List.map Ty.ints L2))) q200 o73) q201 (by intro U hU;simp at hU;subst hU;exact one_sl) oM oM)) fun a30 s26 hs7 ok27 r7 sm5=>?_
       have q204:=kq hs7 sm5 8 (D19.k q184)
       obtain ⟨x4,hx4⟩:∃ x,a30.eval (.tmp 67) = x:=⟨_,rfl⟩
       have q210:At (Ty.val x4) s26 a30 (.tmp 67):=hx4
       have o76:=al2 (R:=(Pr.own 20 22 1 (List.length (L2 ++ [(byL ((L2.getD i [])) ((ltr gens j)))])) (List.map Ty.ints (L2 ++ [(byL ((L2.getD i [])) ((ltr gens j)))])))) hx4 (cvo (by simp) (by first | (rw [List.map_append];rfl) | simp) r7)
       clear r7
       refine tL ok27 (Yld.toL (y_as q210)) fun a31 s27 hs8 ok28 r8 sm6=>?_
       have q213:=kq hs8 sm6 9 (kq hs7 sm5 9 (D19.k q185));have q214:=kq hs8 sm6 11 (kq hs7 sm5 11 (D19.k q186));have o79:=Own.kl (Own.kl o74 hs7) hs8
       have q218:At (Ty.val x4) s27 a31 (.tmp 8):=r8
       clear r8;refine wpList_nil (tn (wp_seq ?_))
       refine gI a31 s27 ok28 (gM q213 (gR (Pr.own 24 3 1 0 (List.map Ty.int ([]:List Int))) rfl (by intro A B G H I;exact rP ((y_lit0 (k:=24) Try.underlying22 Try.inf3).mono (fun _ _ h=>cvo (by simp) (by simp) h))) (gM q213 (gM q214 (gT (Ty.val (cellPtr x9_1 i)) rfl (fun A B G H I d0 d1=>rP (own_index1 (i:=((i:Nat):Int)) Try.underlying24 Try.inf22 (Own.k0 o79 G) (eI d0) (eI d1) oM oM)) (gS rfl (fun A B G H I d0=>rP (own_load Try.underlying22 rfl (Own.k0 o79 G) (eI d0) (lst_get Ty.ints W2 [] i oM))) (gE2 ok28 fun a32 s28 ok29 D20=>?_)))))));have o82:=Own.k0 o79 D20.stp;have o83:=OwnM.k0 (OwnM.kl (OwnM.kl o75 hs7) hs8) D20.stp;have o84:=Own.k0 (Own.kl o76 hs8) D20.stp
       have q227:At (Ty.val x9_1) s28 a32 (.tmp 68):=D20.done 0 dE
       obtain ⟨x5,hx5⟩:∃ x,a32.eval (.tmp 69) = x:=⟨_,rfl⟩
       have q228:At (Ty.val x5) s28 a32 (.tmp 69):=hx5
       have o85:=al2 (R:=(Pr.own 24 3 1 0 (List.map Ty.int ([]:List Int)))) hx5 (D20.done 1 dE)
       have q229:=D20.m 5 rfl
       have b3:=sl_le q229
       refine tL ok29 (YldM.toL (m_append Try.underlying22 Try.inf3 dE rfl dE (al (R:=(Pr.own 24 3 1 0 (List.map Ty.int ([]:List Int)))) q228 o85) q229 (one_map (fun _=>one_val rfl)) oM oM)) fun a33 s29 hs9 ok30 r9 sm7=>?_
       obtain ⟨x6,hx6⟩:∃ x,a33.eval (.tmp 74) = x:=⟨_,rfl⟩
       have q239:At (Ty.val x6) s29 a33 (.tmp 74):=hx6
       have o86:=al2 (R:=(Pr.own 24 3 1 (List.length (W2.getD i [])) (List.map Ty.int (W2.getD i [])))) hx6 (cvo (by first | (simp;done) | (simp;omega)) (by first | (rw [List.map_append];rfl) | simp) r9)
       clear r9
       refine tL ok30 (Yld.toL (y_mv (kq hs9 sm7 14 (D20.k (kq hs8 sm6 14 (kq hs7 sm5 14 (D19.k q182))))))) fun a34 s30 hs10 ok31 r10 sm8=>?_
       have q249:At (Ty.int (ltrN j)) s30 a34 (.tmp 75):=r10
       clear r10
       refine tL (R:=(fun v τ=>Pr.has (Ty.pr (Ty.sl 1 1 [(Ty.int (ltrN j))])) τ v)) ok31 (Yld.toL (y_build1o Try.underlying22 Try.inf3 rfl (one_val rfl) q249)) fun a35 s31 hs11 ok32 r11 sm9=>?_
       have q259:At (Ty.sl 1 1 [(Ty.int (ltrN j))]) s31 a35 (.tmp 76):=r11
       clear r11
       refine tL ok32 (YldM.toL (m_append Try.underlying22 Try.inf3 dE rfl dE (al (R:=(Pr.own 24 3 1 (List.length (W2.getD i [])) (List.map Ty.int (W2.getD i [])))) (kq hs11 sm9 74 (kq hs10 sm8 74 q239)) (Own.kl (Own.kl o86 hs10) hs11)) q259 (by intro U hU;simp at hU;subst hU;exact one_val rfl) oM oM)) fun a36 s32 hs12 ok33 r12 sm10=>?_
       obtain ⟨x7,hx7⟩:∃ x,a36.eval (.tmp 77) = x:=⟨_,rfl⟩
       have q268:At (Ty.val x7) s32 a36 (.tmp 77):=hx7
       have o98:=al2 (R:=(Pr.own 24 3 1 (List.length ((W2.getD i []) ++ [(ltrN j)])) (List.map Ty.int ((W2.getD i []) ++ [(ltrN j)])))) hx7 (cvo (by simp) (by first | (rw [List.map_append];rfl) | simp) r12)
       clear r12
       obtain ⟨t7,e1,h1,q269⟩:=Own.seal o98 dE
       rw [← e1]
       have F36:=((((((((((F24.step0 D18.stp).sl hs6).step0 D19.stp).sl hs7).sl hs8).step0 D20.stp).sl hs9).sl hs10).sl hs11).sl hs12).step h1 dE;have o102:=Own.keepL (Own.kl (Own.kl (Own.kl (Own.kl o82 hs9) hs10) hs11) hs12) (h1.toL (L:=[24]) (by simp)) dE dE;have o103:=OwnM.keepL (OwnM.kl (OwnM.kl (OwnM.kl (OwnM.kl o83 hs9) hs10) hs11) hs12) (h1.toL (L:=[24]) (by simp)) dE dE;have o104:=Own.keepL (Own.kl (Own.kl (Own.kl (Own.kl o84 hs9) hs10) hs11) hs12) (h1.toL (L:=[24]) (by simp)) dE dE;have q270:=Ty.up (Ty.nat j) (h1.le dE) (kq hs12 sm10 12 (kq hs11 sm9 12 (kq hs10 sm8 12 (kq hs9 sm7 12 (D20.k (kq hs8 sm6 12 (kq hs7 sm5 12 (D19.k q183))))))));have q271:=Ty.up (Ty.val x9_1) (h1.le dE) (kq hs12 sm10 9 (kq hs11 sm9 9 (kq hs10 sm8 9 (kq hs9 sm7 9 (D20.k q213)))));have q272:=Ty.up (Ty.nat i) (h1.le dE) (kq hs12 sm10 11 (kq hs11 sm9 11 (kq hs10 sm8 11 (kq hs9 sm7 11 (D20.k q214)))));have q273:=Ty.up (Ty.lst Ty.ints gens) (h1.le dE) (kq hs12 sm10 1 (kq hs11 sm9 1 (kq hs10 sm8 1 (kq hs9 sm7 1 (D20.k (kq hs8 sm6 1 (kq hs7 sm5 1 (D19.k q187))))))));have q274:=Ty.up (Ty.nat most) (h1.le dE) (kq hs12 sm10 2 (kq hs11 sm9 2 (kq hs10 sm8 2 (kq hs9 sm7 2 (D20.k (kq hs8 sm6 2 (kq hs7 sm5 2 (D19.k q188))))))));have q275:=Ty.up (Ty.val x3) (h1.le dE) (kq hs12 sm10 10 (kq hs11 sm9 10 (kq hs10 sm8 10 (kq hs9 sm7 10 (D20.k (kq hs8 sm6 10 (kq hs7 sm5 10 (D19.k q189))))))));have q276:=Ty.up (Ty.val x4) (h1.le dE) (kq hs12 sm10 8 (kq hs11 sm9 8 (kq hs10 sm8 8 (kq hs9 sm7 8 (D20.k q218)))));have q277:=Ty.up (Ty.val x9_1) (h1.le dE) (kq hs12 sm10 68 (kq hs11 sm9 68 (kq hs10 sm8 68 (kq hs9 sm7 68 q227))))
       have q278:At (Ty.lst Ty.int ((W2.getD i []) ++ [(ltrN j)])) t7 a36 (.tmp 77):=by have e:a36.eval (.tmp 77) = x7:=q268;show Ty.has _ _ _;rw [e];exact q269
       refine tL (R:=(fun v τ=>Pr.has (Ty.pr (Ty.sl 1 1 [(Ty.lst Ty.int ((W2.getD i []) ++ [(ltrN j)]))])) τ v)) ok33 (Yld.toL (y_build1o Try.underlying24 Try.inf22 rfl (one_sl) q278)) fun a37 s33 hs13 ok34 r13 sm11=>?_
       have q287:At (Ty.sl 1 1 [(Ty.lst Ty.int ((W2.getD i []) ++ [(ltrN j)]))]) s33 a37 (.tmp 78):=r13
       clear r13
       refine tL ok34 (YldM.toL (m_append Try.underlying24 Try.inf22 dE rfl dE (al (R:=(Pr.own 21 22 1 (List.length W2) (List.map Ty.ints W2))) (kq hs13 sm11 68 q277) (Own.kl o102 hs13)) q287 (by intro U hU;simp at hU;subst hU;exact one_sl) oM oM)) fun a38 s34 hs14 ok35 r14 sm12=>?_
       have q289:=kq hs14 sm12 9 (kq hs13 sm11 9 q271)
       obtain ⟨x8,hx8⟩:∃ x,a38.eval (.tmp 79) = x:=⟨_,rfl⟩
       have q295:At (Ty.val x8) s34 a38 (.tmp 79):=hx8
       have o108:=al2 (R:=(Pr.own 21 22 1 (List.length (W2 ++ [((W2.getD i []) ++ [(ltrN j)])])) (List.map Ty.ints (W2 ++ [((W2.getD i []) ++ [(ltrN j)])])))) hx8 (cvo (by simp) (by first | (rw [List.map_append];rfl) | simp) r14)
       clear r14
       refine tL ok35 (Yld.toL (y_as q295)) fun a39 s35 hs15 ok36 r15 sm13=>?_
       have q299:=kq hs15 sm13 2 (kq hs14 sm12 2 (kq hs13 sm11 2 q274));have q301:=kq hs15 sm13 8 (kq hs14 sm12 8 (kq hs13 sm11 8 q276));have o112:=Own.kl (Own.kl (Own.kl o104 hs13) hs14) hs15
       have q302:At (Ty.val x8) s35 a39 (.tmp 9):=r15
       clear r15;refine wpList_nil (tn (wp_seq ?_))
       refine gI a39 s35 ok36 (gM q301 (gT (Ty.nat (List.length (L2 ++ [(byL ((L2.getD i [])) ((ltr gens j)))]))) rfl (fun A B G H I d0=>rP (own_len Try.underlying24 (al (R:=(Pr.own 20 22 1 (List.length (L2 ++ [(byL ((L2.getD i [])) ((ltr gens j)))])) (List.map Ty.ints (L2 ++ [(byL ((L2.getD i [])) ((ltr gens j)))])))) (eI d0) (Own.k0 o112 G)))) (gM q299 (gS rfl (fun A B G H I d0 d1=>rP (y_gtr (eI d0) (eI d1))) (gE ok36 fun a40 s36 ok37 D21=>?_)))));have F40:=(((F36.sl hs13).sl hs14).sl hs15).step0 D21.stp;have o114:=OwnM.k0 (OwnM.kl (OwnM.kl (OwnM.kl o103 hs13) hs14) hs15) D21.stp;have o115:=Own.k0 o112 D21.stp;have o116:=Own.k0 (Own.kl o108 hs15) D21.stp;refine tn ?_
       refine cond_p (p:=(((most:Nat):Int) < (((List.length (L2 ++ [(byL ((L2.getD i [])) ((ltr gens j)))])):Nat):Int))) (D21.m 3 rfl) (fun c5=>?_) (fun c5=>?_)
       ·
        refine wp_seq ?_
        refine gI a40 s36 ok37 (gC (Ty.val (Value.slice none 0 0)) (gC (Ty.val (Value.slice none 0 0)) (gE ok37 fun a41 s37 ok38 D22=>?_)));have o117:=OwnM.k0 o114 D22.stp;have o118:=Own.k0 o115 D22.stp;have o119:=Own.k0 o116 D22.stp;refine tn (wp_ret (br (tr (tr (br (br (tr (tr (br (tr ?_))))))))))
        exact retL2 rfl ok38 (F40.step0 D22.stp) (hasT2 (D22.m 0 rfl) (D22.m 1 rfl))
       ·
        refine wp_skip (bn (tn ?_))
        refine gI a40 s36 ok37 (gM (D21.k (kq hs15 sm13 12 (kq hs14 sm12 12 (kq hs13 sm11 12 q270)))) (gT (Ty.nat (j + 1)) rfl (fun A B G H I d0=>rP ((y_add (eI d0) rfl wX).mono (fun τ _ h=>cN (σ:=τ) h))) (gB 0 (gE ok37 fun a42 s38 ok39 D23=>?_))));have o120:=OwnM.k0 o114 D23.stp;have o121:=Own.k0 o115 D23.stp;have o122:=Own.k0 o116 D23.stp
        exact tn ⟨2 * gens.length - ((j+1)),by omega,s38,(j+1),(L2 ++ [(byL (L2.getD i []) (ltr gens j))]),(W2 ++ [(W2.getD i [] ++ [ltrN j])]),(fun p=>if p = ((rankL (byL (L2.getD i []) (ltr gens j)):Nat):Int) then some true else f2 p),x4,x8,rfl,(F40.step0 D23.stp),ok39,(cJ (D23.m 2 rfl)),(D23.k (D21.k q301)),(D23.k (D21.k q302)),(D23.k (D21.k (kq hs15 sm13 11 (kq hs14 sm12 11 (kq hs13 sm11 11 q272))))),(D23.k (D21.k (kq hs15 sm13 1 (kq hs14 sm12 1 (kq hs13 sm11 1 q273))))),(D23.k (D21.k q299)),(D23.k (D21.k (kq hs15 sm13 10 (kq hs14 sm12 10 (kq hs13 sm11 10 q275))))),(cvo (by (simp)) (by (simp)) o121),(cvo (by (simp)) (by (simp)) o122),(cvm (by (rfl)) o120),by omega,by (rw [List.length_append];omega),by omega,hC5,hsn5,hwb2.new oM,rfl⟩
    ·
     have ej:j = 2 * gens.length:=oM;have hC4:=(ej ▸ hC2:ClI n gens L2 W2 i (2 * gens.length)).next
     refine wp_exit (tx (tx (bx (bn (tn ?_)))))
     refine gI a16 s13 ok14 (gM q75 (gT (Ty.nat (i + 1)) rfl (fun A B G H I d0=>rP ((y_add (eI d0) rfl wX).mono (fun τ _ h=>cN (σ:=τ) h))) (gB 0 (gE ok14 fun a43 s39 ok40 D24=>?_))));have o123:=Own.k0 o34 D24.stp;have o124:=Own.k0 o35 D24.stp;have o125:=OwnM.k0 o36 D24.stp
     exact tn ⟨most - ((i + 1)),by omega,s39,(i + 1),L2,W2,f2,x8_1,x9_1,rfl,(F15.step0 D24.stp),ok40,(cJ (D24.m 2 rfl)),(D24.k q73),(D24.k q74),(D24.k q76),(D24.k q77),(D24.k q78),(cvo (by (simp)) (by (simp)) o123),(cvo (by (simp)) (by (simp)) o124),(cvm (by (rfl)) o125),by omega,hl2,hC4,hsn2,hwb2,rfl⟩
  ·
   exfalso
   (have ei:i = L.length:=oM;have hC8:ClI n gens L W L.length 0:=ei ▸ hC;have h_:=sz_count (S:=fun y=>y ∈ gens) hn hg hC8.nd (hC8.done hn hg);omega)
set_option maxHeartbeats 4000000 in
set_option maxRecDepth 100000 in
theorem power_fn (a:Nat) (n:Nat) (σ:GW)  (v0 v1:Value) (hv0:Ty.has (Ty.nat a) σ v0) (hv1:Ty.has (Ty.nat n) σ v1)  (ha:a ≤ 8) (hn:n ≤ 12) :
    FnC Try.prog 86 #[v0,v1] σ (Ty.nat (a ^ n)):=by
 refine fn_intro0 Try.func86 rfl Try.ntmps86 (Nat.le_of_ble_eq_true rfl) (fun s0 a0 hle F0 ok0 hargs=>?_)
 have p0:=pA hle (hargs 0 _ rfl) hv0
 have p1:=pA hle (hargs 1 _ rfl) hv1
 clear hargs;refine wp_seq ?_
 refine gI a0 s0 ok0 (gC (Ty.int (0:Int)) (gE ok0 fun a1 s1 ok1 D1=>?_));refine tn (wp_seq ?_)
 refine gI a1 s1 ok1 (gC (Ty.int (1:Int)) (gE ok1 fun a2 s2 ok2 D2=>?_));refine tn (wp_seq (wp_seq ?_))
 refine gI a2 s2 ok2 (gC (Ty.int (0:Int)) (gE ok2 fun a3 s3 ok3 D3=>?_));refine tn (wp_block ?_)
 refine loop (fun n1 a4 w1=>∃ (t1:GW) (i:Nat),t1.w = w1∧FromL [] s0 t1∧Ok 16 [] a4∧At (Ty.nat i) t1 a4 (.tmp 6)∧At (Ty.nat (a ^ i)) t1 a4 (.tmp 5)∧At (Ty.nat a) t1 a4 (.tmp 0)∧At (Ty.nat n) t1 a4 (.tmp 1)∧(i ≤ n)∧n1 = n - i) (n - (0)) ?_ ?_
 ·
  exact ⟨s3,0,rfl,(((F0.step0 D1.stp).step0 D2.stp).step0 D3.stp),ok3,(cJ (D3.m 0 rfl)),(cvi (by (simp)) (D3.k (D2.m 0 rfl))),(D3.k (D2.k (D1.k p0))),(D3.k (D2.k (D1.k p1))),by omega,rfl⟩
 ·
  rintro n2 a5 w2 ⟨t2,i,rfl,F4,ok4,q10,q11,q12,q13,hi,rfl⟩
  have hpb:=pow_bd ha (show i ≤ 12 by omega)
  refine wp_seq (wp_seq ?_)
  refine gI a5 t2 ok4 (gM q10 (gM q13 (gS rfl (fun A B G H I d0 d1=>rP (y_lss (eI d0) (eI d1))) (gE ok4 fun a6 s4 ok5 D4=>?_))));have F5:=F4.step0 D4.stp;have q15:=D4.k q11;have q16:=D4.k q12;refine tn ?_
  refine cond_p (p:=(((i:Nat):Int) < ((n:Nat):Int))) (D4.m 2 rfl) (fun c1=>?_) (fun c1=>?_)
  ·
   have hpb2:=pow_bd (e:=i + 1) ha oM;rw [Nat.pow_succ] at hpb2
   refine wp_skip (tn (wp_seq (wp_block ?_)))
   refine gI a6 s4 ok5 (gM q15 (gM q16 (gT (Ty.nat ((a ^ i) * a)) rfl (fun A B G H I d0 d1=>rP ((y_mul (eI d0) (eI d1) wX).mono (fun τ _ h=>cN (σ:=τ) h))) (gB 0 (gE ok5 fun a7 s5 ok6 D5=>?_)))));refine bn (tn ?_)
   refine gI a7 s5 ok6 (gM (D5.k (D4.k q10)) (gT (Ty.nat (i + 1)) rfl (fun A B G H I d0=>rP ((y_add (eI d0) rfl wX).mono (fun τ _ h=>cN (σ:=τ) h))) (gB 0 (gE ok6 fun a8 s6 ok7 D6=>?_))))
   exact tn ⟨n - ((i+1)),by omega,s6,(i+1),rfl,((F5.step0 D5.stp).step0 D6.stp),ok7,(cJ (D6.m 2 rfl)),(cvi (by (rw [Nat.pow_succ])) (D6.k (D5.m 3 rfl))),(D6.k (D5.k q16)),(D6.k (D5.k (D4.k q13))),by omega,rfl⟩
  ·
   have ei:i = n:=oM
   refine wp_exit (tx (tx (bx (tn (wp_seq ?_)))))
   refine gI a6 s4 ok5 (gM q15 (gB 0 (gE ok5 fun a9 s7 ok8 D7=>?_)));refine tn (wp_ret ?_)
   exact retL1 rfl ok8 (F5.step0 D7.stp) (cvi (by (rw [ei])) (D7.m 1 rfl))
set_option maxHeartbeats 4000000 in
set_option maxRecDepth 100000 in
theorem rcntA_fn (n:Int) (gens:List (List Int)) (colours:Int) (σ:GW) (hlow:Low [] σ) (v0 v1 v2:Value) (hv0:Ty.has (Ty.int n) σ v0) (hv1:Ty.has (Ty.lst Ty.ints gens) σ v1) (hv2:Ty.has (Ty.int colours) σ v2)  (hbc:colours < 0 ∨ 8 < colours) :
    FnL Try.prog 52 #[v0,v1,v2] σ [] (fun v τ=>∃ (z:Nat),∃ (e:Int),(Ty.has (Ty.tup2 (Ty.nat z) (Ty.int e)) τ v)∧(CntP n gens colours z e)):=by
 refine fn_introL hlow Try.func52 rfl Try.ntmps52 (Nat.le_of_ble_eq_true rfl) (fun a0 F0 ok0 hargs=>?_)
 have p0:=pB (hargs 0 _ rfl) hv0
 have p1:=pB (hargs 1 _ rfl) hv1
 have b1:=sl_le p1
 have p2:=pB (hargs 2 _ rfl) hv2
 clear hargs;refine wp_seq ?_
 refine gI a0 σ ok0 (gC (Ty.int (0:Int)) (gC (Ty.int (0:Int)) (gE ok0 fun a1 s1 ok1 D1=>?_)));have q3:=D1.k p2;refine tn (wp_seq (wp_seq ?_))
 refine gI a1 s1 ok1 (gM q3 (gS rfl (fun A B G H I d0=>rP (y_lss (eI d0) rfl)) (gS rfl (fun A B G H I d0=>rP (y_move (eI d0))) (gS rfl (fun A B G H I d0=>gu H (eI d0) fun hg=>y_move (kp (I 2 rfl) G q3)) (gS rfl (fun A B G H I d0 d1=>gu H (eI d1) fun hg=>y_gtr ((ef d0 rfl).1 hg) rfl) (gS rfl (fun A B G H I d0 d1=>rP (y_pick_or (eI d0) rfl (eI d1))) (gE ok1 fun a2 s2 ok2 D2=>?_)))))));refine tn ?_
 refine cond_t (D2.m 5 rfl) (fun c1=>?_) (fun c1=>?_)
 ·
  refine wp_seq ?_
  refine gI a2 s2 ok2 (gC (Ty.int (0:Int)) (gC (Ty.int (12:Int)) (gE ok2 fun a3 s3 ok3 D3=>?_)));refine tn (wp_ret (tr ?_))
  exact retL2 rfl ok3 (((F0.step0 D1.stp).step0 D2.stp).step0 D3.stp) ⟨0,(12:Int),(hasT2 (cvi (by (rfl)) (D3.m 0 rfl)) (cvi (by (rfl)) (D3.m 1 rfl))),(by exact CntP.bad hbc)⟩
 ·
  exfalso
  simp only [Bool.or_eq_false_iff,decide_eq_false_iff_not] at c1;omega
end Go.Proofs.Ytkjifbgofckfeaa
