/- The functions that the law ColourSays reaches, each by its contract. Part 2. -/
import Derived.Test.YtkjifbgofckfeaaColourSaysW1
namespace Go.Proofs.Ytkjifbgofckfeaa
open Go.KL
set_option maxHeartbeats 4000000 in
set_option maxRecDepth 100000 in
theorem rSizes_fn (n:Nat) (gens:List (List Int)) (σ:GW)  (v0 v1:Value) (hv0:Ty.has (Ty.nat n) σ v0) (hv1:Ty.has (Ty.lst Ty.ints gens) σ v1)  (hn:1 ≤ n∧n ≤ 12) (hg:∀ x ∈ gens,RowN n x) (hgl:gens.length ≤ 1000) :
    FnC Try.prog 20 #[v0,v1] σ (Ty.nat (szTo n (fun y=>y ∈ gens) n)):=by
 have hn12:=hn.2
 have hsb:=fun k=>szTo_bd (n:=n) (S:=fun y=>y ∈ gens) (k:=k) hn.2
 refine fn_intro0 Try.func20 rfl Try.ntmps20 (Nat.le_of_ble_eq_true rfl) (fun s0 a0 hle F0 ok0 hargs=>?_)
 have p0:=pA hle (hargs 0 _ rfl) hv0
 have p1:=pA hle (hargs 1 _ rfl) hv1
 have b1:=sl_le p1
 clear hargs;refine wp_seq ?_
 refine gI a0 s0 ok0 (gC (Ty.int (0:Int)) (gE ok0 fun a1 s1 ok1 D1=>?_));refine tn (wp_seq ?_)
 refine gI a1 s1 ok1 (gC (Ty.int (1:Int)) (gE ok1 fun a2 s2 ok2 D2=>?_));refine tn (wp_seq ?_)
 refine gI a2 s2 ok2 (gC (Ty.int (0:Int)) (gE ok2 fun a3 s3 ok3 D3=>?_));refine tn (wp_seq (wp_block ?_))
 refine loop (fun n1 a4 w1=>∃ (t1:GW) (k:Nat) (G:(List (List Int))),t1.w = w1∧FromL [] s0 t1∧Ok 131 [] a4∧At (Ty.nat k) t1 a4 (.tmp 6)∧At (Ty.lst Ty.ints G) t1 a4 (.tmp 1)∧At (Ty.nat (szTo n (fun y=>y ∈ gens) k)) t1 a4 (.tmp 5)∧At (Ty.nat n) t1 a4 (.tmp 0)∧(k ≤ n)∧(SzI n gens k G)∧n1 = n - k) (n - (0)) ?_ ?_
 ·
  exact ⟨s3,0,gens,rfl,(((F0.step0 D1.stp).step0 D2.stp).step0 D3.stp),ok3,(cJ (D3.m 0 rfl)),(cvt (by (first | rfl | omega | (simp_all;done) | (simp_all;omega))) (D3.k (D2.k (D1.k p1)))),(cvi (by (rfl)) (D3.k (D2.m 0 rfl))),(D3.k (D2.k (D1.k p0))),by omega,SzI.start hg oM,rfl⟩
 ·
  rintro n2 a5 w2 ⟨t2,k,G,rfl,F4,ok4,q10,q11,q12,q13,hk,hZ,rfl⟩
  have hGl:=hZ.len
  have hGr:=hZ.rows
  refine wp_seq (wp_seq ?_)
  refine gI a5 t2 ok4 (gM q10 (gM q13 (gS rfl (fun A B E H I d0 d1=>rP (y_lss (eI d0) (eI d1))) (gE ok4 fun a6 s4 ok5 D4=>?_))));have F5:=F4.step0 D4.stp;have q14:=D4.k q10;have q16:=D4.k q12;refine tn ?_
  refine cond_p (p:=(((k:Nat):Int) < ((n:Nat):Int))) (D4.m 2 rfl) (fun c1=>?_) (fun c1=>?_)
  ·
   refine wp_skip (tn (wp_block (wp_seq ?_)))
   refine gI a6 s4 ok5 (gM q14 (gR (Pr.own 20 3 1 1 (List.map Ty.int [((k:Nat):Int)])) rfl (by intro A B E H I d0;exact rP ((y_lit1 (k:=20) Try.underlying22 Try.inf3 rfl (one_val rfl) (eI d0)).mono (fun _ _ h=>cvo (by simp) (by first | (simp;done) | rfl) h))) (gE2 ok5 fun a7 s5 ok6 D5=>?_)))
   obtain ⟨x1,hx1⟩:∃ x,a7.eval (.tmp 22) = x:=⟨_,rfl⟩
   have q23:At (Ty.val x1) s5 a7 (.tmp 22):=hx1
   have o1:=al2 (R:=(Pr.own 20 3 1 1 (List.map Ty.int [((k:Nat):Int)]))) hx1 (D5.done 1 dE)
   refine tL ok6 (Yld.toL (y_as q23)) fun a8 s6 hs1 ok7 r1 sm1=>?_
   have q27:=kq hs1 sm1 0 (D5.k (D4.k q13))
   have q28:At (Ty.val x1) s6 a8 (.tmp 7):=r1
   clear r1;refine wpList_nil (tn (wp_seq ?_))
   refine gI a8 s6 ok7 (gM q27 (gS rfl (fun A B E H I d0=>rP (y_call _ Try.func39 rfl rfl my1 (rRounds_fn (n) _ _ (eI d0) oM))) (gR (Pr.own 21 22 1 1 (List.map Ty.ints [(roundsL n)])) rfl (by intro A B E H I d0;exact rP ((y_lit1 (k:=21) Try.underlying24 Try.inf22 rfl (one_sl) (eI d0)).mono (fun _ _ h=>cvo (by simp) (by first | (simp;done) | rfl) h))) (gE2 ok7 fun a9 s7 ok8 D6=>?_))));have o3:=Own.k0 (Own.kl o1 hs1) D6.stp
   obtain ⟨x2,hx2⟩:∃ x,a9.eval (.tmp 25) = x:=⟨_,rfl⟩
   have q34:At (Ty.val x2) s7 a9 (.tmp 25):=hx2
   have o4:=al2 (R:=(Pr.own 21 22 1 1 (List.map Ty.ints [(roundsL n)]))) hx2 (D6.done 2 dE)
   refine tL ok8 (Yld.toL (y_as q34)) fun a10 s8 hs2 ok9 r2 sm2=>?_
   have q38:=kq hs2 sm2 0 (D6.k q27)
   have q40:At (Ty.val x2) s8 a10 (.tmp 8):=r2
   clear r2;refine wpList_nil (tn (wp_seq ?_))
   refine gI a10 s8 ok9 (gM q38 (gR (Pr.own 22 3 1 n (List.map Ty.int (List.replicate n 0))) rfl (by intro A B E H I d0 d1;have e0:=ed d0 rfl rfl rfl;exact rP ((y_make (k:=22) (T:=Ty.int 0) (n:=n) Try.underlying22 Try.inf3 rfl (fun _=>rfl) e0 e0 oM oM).mono (fun _ _ h=>cvo (by simp) (by simp) h))) (gE2 ok9 fun a11 s9 ok10 D7=>?_)));have o7:=Own.k0 (Own.kl o3 hs2) D7.stp;have o8:=Own.k0 (Own.kl o4 hs2) D7.stp
   obtain ⟨x3,hx3⟩:∃ x,a11.eval (.tmp 27) = x:=⟨_,rfl⟩
   have q47:At (Ty.val x3) s9 a11 (.tmp 27):=hx3
   have o9:=al2 (R:=(Pr.own 22 3 1 n (List.map Ty.int (List.replicate n 0)))) hx3 (D7.done 1 dE)
   refine tL ok10 (Yld.toL (y_as q47)) fun a12 s10 hs3 ok11 r3 sm3=>?_
   have q48:=kq hs3 sm3 6 (D7.k (kq hs2 sm2 6 (D6.k (kq hs1 sm1 6 (D5.k q14)))));have o12:=Own.kl o9 hs3
   have q54:At (Ty.val x3) s10 a12 (.tmp 9):=r3
   clear r3;refine wpList_nil (tn (wp_seq ?_))
   refine gI a12 s10 ok11 (gM q54 (gM q48 (gT (Ty.val (cellPtr x3 k)) rfl (fun A B E H I d0 d1 d2 d3=>rP (own_index1 (i:=((k:Nat):Int)) Try.underlying22 Try.inf3 (Own.k0 o12 E) (eI d0) (eI d1) oM oM)) (gE2 ok11 fun a13 s11 ok12 D8=>?_))));have o13:=Own.k0 (Own.kl o7 hs3) D8.stp;have o14:=Own.k0 (Own.kl o8 hs3) D8.stp;have o15:=Own.k0 o12 D8.stp
   refine tailL0 (L:=[22]) (R:=(fun _ τ=>Own τ 22 3 1 x3 n ((List.map Ty.int (List.replicate n 0)).set k (Ty.int (1:Int))))) rfl rfl (YldM.toL (m_store Try.inf3 dE o15 (D8.m 2 rfl) (by simp only [List.length_map,List.length_set];first | omega | (simp only [List.length_replicate];omega)) rfl (one_val rfl))) (fun v1 s12 hs4 r4=>?_)
   have q63:=kpL hs4 dE rfl (D8.k q48);have q64:=kpL hs4 dE rfl (D8.k (kq hs3 sm3 1 (D7.k (kq hs2 sm2 1 (D6.k (kq hs1 sm1 1 (D5.k (D4.k q11))))))));have q65:=kpL hs4 dE rfl (D8.k (kq hs3 sm3 5 (D7.k (kq hs2 sm2 5 (D6.k (kq hs1 sm1 5 (D5.k q16)))))));have q66:=kpL hs4 dE rfl (D8.k (kq hs3 sm3 0 (D7.k q38)));have q67:=kpL hs4 dE rfl (D8.k (kq hs3 sm3 7 (D7.k (kq hs2 sm2 7 (D6.k q28)))));have q68:=kpL hs4 dE rfl (D8.k (kq hs3 sm3 8 (D7.k q40)));have q69:=kpL hs4 dE rfl (D8.k q54)
   have o16:Own s12 22 3 1 x3 n (List.map Ty.int ((List.replicate n 0).set k (1:Int))):=(cvo (by simp) (by first | (simp;done) | (rw [List.map_set];done) | (rw [List.map_set];rfl)) r4)
   clear r4;refine wpList_nil (tn (wp_seq ?_))
   refine gI a13 s12 ok12 (gC (Ty.val (Value.slice none 0 0)) (gE ok12 fun a14 s13 ok13 D9=>?_));have o19:=Own.k0 (Own.kl o13 hs4) D9.stp;have o20:=Own.k0 (Own.kl o14 hs4) D9.stp;have o21:=Own.k0 o16 D9.stp;refine tn (wp_seq (wp_seq ?_))
   refine gI a14 s13 ok13 (gC (Ty.int (0:Int)) (gE ok13 fun a15 s14 ok14 D10=>?_));have o22:=Own.k0 o19 D10.stp;have o23:=Own.k0 o20 D10.stp;have o24:=Own.k0 o21 D10.stp;refine tn (wp_block ?_)
   refine loop (fun n3 a16 w3=>∃ (t3:GW) (i:Nat) (sp:(List Int)) (rw1:(List (List Int))) (wh:(List Int)) (x7_1 x8_1 x9_1:Value),t3.w = w3∧FromL [] s0 t3∧Ok 131 [] a16∧At (Ty.nat i) t3 a16 (.tmp 11)∧At (Ty.val x7_1) t3 a16 (.tmp 7)∧At (Ty.val x8_1) t3 a16 (.tmp 8)∧At (Ty.val x9_1) t3 a16 (.tmp 9)∧At (Ty.nat k) t3 a16 (.tmp 6)∧At (Ty.lst Ty.ints G) t3 a16 (.tmp 1)∧At (Ty.nat (szTo n (fun y=>y ∈ gens) k)) t3 a16 (.tmp 5)∧At (Ty.nat n) t3 a16 (.tmp 0)∧At (Ty.val (Value.slice none 0 0)) t3 a16 (.tmp 10)∧Own t3 20 3 1 x7_1 (List.length sp) (List.map Ty.int sp)∧Own t3 21 22 1 x8_1 (List.length rw1) (List.map Ty.ints rw1)∧Own t3 22 3 1 x9_1 (List.length wh) (List.map Ty.int wh)∧(i ≤ sp.length)∧(Orb n k G sp rw1 wh i 0)∧n3 = n - i) (n - (0)) ?_ ?_
   ·
    exact ⟨s14,0,[((k:Nat):Int)],[roundsL n],((List.replicate n 0).set k 1),x1,x2,x3,rfl,((((((((((F5.step0 D5.stp).sl hs1).step0 D6.stp).sl hs2).step0 D7.stp).sl hs3).step0 D8.stp).sl hs4).step0 D9.stp).step0 D10.stp),ok14,(cJ (D10.m 0 rfl)),(D10.k (D9.k q67)),(D10.k (D9.k q68)),(D10.k (D9.k q69)),(D10.k (D9.k q63)),(D10.k (D9.k q64)),(D10.k (D9.k q65)),(D10.k (D9.k q66)),(D10.k (D9.m 0 rfl)),(cvo (by (first | rfl | simp)) (by (first | rfl | simp)) o22),(cvo (by (first | rfl | simp)) (by (first | rfl | simp)) o23),(cvo (by (first | rfl | simp)) (by (first | rfl | simp)) o24),by simp,orb_start hn oM,rfl⟩
   ·
    rintro n4 a17 w4 ⟨t4,i,sp,rw1,wh,x7_1,x8_1,x9_1,rfl,F16,ok15,q88,q89,q90,q91,q92,q93,q94,q95,q96,o25,o26,o27,hi,hO,rfl⟩
    have hsl:=hO.spl oM
    have hrl:=hO.len
    have hwl:=hO.whl
    refine wp_seq (wp_seq ?_)
    refine gI a17 t4 ok15 (gM q88 (gM q89 (gT (Ty.nat (List.length sp)) rfl (fun A B E H I d0=>rP (own_len Try.underlying22 (al (R:=(Pr.own 20 3 1 (List.length sp) (List.map Ty.int sp))) (eI d0) (Own.k0 o25 E)))) (gS rfl (fun A B E H I d0 d1=>rP (y_lss (eI d0) (eI d1))) (gE ok15 fun a18 s15 ok16 D11=>?_)))));have F17:=F16.step0 D11.stp;have q98:=D11.k q89;have q99:=D11.k q90;have q100:=D11.k q91;have q101:=D11.k q92;have q102:=D11.k q93;have q103:=D11.k q94;have q104:=D11.k q95;have q105:=D11.k q96;have o28:=Own.k0 o25 D11.stp;have o29:=Own.k0 o26 D11.stp;have o30:=Own.k0 o27 D11.stp;refine tn ?_
    refine cond_p (p:=(((i:Nat):Int) < (((List.length sp):Nat):Int))) (D11.m 3 rfl) (fun c2=>?_) (fun c2=>?_)
    ·
     refine wp_skip (tn (wp_seq (wp_block (wp_seq ?_))))
     refine gI a18 s15 ok16 (gC (Ty.int (0:Int)) (gE ok16 fun a19 s16 ok17 D12=>?_));have o31:=Own.k0 o28 D12.stp;have o32:=Own.k0 o29 D12.stp;have o33:=Own.k0 o30 D12.stp;refine tn (wp_block ?_)
     refine loop (fun n5 a20 w5=>∃ (t5:GW) (j:Nat) (sp2:(List Int)) (rw2:(List (List Int))) (wh2:(List Int)) (x7_2 x8_2 x9_2:Value),t5.w = w5∧FromL [] s0 t5∧Ok 131 [] a20∧At (Ty.nat j) t5 a20 (.tmp 12)∧At (Ty.val x7_2) t5 a20 (.tmp 7)∧At (Ty.val x8_2) t5 a20 (.tmp 8)∧At (Ty.val x9_2) t5 a20 (.tmp 9)∧At (Ty.nat i) t5 a20 (.tmp 11)∧At (Ty.nat k) t5 a20 (.tmp 6)∧At (Ty.lst Ty.ints G) t5 a20 (.tmp 1)∧At (Ty.nat (szTo n (fun y=>y ∈ gens) k)) t5 a20 (.tmp 5)∧At (Ty.nat n) t5 a20 (.tmp 0)∧At (Ty.val (Value.slice none 0 0)) t5 a20 (.tmp 10)∧Own t5 20 3 1 x7_2 (List.length sp2) (List.map Ty.int sp2)∧Own t5 21 22 1 x8_2 (List.length rw2) (List.map Ty.ints rw2)∧Own t5 22 3 1 x9_2 (List.length wh2) (List.map Ty.int wh2)∧(j ≤ G.length)∧(i < sp2.length)∧(Orb n k G sp2 rw2 wh2 i j)∧n5 = G.length - j) (G.length - (0)) ?_ ?_
     ·
      exact ⟨s16,0,sp,rw1,wh,x7_1,x8_1,x9_1,rfl,(F17.step0 D12.stp),ok17,(cJ (D12.m 0 rfl)),(D12.k q98),(D12.k q99),(D12.k q100),(D12.k (D11.k q88)),(D12.k q101),(D12.k q102),(D12.k q103),(D12.k q104),(D12.k q105),(cvo (by (simp)) (by (simp)) o31),(cvo (by (simp)) (by (simp)) o32),(cvo (by (simp)) (by (simp)) o33),by omega,by omega,hO,rfl⟩
     ·
      rintro n6 a21 w6 ⟨t6,j,sp2,rw2,wh2,x7_2,x8_2,x9_2,rfl,F19,ok18,q117,q118,q119,q120,q121,q122,q123,q124,q125,q126,o34,o35,o36,hj,hil,hO2,rfl⟩
      have hsl2:=hO2.spl oM
      have hrl2:=hO2.len
      have hwl2:=hO2.whl
      refine wp_seq (wp_seq ?_)
      refine gI a21 t6 ok18 (gM q117 (gM q123 (gS rfl (fun A B E H I d0=>rP (y_len Try.underlying24 (eI d0))) (gS rfl (fun A B E H I d0 d1=>rP (y_lss (eI d0) (eI d1))) (gE ok18 fun a22 s17 ok19 D13=>?_)))));have F20:=F19.step0 D13.stp;have q127:=D13.k q117;have q128:=D13.k q118;have q129:=D13.k q119;have q130:=D13.k q120;have q131:=D13.k q121;have q132:=D13.k q122;have q133:=D13.k q123;have q134:=D13.k q124;have q135:=D13.k q125;have q136:=D13.k q126;have o37:=Own.k0 o34 D13.stp;have o38:=Own.k0 o35 D13.stp;have o39:=Own.k0 o36 D13.stp;refine tn ?_
      refine cond_p (p:=(((j:Nat):Int) < (((List.length G):Nat):Int))) (D13.m 3 rfl) (fun c3=>?_) (fun c3=>?_)
      ·
       obtain ⟨hg1,hg2,hg3,hg4,hg5⟩:=hO2.go3 oM hGr hil oM
       refine wp_skip (tn (wp_seq (wp_block (wp_seq ?_))))
       refine gI a22 s17 ok19 (gM q133 (gM q127 (gT (Ty.ref [(Ty.lst Ty.int (G.getD j []))]) rfl (fun A B E H I d0 d1=>rP (y_index1 Try.underlying24 Try.inf22 (eI d0) (eI d1) oM (lst_get Ty.ints G [] j oM))) (gS rfl (fun A B E H I d0=>rP (y_load Try.underlying22 rfl (eI d0) rfl)) (gM q128 (gM q131 (gT (Ty.val (cellPtr x7_2 i)) rfl (fun A B E H I d0 d1=>rP (own_index1 (i:=((i:Nat):Int)) Try.underlying22 Try.inf3 (Own.k0 o37 E) (eI d0) (eI d1) oM oM)) (gS rfl (fun A B E H I d0=>rP (own_load Try.underlying3 rfl (Own.k0 o37 E) (eI d0) (lst_get Ty.int sp2 0 i (by first | omega | (simp only [List.length_replicate];omega))))) (gT (Ty.ref [(Ty.int ((G.getD j []).getD ((sp2.getD i 0)).toNat 0))]) rfl (fun A B E H I d0 d1=>rP (y_index1 Try.underlying22 Try.inf3 (eI d0) (eI d1) oM (lst_get Ty.int (G.getD j []) 0 ((sp2.getD i 0)).toNat oM))) (gS rfl (fun A B E H I d0=>rP (y_load Try.underlying3 rfl (eI d0) rfl)) (gB 0 (gE ok19 fun a23 s18 ok20 D14=>?_))))))))))));have q141:=D14.k q130;have o40:=Own.k0 o37 D14.stp;have o41:=Own.k0 o38 D14.stp;have o42:=Own.k0 o39 D14.stp;have q148:=D14.m 10 rfl;refine tn (wp_seq ?_)
       refine gI a23 s18 ok20 (gM q141 (gM q148 (gT (Ty.val (cellPtr x9_2 (((G.getD j []).getD ((sp2.getD i 0)).toNat 0)).toNat)) rfl (fun A B E H I d0 d1=>rP (own_index1 (i:=((G.getD j []).getD ((sp2.getD i 0)).toNat 0)) Try.underlying22 Try.inf3 (Own.k0 o42 E) (eI d0) (eI d1) oM oM)) (gS rfl (fun A B E H I d0=>rP (own_load Try.underlying3 rfl (Own.k0 o42 E) (eI d0) (lst_get Ty.int wh2 0 (((G.getD j []).getD ((sp2.getD i 0)).toNat 0)).toNat (by first | omega | (simp only [List.length_replicate];omega))))) (gS rfl (fun A B E H I d0=>rP (y_eql (eI d0) rfl)) (gE ok20 fun a24 s19 ok21 D15=>?_))))));have F22:=(F20.step0 D14.stp).step0 D15.stp;have q149:=D15.k (D14.k q127);have q150:=D15.k (D14.k q128);have q151:=D15.k (D14.k q129);have q152:=D15.k q141;have q153:=D15.k (D14.k q131);have q154:=D15.k (D14.k q132);have q155:=D15.k (D14.k q133);have q156:=D15.k (D14.k q134);have q157:=D15.k (D14.k q135);have q158:=D15.k (D14.k q136);have q159:=D15.k q148;have o43:=Own.k0 o40 D15.stp;have o44:=Own.k0 o41 D15.stp;have o45:=Own.k0 o42 D15.stp;refine tn ?_
       refine cond_p (p:=((wh2.getD (((G.getD j []).getD ((sp2.getD i 0)).toNat 0)).toNat 0) = (0:Int))) (D15.m 4 rfl) (fun c4=>?_) (fun c4=>?_)
       ·
        refine wp_seq ?_
        refine gI a24 s19 ok21 (gM q152 (gM q159 (gM q150 (gT (Ty.nat (List.length sp2)) rfl (fun A B E H I d0=>rP (own_len Try.underlying22 (al (R:=(Pr.own 20 3 1 (List.length sp2) (List.map Ty.int sp2))) (eI d0) (Own.k0 o43 E)))) (gT (Ty.nat ((List.length sp2) + 1)) rfl (fun A B E H I d0=>rP ((y_add (eI d0) rfl wX).mono (fun τ _ h=>cN (σ:=τ) h))) (gT (Ty.val (cellPtr x9_2 (((G.getD j []).getD ((sp2.getD i 0)).toNat 0)).toNat)) rfl (fun A B E H I d0 d1 d2 d3 d4 d5 d6=>rP (own_index1 (i:=((G.getD j []).getD ((sp2.getD i 0)).toNat 0)) Try.underlying22 Try.inf3 (Own.k0 o45 E) (eI d0) (eI d1) oM oM)) (gE2 ok21 fun a25 s20 ok22 D16=>?_)))))));have o46:=Own.k0 o43 D16.stp;have o47:=Own.k0 o44 D16.stp;have o48:=Own.k0 o45 D16.stp
        refine tailL0 (L:=[22]) (R:=(fun _ τ=>Own τ 22 3 1 x9_2 (List.length wh2) ((List.map Ty.int wh2).set (((G.getD j []).getD ((sp2.getD i 0)).toNat 0)).toNat (Ty.nat ((List.length sp2) + 1))))) rfl rfl (YldM.toL (m_store Try.inf3 dE o48 (D16.m 5 rfl) (by simp only [List.length_map,List.length_set];first | omega | (simp only [List.length_replicate];omega)) (D16.m 4 rfl) (one_val rfl))) (fun v2 s21 hs5 r5=>?_)
        have q174:=kpL hs5 dE rfl (D16.k q149);have q175:=kpL hs5 dE rfl (D16.k q150);have q176:=kpL hs5 dE rfl (D16.k q151);have q177:=kpL hs5 dE rfl (D16.k q152);have q178:=kpL hs5 dE rfl (D16.k q153);have q179:=kpL hs5 dE rfl (D16.k q154);have q180:=kpL hs5 dE rfl (D16.k q155);have q181:=kpL hs5 dE rfl (D16.k q156);have q182:=kpL hs5 dE rfl (D16.k q157);have q183:=kpL hs5 dE rfl (D16.k q158);have q184:=kpL hs5 dE rfl (D16.k q159)
        have o49:Own s21 22 3 1 x9_2 (List.length (wh2.set (((G.getD j []).getD ((sp2.getD i 0)).toNat 0)).toNat ((((List.length sp2) + 1):Nat):Int))) (List.map Ty.int (wh2.set (((G.getD j []).getD ((sp2.getD i 0)).toNat 0)).toNat ((((List.length sp2) + 1):Nat):Int))):=(cvo (by simp) (by first | (simp;done) | (rw [List.map_set];done) | (rw [List.map_set];rfl)) r5)
        clear r5;refine wpList_nil (tn (wp_seq ?_))
        refine gI a25 s21 ok22 (gM q175 (gM q184 (gT (Ty.sl 1 1 [(Ty.int ((G.getD j []).getD ((sp2.getD i 0)).toNat 0))]) rfl (fun A B E H I d0=>rP (y_build1o Try.underlying22 Try.inf3 rfl (one_val rfl) (eI d0))) (gE2 ok22 fun a26 s22 ok23 D17=>?_))));have o52:=Own.k0 (Own.kl o46 hs5) D17.stp;have o53:=Own.k0 (Own.kl o47 hs5) D17.stp;have o54:=Own.k0 o49 D17.stp
        have q196:At (Ty.val x7_2) s22 a26 (.tmp 64):=D17.done 0 dE
        have q197:=D17.m 2 rfl
        have b2:=sl_le q197
        refine tL ok23 (YldM.toL (m_append Try.underlying22 Try.inf3 dE rfl dE (al (R:=(Pr.own 20 3 1 (List.length sp2) (List.map Ty.int sp2))) q196 o52) q197 (by intro U hU;simp at hU;subst hU;exact one_val rfl) oM oM)) fun a27 s23 hs6 ok24 r6 sm4=>?_
        have q199:=kq hs6 sm4 7 (D17.k q175)
        obtain ⟨x4,hx4⟩:∃ x,a27.eval (.tmp 67) = x:=⟨_,rfl⟩
        have q208:At (Ty.val x4) s23 a27 (.tmp 67):=hx4
        have o55:=al2 (R:=(Pr.own 20 3 1 (List.length (sp2 ++ [((G.getD j []).getD ((sp2.getD i 0)).toNat 0)])) (List.map Ty.int (sp2 ++ [((G.getD j []).getD ((sp2.getD i 0)).toNat 0)])))) hx4 (cvo (by simp) (by first | (rw [List.map_append];rfl) | simp) r6)
        clear r6
        refine tL ok24 (Yld.toL (y_as q208)) fun a28 s24 hs7 ok25 r7 sm5=>?_
        have q209:=kq hs7 sm5 12 (kq hs6 sm4 12 (D17.k q174));have q210:=kq hs7 sm5 8 (kq hs6 sm4 8 (D17.k q176));have q212:=kq hs7 sm5 11 (kq hs6 sm4 11 (D17.k q178));have q214:=kq hs7 sm5 1 (kq hs6 sm4 1 (D17.k q180));have o58:=Own.kl (Own.kl o53 hs6) hs7
        have q218:At (Ty.val x4) s24 a28 (.tmp 7):=r7
        clear r7;refine wpList_nil (tn ?_)
        refine gI a28 s24 ok25 (gM q210 (gM q214 (gM q209 (gT (Ty.ref [(Ty.lst Ty.int (G.getD j []))]) rfl (fun A B E H I d0 d1=>rP (y_index1 Try.underlying24 Try.inf22 (eI d0) (eI d1) oM (lst_get Ty.ints G [] j oM))) (gS rfl (fun A B E H I d0=>rP (y_load Try.underlying22 rfl (eI d0) rfl)) (gM q210 (gM q212 (gT (Ty.val (cellPtr x8_2 i)) rfl (fun A B E H I d0 d1=>rP (own_index1 (i:=((i:Nat):Int)) Try.underlying24 Try.inf22 (Own.k0 o58 E) (eI d0) (eI d1) oM oM)) (gS rfl (fun A B E H I d0=>rP (own_load Try.underlying22 rfl (Own.k0 o58 E) (eI d0) (lst_get Ty.ints rw2 [] i (by first | omega | (simp only [List.length_replicate];omega))))) (gS rfl (fun A B E H I d0 d1=>rP (y_call _ Try.func22 rfl rfl my2 (rBy_fn ((G.getD j [])) ((rw2.getD i [])) _ _ _ (eI d0) (eI d1) (by first | assumption | omega) (by first | assumption | omega)))) (gT (Ty.sl 1 1 [(Ty.lst Ty.int (byL ((G.getD j [])) ((rw2.getD i []))))]) rfl (fun A B E H I d0=>rP (y_build1o Try.underlying24 Try.inf22 rfl (one_sl) (eI d0))) (gE2 ok25 fun a29 s25 ok26 D18=>?_))))))))))));have o61:=Own.k0 o58 D18.stp;have o62:=Own.k0 (Own.kl (Own.kl o54 hs6) hs7) D18.stp;have o63:=Own.k0 (Own.kl o55 hs7) D18.stp
        have q229:At (Ty.val x8_2) s25 a29 (.tmp 68):=D18.done 0 dE
        have q230:=D18.m 10 rfl
        have b3:=sl_le q230
        refine tL ok26 (YldM.toL (m_append Try.underlying24 Try.inf22 dE rfl dE (al (R:=(Pr.own 21 22 1 (List.length rw2) (List.map Ty.ints rw2))) q229 o61) q230 (by intro U hU;simp at hU;subst hU;exact one_sl) oM oM)) fun a30 s26 hs8 ok27 r8 sm6=>?_
        have q232:=kq hs8 sm6 8 (D18.k q210)
        obtain ⟨x5,hx5⟩:∃ x,a30.eval (.tmp 79) = x:=⟨_,rfl⟩
        have q241:At (Ty.val x5) s26 a30 (.tmp 79):=hx5
        have o64:=al2 (R:=(Pr.own 21 22 1 (List.length (rw2 ++ [(byL ((G.getD j [])) ((rw2.getD i [])))])) (List.map Ty.ints (rw2 ++ [(byL ((G.getD j [])) ((rw2.getD i [])))])))) hx5 (cvo (by simp) (by first | (rw [List.map_append];rfl) | simp) r8)
        clear r8
        refine tL ok27 (Yld.toL (y_as q241)) fun a31 s27 hs9 ok28 r9 sm7=>?_
        have q251:At (Ty.val x5) s27 a31 (.tmp 8):=r9
        clear r9;refine wpList_nil (bn (tn ?_))
        refine gI a31 s27 ok28 (gM (kq hs9 sm7 12 (kq hs8 sm6 12 (D18.k q209))) (gT (Ty.nat (j + 1)) rfl (fun A B E H I d0=>rP ((y_add (eI d0) rfl wX).mono (fun τ _ h=>cN (σ:=τ) h))) (gB 0 (gE ok28 fun a32 s28 ok29 D19=>?_))));have o70:=Own.k0 (Own.kl (Own.kl o62 hs8) hs9) D19.stp;have o71:=Own.k0 (Own.kl (Own.kl o63 hs8) hs9) D19.stp;have o72:=Own.k0 (Own.kl o64 hs9) D19.stp
        exact tn ⟨G.length - ((j+1)),by omega,s28,(j+1),(sp2 ++ [((G.getD j []).getD (sp2.getD i 0).toNat 0)]),(rw2 ++ [byL (G.getD j []) (rw2.getD i [])]),(wh2.set ((G.getD j []).getD (sp2.getD i 0).toNat 0).toNat (((sp2.length:Nat):Int) + 1)),x4,x5,x9_2,rfl,(((((((((F22.step0 D16.stp).sl hs5).step0 D17.stp).sl hs6).sl hs7).step0 D18.stp).sl hs8).sl hs9).step0 D19.stp),ok29,(cJ (D19.m 2 rfl)),(D19.k (kq hs9 sm7 7 (kq hs8 sm6 7 (D18.k q218)))),(D19.k q251),(D19.k (kq hs9 sm7 9 (kq hs8 sm6 9 (D18.k (kq hs7 sm5 9 (kq hs6 sm4 9 (D17.k q177))))))),(D19.k (kq hs9 sm7 11 (kq hs8 sm6 11 (D18.k q212)))),(D19.k (kq hs9 sm7 6 (kq hs8 sm6 6 (D18.k (kq hs7 sm5 6 (kq hs6 sm4 6 (D17.k q179))))))),(D19.k (kq hs9 sm7 1 (kq hs8 sm6 1 (D18.k q214)))),(D19.k (kq hs9 sm7 5 (kq hs8 sm6 5 (D18.k (kq hs7 sm5 5 (kq hs6 sm4 5 (D17.k q181))))))),(D19.k (kq hs9 sm7 0 (kq hs8 sm6 0 (D18.k (kq hs7 sm5 0 (kq hs6 sm4 0 (D17.k q182))))))),(D19.k (kq hs9 sm7 10 (kq hs8 sm6 10 (D18.k (kq hs7 sm5 10 (kq hs6 sm4 10 (D17.k q183))))))),(cvo (by (first | rfl | simp)) (by (first | rfl | simp)) o71),(cvo (by (first | rfl | simp)) (by (first | rfl | simp)) o72),(cvo (by (first | rfl | simp)) (by (first | rfl | simp)) o70),by omega,by (rw [List.length_append];omega),hO2.new oM hGr hil oM c4,rfl⟩
       ·
        refine wp_skip (bn (tn ?_))
        refine gI a24 s19 ok21 (gM q149 (gT (Ty.nat (j + 1)) rfl (fun A B E H I d0=>rP ((y_add (eI d0) rfl wX).mono (fun τ _ h=>cN (σ:=τ) h))) (gB 0 (gE ok21 fun a33 s29 ok30 D20=>?_))));have o73:=Own.k0 o43 D20.stp;have o74:=Own.k0 o44 D20.stp;have o75:=Own.k0 o45 D20.stp
        exact tn ⟨G.length - ((j+1)),by omega,s29,(j+1),sp2,rw2,wh2,x7_2,x8_2,x9_2,rfl,(F22.step0 D20.stp),ok30,(cJ (D20.m 2 rfl)),(D20.k q150),(D20.k q151),(D20.k q152),(D20.k q153),(D20.k q154),(D20.k q155),(D20.k q156),(D20.k q157),(D20.k q158),o73,o74,o75,by omega,hil,hO2.old c4,rfl⟩
      ·
       have ej:j = G.length:=oM;have hO4:=(ej ▸ hO2:Orb n k G sp2 rw2 wh2 i G.length).next
       refine wp_exit (tx (tx (bx (bn (tn ?_)))))
       refine gI a22 s17 ok19 (gM q131 (gT (Ty.nat (i + 1)) rfl (fun A B E H I d0=>rP ((y_add (eI d0) rfl wX).mono (fun τ _ h=>cN (σ:=τ) h))) (gB 0 (gE ok19 fun a34 s30 ok31 D21=>?_))));have o76:=Own.k0 o37 D21.stp;have o77:=Own.k0 o38 D21.stp;have o78:=Own.k0 o39 D21.stp
       exact tn ⟨n - ((i + 1)),by omega,s30,(i + 1),sp2,rw2,wh2,x7_2,x8_2,x9_2,rfl,(F20.step0 D21.stp),ok31,(cJ (D21.m 2 rfl)),(D21.k q128),(D21.k q129),(D21.k q130),(D21.k q132),(D21.k q133),(D21.k q134),(D21.k q135),(D21.k q136),(cvo (by (simp)) (by (simp)) o76),(cvo (by (simp)) (by (simp)) o77),(cvo (by (simp)) (by (simp)) o78),by omega,hO4,rfl⟩
    ·
     have ei:i = sp.length:=oM;have hO9:Orb n k G sp rw1 wh sp.length 0:=ei ▸ hO;have hrl9:=hO9.len;have hwl9:=hO9.whl;have hsl9:=hO9.spl oM;have hml:=hZ.mul hO9 oM hn;have hsb1:=hsb (k + 1) oM
     refine wp_exit (tx (tx (bx (tn (wp_seq (wp_seq ?_))))))
     refine gI a18 s15 ok16 (gC (Ty.int (0:Int)) (gE ok16 fun a35 s31 ok32 D22=>?_));have o79:=Own.k0 o28 D22.stp;have o80:=Own.k0 o29 D22.stp;have o81:=Own.k0 o30 D22.stp;refine tn (wp_block ?_)
     have o82:Own s31 23 22 1 (Value.slice none 0 0) 0 (List.map Ty.ints ([]:List (List Int))):=Own.nil _ _ _ _
     refine loop (fun n7 a36 w7=>∃ (t7:GW) (a:Nat) (st:(List (List Int))) (x10_3:Value),t7.w = w7∧FromL [] s0 t7∧Ok 131 [] a36∧At (Ty.nat a) t7 a36 (.tmp 14)∧At (Ty.val x10_3) t7 a36 (.tmp 10)∧At (Ty.val x7_1) t7 a36 (.tmp 7)∧At (Ty.val x8_1) t7 a36 (.tmp 8)∧At (Ty.val x9_1) t7 a36 (.tmp 9)∧At (Ty.nat k) t7 a36 (.tmp 6)∧At (Ty.lst Ty.ints G) t7 a36 (.tmp 1)∧At (Ty.nat (szTo n (fun y=>y ∈ gens) k)) t7 a36 (.tmp 5)∧At (Ty.nat n) t7 a36 (.tmp 0)∧Own t7 23 22 1 x10_3 (List.length st) (List.map Ty.ints st)∧Own t7 20 3 1 x7_1 (List.length sp) (List.map Ty.int sp)∧Own t7 21 22 1 x8_1 (List.length rw1) (List.map Ty.ints rw1)∧Own t7 22 3 1 x9_1 (List.length wh) (List.map Ty.int wh)∧(a ≤ sp.length)∧(Stl k G rw1 wh sp.length a 0 st)∧n7 = sp.length - a) (sp.length - (0)) ?_ ?_
     ·
      exact ⟨s31,0,([]:List (List Int)),(Value.slice none 0 0),rfl,(F17.step0 D22.stp),ok32,(cJ (D22.m 0 rfl)),(D22.k q105),(D22.k q98),(D22.k q99),(D22.k q100),(D22.k q101),(D22.k q102),(D22.k q103),(D22.k q104),(cvo (by (simp)) (by (simp)) o82),o79,o80,o81,by omega,Stl.start,rfl⟩
     ·
      rintro n8 a37 w8 ⟨t8,a,st,x10_3,rfl,F35,ok33,q290,q291,q292,q293,q294,q295,q296,q297,q298,o83,o84,o85,o86,ha,hS,rfl⟩
      have hstl:=hS.len
      have hag:a * G.length ≤ 12 * 1000:=Nat.mul_le_mul oM hGl
      refine wp_seq (wp_seq ?_)
      refine gI a37 t8 ok33 (gM q290 (gM q292 (gT (Ty.nat (List.length sp)) rfl (fun A B E H I d0=>rP (own_len Try.underlying22 (al (R:=(Pr.own 20 3 1 (List.length sp) (List.map Ty.int sp))) (eI d0) (Own.k0 o84 E)))) (gS rfl (fun A B E H I d0 d1=>rP (y_lss (eI d0) (eI d1))) (gE ok33 fun a38 s32 ok34 D23=>?_)))));have F36:=F35.step0 D23.stp;have q300:=D23.k q291;have q301:=D23.k q292;have q304:=D23.k q295;have q306:=D23.k q297;have q307:=D23.k q298;have o87:=Own.k0 o83 D23.stp;have o88:=Own.k0 o84 D23.stp;have o89:=Own.k0 o85 D23.stp;have o90:=Own.k0 o86 D23.stp;refine tn ?_
      refine cond_p (p:=(((a:Nat):Int) < (((List.length sp):Nat):Int))) (D23.m 3 rfl) (fun c5=>?_) (fun c5=>?_)
      ·
       refine wp_skip (tn (wp_seq (wp_block (wp_seq ?_))))
       refine gI a38 s32 ok34 (gC (Ty.int (0:Int)) (gE ok34 fun a39 s33 ok35 D24=>?_));have o91:=Own.k0 o87 D24.stp;have o92:=Own.k0 o88 D24.stp;have o93:=Own.k0 o89 D24.stp;have o94:=Own.k0 o90 D24.stp;refine tn (wp_block ?_)
       refine loop (fun n9 a40 w9=>∃ (t9:GW) (b:Nat) (st2:(List (List Int))) (x10_4:Value),t9.w = w9∧FromL [] s0 t9∧Ok 131 [] a40∧At (Ty.nat b) t9 a40 (.tmp 15)∧At (Ty.val x10_4) t9 a40 (.tmp 10)∧At (Ty.nat a) t9 a40 (.tmp 14)∧At (Ty.val x7_1) t9 a40 (.tmp 7)∧At (Ty.val x8_1) t9 a40 (.tmp 8)∧At (Ty.val x9_1) t9 a40 (.tmp 9)∧At (Ty.nat k) t9 a40 (.tmp 6)∧At (Ty.lst Ty.ints G) t9 a40 (.tmp 1)∧At (Ty.nat (szTo n (fun y=>y ∈ gens) k)) t9 a40 (.tmp 5)∧At (Ty.nat n) t9 a40 (.tmp 0)∧Own t9 23 22 1 x10_4 (List.length st2) (List.map Ty.ints st2)∧Own t9 20 3 1 x7_1 (List.length sp) (List.map Ty.int sp)∧Own t9 21 22 1 x8_1 (List.length rw1) (List.map Ty.ints rw1)∧Own t9 22 3 1 x9_1 (List.length wh) (List.map Ty.int wh)∧(b ≤ G.length)∧(Stl k G rw1 wh sp.length a b st2)∧n9 = G.length - b) (G.length - (0)) ?_ ?_
       ·
        exact ⟨s33,0,st,x10_3,rfl,(F36.step0 D24.stp),ok35,(cJ (D24.m 0 rfl)),(D24.k q300),(D24.k (D23.k q290)),(D24.k q301),(D24.k (D23.k q293)),(D24.k (D23.k q294)),(D24.k q304),(D24.k (D23.k q296)),(D24.k q306),(D24.k q307),(cvo (by (simp)) (by (simp)) o91),o92,o93,o94,by omega,hS,rfl⟩
       ·
        rintro n10 a41 w10 ⟨t10,b,st2,x10_4,rfl,F38,ok36,q319,q320,q321,q322,q323,q324,q325,q326,q327,q328,o95,o96,o97,o98,hb,hS2,rfl⟩
        have hstl2:=hS2.len
        refine wp_seq (wp_seq ?_)
        refine gI a41 t10 ok36 (gM q319 (gM q326 (gS rfl (fun A B E H I d0=>rP (y_len Try.underlying24 (eI d0))) (gS rfl (fun A B E H I d0 d1=>rP (y_lss (eI d0) (eI d1))) (gE ok36 fun a42 s34 ok37 D25=>?_)))));have F39:=F38.step0 D25.stp;have q329:=D25.k q319;have q330:=D25.k q320;have q331:=D25.k q321;have q332:=D25.k q322;have q333:=D25.k q323;have q334:=D25.k q324;have q335:=D25.k q325;have q336:=D25.k q326;have q337:=D25.k q327;have q338:=D25.k q328;have o99:=Own.k0 o95 D25.stp;have o100:=Own.k0 o96 D25.stp;have o101:=Own.k0 o97 D25.stp;have o102:=Own.k0 o98 D25.stp;refine tn ?_
        refine cond_p (p:=(((b:Nat):Int) < (((List.length G):Nat):Int))) (D25.m 3 rfl) (fun c6=>?_) (fun c6=>?_)
        ·
         obtain ⟨hg1,hg2,hg3,hg4,hg5,hg6,hg7,hg8,hg9,hg10,hg11⟩:=hO9.go5 (a:=a) (b:=b) oM hn hGr oM oM
         refine wp_skip (tn (wp_seq (wp_block (wp_seq ?_))))
         refine gI a42 s34 ok37 (gM q336 (gM q329 (gT (Ty.ref [(Ty.lst Ty.int (G.getD b []))]) rfl (fun A B E H I d0 d1=>rP (y_index1 Try.underlying24 Try.inf22 (eI d0) (eI d1) oM (lst_get Ty.ints G [] b oM))) (gS rfl (fun A B E H I d0=>rP (y_load Try.underlying22 rfl (eI d0) rfl)) (gM q333 (gM q331 (gT (Ty.val (cellPtr x8_1 a)) rfl (fun A B E H I d0 d1=>rP (own_index1 (i:=((a:Nat):Int)) Try.underlying24 Try.inf22 (Own.k0 o101 E) (eI d0) (eI d1) oM oM)) (gS rfl (fun A B E H I d0=>rP (own_load Try.underlying22 rfl (Own.k0 o101 E) (eI d0) (lst_get Ty.ints rw1 [] a (by first | omega | (simp only [List.length_replicate];omega))))) (gS rfl (fun A B E H I d0 d1=>rP (y_call _ Try.func22 rfl rfl my2 (rBy_fn ((G.getD b [])) ((rw1.getD a [])) _ _ _ (eI d0) (eI d1) (by first | assumption | omega) (by first | assumption | omega)))) (gB 0 (gE ok37 fun a43 s35 ok38 D26=>?_)))))))))));have q344:=D26.k q333;have q345:=D26.k q334;have q346:=D26.k q335;have o103:=Own.k0 o99 D26.stp;have o104:=Own.k0 o100 D26.stp;have o105:=Own.k0 o101 D26.stp;have o106:=Own.k0 o102 D26.stp;have q350:=D26.m 9 rfl;refine tn (wp_seq ?_)
         refine gI a43 s35 ok38 (gM q344 (gM q345 (gM q350 (gM q346 (gT (Ty.ref [(Ty.int ((byL ((G.getD b [])) ((rw1.getD a []))).getD k 0))]) rfl (fun A B E H I d0 d1=>rP (y_index1 Try.underlying22 Try.inf3 (eI d0) (eI d1) oM (lst_get Ty.int (byL ((G.getD b [])) ((rw1.getD a []))) 0 k oM))) (gS rfl (fun A B E H I d0=>rP (y_load Try.underlying3 rfl (eI d0) rfl)) (gT (Ty.val (cellPtr x9_1 (((byL ((G.getD b [])) ((rw1.getD a []))).getD k 0)).toNat)) rfl (fun A B E H I d0 d1=>rP (own_index1 (i:=((byL ((G.getD b [])) ((rw1.getD a []))).getD k 0)) Try.underlying22 Try.inf3 (Own.k0 o106 E) (eI d0) (eI d1) oM oM)) (gS rfl (fun A B E H I d0=>rP (own_load Try.underlying3 rfl (Own.k0 o106 E) (eI d0) (lst_get Ty.int wh 0 (((byL ((G.getD b [])) ((rw1.getD a []))).getD k 0)).toNat (by first | omega | (simp only [List.length_replicate];omega))))) (gT (Ty.int ((wh.getD (((byL ((G.getD b [])) ((rw1.getD a []))).getD k 0)).toNat 0) - (1:Int))) rfl (fun A B E H I d0=>rP (y_sub (eI d0) rfl wX)) (gT (Ty.val (cellPtr x8_1 (((wh.getD (((byL ((G.getD b [])) ((rw1.getD a []))).getD k 0)).toNat 0) - (1:Int))).toNat)) rfl (fun A B E H I d0 d1=>rP (own_index1 (i:=((wh.getD (((byL ((G.getD b [])) ((rw1.getD a []))).getD k 0)).toNat 0) - (1:Int))) Try.underlying24 Try.inf22 (Own.k0 o105 E) (eI d0) (eI d1) oM oM)) (gS rfl (fun A B E H I d0=>rP (own_load Try.underlying22 rfl (Own.k0 o105 E) (eI d0) (lst_get Ty.ints rw1 [] (((wh.getD (((byL ((G.getD b [])) ((rw1.getD a []))).getD k 0)).toNat 0) - (1:Int))).toNat (by first | omega | (simp only [List.length_replicate];omega))))) ?_)))))))))))
         refine gS rfl (fun A B E H I d0=>rP (y_call _ Try.func23 rfl rfl my1 (rUndo_fn ((rw1.getD (((wh.getD (((byL ((G.getD b [])) ((rw1.getD a []))).getD k 0)).toNat 0) - (1:Int))).toNat [])) _ _ (eI d0) (by assumption)))) (gM q350 (gS rfl (fun A B E H I d0 d1 d2=>rP (y_call _ Try.func22 rfl rfl my2 (rBy_fn ((undoL ((rw1.getD (((wh.getD (((byL ((G.getD b [])) ((rw1.getD a []))).getD k 0)).toNat 0) - (1:Int))).toNat [])))) ((byL ((G.getD b [])) ((rw1.getD a [])))) _ _ _ (eI d0) (eI d1) (by first | assumption | omega) (by first | assumption | omega)))) (gB 0 (gE ok38 fun a44 s36 ok39 D27=>?_))));have q352:=D27.k (D26.k q330);have o107:=Own.k0 o103 D27.stp;have o108:=Own.k0 o104 D27.stp;have o109:=Own.k0 o105 D27.stp;have o110:=Own.k0 o106 D27.stp
         have q362:At (Ty.lst Ty.int (stl k G rw1 wh a b)) s36 a44 (.tmp 17):=(cvt (by (rfl)) (D27.m 14 rfl))
         refine tn ?_
         refine gI a44 s36 ok39 (gM q352 (gM q362 (gT (Ty.sl 1 1 [(Ty.lst Ty.int (stl k G rw1 wh a b))]) rfl (fun A B E H I d0=>rP (y_build1o Try.underlying24 Try.inf22 rfl (one_sl) (eI d0))) (gE2 ok39 fun a45 s37 ok40 D28=>?_))));have o111:=Own.k0 o107 D28.stp;have o112:=Own.k0 o108 D28.stp;have o113:=Own.k0 o109 D28.stp;have o114:=Own.k0 o110 D28.stp
         have q373:At (Ty.val x10_4) s37 a45 (.tmp 115):=D28.done 0 dE
         have q374:=D28.m 2 rfl
         have b4:=sl_le q374
         refine tL ok40 (YldM.toL (m_append Try.underlying24 Try.inf22 dE rfl dE (al (R:=(Pr.own 23 22 1 (List.length st2) (List.map Ty.ints st2))) q373 o111) q374 (by intro U hU;simp at hU;subst hU;exact one_sl) oM oM)) fun a46 s38 hs10 ok41 r10 sm8=>?_
         have q376:=kq hs10 sm8 10 (D28.k q352)
         obtain ⟨x6,hx6⟩:∃ x,a46.eval (.tmp 118) = x:=⟨_,rfl⟩
         have q385:At (Ty.val x6) s38 a46 (.tmp 118):=hx6
         have o115:=al2 (R:=(Pr.own 23 22 1 (List.length (st2 ++ [(stl k G rw1 wh a b)])) (List.map Ty.ints (st2 ++ [(stl k G rw1 wh a b)])))) hx6 (cvo (by simp) (by first | (rw [List.map_append];rfl) | simp) r10)
         clear r10
         refine tL ok41 (Yld.toL (y_as q385)) fun a47 s39 hs11 ok42 r11 sm9=>?_
         have q395:At (Ty.val x6) s39 a47 (.tmp 10):=r11
         clear r11;refine wpList_nil (bn (tn ?_))
         refine gI a47 s39 ok42 (gM (kq hs11 sm9 15 (kq hs10 sm8 15 (D28.k (D27.k (D26.k q329))))) (gT (Ty.nat (b + 1)) rfl (fun A B E H I d0=>rP ((y_add (eI d0) rfl wX).mono (fun τ _ h=>cN (σ:=τ) h))) (gB 0 (gE ok42 fun a48 s40 ok43 D29=>?_))));have o123:=Own.k0 (Own.kl (Own.kl o112 hs10) hs11) D29.stp;have o124:=Own.k0 (Own.kl (Own.kl o113 hs10) hs11) D29.stp;have o125:=Own.k0 (Own.kl (Own.kl o114 hs10) hs11) D29.stp;have o126:=Own.k0 (Own.kl o115 hs11) D29.stp
         exact tn ⟨G.length - ((b+1)),by omega,s40,(b+1),(st2 ++ [stl k G rw1 wh a b]),x6,rfl,((((((F39.step0 D26.stp).step0 D27.stp).step0 D28.stp).sl hs10).sl hs11).step0 D29.stp),ok43,(cJ (D29.m 2 rfl)),(D29.k q395),(D29.k (kq hs11 sm9 14 (kq hs10 sm8 14 (D28.k (D27.k (D26.k q331)))))),(D29.k (kq hs11 sm9 7 (kq hs10 sm8 7 (D28.k (D27.k (D26.k q332)))))),(D29.k (kq hs11 sm9 8 (kq hs10 sm8 8 (D28.k (D27.k q344))))),(D29.k (kq hs11 sm9 9 (kq hs10 sm8 9 (D28.k (D27.k q345))))),(D29.k (kq hs11 sm9 6 (kq hs10 sm8 6 (D28.k (D27.k q346))))),(D29.k (kq hs11 sm9 1 (kq hs10 sm8 1 (D28.k (D27.k (D26.k q336)))))),(D29.k (kq hs11 sm9 5 (kq hs10 sm8 5 (D28.k (D27.k (D26.k q337)))))),(D29.k (kq hs11 sm9 0 (kq hs10 sm8 0 (D28.k (D27.k (D26.k q338)))))),(cvo (by (simp)) (by (simp)) o126),o123,o124,o125,by omega,hS2.step oM oM,rfl⟩
        ·
         have eb:b = G.length:=oM;have hS4:=(eb ▸ hS2:Stl k G rw1 wh sp.length a G.length st2).next
         refine wp_exit (tx (tx (bx (bn (tn ?_)))))
         refine gI a42 s34 ok37 (gM q331 (gT (Ty.nat (a + 1)) rfl (fun A B E H I d0=>rP ((y_add (eI d0) rfl wX).mono (fun τ _ h=>cN (σ:=τ) h))) (gB 0 (gE ok37 fun a49 s41 ok44 D30=>?_))));have o127:=Own.k0 o99 D30.stp;have o128:=Own.k0 o100 D30.stp;have o129:=Own.k0 o101 D30.stp;have o130:=Own.k0 o102 D30.stp
         exact tn ⟨sp.length - ((a+1)),by omega,s41,(a+1),st2,x10_4,rfl,(F39.step0 D30.stp),ok44,(cJ (D30.m 2 rfl)),(D30.k q330),(D30.k q332),(D30.k q333),(D30.k q334),(D30.k q335),(D30.k q336),(D30.k q337),(D30.k q338),(cvo (by (simp)) (by (simp)) o127),o128,o129,o130,by omega,hS4,rfl⟩
      ·
       have ea:a = sp.length:=oM;have hS9:Stl k G rw1 wh sp.length sp.length 0 st:=ea ▸ hS;obtain ⟨hst1,hst2⟩:=hO9.still oM hn hGr hS9
       refine wp_exit (tx (tx (bx (tn (wp_seq ?_)))))
       refine gI a38 s32 ok34 (gM q306 (gM q301 (gT (Ty.nat (List.length sp)) rfl (fun A B E H I d0=>rP (own_len Try.underlying22 (al (R:=(Pr.own 20 3 1 (List.length sp) (List.map Ty.int sp))) (eI d0) (Own.k0 o88 E)))) (gT (Ty.nat ((szTo n (fun y=>y ∈ gens) k) * (List.length sp))) rfl (fun A B E H I d0 d1=>rP ((y_mul (eI d0) (eI d1) wX).mono (fun τ _ h=>cN (σ:=τ) h))) (gB 0 (gE ok34 fun a50 s42 ok45 D31=>?_))))));have o131:=Own.k0 o87 D31.stp;have o132:=Own.k0 o88 D31.stp;have o133:=Own.k0 o89 D31.stp;have o134:=Own.k0 o90 D31.stp
       have q419:At (Ty.nat (szTo n (fun y=>y ∈ gens) (k + 1))) s42 a50 (.tmp 5):=(cvi (by (rw [hml])) (D31.m 4 rfl))
       refine tn (wp_seq ?_)
       obtain ⟨t11,e1,h1,q420⟩:=Own.seal o131 dE
       rw [← e1]
       have F48:=(F36.step0 D31.stp).step h1 dE
       have q421:At (Ty.lst Ty.ints st) t11 a50 (.tmp 10):=by have e:a50.eval (.tmp 10) = x10_3:=(D31.k q300);show Ty.has _ _ _;rw [e];exact q420
       have q422:=Ty.up (Ty.nat k) (h1.le dE) (D31.k q304);have q423:=Ty.up (Ty.nat n) (h1.le dE) (D31.k q307);have q424:=Ty.up (Ty.nat (szTo n (fun y=>y ∈ gens) (k + 1))) (h1.le dE) q419
       refine gI a50 t11 ok45 (gM q423 (gM q421 (gM q422 (gT (Ty.nat (k + 1)) rfl (fun A B E H I d0=>rP ((y_add (eI d0) rfl wX).mono (fun τ _ h=>cN (σ:=τ) h))) (gE2 ok45 fun a51 s43 ok46 D32=>?_)))))
       refine tL ok46 (y_callL (L:=[]) [] [] _ rfl dE Try.func66 rfl rfl my3 (rThin_fn (n) (st) ((k + 1)) _ lW _ _ _ (uL (D32.m 0 rfl)) (uL (D32.m 1 rfl)) (uL (cvi (σ:=s43) oX (D32.m 3 rfl)))  oX oX oX oX)) fun a52 s44 hs12 ok47 r12 sm10=>?_
       obtain ⟨t12,⟨g1,hT1,hp1⟩,B1⟩:=r12
       have q434:At (Ty.lst Ty.ints (outT (g1) (n * n))) s44 a52 (.tmp 127):=Ty.up _ B1.le hT1
       refine tL ok47 (Yld.toL (y_as q434)) fun a53 s45 hs13 ok48 r13 sm11=>?_
       have q438:At (Ty.lst Ty.ints (outT (g1) (n * n))) s45 a53 (.tmp 1):=r13
       clear r13;refine wpList_nil ?_
       obtain ⟨ho1,ho2,ho3⟩:=Thin.done hp1 hst1
       have hnn1:n * n ≤ 144:=Nat.mul_le_mul hn12 hn12
       have hZ2:=hZ.step hst2 ho1 ho2 oM
       refine tn ?_
       refine gI a53 s45 ok48 (gM (kq hs13 sm11 6 (kq hs12 sm10 6 (D32.k q422))) (gT (Ty.nat (k + 1)) rfl (fun A B E H I d0=>rP ((y_add (eI d0) rfl wX).mono (fun τ _ h=>cN (σ:=τ) h))) (gB 0 (gE ok48 fun a54 s46 ok49 D33=>?_))));refine bn ?_
       exact tn ⟨n - ((k+1)),by omega,s46,(k+1),(outT g1 (n * n)),rfl,((((F48.step0 D32.stp).sl hs12).sl hs13).step0 D33.stp),ok49,(cJ (D33.m 2 rfl)),(cvt (by (first | rfl | omega | (simp_all;done) | (simp_all;omega))) (D33.k q438)),(cJ (D33.k (kq hs13 sm11 5 (kq hs12 sm10 5 (D32.k q424))))),(D33.k (kq hs13 sm11 0 (kq hs12 sm10 0 (D32.k q423)))),by omega,hZ2,rfl⟩
  ·
   refine wp_exit (tx (tx (bx (tn (wp_seq ?_)))))
   refine gI a6 s4 ok5 (gM q16 (gB 0 (gE ok5 fun a55 s47 ok50 D34=>?_)));refine tn (wp_ret ?_)
   exact retL1 rfl ok50 (F5.step0 D34.stp) (cvi (by (rw [show k = n by omega])) (D34.m 1 rfl))
theorem rSizesZ_fn (n:Int) (gens:List (List Int)) (σ:GW) (v0 v1:Value) (hv0:Ty.has (Ty.int n) σ v0) (hv1:Ty.has (Ty.lst Ty.ints gens) σ v1) (h0:gensMay n gens = 0) :
    FnC Try.prog 20 #[v0,v1] σ (Ty.nat (szTo n.toNat (fun y=>y ∈ gens) n.toNat)):=by
  obtain ⟨m,rfl⟩:=may_int h0
  obtain ⟨hn,hl,hG⟩:=may_nat h0
  rw [Int.toNat_natCast]
  exact rSizes_fn m gens σ v0 v1 hv0 hv1 hn hG oM
theorem Try.inf135:Info Try.prog 135 (.agg (Array.replicate 12 (.int .i64 0))) 12 96:=by unfold Info;kernel_rfl
set_option maxRecDepth 100000 in
theorem rowCheck_fn (r:List Int) (σ:GW) (v0:Value) (hv0:Ty.has (Ty.lst Ty.int r) σ v0)  :
    FnC Try.prog 72 #[v0] σ (Ty.int (rowMay r)):=by
 refine fn_intro Try.func72 rfl Try.ntmps72 (Nat.le_of_ble_eq_true rfl) (fun s0 a0 hle F0 ok0 hargs=>?_)
 have p0:=pA hle (hargs 0 _ rfl) hv0
 have b1:=sl_le p0
 clear hargs;refine wp_seq ?_
 refine gI a0 s0 ok0 (gC (Ty.int (0:Int)) (gE ok0 fun a1 s1 ok1 D1=>?_));have q1:=D1.k p0;refine tn (wp_seq (wp_seq ?_))
 refine gI a1 s1 ok1 (gM q1 (gS rfl (fun A B E H I d0=>rP (y_len Try.underlying22 (eI d0))) (gS rfl (fun A B E H I d0=>rP (y_lss (eI d0) rfl)) (gS rfl (fun A B E H I d0=>rP (y_move (eI d0))) (gS rfl (fun A B E H I d0=>gu H (eI d0) fun hg=>y_move (kp (I 0 rfl) E q1)) (gS rfl (fun A B E H I d0 d1=>gu H (eI d1) fun hg=>y_len Try.underlying22 ((ef d0 rfl).1 hg)) (gS rfl (fun A B E H I d0 d1=>gu H (eI d1) fun hg=>y_gtr ((ef d0 rfl).1 hg) rfl) (gS rfl (fun A B E H I d0 d1=>rP (y_pick_or (eI d0) rfl (eI d1))) (gE ok1 fun a2 s2 ok2 D2=>?_)))))))));have F2:=(F0.step0 D1.stp).step0 D2.stp;refine tn ?_
 refine cond_t (D2.m 7 rfl) (fun c1=>?_) (fun c1=>?_)
 ·
  simp only [Bool.or_eq_true,decide_eq_true_eq] at c1
  refine wp_seq ?_
  refine gI a2 s2 ok2 (gC (Ty.int (1:Int)) (gE ok2 fun a3 s3 ok3 D3=>?_));refine tn (wp_ret (tr ?_))
  exact ret1 rfl ok3 (F2.step0 D3.stp) (cvi (by (exact (rowMay_cnt oM).symm)) (D3.m 0 rfl))
 ·
  obtain ⟨d1,d2⟩:=Bool.or_eq_false_iff.mp c1
  replace d1:=of_decide_eq_false d1
  replace d2:=of_decide_eq_false d2
  refine wp_skip (tn (wp_seq ?_))
  refine gI a2 s2 ok2 (gR (Pr.ownp 11 (List.map Ty.int (List.replicate 12 0))) rfl (by intro A B E H I;exact rP (y_alloc Try.inf135 (by simp [Value.cells]) (alloc_zero 12 (by intro σ;exact rfl)))) (gE ok2 fun a4 s4 ok4 D4=>?_));have q5:=D4.k (D2.k q1)
  have q6:(Pr.ownp 11 (List.map Ty.int (List.replicate 12 0))).has s4 (a4.eval (.tmp 3)):=D4.done 0
  refine tn (wp_seq (wp_seq ?_))
  refine gI a4 s4 ok4 (gM q5 (gS rfl (fun A B E H I d0=>rP (y_len Try.underlying22 (eI d0))) (gT (Ty.int (0:Int)) rfl (fun A B E H I=>rP (y_move rfl)) (gE ok4 fun a5 s5 ok5 D5=>?_))))
  have q8:(Pr.ownp 11 (List.map Ty.int (List.replicate 12 0))).has s5 (a5.eval (.tmp 3)):=D5.ko q6 rfl
  refine tn (wp_block ?_)
  refine loop (fun n1 a6 w1=>∃ (t1:GW) (k:Nat),t1.w = w1∧From s0 t1∧Ok 40 [] a6∧At (Ty.nat k) t1 a6 (.tmp 16)∧(Pr.ownp 11 (List.map Ty.int (seenL r k))).has t1 (a6.eval (.tmp 3))∧At (Ty.lst Ty.int r) t1 a6 (.tmp 0)∧At (Ty.lst Ty.int r) t1 a6 (.tmp 14)∧At (Ty.nat (List.length r)) t1 a6 (.tmp 15)∧(k ≤ r.length)∧(Upto r k)∧n1 = r.length - k) (r.length - (0)) ?_ ?_
  ·
   exact ⟨s5,0,rfl,((F2.step0 D4.stp).step0 D5.stp),ok5,(cJ (D5.m 2 rfl)),(cvop (by (rw [seenL_zero])) q8),(D5.k q5),(D5.m 0 rfl),(D5.m 1 rfl),by omega,Upto.zero r,rfl⟩
  ·
   rintro n2 a7 w2 ⟨t2,k,rfl,F6,ok6,q12,q13,q14,q15,q16,hk,hu,rfl⟩
   have E:=seenL_len r k
   refine wp_seq ?_
   refine gI a7 t2 ok6 (gS rfl (fun A B E H I=>rP (y_lss (kp (I 16 rfl) E q12) (kp (I 15 rfl) E q16))) (gE ok6 fun a8 s6 ok7 D6=>?_));have F7:=F6.step0 D6.stp;have q17:=D6.k q12
   have q18:(Pr.ownp 11 (List.map Ty.int (seenL r k))).has s6 (a8.eval (.tmp 3)):=D6.ko q13 rfl
   have q20:=D6.k q15;refine tn (wp_seq ?_)
   refine cond_p (p:=(((k:Nat):Int) < (((List.length r):Nat):Int))) (D6.m 0 rfl) (fun c2=>?_) (fun c2=>?_)
   ·
    refine wp_skip (tn (wp_seq (wp_block (wp_seq ?_))))
    refine gI a8 s6 ok7 (gT (Ty.ref [(Ty.int (r.getD k 0))]) rfl (fun A B E H I=>rP (y_index1 Try.underlying22 Try.inf3 (kp (I 14 rfl) E q20) (kp (I 16 rfl) E q17) oM (lst_get Ty.int r 0 k oM))) (gS rfl (fun A B E H I d0=>rP (y_load Try.underlying3 rfl (eI d0) rfl)) (gB 0 (gE ok7 fun a9 s7 ok8 D7=>?_))))
    have q24:(Pr.ownp 11 (List.map Ty.int (seenL r k))).has s7 (a9.eval (.tmp 3)):=D7.ko q18 rfl
    have q25:=D7.k (D6.k q14);have q28:=D7.m 2 rfl;refine tn (wp_seq (wp_seq ?_))
    refine gI a9 s7 ok8 (gM q28 (gS rfl (fun A B E H I d0=>rP (y_lss (eI d0) rfl)) (gS rfl (fun A B E H I d0=>rP (y_move (eI d0))) (gS rfl (fun A B E H I d0=>gu H (eI d0) fun hg=>y_move (kp (I 5 rfl) E q28)) (gS rfl (fun A B E H I d0=>gu H (eI d0) fun hg=>y_move (kp (I 0 rfl) E q25)) (gS rfl (fun A B E H I d0 d1=>gu H (eI d1) fun hg=>y_len Try.underlying22 ((ef d0 rfl).1 hg)) (gS rfl (fun A B E H I d0 d1 d2=>gu H (eI d2) fun hg=>y_geq ((ef d0 rfl).1 hg) ((ef d1 rfl).1 hg)) (gS rfl (fun A B E H I d0 d1=>rP (y_pick_or (eI d0) rfl (eI d1))) (gS rfl (fun A B E H I d0 d1=>rP (y_move (eI d0))) (gT (Ty.grd (((decide ((r.getD k 0) < (0:Int))) || (decide ((((List.length r):Nat):Int) ≤ (r.getD k 0)))) = false) (Ty.int (r.getD k 0))) rfl (by intro A B E H I d0;refine run_guard H rfl rfl dE (eI d0) (fun hg=>?_);obtain ⟨d3,d4⟩:=Bool.or_eq_false_iff.mp hg;have d3:=of_decide_eq_false d3;have d4:=of_decide_eq_false d4;exact y_move (kp (I 5 rfl) E q28)) (gT (Ty.grd (((decide ((r.getD k 0) < (0:Int))) || (decide ((((List.length r):Nat):Int) ≤ (r.getD k 0)))) = false) (Ty.val (ptrAt (a9.eval (.tmp 3)) ((r.getD k 0)).toNat))) rfl (by intro A B E H I d0 d1;refine run_guard H rfl rfl dE (eI d1) (fun hg=>?_);obtain ⟨d5,d6⟩:=Bool.or_eq_false_iff.mp hg;have d5:=of_decide_eq_false d5;have d6:=of_decide_eq_false d6;exact ownp_index (i:=(r.getD k 0)) Try.underlying135 Try.inf3 ((Pr.ownp 11 (List.map Ty.int (seenL r k))).up E q24) (I 3 rfl) ((ef d0 rfl).1 hg) oM oM) ?_)))))))))))
    refine gT (Ty.grd (((decide ((r.getD k 0) < (0:Int))) || (decide ((((List.length r):Nat):Int) ≤ (r.getD k 0)))) = false) (Ty.int ((seenL r k).getD ((r.getD k 0)).toNat 0))) rfl (by intro A B E H I d0 d1;refine run_guard H rfl rfl dE (eI d1) (fun hg=>?_);obtain ⟨d7,d8⟩:=Bool.or_eq_false_iff.mp hg;have d7:=of_decide_eq_false d7;have d8:=of_decide_eq_false d8;exact ownp_load Try.underlying3 rfl ((Pr.ownp 11 (List.map Ty.int (seenL r k))).up E q24) ((ef d0 rfl).1 hg) (lst_get Ty.int (seenL r k) 0 ((r.getD k 0)).toNat oM)) (gT (Ty.grd (((decide ((r.getD k 0) < (0:Int))) || (decide ((((List.length r):Nat):Int) ≤ (r.getD k 0)))) = false) (Ty.bool (decide ((0:Int) < ((seenL r k).getD ((r.getD k 0)).toNat 0))))) rfl (by intro A B E H I d0 d1;refine run_guard H rfl rfl dE (eI d1) (fun hg=>?_);obtain ⟨d9,d10⟩:=Bool.or_eq_false_iff.mp hg;have d9:=of_decide_eq_false d9;have d10:=of_decide_eq_false d10;exact y_gtr ((ef d0 rfl).1 hg) rfl) (gS rfl (fun A B E H I d0 d1=>rP (y_pick_or (eI d0) rfl (eI d1))) (gE ok8 fun a10 s8 ok9 D8=>?_)));have F9:=(F7.step0 D7.stp).step0 D8.stp
    have q30:(Pr.ownp 11 (List.map Ty.int (seenL r k))).has s8 (a10.eval (.tmp 3)):=D8.ko q24 rfl
    refine tn ?_
    refine cond_t (D8.m 13 rfl) (fun c3=>?_) (fun c3=>?_)
    ·
     simp only [Bool.or_eq_true,decide_eq_true_eq] at c3
     refine wp_seq ?_
     refine gI a10 s8 ok9 (gC (Ty.int (2:Int)) (gE ok9 fun a11 s9 ok10 D9=>?_));refine tn (wp_ret (tr (br (tr (tr (br (tr ?_)))))))
     exact ret1 rfl ok10 (F9.step0 D9.stp) (cvi (by (by_cases hb:r.getD k 0 < 0 ∨ (r.length:Int) ≤ r.getD k 0;exact (not_row_bd oM oM oM hb).symm;exact (not_row_twice (k:=k) oM oM oM oM oM oM).symm)) (D9.m 0 rfl))
    ·
     obtain ⟨d11,d12⟩:=Bool.or_eq_false_iff.mp c3
     obtain ⟨d13,d14⟩:=Bool.or_eq_false_iff.mp d11
     replace d13:=of_decide_eq_false d13
     replace d14:=of_decide_eq_false d14
     replace d12:=of_decide_eq_false d12
     have hq:=seenL_bd r k (r.getD k 0).toNat
     refine wp_skip (tn ?_)
     refine gI a10 s8 ok9 (gM (D8.k q28) (gT (Ty.val (ptrAt (a10.eval (.tmp 3)) ((r.getD k 0)).toNat)) rfl (fun A B E H I d0=>rP (ownp_index (i:=(r.getD k 0)) Try.underlying135 Try.inf3 ((Pr.ownp 11 (List.map Ty.int (seenL r k))).up E q30) (I 3 rfl) (eI d0) oM oM)) (gS rfl (fun A B E H I d0=>rP (ownp_load Try.underlying3 rfl ((Pr.ownp 11 (List.map Ty.int (seenL r k))).up E q30) (eI d0) (lst_get Ty.int (seenL r k) 0 ((r.getD k 0)).toNat oM))) (gT (Ty.int (((seenL r k).getD ((r.getD k 0)).toNat 0) + (1:Int))) rfl (fun A B E H I d0=>rP (y_add (eI d0) rfl wX)) (gT (Ty.val (ptrAt (a10.eval (.tmp 3)) ((r.getD k 0)).toNat)) rfl (fun A B E H I d0 d1 d2 d3 d4=>rP (ownp_index (i:=(r.getD k 0)) Try.underlying135 Try.inf3 ((Pr.ownp 11 (List.map Ty.int (seenL r k))).up E q30) (I 3 rfl) (eI d0) oM oM)) (gE2 ok9 fun a12 s10 ok11 D10=>?_))))));have q37:=(Pr.ownp 11 (List.map Ty.int (seenL r k))).up D10.stp q30
     have q39:a12.eval (.tmp 3) = a10.eval (.tmp 3):=D10.same 3 rfl
     have q43:=D10.m 3 rfl
     refine tail_step0 (m:=11) (R:=(fun _ τ=>OwnP τ 11 (a10.eval (.tmp 3)) ((List.map Ty.int (seenL r k)).set ((r.getD k 0)).toNat (Ty.int (((seenL r k).getD ((r.getD k 0)).toNat 0) + (1:Int)))))) rfl rfl (m_storep Try.inf3 dE q37 (D10.m 4 rfl) (by simp only [List.length_map,List.length_set];omega) q43 (one_val rfl)) (fun v1 s11 hs1 r1=>?_)
     have F12:=(F9.step0 D10.stp).step hs1 dE
     have q45:At (Ty.nat k) s11 a12 (.tmp 16):=kpm hs1 dE rfl (D10.k (D8.k (D7.k q17)))
     have q46:At (Ty.lst Ty.int r) s11 a12 (.tmp 0):=kpm hs1 dE rfl (D10.k (D8.k q25))
     have q47:At (Ty.lst Ty.int r) s11 a12 (.tmp 14):=kpm hs1 dE rfl (D10.k (D8.k (D7.k q20)))
     have q48:At (Ty.nat (List.length r)) s11 a12 (.tmp 15):=kpm hs1 dE rfl (D10.k (D8.k (D7.k (D6.k q16))))
     have q49:At (Ty.int (((seenL r k).getD ((r.getD k 0)).toNat 0) + (1:Int))) s11 a12 (.tmp 37):=kpm hs1 dE rfl q43
     have q50:(Pr.ownp 11 (List.map Ty.int ((seenL r k).set ((r.getD k 0)).toNat (((seenL r k).getD ((r.getD k 0)).toNat 0) + (1:Int))))).has s11 (a10.eval (.tmp 3)):=(cvop (by simp) r1)
     refine wpList_nil ?_
     have q51:(Pr.ownp 11 (List.map Ty.int ((seenL r k).set ((r.getD k 0)).toNat (((seenL r k).getD ((r.getD k 0)).toNat 0) + (1:Int))))).has s11 (a12.eval (.tmp 3)):=al q39 q50
     refine bn (tn ?_)
     refine gI a12 s11 ok11 (gT (Ty.int (((k:Nat):Int) + (1:Int))) rfl (fun A B E H I=>rP (y_add (kp (I 16 rfl) E q45) rfl wX)) (gS rfl (fun A B E H I d0=>rP (y_move (eI d0))) (gE ok11 fun a14 s12 ok13 D11=>?_)))
     have q52:(Pr.ownp 11 (List.map Ty.int ((seenL r k).set ((r.getD k 0)).toNat (((seenL r k).getD ((r.getD k 0)).toNat 0) + (1:Int))))).has s12 (a14.eval (.tmp 3)):=D11.ko q51 rfl
     exact tn ⟨r.length - ((k+1)),by omega,s12,(k+1),rfl,(F12.step0 D11.stp),ok13,(cJ (D11.m 1 rfl)),(cvop (by (exact congrArg _ (seenL_step r k oM oM oM))) q52),(D11.k q46),(D11.k q47),(D11.k q48),by omega,hu.step oM oM oM oM oM,rfl⟩
   ·
    refine wp_exit (tx (tx (bx (tn (wp_seq ?_)))))
    refine gI a8 s6 ok7 (gC (Ty.int (0:Int)) (gE ok7 fun a15 s13 ok14 D12=>?_));refine tn (wp_ret ?_)
    exact ret1 rfl ok14 (F7.step0 D12.stp) (cvi (by (exact (Upto.row (by have e:k = r.length:=oM;rw [← e];rw [e] at hu;rw [e];exact hu) oM oM).symm)) (D12.m 0 rfl))
set_option maxHeartbeats 4000000 in
set_option maxRecDepth 100000 in
theorem gCheck_fn (n:Int) (l:List (List Int)) (σ:GW)  (v0 v1:Value) (hv0:Ty.has (Ty.int n) σ v0) (hv1:Ty.has (Ty.lst Ty.ints l) σ v1)   :
    FnC Try.prog 41 #[v0,v1] σ (Ty.int (gensMay n l)):=by
 refine fn_intro0 Try.func41 rfl Try.ntmps41 (Nat.le_of_ble_eq_true rfl) (fun s0 a0 hle F0 ok0 hargs=>?_)
 have p0:=pA hle (hargs 0 _ rfl) hv0
 have p1:=pA hle (hargs 1 _ rfl) hv1
 have b1:=sl_le p1
 clear hargs;refine wp_seq ?_
 refine gI a0 s0 ok0 (gC (Ty.int (0:Int)) (gE ok0 fun a1 s1 ok1 D1=>?_));have q1:=D1.k p0;have q2:=D1.k p1;refine tn (wp_seq (wp_seq ?_))
 refine gI a1 s1 ok1 (gM q1 (gS rfl (fun A B E H I d0=>rP (y_lss (eI d0) rfl)) (gS rfl (fun A B E H I d0=>rP (y_move (eI d0))) (gS rfl (fun A B E H I d0=>gu H (eI d0) fun hg=>y_move (kp (I 0 rfl) E q1)) (gS rfl (fun A B E H I d0 d1=>gu H (eI d1) fun hg=>y_gtr ((ef d0 rfl).1 hg) rfl) (gS rfl (fun A B E H I d0 d1=>rP (y_pick_or (eI d0) rfl (eI d1))) (gS rfl (fun A B E H I d0 d1=>rP (y_move (eI d0))) (gT (Ty.grd (((decide (n < (1:Int))) || (decide ((12:Int) < n))) = false) (Ty.lst Ty.ints l)) rfl (by intro A B E H I d0;refine run_guard H rfl rfl dE (eI d0) (fun hg=>?_);obtain ⟨d1,d2⟩:=Bool.or_eq_false_iff.mp hg;have d1:=of_decide_eq_false d1;have d2:=of_decide_eq_false d2;exact y_move (kp (I 1 rfl) E q2)) (gT (Ty.grd (((decide (n < (1:Int))) || (decide ((12:Int) < n))) = false) (Ty.nat (List.length l))) rfl (by intro A B E H I d0 d1;refine run_guard H rfl rfl dE (eI d1) (fun hg=>?_);obtain ⟨d3,d4⟩:=Bool.or_eq_false_iff.mp hg;have d3:=of_decide_eq_false d3;have d4:=of_decide_eq_false d4;exact y_len Try.underlying24 ((ef d0 rfl).1 hg)) (gT (Ty.grd (((decide (n < (1:Int))) || (decide ((12:Int) < n))) = false) (Ty.bool (decide ((8:Int) < (((List.length l):Nat):Int))))) rfl (by intro A B E H I d0 d1;refine run_guard H rfl rfl dE (eI d1) (fun hg=>?_);obtain ⟨d5,d6⟩:=Bool.or_eq_false_iff.mp hg;have d5:=of_decide_eq_false d5;have d6:=of_decide_eq_false d6;exact y_gtr ((ef d0 rfl).1 hg) rfl) (gS rfl (fun A B E H I d0 d1=>rP (y_pick_or (eI d0) rfl (eI d1))) (gE ok1 fun a2 s2 ok2 D2=>?_))))))))))));have F2:=(F0.step0 D1.stp).step0 D2.stp;refine tn ?_
 refine cond_t (D2.m 10 rfl) (fun c1=>?_) (fun c1=>?_)
 ·
  simp only [Bool.or_eq_true,decide_eq_true_eq] at c1
  refine wp_seq ?_
  refine gI a2 s2 ok2 (gC (Ty.int (1:Int)) (gE ok2 fun a3 s3 ok3 D3=>?_));refine tn (wp_ret (tr ?_))
  exact retL1 rfl ok3 (F2.step0 D3.stp) (cvi (by (exact (gensMay_no oM).symm)) (D3.m 0 rfl))
 ·
  obtain ⟨d7,d8⟩:=Bool.or_eq_false_iff.mp c1
  obtain ⟨d9,d10⟩:=Bool.or_eq_false_iff.mp d7
  replace d9:=of_decide_eq_false d9
  replace d10:=of_decide_eq_false d10
  replace d8:=of_decide_eq_false d8
  have hg:=gensMay_to (n:=n) (l:=l) oM
  refine wp_skip (tn (wp_seq (wp_seq ?_)))
  refine gI a2 s2 ok2 (gM (D2.k q2) (gS rfl (fun A B E H I d0=>rP (y_len Try.underlying24 (eI d0))) (gT (Ty.int (0:Int)) rfl (fun A B E H I=>rP (y_move rfl)) (gE ok2 fun a4 s4 ok4 D4=>?_))));refine tn (wp_block ?_)
  refine loop (fun n1 a5 w1=>∃ (t1:GW) (k:Nat),t1.w = w1∧FromL [] s0 t1∧Ok 35 [] a5∧At (Ty.nat k) t1 a5 (.tmp 21)∧At (Ty.int n) t1 a5 (.tmp 0)∧At (Ty.lst Ty.ints l) t1 a5 (.tmp 19)∧At (Ty.nat (List.length l)) t1 a5 (.tmp 20)∧(k ≤ l.length)∧(gensTo n (l.drop k) = gensMay n l)∧n1 = l.length - k) (l.length - (0)) ?_ ?_
  ·
   exact ⟨s4,0,rfl,(F2.step0 D4.stp),ok4,(cJ (D4.m 2 rfl)),(D4.k (D2.k q1)),(D4.m 0 rfl),(D4.m 1 rfl),by omega,hg,rfl⟩
  ·
   rintro n2 a6 w2 ⟨t2,k,rfl,F5,ok5,q11,q12,q13,q14,hk,hg0,rfl⟩
   refine wp_seq ?_
   refine gI a6 t2 ok5 (gS rfl (fun A B E H I=>rP (y_lss (kp (I 21 rfl) E q11) (kp (I 20 rfl) E q14))) (gE ok5 fun a7 s5 ok6 D5=>?_));have F6:=F5.step0 D5.stp;have q15:=D5.k q11;have q17:=D5.k q13;refine tn (wp_seq ?_)
   refine cond_p (p:=(((k:Nat):Int) < (((List.length l):Nat):Int))) (D5.m 0 rfl) (fun c2=>?_) (fun c2=>?_)
   ·
    refine wp_skip (tn (wp_seq (wp_block (wp_seq ?_))))
    refine gI a7 s5 ok6 (gT (Ty.ref [(Ty.lst Ty.int (l.getD k []))]) rfl (fun A B E H I=>rP (y_index1 Try.underlying24 Try.inf22 (kp (I 19 rfl) E q17) (kp (I 21 rfl) E q15) oM (lst_get Ty.ints l [] k oM))) (gS rfl (fun A B E H I d0=>rP (y_load Try.underlying22 rfl (eI d0) rfl)) (gB 0 (gE ok6 fun a8 s6 ok7 D6=>?_))));have q24:=D6.m 2 rfl;refine tn (wp_seq (wp_seq ?_))
    refine gI a8 s6 ok7 (gM q24 (gS rfl (fun A B E H I d0=>rP (y_call _ Try.func72 rfl rfl my1 (rowCheck_fn ((l.getD k [])) _ _ (eI d0) ))) (gB 0 (gE ok7 fun a9 s7 ok8 D7=>?_))));have q30:=D7.m 2 rfl;refine tn (wp_seq ?_)
    refine gI a9 s7 ok8 (gM q30 (gS rfl (fun A B E H I d0=>rP (y_neq (eI d0) rfl)) (gE ok8 fun a10 s8 ok9 D8=>?_)));have F9:=((F6.step0 D6.stp).step0 D7.stp).step0 D8.stp;have q32:=D8.k (D7.k (D6.k (D5.k q12)));refine tn ?_
    refine cond_p (p:=((rowMay ((l.getD k []))) ≠ (0:Int))) (D8.m 1 rfl) (fun c3=>?_) (fun c3=>?_)
    ·
     refine wp_seq ?_
     refine gI a10 s8 ok9 (gM (D8.k q30) (gB 0 (gE ok9 fun a11 s9 ok10 D9=>?_)));refine tn (wp_ret (tr (br (tr (tr (br (tr ?_)))))))
     exact retL1 rfl ok10 (F9.step0 D9.stp) (cvi (by (exact gens_row hg0 oM (by assumption))) (D9.m 1 rfl))
    ·
     refine wp_skip (tn (wp_seq ?_))
     refine gI a10 s8 ok9 (gM (D8.k (D7.k q24)) (gS rfl (fun A B E H I d0=>rP (y_len Try.underlying22 (eI d0))) (gM q32 (gS rfl (fun A B E H I d0 d1=>rP (y_neq (eI d0) (eI d1))) (gE ok9 fun a12 s10 ok11 D10=>?_)))));have F11:=F9.step0 D10.stp;refine tn ?_
     refine cond_p (p:=((((List.length (l.getD k [])):Nat):Int) ≠ n)) (D10.m 3 rfl) (fun c4=>?_) (fun c4=>?_)
     ·
      refine wp_seq ?_
      refine gI a12 s10 ok11 (gC (Ty.int (1:Int)) (gE ok11 fun a13 s11 ok12 D11=>?_));refine tn (wp_ret (br (tr (tr (br (tr ?_))))))
      exact retL1 rfl ok12 (F11.step0 D11.stp) (cvi (by (exact gens_cnt hg0 oM (by assumption) (by assumption))) (D11.m 0 rfl))
     ·
      refine wp_skip (bn (tn ?_))
      refine gI a12 s10 ok11 (gT (Ty.int (((k:Nat):Int) + (1:Int))) rfl (fun A B E H I=>rP (y_add (kp (I 21 rfl) E (D10.k (D8.k (D7.k (D6.k q15))))) rfl wX)) (gS rfl (fun A B E H I d0=>rP (y_move (eI d0))) (gE ok11 fun a14 s12 ok13 D12=>?_)))
      exact tn ⟨l.length - ((k+1)),by omega,s12,(k+1),rfl,(F11.step0 D12.stp),ok13,(cJ (D12.m 1 rfl)),(D12.k (D10.k q32)),(D12.k (D10.k (D8.k (D7.k (D6.k q17))))),(D12.k (D10.k (D8.k (D7.k (D6.k (D5.k q14)))))),by omega,gens_step hg0 oM (by assumption) (by assumption),rfl⟩
   ·
    refine wp_exit (tx (tx (bx (tn (wp_seq ?_)))))
    refine gI a7 s5 ok6 (gC (Ty.int (0:Int)) (gE ok6 fun a15 s13 ok14 D13=>?_));refine tn (wp_ret ?_)
    exact retL1 rfl ok14 (F6.step0 D13.stp) (cvi (by (exact gens_end hg0 oM)) (D13.m 0 rfl))
set_option maxRecDepth 100000 in
theorem first_fn (n:Nat) (σ:GW) (v0:Value) (hv0:Ty.has (Ty.nat n) σ v0) (hn:n ≤ 1000000) :
    FnC Try.prog 102 #[v0] σ (Ty.lst Ty.int (roundsL n)):=by
 refine fn_intro Try.func102 rfl Try.ntmps102 (Nat.le_of_ble_eq_true rfl) (fun s0 a0 hle F0 ok0 hargs=>?_)
 have p0:=pA hle (hargs 0 _ rfl) hv0
 clear hargs;refine wp_seq ?_
 refine gI a0 s0 ok0 (gC (Ty.val (Value.slice none 0 0)) (gE ok0 fun a1 s1 ok1 D1=>?_));refine tn (wp_seq ?_)
 refine gI a1 s1 ok1 (gM (D1.k p0) (gR (Pr.own 11 3 1 n (List.map Ty.int (List.replicate n 0))) rfl (by intro A B E H I d0 d1;have e0:=ed d0 rfl rfl rfl;exact rP ((y_make (k:=11) (T:=Ty.int 0) (n:=n) Try.underlying22 Try.inf3 rfl (fun _=>rfl) e0 e0 oM oM).mono (fun _ _ h=>cvo (by simp) (by simp) h))) (gR (Pr.own 11 3 1 n (List.map Ty.int (List.replicate n 0))) rfl (by intro A B E H I d0 d1 d2;have e1:(Pr.own 11 3 1 n (List.map Ty.int (List.replicate n 0))).has B (A.eval (.tmp 6)):=d0 rfl;exact rP (y_assign e1)) (gE ok1 fun a2 s2 ok2 D2=>?_))))
 have q2:(Pr.own 11 3 1 n (List.map Ty.int (List.replicate n 0))).has s2 (a2.eval (.tmp 3)):=D2.done 2
 refine tn (wp_seq (wp_seq ?_))
 refine gI a2 s2 ok2 (gT (Ty.val (a2.eval (.tmp 3))) rfl (fun A B E H I=>rP (y_move (I 3 rfl))) (gT (Ty.nat n) rfl (fun A B E H I d0=>rP (own_len Try.underlying22 (al (eI d0) ((Pr.own 11 3 1 n (List.map Ty.int (List.replicate n 0))).up E q2)))) (gT (Ty.int (0:Int)) rfl (fun A B E H I=>rP (y_move rfl)) (gE ok2 fun a3 s3 ok3 D3=>?_))))
 have q3:(Pr.own 11 3 1 n (List.map Ty.int (List.replicate n 0))).has s3 (a3.eval (.tmp 3)):=D3.ko q2 rfl
 refine tn (wp_block ?_)
 refine loop (fun n1 a4 w1=>∃ (t1:GW) (k:Nat),t1.w = w1∧From s0 t1∧Ok 18 [] a4∧At (Ty.nat k) t1 a4 (.tmp 9)∧(Pr.own 11 3 1 (List.length (firstTo n k)) (List.map Ty.int (firstTo n k))).has t1 (a4.eval (.tmp 3))∧At (Ty.nat n) t1 a4 (.tmp 8)∧(k ≤ n)∧n1 = n - k) (n - (0)) ?_ ?_
 ·
  exact ⟨s3,0,rfl,(((F0.step0 D1.stp).step0 D2.stp).step0 D3.stp),ok3,(cJ (D3.m 2 rfl)),(cvo (by (simp [firstTo_zero])) (by (simp [firstTo_zero])) q3),(D3.m 1 rfl),by omega,rfl⟩
 ·
  rintro n2 a5 w2 ⟨t2,k,rfl,F4,ok4,q6,q7,q8,hk,rfl⟩
  have hp:=firstTo_len n k
  refine wp_seq ?_
  refine gI a5 t2 ok4 (gS rfl (fun A B E H I=>rP (y_lss (kp (I 9 rfl) E q6) (kp (I 8 rfl) E q8))) (gE ok4 fun a6 s4 ok5 D4=>?_));have F5:=F4.step0 D4.stp;have q9:=D4.k q6
  have q10:(Pr.own 11 3 1 (List.length (firstTo n k)) (List.map Ty.int (firstTo n k))).has s4 (a6.eval (.tmp 3)):=D4.ko q7 rfl
  refine tn (wp_seq ?_)
  refine cond_p (p:=(((k:Nat):Int) < ((n:Nat):Int))) (D4.m 0 rfl) (fun c1=>?_) (fun c1=>?_)
  ·
   refine wp_skip (tn (wp_seq (wp_block (wp_seq ?_))))
   refine gI a6 s4 ok5 (gM q9 (gB 0 (gE ok5 fun a7 s5 ok6 D5=>?_)))
   have q14:(Pr.own 11 3 1 (List.length (firstTo n k)) (List.map Ty.int (firstTo n k))).has s5 (a7.eval (.tmp 3)):=D5.ko q10 rfl
   have q16:=D5.m 1 rfl;refine tn ?_
   refine gI a7 s5 ok6 (gT (Ty.val (a7.eval (.tmp 3))) rfl (fun A B E H I=>rP (y_move (I 3 rfl))) (gM q16 (gM q16 (gT (Ty.val (cellPtr (a7.eval (.tmp 3)) k)) rfl (fun A B E H I d0 d1 d2 d3 d4=>rP (own_index1 (i:=((k:Nat):Int)) Try.underlying22 Try.inf3 ((Pr.own 11 3 1 (List.length (firstTo n k)) (List.map Ty.int (firstTo n k))).up E q14) (eI d0) (eI d1) oM oM)) (gE2 ok6 fun a8 s6 ok7 D6=>?_)))));have q17:=(Pr.own 11 3 1 (List.length (firstTo n k)) (List.map Ty.int (firstTo n k))).up D6.stp q14
   have q19:a8.eval (.tmp 3) = a7.eval (.tmp 3):=D6.same 3 rfl
   have q21:=D6.m 2 rfl
   refine tail_step0 (m:=11) (R:=(fun _ τ=>Own τ 11 3 1 (a7.eval (.tmp 3)) (List.length (firstTo n k)) ((List.map Ty.int (firstTo n k)).set k (Ty.nat k)))) rfl rfl (m_store Try.inf3 dE q17 (D6.m 3 rfl) (by simp only [List.length_map,List.length_set];omega) q21 (one_val rfl)) (fun v1 s7 hs1 r1=>?_)
   have F8:=((F5.step0 D5.stp).step0 D6.stp).step hs1 dE
   have q23:At (Ty.nat k) s7 a8 (.tmp 9):=kpm hs1 dE rfl (D6.k (D5.k q9))
   have q24:At (Ty.nat n) s7 a8 (.tmp 8):=kpm hs1 dE rfl (D6.k (D5.k (D4.k q8)))
   have q25:At (Ty.nat k) s7 a8 (.tmp 14):=kpm hs1 dE rfl q21
   have q26:(Pr.own 11 3 1 (List.length ((firstTo n k).set k ((k:Nat):Int))) (List.map Ty.int ((firstTo n k).set k ((k:Nat):Int)))).has s7 (a7.eval (.tmp 3)):=(cvo (by simp) (by simp) r1)
   refine wpList_nil ?_
   have q27:(Pr.own 11 3 1 (List.length ((firstTo n k).set k ((k:Nat):Int))) (List.map Ty.int ((firstTo n k).set k ((k:Nat):Int)))).has s7 (a8.eval (.tmp 3)):=al q19 q26
   refine bn (tn ?_)
   refine gI a8 s7 ok7 (gT (Ty.int (((k:Nat):Int) + (1:Int))) rfl (fun A B E H I=>rP (y_add (kp (I 9 rfl) E q23) rfl wX)) (gS rfl (fun A B E H I d0=>rP (y_move (eI d0))) (gE ok7 fun a10 s8 ok9 D7=>?_)))
   have q28:(Pr.own 11 3 1 (List.length ((firstTo n k).set k ((k:Nat):Int))) (List.map Ty.int ((firstTo n k).set k ((k:Nat):Int)))).has s8 (a10.eval (.tmp 3)):=D7.ko q27 rfl
   exact tn ⟨n - ((k+1)),by omega,s8,(k+1),rfl,(F8.step0 D7.stp),ok9,(cJ (D7.m 1 rfl)),(cvo (by (rw [firstTo_step n k])) (by (rw [firstTo_step n k])) q28),(D7.k q24),by omega,rfl⟩
  ·
   refine wp_exit (tx (tx (bx (tn (wp_seq ?_)))))
   refine gI a6 s4 ok5 (gT (Ty.val (a6.eval (.tmp 3))) rfl (fun A B E H I=>rP (y_move (I 3 rfl))) (gB 0 (gE ok5 fun a11 s9 ok10 D8=>?_)))
   have q31:(Pr.own 11 3 1 (List.length (firstTo n k)) (List.map Ty.int (firstTo n k))).has s9 (a11.eval (.tmp 2)):=al (show _ = _ from D8.done 1) ((Pr.own 11 3 1 (List.length (firstTo n k)) (List.map Ty.int (firstTo n k))).up D8.stp q10)
   refine tn (wp_ret ?_)
   obtain ⟨t3,e1,h1,q32⟩:=Own.seal q31 dE
   rw [← e1]
   have F11:=(F5.step0 D8.stp).step h1 dE
   exact ret1 rfl ok10 F11 (cvt (by (obtain rfl:k = n:=oM;rw [firstTo_all])) q32)
set_option maxRecDepth 100000 in
theorem rounds_fn (n:Nat) (σ:GW) (v0:Value) (hv0:Ty.has (Ty.nat n) σ v0) (hn:1 ≤ n∧n ≤ 12) :
    FnC Try.prog 74 #[v0] σ (Ty.tup2 (Ty.lst Ty.int (roundsL n)) (Ty.int (0:Int))):=by
 refine fn_intro Try.func74 rfl Try.ntmps74 (Nat.le_of_ble_eq_true rfl) (fun s0 a0 hle F0 ok0 hargs=>?_)
 have p0:=pA hle (hargs 0 _ rfl) hv0
 clear hargs;refine wp_seq ?_
 refine gI a0 s0 ok0 (gC (Ty.val (Value.slice none 0 0)) (gC (Ty.int (0:Int)) (gE ok0 fun a1 s1 ok1 D1=>?_)));have q1:=D1.k p0;refine tn (wp_seq (wp_seq ?_))
 refine gI a1 s1 ok1 (gM q1 (gS rfl (fun A B E H I d0=>rP (y_lss (eI d0) rfl)) (gS rfl (fun A B E H I d0=>rP (y_move (eI d0))) (gS rfl (fun A B E H I d0=>gu H (eI d0) fun hg=>y_move (kp (I 0 rfl) E q1)) (gS rfl (fun A B E H I d0 d1=>gu H (eI d1) fun hg=>y_gtr ((ef d0 rfl).1 hg) rfl) (gS rfl (fun A B E H I d0 d1=>rP (y_pick_or (eI d0) rfl (eI d1))) (gE ok1 fun a2 s2 ok2 D2=>?_)))))));refine tn ?_
 refine cond_t (D2.m 5 rfl) (fun c1=>?_) (fun c1=>?_)
 ·
  exfalso
  simp only [Bool.or_eq_true,decide_eq_true_eq] at c1;omega
 ·
  obtain ⟨d1,d2⟩:=Bool.or_eq_false_iff.mp c1
  replace d1:=of_decide_eq_false d1
  replace d2:=of_decide_eq_false d2
  refine wp_skip (tn (wp_seq ?_))
  refine gI a2 s2 ok2 (gM (D2.k q1) (gS rfl (fun A B E H I d0=>rP (y_call _ Try.func102 rfl rfl my1 (first_fn (n) _ _ (eI d0) oM))) (gB 0 (gC (Ty.int (0:Int)) (gE ok2 fun a3 s3 ok3 D3=>?_)))));refine tn (wp_ret ?_)
  exact ret2 rfl ok3 (((F0.step0 D1.stp).step0 D2.stp).step0 D3.stp) (D3.m 2 rfl) (D3.m 3 rfl)
set_option maxHeartbeats 4000000 in
set_option maxRecDepth 100000 in
theorem cloneS_fn (xs:List Int) (σ:GW)  (v0:Value) (hv0:Ty.has (Ty.lst Ty.int xs) σ v0)  (hx2:xs.length ≤ 1000000) :
    FnC Try.prog 101 #[v0] σ (Ty.lst Ty.int xs):=by
 refine fn_intro0 Try.func101 rfl Try.ntmps101 (Nat.le_of_ble_eq_true rfl) (fun s0 a0 hle F0 ok0 hargs=>?_)
 have p0:=pA hle (hargs 0 _ rfl) hv0
 have b1:=sl_le p0
 clear hargs;refine wp_seq ?_
 refine gI a0 s0 ok0 (gC (Ty.val (Value.slice none 0 0)) (gE ok0 fun a1 s1 ok1 D1=>?_));have q1:=D1.k p0;refine tn (wp_seq (wp_seq ?_))
 refine gI a1 s1 ok1 (gM q1 (gT (Ty.nilb xs) rfl (fun A B E H I d0=>rP (y_slnb Try.underlying22 (eI d0) rfl)) (gE ok1 fun a2 s2 ok2 D2=>?_)));have F2:=(F0.step0 D1.stp).step0 D2.stp;refine tn ?_
 refine cond_nb (D2.m 1 rfl) (fun c1=>?_) ?_
 ·
  have hxe:=c1
  refine wp_seq ?_
  refine gI a2 s2 ok2 (gC (Ty.val (Value.slice none 0 0)) (gE ok2 fun a3 s3 ok3 D3=>?_));refine tn (wp_ret (tr ?_))
  exact retL1 rfl ok3 (F2.step0 D3.stp) (nil_lst (by (rw [hxe])) (D3.m 0 rfl))
 ·
  refine wp_skip (tn (wp_seq ?_))
  refine gI a2 s2 ok2 (gR (Pr.own 5 3 1 0 (List.map Ty.int ([]:List Int))) rfl (by intro A B E H I;exact rP ((y_lit0 (k:=5) Try.underlying22 Try.inf3).mono (fun _ _ h=>cvo (by simp) (by simp) h))) (gM (D2.k q1) (gE2 ok2 fun a4 s4 ok4 D4=>?_)))
  obtain ⟨x1,hx1⟩:∃ x,a4.eval (.tmp 5) = x:=⟨_,rfl⟩
  have q5:At (Ty.val x1) s4 a4 (.tmp 5):=hx1
  have o1:=al2 (R:=(Pr.own 5 3 1 0 (List.map Ty.int ([]:List Int)))) hx1 (D4.done 0 dE)
  refine tL ok4 (YldM.toL (m_append Try.underlying22 Try.inf3 dE rfl dE (al (R:=(Pr.own 5 3 1 0 (List.map Ty.int ([]:List Int)))) q5 o1) (D4.m 1 rfl) (one_map (fun _=>one_val rfl)) oM oM)) fun a5 s5 hs1 ok5 r1 sm1=>?_
  obtain ⟨x2,hx2⟩:∃ x,a5.eval (.tmp 7) = x:=⟨_,rfl⟩
  have q7:At (Ty.val x2) s5 a5 (.tmp 7):=hx2
  have o2:=al2 (R:=(Pr.own 5 3 1 (List.length xs) (List.map Ty.int xs))) hx2 (cvo (by first | (simp;done) | (simp;omega)) (by first | (rw [List.map_append];rfl) | simp) r1)
  clear r1
  refine tL ok5 (Yld.toL (y_as q7)) fun a6 s6 hs2 ok6 r2 sm2=>?_
  have q8:At (Ty.val x2) s6 a6 (.tmp 2):=r2
  clear r2;refine wpList_nil (tn (wp_ret ?_))
  obtain ⟨t1,e1,h1,q9⟩:=Own.seal (Own.kl o2 hs2) dE
  rw [← e1]
  have F7:=(((F2.step0 D4.stp).sl hs1).sl hs2).step h1 dE
  have q10:At (Ty.lst Ty.int xs) t1 a6 (.tmp 2):=by have e:a6.eval (.tmp 2) = x2:=q8;show Ty.has _ _ _;rw [e];exact q9
  exact retL1 rfl ok6 F7 q10
set_option maxRecDepth 100000 in
theorem inverse_fn (r:List Int) (σ:GW) (v0:Value) (hv0:Ty.has (Ty.lst Ty.int r) σ v0) (hr:IsRow r) :
    FnC Try.prog 65 #[v0] σ (Ty.lst Ty.int (undoL r)):=by
 have hln:=hr.le
 refine fn_intro Try.func65 rfl Try.ntmps65 (Nat.le_of_ble_eq_true rfl) (fun s0 a0 hle F0 ok0 hargs=>?_)
 have p0:=pA hle (hargs 0 _ rfl) hv0
 have b1:=sl_le p0
 clear hargs;refine wp_seq ?_
 refine gI a0 s0 ok0 (gC (Ty.val (Value.slice none 0 0)) (gE ok0 fun a1 s1 ok1 D1=>?_));have q1:=D1.k p0;refine tn (wp_seq ?_)
 refine gI a1 s1 ok1 (gM q1 (gS rfl (fun A B E H I d0=>rP (y_len Try.underlying22 (eI d0))) (gR (Pr.own 11 3 1 (List.length r) (List.map Ty.int (List.replicate (List.length r) 0))) rfl (by intro A B E H I d0 d1;have e1:=ed d0 rfl rfl rfl;exact rP ((y_make (k:=11) (T:=Ty.int 0) (n:=(List.length r)) Try.underlying22 Try.inf3 rfl (fun _=>rfl) e1 e1 oM oM).mono (fun _ _ h=>cvo (by simp) (by simp) h))) (gR (Pr.own 11 3 1 (List.length r) (List.map Ty.int (List.replicate (List.length r) 0))) rfl (by intro A B E H I d0 d1 d2 d3;have e2:(Pr.own 11 3 1 (List.length r) (List.map Ty.int (List.replicate (List.length r) 0))).has B (A.eval (.tmp 8)):=d0 rfl;exact rP (y_assign e2)) (gE ok1 fun a2 s2 ok2 D2=>?_)))))
 have q3:(Pr.own 11 3 1 (List.length r) (List.map Ty.int (List.replicate (List.length r) 0))).has s2 (a2.eval (.tmp 3)):=D2.done 3
 refine tn (wp_seq (wp_seq ?_))
 refine gI a2 s2 ok2 (gM (D2.k q1) (gS rfl (fun A B E H I d0=>rP (y_len Try.underlying22 (eI d0))) (gT (Ty.int (0:Int)) rfl (fun A B E H I=>rP (y_move rfl)) (gE ok2 fun a3 s3 ok3 D3=>?_))))
 have q4:(Pr.own 11 3 1 (List.length r) (List.map Ty.int (List.replicate (List.length r) 0))).has s3 (a3.eval (.tmp 3)):=D3.ko q3 rfl
 refine tn (wp_block ?_)
 refine loop (fun n1 a4 w1=>∃ (t1:GW) (k:Nat),t1.w = w1∧From s0 t1∧Ok 22 [] a4∧At (Ty.nat k) t1 a4 (.tmp 11)∧(Pr.own 11 3 1 (List.length (undoTo r k)) (List.map Ty.int (undoTo r k))).has t1 (a4.eval (.tmp 3))∧At (Ty.lst Ty.int r) t1 a4 (.tmp 9)∧At (Ty.nat (List.length r)) t1 a4 (.tmp 10)∧(k ≤ r.length)∧n1 = r.length - k) (r.length - (0)) ?_ ?_
 ·
  exact ⟨s3,0,rfl,(((F0.step0 D1.stp).step0 D2.stp).step0 D3.stp),ok3,(cJ (D3.m 2 rfl)),(cvo (by (simp [undoTo_zero])) (by (simp [undoTo_zero])) q4),(D3.m 0 rfl),(D3.m 1 rfl),by omega,rfl⟩
 ·
  rintro n2 a5 w2 ⟨t2,k,rfl,F4,ok4,q8,q9,q10,q11,hk,rfl⟩
  have hp:=undoTo_len r k
  refine wp_seq ?_
  refine gI a5 t2 ok4 (gS rfl (fun A B E H I=>rP (y_lss (kp (I 11 rfl) E q8) (kp (I 10 rfl) E q11))) (gE ok4 fun a6 s4 ok5 D4=>?_));have F5:=F4.step0 D4.stp;have q12:=D4.k q8
  have q13:(Pr.own 11 3 1 (List.length (undoTo r k)) (List.map Ty.int (undoTo r k))).has s4 (a6.eval (.tmp 3)):=D4.ko q9 rfl
  have q14:=D4.k q10;refine tn (wp_seq ?_)
  refine cond_p (p:=(((k:Nat):Int) < (((List.length r):Nat):Int))) (D4.m 0 rfl) (fun c1=>?_) (fun c1=>?_)
  ·
   have hq:=hr.at (i:=k) oM
   refine wp_skip (tn (wp_seq (wp_block (wp_seq ?_))))
   refine gI a6 s4 ok5 (gM q12 (gT (Ty.ref [(Ty.int (r.getD k 0))]) rfl (fun A B E H I=>rP (y_index1 Try.underlying22 Try.inf3 (kp (I 9 rfl) E q14) (kp (I 11 rfl) E q12) oM (lst_get Ty.int r 0 k oM))) (gS rfl (fun A B E H I d0=>rP (y_load Try.underlying3 rfl (eI d0) rfl)) (gB 0 (gB 0 (gE ok5 fun a7 s5 ok6 D5=>?_))))))
   have q18:(Pr.own 11 3 1 (List.length (undoTo r k)) (List.map Ty.int (undoTo r k))).has s5 (a7.eval (.tmp 3)):=D5.ko q13 rfl
   refine tn ?_
   refine gI a7 s5 ok6 (gT (Ty.val (a7.eval (.tmp 3))) rfl (fun A B E H I=>rP (y_move (I 3 rfl))) (gM (D5.m 4 rfl) (gM (D5.m 3 rfl) (gT (Ty.val (cellPtr (a7.eval (.tmp 3)) ((r.getD k 0)).toNat)) rfl (fun A B E H I d0 d1 d2 d3 d4=>rP (own_index1 (i:=(r.getD k 0)) Try.underlying22 Try.inf3 ((Pr.own 11 3 1 (List.length (undoTo r k)) (List.map Ty.int (undoTo r k))).up E q18) (eI d0) (eI d1) oM oM)) (gE2 ok6 fun a8 s6 ok7 D6=>?_)))));have q23:=(Pr.own 11 3 1 (List.length (undoTo r k)) (List.map Ty.int (undoTo r k))).up D6.stp q18
   have q25:a8.eval (.tmp 3) = a7.eval (.tmp 3):=D6.same 3 rfl
   have q28:=D6.m 2 rfl
   refine tail_step0 (m:=11) (R:=(fun _ τ=>Own τ 11 3 1 (a7.eval (.tmp 3)) (List.length (undoTo r k)) ((List.map Ty.int (undoTo r k)).set ((r.getD k 0)).toNat (Ty.nat k)))) rfl rfl (m_store Try.inf3 dE q23 (D6.m 3 rfl) (by simp only [List.length_map,List.length_set];omega) q28 (one_val rfl)) (fun v1 s7 hs1 r1=>?_)
   have F8:=((F5.step0 D5.stp).step0 D6.stp).step hs1 dE
   have q30:At (Ty.nat k) s7 a8 (.tmp 11):=kpm hs1 dE rfl (D6.k (D5.k q12))
   have q31:At (Ty.lst Ty.int r) s7 a8 (.tmp 9):=kpm hs1 dE rfl (D6.k (D5.k q14))
   have q32:At (Ty.nat (List.length r)) s7 a8 (.tmp 10):=kpm hs1 dE rfl (D6.k (D5.k (D4.k q11)))
   have q33:At (Ty.nat k) s7 a8 (.tmp 18):=kpm hs1 dE rfl q28
   have q34:(Pr.own 11 3 1 (List.length ((undoTo r k).set ((r.getD k 0)).toNat ((k:Nat):Int))) (List.map Ty.int ((undoTo r k).set ((r.getD k 0)).toNat ((k:Nat):Int)))).has s7 (a7.eval (.tmp 3)):=(cvo (by simp) (by simp) r1)
   refine wpList_nil ?_
   have q35:(Pr.own 11 3 1 (List.length ((undoTo r k).set ((r.getD k 0)).toNat ((k:Nat):Int))) (List.map Ty.int ((undoTo r k).set ((r.getD k 0)).toNat ((k:Nat):Int)))).has s7 (a8.eval (.tmp 3)):=al q25 q34
   refine bn (tn ?_)
   refine gI a8 s7 ok7 (gT (Ty.int (((k:Nat):Int) + (1:Int))) rfl (fun A B E H I=>rP (y_add (kp (I 11 rfl) E q30) rfl wX)) (gS rfl (fun A B E H I d0=>rP (y_move (eI d0))) (gE ok7 fun a10 s8 ok9 D7=>?_)))
   have q36:(Pr.own 11 3 1 (List.length ((undoTo r k).set ((r.getD k 0)).toNat ((k:Nat):Int))) (List.map Ty.int ((undoTo r k).set ((r.getD k 0)).toNat ((k:Nat):Int)))).has s8 (a10.eval (.tmp 3)):=D7.ko q35 rfl
   exact tn ⟨r.length - ((k+1)),by omega,s8,(k+1),rfl,(F8.step0 D7.stp),ok9,(cJ (D7.m 1 rfl)),(cvo (by (rw [undoTo_step r k hr oM])) (by (rw [undoTo_step r k hr oM])) q36),(D7.k q31),(D7.k q32),by omega,rfl⟩
  ·
   refine wp_exit (tx (tx (bx (tn (wp_seq ?_)))))
   refine gI a6 s4 ok5 (gT (Ty.val (a6.eval (.tmp 3))) rfl (fun A B E H I=>rP (y_move (I 3 rfl))) (gB 0 (gE ok5 fun a11 s9 ok10 D8=>?_)))
   have q40:(Pr.own 11 3 1 (List.length (undoTo r k)) (List.map Ty.int (undoTo r k))).has s9 (a11.eval (.tmp 2)):=al (show _ = _ from D8.done 1) ((Pr.own 11 3 1 (List.length (undoTo r k)) (List.map Ty.int (undoTo r k))).up D8.stp q13)
   refine tn (wp_ret ?_)
   obtain ⟨t3,e1,h1,q41⟩:=Own.seal q40 dE
   rw [← e1]
   have F11:=(F5.step0 D8.stp).step h1 dE
   exact ret1 rfl ok10 F11 (cvt (by (obtain rfl:k = r.length:=oM;rw [undoTo_all r hr])) q41)
set_option maxRecDepth 100000 in
theorem product_fn (a:List Int) (b:List Int) (σ:GW) (v0 v1:Value) (hv0:Ty.has (Ty.lst Ty.int a) σ v0) (hv1:Ty.has (Ty.lst Ty.int b) σ v1) (hl:a.length = b.length) (hbd:∀ i,i < b.length → 0 ≤ b.getD i 0∧b.getD i 0 < a.length) (E:a.length ≤ 1000000) :
    FnC Try.prog 64 #[v0,v1] σ (Ty.lst Ty.int (byL a b)):=by
 refine fn_intro Try.func64 rfl Try.ntmps64 (Nat.le_of_ble_eq_true rfl) (fun s0 a0 hle F0 ok0 hargs=>?_)
 have p0:=pA hle (hargs 0 _ rfl) hv0
 have b1:=sl_le p0
 have p1:=pA hle (hargs 1 _ rfl) hv1
 have b2:=sl_le p1
 clear hargs;refine wp_seq ?_
 refine gI a0 s0 ok0 (gC (Ty.val (Value.slice none 0 0)) (gE ok0 fun a1 s1 ok1 D1=>?_));have q1:=D1.k p0;refine tn (wp_seq ?_)
 refine gI a1 s1 ok1 (gM q1 (gS rfl (fun A B E H I d0=>rP (y_len Try.underlying22 (eI d0))) (gR (Pr.own 11 3 1 (List.length a) (List.map Ty.int (List.replicate (List.length a) 0))) rfl (by intro A B E H I d0 d1;have e1:=ed d0 rfl rfl rfl;exact rP ((y_make (k:=11) (T:=Ty.int 0) (n:=(List.length a)) Try.underlying22 Try.inf3 rfl (fun _=>rfl) e1 e1 oM oM).mono (fun _ _ h=>cvo (by simp) (by simp) h))) (gR (Pr.own 11 3 1 (List.length a) (List.map Ty.int (List.replicate (List.length a) 0))) rfl (by intro A B E H I d0 d1 d2 d3;have e2:(Pr.own 11 3 1 (List.length a) (List.map Ty.int (List.replicate (List.length a) 0))).has B (A.eval (.tmp 10)):=d0 rfl;exact rP (y_assign e2)) (gE ok1 fun a2 s2 ok2 D2=>?_)))))
 have q5:(Pr.own 11 3 1 (List.length a) (List.map Ty.int (List.replicate (List.length a) 0))).has s2 (a2.eval (.tmp 5)):=D2.done 3
 refine tn (wp_seq (wp_seq ?_))
 refine gI a2 s2 ok2 (gM (D2.k (D1.k p1)) (gS rfl (fun A B E H I d0=>rP (y_len Try.underlying22 (eI d0))) (gT (Ty.int (0:Int)) rfl (fun A B E H I=>rP (y_move rfl)) (gE ok2 fun a3 s3 ok3 D3=>?_))))
 have q7:(Pr.own 11 3 1 (List.length a) (List.map Ty.int (List.replicate (List.length a) 0))).has s3 (a3.eval (.tmp 5)):=D3.ko q5 rfl
 refine tn (wp_block ?_)
 refine loop (fun n1 a4 w1=>∃ (t1:GW) (k:Nat),t1.w = w1∧From s0 t1∧Ok 27 [] a4∧At (Ty.nat k) t1 a4 (.tmp 13)∧(Pr.own 11 3 1 (List.length (byTo a b k)) (List.map Ty.int (byTo a b k))).has t1 (a4.eval (.tmp 5))∧At (Ty.lst Ty.int a) t1 a4 (.tmp 0)∧At (Ty.lst Ty.int b) t1 a4 (.tmp 11)∧At (Ty.nat (List.length b)) t1 a4 (.tmp 12)∧(k ≤ b.length)∧n1 = b.length - k) (b.length - (0)) ?_ ?_
 ·
  exact ⟨s3,0,rfl,(((F0.step0 D1.stp).step0 D2.stp).step0 D3.stp),ok3,(cJ (D3.m 2 rfl)),(cvo (by (simp [byTo_zero])) (by (simp [byTo_zero])) q7),(D3.k (D2.k q1)),(D3.m 0 rfl),(D3.m 1 rfl),by omega,rfl⟩
 ·
  rintro n2 a5 w2 ⟨t2,k,rfl,F4,ok4,q11,q12,q13,q14,q15,hk,rfl⟩
  have hp:=byTo_len a b k
  refine wp_seq ?_
  refine gI a5 t2 ok4 (gS rfl (fun A B E H I=>rP (y_lss (kp (I 13 rfl) E q11) (kp (I 12 rfl) E q15))) (gE ok4 fun a6 s4 ok5 D4=>?_));have F5:=F4.step0 D4.stp;have q16:=D4.k q11
  have q17:(Pr.own 11 3 1 (List.length (byTo a b k)) (List.map Ty.int (byTo a b k))).has s4 (a6.eval (.tmp 5)):=D4.ko q12 rfl
  have q19:=D4.k q14;refine tn (wp_seq ?_)
  refine cond_p (p:=(((k:Nat):Int) < (((List.length b):Nat):Int))) (D4.m 0 rfl) (fun c1=>?_) (fun c1=>?_)
  ·
   have hq:=hbd k oM
   refine wp_skip (tn (wp_seq (wp_block (wp_seq ?_))))
   refine gI a6 s4 ok5 (gM q16 (gT (Ty.ref [(Ty.int (b.getD k 0))]) rfl (fun A B E H I=>rP (y_index1 Try.underlying22 Try.inf3 (kp (I 11 rfl) E q19) (kp (I 13 rfl) E q16) oM (lst_get Ty.int b 0 k oM))) (gS rfl (fun A B E H I d0=>rP (y_load Try.underlying3 rfl (eI d0) rfl)) (gB 0 (gB 0 (gE ok5 fun a7 s5 ok6 D5=>?_))))))
   have q23:(Pr.own 11 3 1 (List.length (byTo a b k)) (List.map Ty.int (byTo a b k))).has s5 (a7.eval (.tmp 5)):=D5.ko q17 rfl
   have q24:=D5.k (D4.k q13);refine tn ?_
   refine gI a7 s5 ok6 (gT (Ty.val (a7.eval (.tmp 5))) rfl (fun A B E H I=>rP (y_move (I 5 rfl))) (gM (D5.m 3 rfl) (gM q24 (gM (D5.m 4 rfl) (gT (Ty.ref [(Ty.int (a.getD ((b.getD k 0)).toNat 0))]) rfl (fun A B E H I d0 d1=>rP (y_index1 Try.underlying22 Try.inf3 (eI d0) (eI d1) oM (lst_get Ty.int a 0 ((b.getD k 0)).toNat oM))) (gS rfl (fun A B E H I d0=>rP (y_load Try.underlying3 rfl (eI d0) rfl)) (gT (Ty.val (cellPtr (a7.eval (.tmp 5)) k)) rfl (fun A B E H I d0 d1 d2 d3 d4 d5 d6 d7=>rP (own_index1 (i:=((k:Nat):Int)) Try.underlying22 Try.inf3 ((Pr.own 11 3 1 (List.length (byTo a b k)) (List.map Ty.int (byTo a b k))).up E q23) (eI d0) (eI d1) oM oM)) (gE2 ok6 fun a8 s6 ok7 D6=>?_))))))));have q29:=(Pr.own 11 3 1 (List.length (byTo a b k)) (List.map Ty.int (byTo a b k))).up D6.stp q23
   have q31:a8.eval (.tmp 5) = a7.eval (.tmp 5):=D6.same 5 rfl
   have q35:=D6.m 5 rfl
   refine tail_step0 (m:=11) (R:=(fun _ τ=>Own τ 11 3 1 (a7.eval (.tmp 5)) (List.length (byTo a b k)) ((List.map Ty.int (byTo a b k)).set k (Ty.int (a.getD ((b.getD k 0)).toNat 0))))) rfl rfl (m_store Try.inf3 dE q29 (D6.m 6 rfl) (by simp only [List.length_map,List.length_set];omega) q35 (one_val rfl)) (fun v1 s7 hs1 r1=>?_)
   have F8:=((F5.step0 D5.stp).step0 D6.stp).step hs1 dE
   have q37:At (Ty.nat k) s7 a8 (.tmp 13):=kpm hs1 dE rfl (D6.k (D5.k q16))
   have q38:At (Ty.lst Ty.int a) s7 a8 (.tmp 0):=kpm hs1 dE rfl (D6.k q24)
   have q39:At (Ty.lst Ty.int b) s7 a8 (.tmp 11):=kpm hs1 dE rfl (D6.k (D5.k q19))
   have q40:At (Ty.nat (List.length b)) s7 a8 (.tmp 12):=kpm hs1 dE rfl (D6.k (D5.k (D4.k q15)))
   have q41:At (Ty.int (a.getD ((b.getD k 0)).toNat 0)) s7 a8 (.tmp 23):=kpm hs1 dE rfl q35
   have q42:(Pr.own 11 3 1 (List.length ((byTo a b k).set k (a.getD ((b.getD k 0)).toNat 0))) (List.map Ty.int ((byTo a b k).set k (a.getD ((b.getD k 0)).toNat 0)))).has s7 (a7.eval (.tmp 5)):=(cvo (by simp) (by simp) r1)
   refine wpList_nil ?_
   have q43:(Pr.own 11 3 1 (List.length ((byTo a b k).set k (a.getD ((b.getD k 0)).toNat 0))) (List.map Ty.int ((byTo a b k).set k (a.getD ((b.getD k 0)).toNat 0)))).has s7 (a8.eval (.tmp 5)):=al q31 q42
   refine bn (tn ?_)
   refine gI a8 s7 ok7 (gT (Ty.int (((k:Nat):Int) + (1:Int))) rfl (fun A B E H I=>rP (y_add (kp (I 13 rfl) E q37) rfl wX)) (gS rfl (fun A B E H I d0=>rP (y_move (eI d0))) (gE ok7 fun a10 s8 ok9 D7=>?_)))
   have q44:(Pr.own 11 3 1 (List.length ((byTo a b k).set k (a.getD ((b.getD k 0)).toNat 0))) (List.map Ty.int ((byTo a b k).set k (a.getD ((b.getD k 0)).toNat 0)))).has s8 (a10.eval (.tmp 5)):=D7.ko q43 rfl
   exact tn ⟨b.length - ((k+1)),by omega,s8,(k+1),rfl,(F8.step0 D7.stp),ok9,(cJ (D7.m 1 rfl)),(cvo (by (rw [byTo_step a b k])) (by (rw [byTo_step a b k])) q44),(D7.k q38),(D7.k q39),(D7.k q40),by omega,rfl⟩
  ·
   refine wp_exit (tx (tx (bx (tn (wp_seq ?_)))))
   refine gI a6 s4 ok5 (gT (Ty.val (a6.eval (.tmp 5))) rfl (fun A B E H I=>rP (y_move (I 5 rfl))) (gB 0 (gE ok5 fun a11 s9 ok10 D8=>?_)))
   have q49:(Pr.own 11 3 1 (List.length (byTo a b k)) (List.map Ty.int (byTo a b k))).has s9 (a11.eval (.tmp 4)):=al (show _ = _ from D8.done 1) ((Pr.own 11 3 1 (List.length (byTo a b k)) (List.map Ty.int (byTo a b k))).up D8.stp q17)
   refine tn (wp_ret ?_)
   obtain ⟨t3,e1,h1,q50⟩:=Own.seal q49 dE
   rw [← e1]
   have F11:=(F5.step0 D8.stp).step h1 dE
   exact ret1 rfl ok10 F11 (cvt (by (obtain rfl:k = b.length:=oM;rw [byTo_all a b hl])) q50)
end Go.Proofs.Ytkjifbgofckfeaa
