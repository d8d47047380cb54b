/- The functions that the law ColourSays reaches, each by its contract. Part 10. -/
import Derived.Test.YtkjifbgofckfeaaColourSaysW9
namespace Go.Proofs.Ytkjifbgofckfeaa
open Go.KL
set_option maxHeartbeats 4000000 in
set_option maxRecDepth 100000 in
theorem fill_fn:∀ (d:Nat) (cy:List Int) (mv:Value) (m:List Int) (len:Nat) (σ:GW) (hlow:Low [40] σ) (v0 v1 v2:Value) (hv0:Ty.has (Ty.lst Ty.int cy) σ v0) (hv1:Ty.has (Ty.val mv) σ v1) (hv2:Ty.has (Ty.nat len) σ v2) (ho_mv:Own σ 40 3 1 mv (List.length m) (List.map Ty.int m)) (hd:d = (partsL cy len).length) (hF0:FilP cy m len) (hm1:1 ≤ m.length),FnL Try.prog 100 #[v0,v1,v2] σ [40] (fun v τ=>(Ty.has (Ty.nat (wayN (partsL cy len) m)) τ v)∧(Own τ 40 3 1 mv (List.length m) (List.map Ty.int m))):=by
 intro d
 induction d using Nat.strongRecOn with
 | _ d ih =>
 intro cy mv m len σ hlow v0 v1 v2 hv0 hv1 hv2 ho_mv hd hF0 hm1
 refine fn_introL hlow Try.func100 rfl Try.ntmps100 (Nat.le_of_ble_eq_true rfl) (fun a0 F0 ok0 hargs=>?_)
 have p0:=pB (hargs 0 _ rfl) hv0
 have b1:=sl_le p0
 have p1:=pB (hargs 1 _ rfl) hv1
 have p2:=pB (hargs 2 _ rfl) hv2
 clear hargs;refine wp_seq ?_
 refine gI a0 σ ok0 (gC (Ty.int (0:Int)) (gE ok0 fun a1 s1 ok1 D1=>?_));have o1:=Own.k0 ho_mv D1.stp;refine tn (wp_seq (wp_block ?_))
 refine loop (fun n1 a2 w1=>∃ (t1:GW) (q:Nat),t1.w = w1∧FromL [40] σ t1∧Ok 66 [] a2∧At (Ty.nat q) t1 a2 (.tmp 2)∧At (Ty.lst Ty.int cy) t1 a2 (.tmp 0)∧At (Ty.val mv) t1 a2 (.tmp 1)∧Own t1 40 3 1 mv (List.length m) (List.map Ty.int m)∧(FilP cy m q)∧(partsL cy len = partsL cy q)∧n1 = 1 * q) (1 * (len)) ?_ ?_
 ·
  exact ⟨s1,len,rfl,(F0.step0 D1.stp),ok1,(cJ (D1.k p2)),(D1.k p0),(D1.k p1),o1,hF0,rfl,rfl⟩
 ·
  rintro n2 a3 w2 ⟨t2,q,rfl,F2,ok2,q4,q5,q6,o2,hF,hW,rfl⟩
  have hFl:=hF.le
  have hFv:=hF.vl
  refine wp_seq (wp_seq ?_)
  refine gI a3 t2 ok2 (gM q4 (gS rfl (fun A B G H I d0=>rP (y_gtr (eI d0) rfl)) (gS rfl (fun A B G H I d0=>rP (y_move (eI d0))) (gS rfl (fun A B G H I d0=>gu H (eI d0) fun hg=>y_move (kp (I 0 rfl) G q5)) (gS rfl (fun A B G H I d0=>gu H (eI d0) fun hg=>y_move (kp (I 2 rfl) G q4)) (gT (Ty.grd ((decide ((0:Int) < ((q:Nat):Int))) = true) (Ty.nat (q - 1))) rfl (fun A B G H I d0 d1=>gut H (eI d1) fun hg hp=>(y_sub ((ef d0 rfl).1 hg) rfl wX).mono (fun τ _ h=>cvi (σ:=τ) oM h)) (gT (Ty.grd ((decide ((0:Int) < ((q:Nat):Int))) = true) (Ty.ref [(Ty.int (cy.getD (q - 1) 0))])) rfl (fun A B G H I d0 d1 d2=>gut H (eI d2) fun hg hp=>y_index1 Try.underlying22 Try.inf3 ((ef d0 rfl).1 hg) ((ef d1 rfl).1 hg) oM (lst_get Ty.int cy 0 (q - 1) oM)) (gS rfl (fun A B G H I d0 d1=>gu H (eI d1) fun hg=>y_load Try.underlying3 rfl ((ef d0 rfl).1 hg) rfl) (gS rfl (fun A B G H I d0 d1=>gu H (eI d1) fun hg=>y_eql ((ef d0 rfl).1 hg) rfl) (gS rfl (fun A B G H I d0 d1=>rP (y_pick_and (eI d0) (eI d1) rfl)) (gE ok2 fun a4 s2 ok3 D2=>?_)))))))))));have F3:=F2.step0 D2.stp;have q7:=D2.k q4;have q8:=D2.k q5;have q9:=D2.k q6;have o3:=Own.k0 o2 D2.stp;refine tn ?_
  refine cond_t (D2.m 9 rfl) (fun c1=>?_) (fun c1=>?_)
  ·
   obtain ⟨d1,d2⟩:=Bool.and_eq_true_iff.mp c1
   replace d1:=of_decide_eq_true d1
   replace d2:=of_decide_eq_true d2
   simp only [Bool.and_eq_true,decide_eq_true_eq] at c1;obtain ⟨hS1,hS2⟩:=hF.skip2 oM c1.2
   refine wp_skip (tn (wp_block ?_))
   refine gI a4 s2 ok3 (gM q7 (gT (Ty.nat (q - 1)) rfl (fun A B G H I d0=>rP ((y_sub (eI d0) rfl wX).mono (fun τ _ h=>cvi (σ:=τ) oM h))) (gB 0 (gE ok3 fun a5 s3 ok4 D3=>?_))));have o4:=Own.k0 o3 D3.stp;refine bn ?_
   exact tn ⟨1 * ((q - 1)),by omega,s3,(q - 1),rfl,(F3.step0 D3.stp),ok4,(cJ (D3.m 2 rfl)),(D3.k q8),(D3.k q9),o4,hS1,hW.trans hS2,rfl⟩
  ·
   simp only [Bool.and_eq_false_iff,decide_eq_false_iff_not] at c1
   refine wp_exit (tx (tx (bx (tn (wp_seq (wp_seq ?_))))))
   refine gI a4 s2 ok3 (gM q7 (gS rfl (fun A B G H I d0=>rP (y_eql (eI d0) rfl)) (gE ok3 fun a6 s4 ok5 D4=>?_)));have F5:=F3.step0 D4.stp;have o5:=Own.k0 o3 D4.stp;refine tn ?_
   refine cond_p (p:=(((q:Nat):Int) = (0:Int))) (D4.m 1 rfl) (fun c2=>?_) (fun c2=>?_)
   ·
    have hq0:q = 0:=oM;have hF9:FilP cy m 0:=hq0 ▸ hF
    refine wp_seq ?_
    refine gI a6 s4 ok5 (gC (Ty.int (1:Int)) (gE ok5 fun a7 s5 ok6 D5=>?_));have o6:=Own.k0 o5 D5.stp;refine tn (wp_ret (tr ?_))
    exact retL1 rfl ok6 (F5.step0 D5.stp) ⟨(cvi (by ((rw [hW,hq0,hF9.none];rfl))) (D5.m 0 rfl)),o6⟩
   ·
    have hq:0 < q:=oM;have hz0:cy.getD (q - 1) 0 ≠ 0:=c1.resolve_left oM;have hvb:=hF.vb (q - 1)
    refine wp_skip (tn (wp_seq ?_))
    refine gI a6 s4 ok5 (gM (D4.k q8) (gE2 ok5 fun a8 s6 ok7 D6=>?_));have o7:=Own.k0 o5 D6.stp
    refine tL ok7 (y_callL (L:=[]) [] [(41,61)] _ rfl dE Try.func101 rfl rfl my1 (cloneN_fn (cy) _ lW _ (uL (D6.m 0 rfl))  oX oX)) fun a9 s7 hs1 ok8 r1 sm1=>?_
    obtain ⟨t3,⟨x1,hT1,o8⟩,B1⟩:=r1
    have q24:At (Ty.val x1) s7 a9 (.tmp 25):=Ty.up _ B1.le hT1
    have o9:Own s7 61 3 1 x1 (List.length (cy)) (List.map Ty.int (cy)):=Own.ren o8 (B1.ren dE rfl)
    refine tL ok8 (Yld.toL (y_as q24)) fun a10 s8 hs2 ok9 r2 sm2=>?_
    have q25:=kq hs2 sm2 2 (kq hs1 sm1 2 (D6.k (D4.k q7)));have o12:=Own.kl o9 hs2
    have q27:At (Ty.val x1) s8 a10 (.tmp 7):=r2
    clear r2;refine wpList_nil (tn (wp_seq ?_))
    refine gI a10 s8 ok9 (gM q27 (gM q25 (gT (Ty.nat (q - 1)) rfl (fun A B G H I d0=>rP ((y_sub (eI d0) rfl wX).mono (fun τ _ h=>cvi (σ:=τ) oM h))) (gT (Ty.val (cellPtr x1 (q - 1))) rfl (fun A B G H I d0 d1=>rP (own_index1 (i:=(((q - 1):Nat):Int)) Try.underlying22 Try.inf3 (Own.k0 o12 G) (eI d0) (eI d1) oM oM)) (gS rfl (fun A B G H I d0=>rP (own_load Try.underlying3 rfl (Own.k0 o12 G) (eI d0) (lst_get Ty.int (cy) 0 (q - 1) oM))) (gT (Ty.int (((cy).getD (q - 1) 0) - (1:Int))) rfl (fun A B G H I d0=>rP (y_sub (eI d0) rfl wX)) (gT (Ty.val (cellPtr x1 (q - 1))) rfl (fun A B G H I d0 d1 d2 d3 d4 d5 d6 d7=>rP (own_index1 (i:=(((q - 1):Nat):Int)) Try.underlying22 Try.inf3 (Own.k0 o12 G) (eI d0) (eI d1) oM oM)) (gE2 ok9 fun a11 s9 ok10 D7=>?_))))))));have o13:=Own.k0 (Own.kl (Own.kl o7 hs1) hs2) D7.stp;have o14:=Own.k0 o12 D7.stp
    refine tailL0 (L:=[61]) (R:=(fun _ τ=>Own τ 61 3 1 x1 (List.length (cy)) ((List.map Ty.int (cy)).set (q - 1) (Ty.int (((cy).getD (q - 1) 0) - (1:Int)))))) rfl rfl (YldM.toL (m_store Try.inf3 dE o14 (D7.m 6 rfl) (by simp only [List.length_map,List.length_set];omega) (D7.m 5 rfl) (one_val rfl))) (fun v1 s10 hs3 r3=>?_)
    have q33:=kpL hs3 dE rfl (D7.k q25);have q34:=kpL hs3 dE rfl (D7.k (kq hs2 sm2 1 (kq hs1 sm1 1 (D6.k (D4.k q9)))));have q35:=kpL hs3 dE rfl (D7.k q27)
    have o15:Own s10 61 3 1 x1 (List.length ((cy).set (q - 1) (((cy).getD (q - 1) 0) - (1:Int)))) (List.map Ty.int ((cy).set (q - 1) (((cy).getD (q - 1) 0) - (1:Int)))):=(cvo (by simp) (by first | (simp;done) | (rw [List.map_set];done) | (rw [List.map_set];rfl)) r3)
    clear r3;refine wpList_nil (tn (wp_seq ?_))
    obtain ⟨t4,e1,h1,q37⟩:=Own.seal o15 dE
    rw [← e1]
    have F12:=(((((F5.step0 D6.stp).sl hs1).sl hs2).step0 D7.stp).sl hs3).step h1 dE;have o17:=Own.keepL (Own.kl o13 hs3) (h1.toL (L:=[61]) (by simp)) dE dE;have q38:=Ty.up (Ty.nat q) (h1.le dE) q33;have q39:=Ty.up (Ty.val mv) (h1.le dE) q34
    have q40:At (Ty.lst Ty.int ((cy).set (q - 1) (((cy).getD (q - 1) 0) - (1:Int)))) t4 a11 (.tmp 7):=by have e:a11.eval (.tmp 7) = x1:=q35;show Ty.has _ _ _;rw [e];exact q37
    refine gI a11 t4 ok10 (gC (Ty.int (0:Int)) (gE ok10 fun a12 s11 ok11 D8=>?_));have q42:=D8.k q39;have o18:=Own.k0 o17 D8.stp;refine tn (wp_seq (wp_seq ?_))
    refine gI a12 s11 ok11 (gM q42 (gT (Ty.nat (List.length m)) rfl (fun A B G H I d0=>rP (own_len Try.underlying22 (al (R:=(Pr.own 40 3 1 (List.length m) (List.map Ty.int m))) (eI d0) (Own.k0 o18 G)))) (gT (Ty.int (0:Int)) rfl (fun A B G H I=>rP (y_move rfl)) (gE ok11 fun a13 s12 ok12 D9=>?_))));have o19:=Own.k0 o18 D9.stp;refine tn (wp_block ?_)
    refine loop (fun n3 a14 w3=>∃ (t5:GW) (k:Nat),t5.w = w3∧FromL [40] σ t5∧Ok 66 [] a14∧At (Ty.nat k) t5 a14 (.tmp 35)∧At (Ty.nat (wayT q (partsL (cy.set (q - 1) (cy.getD (q - 1) 0 - 1)) q) m k)) t5 a14 (.tmp 8)∧At (Ty.nat q) t5 a14 (.tmp 2)∧At (Ty.val mv) t5 a14 (.tmp 1)∧At (Ty.lst Ty.int ((cy).set (q - 1) (((cy).getD (q - 1) 0) - (1:Int)))) t5 a14 (.tmp 7)∧At (Ty.nat (List.length m)) t5 a14 (.tmp 34)∧Own t5 40 3 1 mv (List.length m) (List.map Ty.int m)∧(k ≤ m.length)∧n3 = m.length - k) (m.length - (0)) ?_ ?_
    ·
     exact ⟨s12,0,rfl,((F12.step0 D8.stp).step0 D9.stp),ok12,(cJ (D9.m 2 rfl)),(cvi (by (simp [wayT])) (D9.k (D8.m 0 rfl))),(D9.k (D8.k q38)),(D9.k q42),(D9.k (D8.k q40)),(D9.m 1 rfl),o19,by omega,rfl⟩
    ·
     rintro n4 a15 w4 ⟨t6,k,rfl,F15,ok13,q51,q52,q53,q54,q55,q56,o20,hk,rfl⟩
     have hwb:=hF.bd2 hq hz0 (show k ≤ m.length by omega)
     have hml:=hF.ml
     refine wp_seq ?_
     refine gI a15 t6 ok13 (gS rfl (fun A B G H I=>rP (y_lss (kp (I 35 rfl) G q51) (kp (I 34 rfl) G q56))) (gE ok13 fun a16 s13 ok14 D10=>?_));have F16:=F15.step0 D10.stp;have q57:=D10.k q51;have q58:=D10.k q52;have o21:=Own.k0 o20 D10.stp;refine tn (wp_seq ?_)
     refine cond_p (p:=(((k:Nat):Int) < (((List.length m):Nat):Int))) (D10.m 0 rfl) (fun c3=>?_) (fun c3=>?_)
     ·
      have hmb:=hF.mb k
      refine wp_skip (tn (wp_seq (wp_block (wp_seq ?_))))
      refine gI a16 s13 ok14 (gM q57 (gB 0 (gE ok14 fun a17 s14 ok15 D11=>?_)));have q66:=D11.k (D10.k q53);have q67:=D11.k (D10.k q54);have o22:=Own.k0 o21 D11.stp;have q70:=D11.m 1 rfl;refine tn (wp_seq ?_)
      refine gI a17 s14 ok15 (gM q67 (gM q70 (gT (Ty.val (cellPtr mv k)) rfl (fun A B G H I d0 d1=>rP (own_index1 (i:=((k:Nat):Int)) Try.underlying22 Try.inf3 (Own.k0 o22 G) (eI d0) (eI d1) oM oM)) (gS rfl (fun A B G H I d0=>rP (own_load Try.underlying3 rfl (Own.k0 o22 G) (eI d0) (lst_get Ty.int m 0 k oM))) (gM q66 (gS rfl (fun A B G H I d0 d1=>rP (y_geq (eI d0) (eI d1))) (gE ok15 fun a18 s15 ok16 D12=>?_)))))));have F18:=(F16.step0 D11.stp).step0 D12.stp;have q71:=D12.k (D11.k q57);have q72:=D12.k (D11.k q58);have q73:=D12.k q66;have q74:=D12.k q67;have q75:=D12.k (D11.k (D10.k q55));have q76:=D12.k (D11.k (D10.k q56));have q77:=D12.k q70;have o23:=Own.k0 o22 D12.stp;refine tn ?_
      refine cond_p (p:=(((q:Nat):Int) ≤ (m.getD k 0))) (D12.m 5 rfl) (fun c4=>?_) (fun c4=>?_)
      ·
       have hmk:(q:Int) ≤ m.getD k 0:=oM;obtain ⟨hF2,hdl⟩:=hF.sub2 hq hz0 (show k < m.length by omega) hmk;have hF2b:=hF2.wbd;have hwb2:=hF.bd2 hq hz0 (show k + 1 ≤ m.length by omega);rw [wayT_yes hmk] at hwb2
       refine wp_seq ?_
       refine gI a18 s15 ok16 (gM q74 (gM q77 (gT (Ty.val (cellPtr mv k)) rfl (fun A B G H I d0 d1=>rP (own_index1 (i:=((k:Nat):Int)) Try.underlying22 Try.inf3 (Own.k0 o23 G) (eI d0) (eI d1) oM oM)) (gS rfl (fun A B G H I d0=>rP (own_load Try.underlying3 rfl (Own.k0 o23 G) (eI d0) (lst_get Ty.int m 0 k oM))) (gM q73 (gT (Ty.int ((m.getD k 0) - ((q:Nat):Int))) rfl (fun A B G H I d0 d1=>rP (y_sub (eI d0) (eI d1) wX)) (gT (Ty.val (cellPtr mv k)) rfl (fun A B G H I d0 d1 d2 d3 d4 d5 d6 d7=>rP (own_index1 (i:=((k:Nat):Int)) Try.underlying22 Try.inf3 (Own.k0 o23 G) (eI d0) (eI d1) oM oM)) (gE2 ok16 fun a19 s16 ok17 D13=>?_))))))));have o24:=Own.k0 o23 D13.stp
       refine tailL0 (L:=[40]) (R:=(fun _ τ=>Own τ 40 3 1 mv (List.length m) ((List.map Ty.int m).set k (Ty.int ((m.getD k 0) - ((q:Nat):Int)))))) rfl rfl (YldM.toL (m_store Try.inf3 dE o24 (D13.m 6 rfl) (by simp only [List.length_map,List.length_set];omega) (D13.m 5 rfl) (one_val rfl))) (fun v2 s17 hs4 r4=>?_)
       have q88:=kpL hs4 dE rfl (D13.k q71);have q89:=kpL hs4 dE rfl (D13.k q72);have q90:=kpL hs4 dE rfl (D13.k q73);have q91:=kpL hs4 dE rfl (D13.k q74);have q92:=kpL hs4 dE rfl (D13.k q75);have q93:=kpL hs4 dE rfl (D13.k q76);have q94:=kpL hs4 dE rfl (D13.k q77)
       have o25:Own s17 40 3 1 mv (List.length (m.set k ((m.getD k 0) - ((q:Nat):Int)))) (List.map Ty.int (m.set k ((m.getD k 0) - ((q:Nat):Int)))):=(cvo (by simp) (by first | (simp;done) | (rw [List.map_set];done) | (rw [List.map_set];rfl)) r4)
       clear r4;refine wpList_nil (tn (wp_seq ?_))
       refine gI a19 s17 ok17 (gM q89 (gM q92 (gM q91 (gM q90 (gE2 ok17 fun a20 s18 ok18 D14=>?_)))));have o26:=Own.k0 o25 D14.stp
       refine tL ok18 (y_callL (L:=[40]) [(40,40)] [(40,40)] #[a20.eval (.tmp 52),a20.eval (.tmp 53),a20.eval (.tmp 54)] rfl dE Try.func100 rfl rfl my3 (ih ((partsL (((cy).set (q - 1) (((cy).getD (q - 1) 0) - (1:Int)))) (q)).length) (by (rw [hd,hW];omega)) (((cy).set (q - 1) (((cy).getD (q - 1) 0) - (1:Int)))) (mv) ((m.set k ((m.getD k 0) - ((q:Nat):Int)))) (q) _ lW _ _ _ (uL (D14.m 1 rfl)) (uL (D14.m 2 rfl)) (uL (cvi (σ:=s18) (by first | rfl | omega | assumption | (rw [List.length_set];omega)) (D14.m 3 rfl))) (Own.ren (cvo (by (simp)) (by (simp)) o26) (GW.ren_lend _ _ dE rfl)) (by first | rfl | omega | assumption | (rw [List.length_set];omega)) (by first | rfl | omega | assumption | (rw [List.length_set];omega)) (by first | rfl | omega | assumption | (rw [List.length_set];omega)))) fun a21 s19 hs5 ok19 r5 sm3=>?_
       obtain ⟨t7,⟨hT2,o27⟩,B2⟩:=r5
       have q115:At (Ty.nat (wayN (partsL (((cy).set (q - 1) (((cy).getD (q - 1) 0) - (1:Int)))) (q)) ((m.set k ((m.getD k 0) - ((q:Nat):Int)))))) s19 a21 (.tmp 55):=Ty.up _ B2.le hT2
       have o28:Own s19 40 3 1 mv (List.length ((m.set k ((m.getD k 0) - ((q:Nat):Int))))) (List.map Ty.int ((m.set k ((m.getD k 0) - ((q:Nat):Int))))):=Own.ren o27 (B2.ren dE rfl)
       refine tL (R:=(fun v τ=>Pr.has (Ty.pr (Ty.nat ((wayT q (partsL (cy.set (q - 1) (cy.getD (q - 1) 0 - 1)) q) m k) + (wayN (partsL (((cy).set (q - 1) (((cy).getD (q - 1) 0) - (1:Int)))) (q)) ((m.set k ((m.getD k 0) - ((q:Nat):Int)))))))) τ v)) ok19 (Yld.toL ((y_add (kq hs5 sm3 51 (D14.m 0 rfl)) q115 wX).mono (fun τ _ h=>cN (σ:=τ) h))) fun a22 s20 hs6 ok20 r6 sm4=>?_
       have q117:=kq hs6 sm4 8 (kq hs5 sm3 8 (D14.k q89))
       have q123:At (Ty.nat ((wayT q (partsL (cy.set (q - 1) (cy.getD (q - 1) 0 - 1)) q) m k) + (wayN (partsL (((cy).set (q - 1) (((cy).getD (q - 1) 0) - (1:Int)))) (q)) ((m.set k ((m.getD k 0) - ((q:Nat):Int))))))) s20 a22 (.tmp 56):=r6
       clear r6
       refine tL ok20 (Yld.toL (y_as q123)) fun a23 s21 hs7 ok21 r7 sm5=>?_
       have q125:=kq hs7 sm5 2 (kq hs6 sm4 2 (kq hs5 sm3 2 (D14.k q90)));have q126:=kq hs7 sm5 1 (kq hs6 sm4 1 (kq hs5 sm3 1 (D14.k q91)));have o30:=Own.kl (Own.kl o28 hs6) hs7
       have q130:At (Ty.nat ((wayT q (partsL (cy.set (q - 1) (cy.getD (q - 1) 0 - 1)) q) m k) + (wayN (partsL (((cy).set (q - 1) (((cy).getD (q - 1) 0) - (1:Int)))) (q)) ((m.set k ((m.getD k 0) - ((q:Nat):Int))))))) s21 a23 (.tmp 8):=r7
       clear r7;refine wpList_nil (tn ?_)
       have hbk:(m.set k (m.getD k 0 - (q:Int))).getD k 0 = m.getD k 0 - (q:Int):=getD_seta oM
       refine gI a23 s21 ok21 (gM q126 (gM (kq hs7 sm5 9 (kq hs6 sm4 9 (kq hs5 sm3 9 (D14.k q94)))) (gT (Ty.val (cellPtr mv k)) rfl (fun A B G H I d0 d1=>rP (own_index1 (i:=((k:Nat):Int)) Try.underlying22 Try.inf3 (Own.k0 o30 G) (eI d0) (eI d1) oM (by simp only [List.length_set];omega))) (gS rfl (fun A B G H I d0=>rP (own_load Try.underlying3 rfl (Own.k0 o30 G) (eI d0) (lst_get Ty.int ((m.set k ((m.getD k 0) - ((q:Nat):Int)))) 0 k (by simp only [List.length_set];omega)))) (gM q125 (gT (Ty.int ((((m.set k ((m.getD k 0) - ((q:Nat):Int)))).getD k 0) + ((q:Nat):Int))) rfl (fun A B G H I d0 d1=>rP (y_add (eI d0) (eI d1) wX)) (gT (Ty.val (cellPtr mv k)) rfl (fun A B G H I d0 d1 d2 d3 d4 d5 d6 d7=>rP (own_index1 (i:=((k:Nat):Int)) Try.underlying22 Try.inf3 (Own.k0 o30 G) (eI d0) (eI d1) oM (by simp only [List.length_set];omega))) (gE2 ok21 fun a24 s22 ok22 D15=>?_))))))));have o31:=Own.k0 o30 D15.stp
       refine tailL0 (L:=[40]) (R:=(fun _ τ=>Own τ 40 3 1 mv (List.length ((m.set k ((m.getD k 0) - ((q:Nat):Int))))) ((List.map Ty.int ((m.set k ((m.getD k 0) - ((q:Nat):Int))))).set k (Ty.int ((((m.set k ((m.getD k 0) - ((q:Nat):Int)))).getD k 0) + ((q:Nat):Int)))))) rfl rfl (YldM.toL (m_store Try.inf3 dE o31 (D15.m 6 rfl) (by simp only [List.length_map,List.length_set];omega) (D15.m 5 rfl) (one_val rfl))) (fun v3 s23 hs8 r8=>?_)
       have q139:=kpL hs8 dE rfl (D15.k (kq hs7 sm5 35 (kq hs6 sm4 35 (kq hs5 sm3 35 (D14.k q88)))));have q140:=kpL hs8 dE rfl (D15.k q125);have q141:=kpL hs8 dE rfl (D15.k q126);have q142:=kpL hs8 dE rfl (D15.k (kq hs7 sm5 7 (kq hs6 sm4 7 (kq hs5 sm3 7 (D14.k q92)))));have q143:=kpL hs8 dE rfl (D15.k (kq hs7 sm5 34 (kq hs6 sm4 34 (kq hs5 sm3 34 (D14.k q93)))));have q144:=kpL hs8 dE rfl (D15.k q130)
       have o32:Own s23 40 3 1 mv (List.length (((m.set k ((m.getD k 0) - ((q:Nat):Int)))).set k ((((m.set k ((m.getD k 0) - ((q:Nat):Int)))).getD k 0) + ((q:Nat):Int)))) (List.map Ty.int (((m.set k ((m.getD k 0) - ((q:Nat):Int)))).set k ((((m.set k ((m.getD k 0) - ((q:Nat):Int)))).getD k 0) + ((q:Nat):Int)))):=(cvo (by simp) (by first | (simp;done) | (rw [List.map_set];done) | (rw [List.map_set];rfl)) r8)
       clear r8;refine wpList_nil ?_
       have o33:Own s23 40 3 1 mv (List.length m) (List.map Ty.int m):=(cvo (by (first | exact set_back2 oM | (rw [set_back2 oM]))) (by (first | exact set_back2 oM | (rw [set_back2 oM]))) o32)
       refine bn (tn ?_)
       refine gI a24 s23 ok22 (gT (Ty.nat (k + 1)) rfl (fun A B G H I=>rP ((y_add (kp (I 35 rfl) G q139) rfl wX).mono (fun τ _ h=>cN (σ:=τ) h))) (gS rfl (fun A B G H I d0=>rP (y_move (eI d0))) (gE ok22 fun a25 s24 ok23 D16=>?_)));have o34:=Own.k0 o33 D16.stp
       exact tn ⟨m.length - ((k+1)),by omega,s24,(k+1),rfl,(((((((((F18.step0 D13.stp).sl hs4).step0 D14.stp).sl hs5).sl hs6).sl hs7).step0 D15.stp).sl hs8).step0 D16.stp),ok23,(cJ (D16.m 1 rfl)),(cvi (by (rw [wayT_yes hmk])) (D16.k q144)),(D16.k q140),(D16.k q141),(D16.k q142),(D16.k q143),o34,by omega,rfl⟩
      ·
       have hmk:¬ (q:Int) ≤ m.getD k 0:=oM
       refine wp_skip (bn (tn ?_))
       refine gI a18 s15 ok16 (gT (Ty.nat (k + 1)) rfl (fun A B G H I=>rP ((y_add (kp (I 35 rfl) G q71) rfl wX).mono (fun τ _ h=>cN (σ:=τ) h))) (gS rfl (fun A B G H I d0=>rP (y_move (eI d0))) (gE ok16 fun a26 s25 ok24 D17=>?_)));have o35:=Own.k0 o23 D17.stp
       exact tn ⟨m.length - ((k+1)),by omega,s25,(k+1),rfl,(F18.step0 D17.stp),ok24,(cJ (D17.m 1 rfl)),(cvi (by (rw [wayT_no hmk])) (D17.k q72)),(D17.k q73),(D17.k q74),(D17.k q75),(D17.k q76),o35,by omega,rfl⟩
     ·
      have ek:k = m.length:=oM
      refine wp_exit (tx (tx (bx (tn (wp_seq ?_)))))
      refine gI a16 s13 ok14 (gM q58 (gB 0 (gE ok14 fun a27 s26 ok25 D18=>?_)));have o36:=Own.k0 o21 D18.stp;refine tn (wp_ret ?_)
      exact retL1 rfl ok25 (F16.step0 D18.stp) ⟨(cvi (by (rw [hW,hF.step2 hq hz0,ek])) (D18.m 1 rfl)),o36⟩
set_option maxHeartbeats 4000000 in
set_option maxRecDepth 100000 in
theorem withErr_fn (n:Int) (gens:List (List Int)) (many:List Int) (e:Int) (σ:GW)  (v0 v1 v2:Value) (hv0:Ty.has (Ty.int n) σ v0) (hv1:Ty.has (Ty.lst Ty.ints gens) σ v1) (hv2:Ty.has (Ty.lst Ty.int many) σ v2)  (hW:WErr n gens many e) :
    FnC Try.prog 62 #[v0,v1,v2] σ (Ty.tup2 (Ty.int (0:Int)) (Ty.int e)):=by
 refine fn_intro0 Try.func62 rfl Try.ntmps62 (Nat.le_of_ble_eq_true rfl) (fun s0 a0 hle F0 ok0 hargs=>?_)
 have p0:=pA hle (hargs 0 _ rfl) hv0
 have p1:=pA hle (hargs 1 _ rfl) hv1
 have b1:=sl_le p1
 have p2:=pA hle (hargs 2 _ rfl) hv2
 have b2:=sl_le p2
 clear hargs;refine wp_seq ?_
 refine gI a0 s0 ok0 (gC (Ty.int (0:Int)) (gC (Ty.int (0:Int)) (gE ok0 fun a1 s1 ok1 D1=>?_)));have q3:=D1.k p2;refine tn (wp_seq (wp_seq ?_))
 refine gI a1 s1 ok1 (gM q3 (gS rfl (fun A B G H I d0=>rP (y_len Try.underlying22 (eI d0))) (gS rfl (fun A B G H I d0=>rP (y_gtr (eI d0) rfl)) (gE ok1 fun a2 s2 ok2 D2=>?_))));have F2:=(F0.step0 D1.stp).step0 D2.stp;refine tn ?_
 refine cond_p (p:=((8:Int) < (((List.length many):Nat):Int))) (D2.m 2 rfl) (fun c1=>?_) (fun c1=>?_)
 ·
  have he:e = 12:=hW.bad (fun h_=>by have h2_:=h_.1;omega)
  refine wp_seq ?_
  refine gI a2 s2 ok2 (gC (Ty.int (0:Int)) (gC (Ty.int (12:Int)) (gE ok2 fun a3 s3 ok3 D3=>?_)));refine tn (wp_ret (tr ?_))
  exact retL2 rfl ok3 (F2.step0 D3.stp) (hasT2 (D3.m 0 rfl) (cvi (by (exact he.symm)) (D3.m 1 rfl)))
 ·
  refine wp_skip (tn (wp_seq ?_))
  refine gI a2 s2 ok2 (gC (Ty.int (0:Int)) (gE ok2 fun a4 s4 ok4 D4=>?_));have q12:=D4.k (D2.k q3);refine tn (wp_seq (wp_seq ?_))
  refine gI a4 s4 ok4 (gM q12 (gS rfl (fun A B G H I d0=>rP (y_len Try.underlying22 (eI d0))) (gT (Ty.int (0:Int)) rfl (fun A B G H I=>rP (y_move rfl)) (gE ok4 fun a5 s5 ok5 D5=>?_))));refine tn (wp_block ?_)
  refine loop (fun n1 a6 w1=>∃ (t1:GW) (i:Nat),t1.w = w1∧FromL [] s0 t1∧Ok 74 [] a6∧At (Ty.nat i) t1 a6 (.tmp 22)∧At (Ty.int (alT many i)) t1 a6 (.tmp 8)∧At (Ty.int n) t1 a6 (.tmp 0)∧At (Ty.lst Ty.ints gens) t1 a6 (.tmp 1)∧At (Ty.lst Ty.int many) t1 a6 (.tmp 2)∧At (Ty.lst Ty.int many) t1 a6 (.tmp 20)∧At (Ty.nat (List.length many)) t1 a6 (.tmp 21)∧(i ≤ many.length)∧(∀ k,k < i → 0 ≤ many.getD k 0∧many.getD k 0 ≤ n)∧n1 = many.length - i) (many.length - (0)) ?_ ?_
  ·
   exact ⟨s5,0,rfl,((F2.step0 D4.stp).step0 D5.stp),ok5,(cJ (D5.m 2 rfl)),(cvi (by (rfl)) (D5.k (D4.m 0 rfl))),(D5.k (D4.k (D2.k (D1.k p0)))),(D5.k (D4.k (D2.k (D1.k p1)))),(D5.k q12),(D5.m 0 rfl),(D5.m 1 rfl),by omega,fun k h=>by omega,rfl⟩
  ·
   rintro n2 a7 w2 ⟨t2,i,rfl,F6,ok6,q21,q22,q23,q24,q25,q26,q27,hi,hA,rfl⟩
   refine wp_seq ?_
   refine gI a7 t2 ok6 (gS rfl (fun A B G H I=>rP (y_lss (kp (I 22 rfl) G q21) (kp (I 21 rfl) G q27))) (gE ok6 fun a8 s6 ok7 D6=>?_));have F7:=F6.step0 D6.stp;have q28:=D6.k q21;have q29:=D6.k q22;have q30:=D6.k q23;have q31:=D6.k q24;have q33:=D6.k q26;refine tn (wp_seq ?_)
   refine cond_p (p:=(((i:Nat):Int) < (((List.length many):Nat):Int))) (D6.m 0 rfl) (fun c2=>?_) (fun c2=>?_)
   ·
    refine wp_skip (tn (wp_seq (wp_block (wp_seq ?_))))
    refine gI a8 s6 ok7 (gT (Ty.ref [(Ty.int (many.getD i 0))]) rfl (fun A B G H I=>rP (y_index1 Try.underlying22 Try.inf3 (kp (I 20 rfl) G q33) (kp (I 22 rfl) G q28) oM (lst_get Ty.int many 0 i oM))) (gS rfl (fun A B G H I d0=>rP (y_load Try.underlying3 rfl (eI d0) rfl)) (gB 0 (gE ok7 fun a9 s7 ok8 D7=>?_))));have q38:=D7.k q30;have q43:=D7.m 2 rfl;refine tn (wp_seq (wp_seq ?_))
    refine gI a9 s7 ok8 (gM q43 (gS rfl (fun A B G H I d0=>rP (y_lss (eI d0) rfl)) (gS rfl (fun A B G H I d0=>rP (y_move (eI d0))) (gS rfl (fun A B G H I d0=>gu H (eI d0) fun hg=>y_move (kp (I 10 rfl) G q43)) (gS rfl (fun A B G H I d0=>gu H (eI d0) fun hg=>y_move (kp (I 0 rfl) G q38)) (gS rfl (fun A B G H I d0 d1 d2=>gu H (eI d2) fun hg=>y_gtr ((ef d0 rfl).1 hg) ((ef d1 rfl).1 hg)) (gS rfl (fun A B G H I d0 d1=>rP (y_pick_or (eI d0) rfl (eI d1))) (gE ok8 fun a10 s8 ok9 D8=>?_))))))));have F9:=(F7.step0 D7.stp).step0 D8.stp;refine tn ?_
    refine cond_t (D8.m 6 rfl) (fun c3=>?_) (fun c3=>?_)
    ·
     simp only [Bool.or_eq_true,decide_eq_true_eq] at c3;have he:e = 12:=hW.bad (fun h_=>by have h2_:=h_.2 i oM;omega)
     refine wp_seq ?_
     refine gI a10 s8 ok9 (gC (Ty.int (0:Int)) (gC (Ty.int (12:Int)) (gE ok9 fun a11 s9 ok10 D9=>?_)));refine tn (wp_ret (tr (br (tr (tr (br (tr ?_)))))))
     exact retL2 rfl ok10 (F9.step0 D9.stp) (hasT2 (D9.m 0 rfl) (cvi (by (exact he.symm)) (D9.m 1 rfl)))
    ·
     obtain ⟨d1,d2⟩:=Bool.or_eq_false_iff.mp c3
     replace d1:=of_decide_eq_false d1
     replace d2:=of_decide_eq_false d2
     simp only [Bool.or_eq_false_iff,decide_eq_false_iff_not] at c3;have hA2:∀ k,k < i + 1 → 0 ≤ many.getD k 0∧many.getD k 0 ≤ n:=fun k hk=>(by (by_cases e_:k = i;(rw [e_];omega);exact hA k oM))
     refine wp_skip (tn ?_)
     refine gI a10 s8 ok9 (gM (D8.k (D7.k q29)) (gM (D8.k q43) (gT (Ty.int (wr64 ((alT many i) + (many.getD i 0)))) rfl (fun A B G H I d0 d1=>rP (y_addW (eI d0) (eI d1))) (gB 0 (gE ok9 fun a12 s10 ok11 D10=>?_)))));refine bn (tn ?_)
     refine gI a12 s10 ok11 (gT (Ty.nat (i + 1)) rfl (fun A B G H I=>rP ((y_add (kp (I 22 rfl) G (D10.k (D8.k (D7.k q28)))) rfl wX).mono (fun τ _ h=>cN (σ:=τ) h))) (gS rfl (fun A B G H I d0=>rP (y_move (eI d0))) (gE ok11 fun a13 s11 ok12 D11=>?_)))
     exact tn ⟨many.length - ((i+1)),by omega,s11,(i+1),rfl,((F9.step0 D10.stp).step0 D11.stp),ok12,(cJ (D11.m 1 rfl)),(cvi (by (rfl)) (D11.k (D10.m 3 rfl))),(D11.k (D10.k (D8.k q38))),(D11.k (D10.k (D8.k (D7.k q31)))),(D11.k (D10.k (D8.k (D7.k (D6.k q25))))),(D11.k (D10.k (D8.k (D7.k q33)))),(D11.k (D10.k (D8.k (D7.k (D6.k q27))))),by omega,hA2,rfl⟩
   ·
    have ei:i = many.length:=oM;have hok:manyOk n many:=⟨by omega,fun k hk=>hA k oM⟩
    refine wp_exit (tx (tx (bx (tn (wp_seq (wp_seq ?_))))))
    refine gI a8 s6 ok7 (gM q29 (gM q30 (gS rfl (fun A B G H I d0 d1=>rP (y_neq (eI d0) (eI d1))) (gE ok7 fun a14 s12 ok13 D12=>?_))));have F13:=F7.step0 D12.stp;refine tn ?_
    refine cond_p (p:=((alT many i) ≠ n)) (D12.m 2 rfl) (fun c4=>?_) (fun c4=>?_)
    ·
     have he:e = 1:=hW.sum hok (by rw [← ei];exact c4)
     refine wp_seq ?_
     refine gI a14 s12 ok13 (gC (Ty.int (0:Int)) (gC (Ty.int (1:Int)) (gE ok13 fun a15 s13 ok14 D13=>?_)));refine tn (wp_ret (tr ?_))
     exact retL2 rfl ok14 (F13.step0 D13.stp) (hasT2 (D13.m 0 rfl) (cvi (by (exact he.symm)) (D13.m 1 rfl)))
    ·
     have hE:GErr n gens e:=hW.grp hok (by rw [← ei];exact Decidable.not_not.1 c4)
     refine wp_skip (tn (wp_seq ?_))
     refine gI a14 s12 ok13 (gM (D12.k q30) (gM (D12.k q31) (gS rfl (fun A B G H I d0 d1=>rP (y_call _ Try.func48 rfl rfl my2 (kindsErr_fn (n) (gens) (e) _ _ _ (eI d0) (eI d1) oX))) (gS rfl (fun A B G H I d0=>rP (y_move (eI d0))) (gT (Ty.lstc 2 kndC ([]:List Knd)) rfl (fun A B G H I d0=>rP (y_ext2_0 (eI d0))) (gT (Ty.int e) rfl (fun A B G H I d0 d1=>rP (y_ext2_1 (eI d0))) (gB 0 (gB 0 (gE ok13 fun a16 s14 ok15 D14=>?_)))))))));have q78:=D14.m 7 rfl;refine tn (wp_seq (wp_seq ?_))
     refine gI a16 s14 ok15 (gM q78 (gS rfl (fun A B G H I d0=>rP (y_neq (eI d0) rfl)) (gE ok15 fun a17 s15 ok16 D15=>?_)));refine tn ?_
     refine cond_p (p:=(e ≠ (0:Int))) (D15.m 1 rfl) (fun c5=>?_) (fun c5=>?_)
     ·
      refine wp_seq ?_
      refine gI a17 s15 ok16 (gM (D15.k q78) (gC (Ty.int (0:Int)) (gB 0 (gE ok16 fun a18 s16 ok17 D16=>?_))));refine tn (wp_ret (tr ?_))
      exact retL2 rfl ok17 (((F13.step0 D14.stp).step0 D15.stp).step0 D16.stp) (hasT2 (D16.m 1 rfl) (D16.m 2 rfl))
     ·
      exfalso
      exact c5 hE.ne
set_option maxHeartbeats 4000000 in
set_option maxRecDepth 100000 in
theorem cwErr_fn (n:Int) (gens:List (List Int)) (many:List Int) (rows:List (List Int)) (f:Int) (e:Int) (σ:GW)  (v0 v1 v2 v3 v4:Value) (hv0:Ty.has (Ty.int n) σ v0) (hv1:Ty.has (Ty.lst Ty.ints gens) σ v1) (hv2:Ty.has (Ty.lst Ty.int many) σ v2) (hv3:Ty.has (Ty.lst Ty.ints rows) σ v3) (hv4:Ty.has (Ty.int f) σ v4)  (hW:WErr n gens many e) (hfe:manyOk n many → alT many many.length = n → f = e) :
    FnC Try.prog 54 #[v0,v1,v2,v3,v4] σ (Ty.bool true):=by
 have hne0:=hW.ne
 refine fn_intro0 Try.func54 rfl Try.ntmps54 (Nat.le_of_ble_eq_true rfl) (fun s0 a0 hle F0 ok0 hargs=>?_)
 have p0:=pA hle (hargs 0 _ rfl) hv0
 have p1:=pA hle (hargs 1 _ rfl) hv1
 have b1:=sl_le p1
 have p2:=pA hle (hargs 2 _ rfl) hv2
 have b2:=sl_le p2
 have p3:=pA hle (hargs 3 _ rfl) hv3
 have b3:=sl_le p3
 have p4:=pA hle (hargs 4 _ rfl) hv4
 clear hargs;refine wp_seq ?_
 refine gI a0 s0 ok0 (gC (Ty.bool false) (gE ok0 fun a1 s1 ok1 D1=>?_));have q1:=D1.k p0;have q3:=D1.k p2;refine tn (wp_seq ?_)
 refine gI a1 s1 ok1 (gM q1 (gM (D1.k p1) (gM q3 (gS rfl (fun A B G H I d0 d1 d2=>rP (y_call _ Try.func62 rfl rfl my3 (withErr_fn (n) (gens) (many) (e) _ _ _ _ (eI d0) (eI d1) (eI d2) oX))) (gS rfl (fun A B G H I d0=>rP (y_move (eI d0))) (gT (Ty.int (0:Int)) rfl (fun A B G H I d0=>rP (y_ext2_0 (eI d0))) (gT (Ty.int e) rfl (fun A B G H I d0 d1=>rP (y_ext2_1 (eI d0))) (gB 0 (gB 0 (gE ok1 fun a2 s2 ok2 D2=>?_))))))))));refine tn (wp_seq ?_)
 refine gI a2 s2 ok2 (gM (D2.k (D1.k p4)) (gB 0 (gE ok2 fun a3 s3 ok3 D3=>?_)));refine tn (wp_seq ?_)
 refine gI a3 s3 ok3 (gC (Ty.int (0:Int)) (gE ok3 fun a4 s4 ok4 D4=>?_));have q19:=D4.k (D3.k (D2.k q3));refine tn (wp_seq ?_)
 refine gI a4 s4 ok4 (gM q19 (gS rfl (fun A B G H I d0=>rP (y_len Try.underlying22 (eI d0))) (gS rfl (fun A B G H I d0=>rP (y_gtr (eI d0) rfl)) (gB 0 (gE ok4 fun a5 s5 ok5 D5=>?_)))));refine tn (wp_seq (wp_seq ?_))
 refine gI a5 s5 ok5 (gC (Ty.int (0:Int)) (gE ok5 fun a6 s6 ok6 D6=>?_));refine tn (wp_block ?_)
 refine loop (fun n1 a7 w1=>∃ (t1:GW) (i:Nat),t1.w = w1∧FromL [] s0 t1∧Ok 140 [] a7∧At (Ty.nat i) t1 a7 (.tmp 16)∧At (Ty.int (alT many i)) t1 a7 (.tmp 14)∧At (Ty.bool (decide ((8:Int) < (((List.length (many)):Nat):Int)))) t1 a7 (.tmp 15)∧At (Ty.int n) t1 a7 (.tmp 0)∧At (Ty.lst Ty.int many) t1 a7 (.tmp 2)∧At (Ty.lst Ty.ints rows) t1 a7 (.tmp 3)∧At (Ty.int (0:Int)) t1 a7 (.tmp 11)∧At (Ty.int e) t1 a7 (.tmp 12)∧At (Ty.int f) t1 a7 (.tmp 13)∧(i ≤ many.length)∧(∀ k,k < i → 0 ≤ many.getD k 0∧many.getD k 0 ≤ n)∧(0 < i → many.length ≤ 8)∧n1 = many.length - i) (many.length - (0)) ?_ ?_
 ·
  exact ⟨s6,0,rfl,((((((F0.step0 D1.stp).step0 D2.stp).step0 D3.stp).step0 D4.stp).step0 D5.stp).step0 D6.stp),ok6,(cJ (D6.m 0 rfl)),(cvi (by (rfl)) (D6.k (D5.k (D4.m 0 rfl)))),(cvb (by (rfl)) (D6.k (D5.m 3 rfl))),(D6.k (D5.k (D4.k (D3.k (D2.k q1))))),(D6.k (D5.k q19)),(D6.k (D5.k (D4.k (D3.k (D2.k (D1.k p3)))))),(D6.k (D5.k (D4.k (D3.k (D2.m 7 rfl))))),(D6.k (D5.k (D4.k (D3.k (D2.m 8 rfl))))),(D6.k (D5.k (D4.k (D3.m 1 rfl)))),by omega,fun k h=>by omega,by omega,rfl⟩
 ·
  rintro n2 a8 w2 ⟨t2,i,rfl,F7,ok7,q42,q43,q44,q45,q46,q47,q48,q49,q50,hi,hA,hl8,rfl⟩
  refine wp_seq (wp_seq ?_)
  refine gI a8 t2 ok7 (gM q42 (gM q46 (gS rfl (fun A B G H I d0=>rP (y_len Try.underlying22 (eI d0))) (gS rfl (fun A B G H I d0 d1=>rP (y_lss (eI d0) (eI d1))) (gE ok7 fun a9 s7 ok8 D7=>?_)))));have F8:=F7.step0 D7.stp;have q51:=D7.k q42;have q52:=D7.k q43;have q53:=D7.k q44;have q54:=D7.k q45;have q55:=D7.k q46;have q57:=D7.k q48;have q58:=D7.k q49;have q59:=D7.k q50;refine tn ?_
  refine cond_p (p:=(((i:Nat):Int) < (((List.length many):Nat):Int))) (D7.m 3 rfl) (fun c1=>?_) (fun c1=>?_)
  ·
   refine wp_skip (tn (wp_seq (wp_block (wp_seq (wp_seq ?_)))))
   refine gI a9 s7 ok8 (gM q53 (gS rfl (fun A B G H I d0=>rP (y_move (eI d0))) (gS rfl (fun A B G H I d0=>gu H (eI d0) fun hg=>y_move (kp (I 2 rfl) G q55)) (gS rfl (fun A B G H I d0=>gu H (eI d0) fun hg=>y_move (kp (I 16 rfl) G q51)) (gT (Ty.grd ((decide ((8:Int) < (((List.length (many)):Nat):Int))) = false) (Ty.ref [(Ty.int (many.getD i 0))])) rfl (fun A B G H I d0 d1 d2=>gu H (eI d2) fun hg=>y_index1 Try.underlying22 Try.inf3 ((ef d0 rfl).1 hg) ((ef d1 rfl).1 hg) oM (lst_get Ty.int many 0 i oM)) (gS rfl (fun A B G H I d0 d1=>gu H (eI d1) fun hg=>y_load Try.underlying3 rfl ((ef d0 rfl).1 hg) rfl) (gS rfl (fun A B G H I d0 d1=>gu H (eI d1) fun hg=>y_lss ((ef d0 rfl).1 hg) rfl) (gS rfl (fun A B G H I d0 d1=>rP (y_pick_or (eI d0) rfl (eI d1))) (gS rfl (fun A B G H I d0 d1=>rP (y_move (eI d0))) (gT (Ty.grd (((decide ((8:Int) < (((List.length (many)):Nat):Int))) || (decide ((many.getD i 0) < (0:Int)))) = false) (Ty.lst Ty.int many)) rfl (by intro A B G H I d0;refine run_guard H rfl rfl dE (eI d0) (fun hg=>?_);obtain ⟨d1,d2⟩:=Bool.or_eq_false_iff.mp hg;have d2:=of_decide_eq_false d2;exact y_move (kp (I 2 rfl) G q55)) (gT (Ty.grd (((decide ((8:Int) < (((List.length (many)):Nat):Int))) || (decide ((many.getD i 0) < (0:Int)))) = false) (Ty.nat i)) rfl (by intro A B G H I d0;refine run_guard H rfl rfl dE (eI d0) (fun hg=>?_);obtain ⟨d3,d4⟩:=Bool.or_eq_false_iff.mp hg;have d4:=of_decide_eq_false d4;exact y_move (kp (I 16 rfl) G q51)) ?_)))))))))))
   refine gT (Ty.grd (((decide ((8:Int) < (((List.length (many)):Nat):Int))) || (decide ((many.getD i 0) < (0:Int)))) = false) (Ty.ref [(Ty.int (many.getD i 0))])) rfl (by intro A B G H I d0 d1 d2;refine run_guard H rfl rfl dE (eI d2) (fun hg=>?_);obtain ⟨d5,d6⟩:=Bool.or_eq_false_iff.mp hg;have d6:=of_decide_eq_false d6;exact y_index1 Try.underlying22 Try.inf3 ((ef d0 rfl).1 hg) ((ef d1 rfl).1 hg) oM (lst_get Ty.int many 0 i oM)) (gT (Ty.grd (((decide ((8:Int) < (((List.length (many)):Nat):Int))) || (decide ((many.getD i 0) < (0:Int)))) = false) (Ty.int (many.getD i 0))) rfl (by intro A B G H I d0 d1;refine run_guard H rfl rfl dE (eI d1) (fun hg=>?_);obtain ⟨d7,d8⟩:=Bool.or_eq_false_iff.mp hg;have d8:=of_decide_eq_false d8;exact y_load Try.underlying3 rfl ((ef d0 rfl).1 hg) rfl) (gT (Ty.grd (((decide ((8:Int) < (((List.length (many)):Nat):Int))) || (decide ((many.getD i 0) < (0:Int)))) = false) (Ty.int n)) rfl (by intro A B G H I d0;refine run_guard H rfl rfl dE (eI d0) (fun hg=>?_);obtain ⟨d9,d10⟩:=Bool.or_eq_false_iff.mp hg;have d10:=of_decide_eq_false d10;exact y_move (kp (I 0 rfl) G q54)) (gT (Ty.grd (((decide ((8:Int) < (((List.length (many)):Nat):Int))) || (decide ((many.getD i 0) < (0:Int)))) = false) (Ty.bool (decide (n < (many.getD i 0))))) rfl (by intro A B G H I d0 d1 d2;refine run_guard H rfl rfl dE (eI d2) (fun hg=>?_);obtain ⟨d11,d12⟩:=Bool.or_eq_false_iff.mp hg;have d12:=of_decide_eq_false d12;exact y_gtr ((ef d0 rfl).1 hg) ((ef d1 rfl).1 hg)) (gS rfl (fun A B G H I d0 d1=>rP (y_pick_or (eI d0) rfl (eI d1))) (gE ok8 fun a10 s8 ok9 D8=>?_)))));have F9:=F8.step0 D8.stp;have q61:=D8.k q51;have q65:=D8.k q55;have q67:=D8.k q57;have q68:=D8.k q58;refine tn ?_
   refine cond_t (D8.m 15 rfl) (fun c2=>?_) (fun c2=>?_)
   ·
    simp only [Bool.or_eq_true,decide_eq_true_eq] at c2;have he:e = 12:=hW.bad (fun h_=>by have h2_:=h_.2 i oM;have h3_:=h_.1;omega)
    refine wp_seq ?_
    refine gI a10 s8 ok9 (gC (Ty.bool true) (gE ok9 fun a11 s9 ok10 D9=>?_));refine tn (wp_exit (tx ?_))
    refine bo dE ?_
    refine tx (tx (bx (tn (wp_seq (wp_seq ?_)))))
    refine gI a11 s9 ok10 (gM (D9.m 0 rfl) (gE ok10 fun a12 s10 ok11 D10=>?_));refine tn ?_
    refine cond_t (D10.m 0 rfl) (fun _=>?_) (fun c3=>(by cases c3))
    refine gI a12 s10 ok11 (gC (Ty.int (12:Int)) (gE ok11 fun a13 s11 ok12 D11=>?_));have q92:=D11.m 0 rfl;refine tn (wp_seq (wp_seq ?_))
    refine gI a13 s11 ok12 (gM q92 (gT (Ty.bool true) rfl (fun A B G H I d0=>rP ((y_neq (eI d0) rfl).mono (fun τ _ h=>cvb (σ:=τ) dE h))) (gE ok12 fun a14 s12 ok13 D12=>?_)));refine tn ?_
    refine cond_t (D12.m 1 rfl) (fun _=>?_) (fun c4=>(by cases c4))
    refine wp_seq ?_
    refine gI a14 s12 ok13 (gM (D12.k (D11.k (D10.k (D9.k q68)))) (gM (D12.k q92) (gS rfl (fun A B G H I d0 d1=>rP (y_eql (eI d0) (eI d1))) (gS rfl (fun A B G H I d0=>rP (y_move (eI d0))) (gS rfl (fun A B G H I d0=>gu H (eI d0) fun hg=>y_move (kp (I 11 rfl) G (D12.k (D11.k (D10.k (D9.k q67)))))) (gT (Ty.grd ((decide (e = (12:Int))) = true) (Ty.bool true)) rfl (fun A B G H I d0 d1=>gut H (eI d1) fun hg hp=>(y_eql ((ef d0 rfl).1 hg) rfl).mono (fun τ _ h=>cvb (σ:=τ) dE h)) (gS rfl (fun A B G H I d0 d1=>rP (y_pick_and (eI d0) (eI d1) rfl)) (gB 0 (gE ok13 fun a15 s13 ok14 D13=>?_)))))))));refine tn (wp_ret (tr ?_))
    exact retL1 rfl ok14 (((((F9.step0 D9.stp).step0 D10.stp).step0 D11.stp).step0 D12.stp).step0 D13.stp) (cvb (by (simp [he])) (D13.m 7 rfl))
   ·
    obtain ⟨d13,d14⟩:=Bool.or_eq_false_iff.mp c2
    obtain ⟨d15,d16⟩:=Bool.or_eq_false_iff.mp d13
    replace d16:=of_decide_eq_false d16
    replace d14:=of_decide_eq_false d14
    simp only [Bool.or_eq_false_iff,decide_eq_false_iff_not] at c2;have hA2:∀ k,k < i + 1 → 0 ≤ many.getD k 0∧many.getD k 0 ≤ n:=fun k hk=>(by (by_cases e_:k = i;(rw [e_];omega);exact hA k oM))
    refine wp_skip (tn ?_)
    refine gI a10 s8 ok9 (gM (D8.k q52) (gM q65 (gM q61 (gT (Ty.ref [(Ty.int (many.getD i 0))]) rfl (fun A B G H I d0 d1=>rP (y_index1 Try.underlying22 Try.inf3 (eI d0) (eI d1) oM (lst_get Ty.int many 0 i oM))) (gS rfl (fun A B G H I d0=>rP (y_load Try.underlying3 rfl (eI d0) rfl)) (gT (Ty.int (wr64 ((alT many i) + (many.getD i 0)))) rfl (fun A B G H I d0 d1=>rP (y_addW (eI d0) (eI d1))) (gB 0 (gE ok9 fun a16 s14 ok15 D14=>?_))))))));refine bn (tn ?_)
    refine gI a16 s14 ok15 (gM (D14.k q61) (gT (Ty.nat (i + 1)) rfl (fun A B G H I d0=>rP ((y_add (eI d0) rfl wX).mono (fun τ _ h=>cN (σ:=τ) h))) (gB 0 (gE ok15 fun a17 s15 ok16 D15=>?_))))
    exact tn ⟨many.length - ((i+1)),by omega,s15,(i+1),rfl,((F9.step0 D14.stp).step0 D15.stp),ok16,(cJ (D15.m 2 rfl)),(cvi (by (rfl)) (D15.k (D14.m 6 rfl))),(D15.k (D14.k (D8.k q53))),(D15.k (D14.k (D8.k q54))),(D15.k (D14.k q65)),(D15.k (D14.k (D8.k (D7.k q47)))),(D15.k (D14.k q67)),(D15.k (D14.k q68)),(D15.k (D14.k (D8.k q59))),by omega,hA2,fun _=>by omega,rfl⟩
  ·
   have ei:i = many.length:=oM;have hok:manyOk n many:=⟨(by by_cases h_:0 < i;exact hl8 h_;omega),fun k hk=>hA k oM⟩
   refine wp_exit (tx (tx (bx (tn (wp_seq (wp_seq ?_))))))
   refine gI a9 s7 ok8 (gM q53 (gE ok8 fun a18 s16 ok17 D16=>?_));refine tn ?_
   refine cond_t (D16.m 0 rfl) (fun c5=>?_) (fun c5=>?_)
   ·
    exfalso
    (simp only [decide_eq_true_eq] at c5;have h_:=hok.1;omega)
   ·
    refine wp_seq ?_
    refine gI a18 s16 ok17 (gM (D16.k q52) (gM (D16.k q54) (gS rfl (fun A B G H I d0 d1=>rP (y_neq (eI d0) (eI d1))) (gE ok17 fun a19 s17 ok18 D17=>?_))));have F18:=(F8.step0 D16.stp).step0 D17.stp;have q130:=D17.k (D16.k q57);have q131:=D17.k (D16.k q58);have q132:=D17.k (D16.k q59);refine tn ?_
    refine cond_p (p:=((alT many i) ≠ n)) (D17.m 2 rfl) (fun c6=>?_) (fun c6=>?_)
    ·
     have he:e = 1:=hW.sum hok (by rw [← ei];exact c6)
     refine gI a19 s17 ok18 (gC (Ty.int (1:Int)) (gE ok18 fun a20 s18 ok19 D18=>?_));have q139:=D18.m 0 rfl;refine tn (wp_seq (wp_seq ?_))
     refine gI a20 s18 ok19 (gM q139 (gT (Ty.bool true) rfl (fun A B G H I d0=>rP ((y_neq (eI d0) rfl).mono (fun τ _ h=>cvb (σ:=τ) dE h))) (gE ok19 fun a21 s19 ok20 D19=>?_)));refine tn ?_
     refine cond_t (D19.m 1 rfl) (fun _=>?_) (fun c7=>(by cases c7))
     refine wp_seq ?_
     refine gI a21 s19 ok20 (gM (D19.k (D18.k q131)) (gM (D19.k q139) (gS rfl (fun A B G H I d0 d1=>rP (y_eql (eI d0) (eI d1))) (gS rfl (fun A B G H I d0=>rP (y_move (eI d0))) (gS rfl (fun A B G H I d0=>gu H (eI d0) fun hg=>y_move (kp (I 11 rfl) G (D19.k (D18.k q130)))) (gT (Ty.grd ((decide (e = (1:Int))) = true) (Ty.bool true)) rfl (fun A B G H I d0 d1=>gut H (eI d1) fun hg hp=>(y_eql ((ef d0 rfl).1 hg) rfl).mono (fun τ _ h=>cvb (σ:=τ) dE h)) (gS rfl (fun A B G H I d0 d1=>rP (y_pick_and (eI d0) (eI d1) rfl)) (gB 0 (gE ok20 fun a22 s20 ok21 D20=>?_)))))))));refine tn (wp_ret (tr ?_))
     exact retL1 rfl ok21 (((F18.step0 D18.stp).step0 D19.stp).step0 D20.stp) (cvb (by (simp [he])) (D20.m 7 rfl))
    ·
     have he:e = f:=(hfe hok (by rw [← ei];exact Decidable.not_not.1 c6)).symm
     refine wp_skip (tn (wp_seq (wp_seq ?_)))
     refine gI a19 s17 ok18 (gM q132 (gS rfl (fun A B G H I d0=>rP (y_neq (eI d0) rfl)) (gE ok18 fun a23 s21 ok22 D21=>?_)));refine tn ?_
     refine cond_p (p:=(f ≠ (0:Int))) (D21.m 1 rfl) (fun c8=>?_) (fun c8=>?_)
     ·
      refine wp_seq ?_
      refine gI a23 s21 ok22 (gM (D21.k q131) (gM (D21.k q132) (gS rfl (fun A B G H I d0 d1=>rP (y_eql (eI d0) (eI d1))) (gS rfl (fun A B G H I d0=>rP (y_move (eI d0))) (gS rfl (fun A B G H I d0=>gu H (eI d0) fun hg=>y_move (kp (I 11 rfl) G (D21.k q130))) (gT (Ty.grd ((decide (e = f)) = true) (Ty.bool true)) rfl (fun A B G H I d0 d1=>gut H (eI d1) fun hg hp=>(y_eql ((ef d0 rfl).1 hg) rfl).mono (fun τ _ h=>cvb (σ:=τ) dE h)) (gS rfl (fun A B G H I d0 d1=>rP (y_pick_and (eI d0) (eI d1) rfl)) (gB 0 (gE ok22 fun a24 s22 ok23 D22=>?_)))))))));refine tn (wp_ret (tr ?_))
      exact retL1 rfl ok23 ((F18.step0 D21.stp).step0 D22.stp) (cvb (by (simp [he])) (D22.m 7 rfl))
     ·
      exfalso
      exact c8 (he ▸ hne0)
set_option maxHeartbeats 4000000 in
set_option maxRecDepth 100000 in
theorem withE_fn (n:Nat) (gens:List (List Int)) (many:List Int) (σ:GW) (hlow:Low [] σ) (v0 v1 v2:Value) (hv0:Ty.has (Ty.nat n) σ v0) (hv1:Ty.has (Ty.lst Ty.ints gens) σ v1) (hv2:Ty.has (Ty.lst Ty.int many) σ v2)  (hok:manyOk (n:Int) many) (heq:alT many many.length = (n:Int)) (hG0:gensMay (n:Int) gens = 0) (hL:szTo n (fun y=>y ∈ gens) n ≤ 5040) :
    FnL Try.prog 62 #[v0,v1,v2] σ [] (fun v τ=>∃ (z:Nat),(Ty.has (Ty.tup2 (Ty.nat z) (Ty.int (0:Int))) τ v)∧(∃ E,EltsOk n gens E∧z = (((colsL n many.length).filter (dist many)).filter (fstP E)).length)):=by
 have hok1:=hok.1
 obtain ⟨hn,hGl,hG⟩:=may_nat hG0
 obtain ⟨hmb,hml,hms⟩:=hok.all hn.2 heq
 have hm1:=many_pos hn.1 hms
 refine fn_introL hlow Try.func62 rfl Try.ntmps62 (Nat.le_of_ble_eq_true rfl) (fun a0 F0 ok0 hargs=>?_)
 have p0:=pB (hargs 0 _ rfl) hv0
 have p1:=pB (hargs 1 _ rfl) hv1
 have b1:=sl_le p1
 have p2:=pB (hargs 2 _ rfl) hv2
 have b2:=sl_le p2
 clear hargs;refine wp_seq ?_
 refine gI a0 σ ok0 (gC (Ty.int (0:Int)) (gC (Ty.int (0:Int)) (gE ok0 fun a1 s1 ok1 D1=>?_)));have q3:=D1.k p2;refine tn (wp_seq (wp_seq ?_))
 refine gI a1 s1 ok1 (gM q3 (gS rfl (fun A B G H I d0=>rP (y_len Try.underlying22 (eI d0))) (gS rfl (fun A B G H I d0=>rP (y_gtr (eI d0) rfl)) (gE ok1 fun a2 s2 ok2 D2=>?_))));refine tn ?_
 refine cond_p (p:=((8:Int) < (((List.length many):Nat):Int))) (D2.m 2 rfl) (fun c1=>?_) (fun c1=>?_)
 ·
  exfalso
  omega
 ·
  refine wp_skip (tn (wp_seq ?_))
  refine gI a2 s2 ok2 (gC (Ty.int (0:Int)) (gE ok2 fun a3 s3 ok3 D3=>?_));have q10:=D3.k (D2.k q3);refine tn (wp_seq (wp_seq ?_))
  refine gI a3 s3 ok3 (gM q10 (gS rfl (fun A B G H I d0=>rP (y_len Try.underlying22 (eI d0))) (gT (Ty.int (0:Int)) rfl (fun A B G H I=>rP (y_move rfl)) (gE ok3 fun a4 s4 ok4 D4=>?_))));refine tn (wp_block ?_)
  refine loop (fun n1 a5 w1=>∃ (t1:GW) (i:Nat),t1.w = w1∧FromL [] σ t1∧Ok 74 [] a5∧At (Ty.nat i) t1 a5 (.tmp 22)∧At (Ty.int (alT many i)) t1 a5 (.tmp 8)∧At (Ty.nat n) t1 a5 (.tmp 0)∧At (Ty.lst Ty.ints gens) t1 a5 (.tmp 1)∧At (Ty.lst Ty.int many) t1 a5 (.tmp 2)∧At (Ty.lst Ty.int many) t1 a5 (.tmp 20)∧At (Ty.nat (List.length many)) t1 a5 (.tmp 21)∧(i ≤ many.length)∧(∀ k,k < i → 0 ≤ many.getD k 0∧many.getD k 0 ≤ n)∧n1 = many.length - i) (many.length - (0)) ?_ ?_
  ·
   exact ⟨s4,0,rfl,((((F0.step0 D1.stp).step0 D2.stp).step0 D3.stp).step0 D4.stp),ok4,(cJ (D4.m 2 rfl)),(cvi (by (rfl)) (D4.k (D3.m 0 rfl))),(D4.k (D3.k (D2.k (D1.k p0)))),(D4.k (D3.k (D2.k (D1.k p1)))),(D4.k q10),(D4.m 0 rfl),(D4.m 1 rfl),by omega,fun k h=>by omega,rfl⟩
  ·
   rintro n2 a6 w2 ⟨t2,i,rfl,F5,ok5,q19,q20,q21,q22,q23,q24,q25,hi,hA,rfl⟩
   refine wp_seq ?_
   refine gI a6 t2 ok5 (gS rfl (fun A B G H I=>rP (y_lss (kp (I 22 rfl) G q19) (kp (I 21 rfl) G q25))) (gE ok5 fun a7 s5 ok6 D5=>?_));have F6:=F5.step0 D5.stp;have q26:=D5.k q19;have q27:=D5.k q20;have q28:=D5.k q21;have q29:=D5.k q22;have q30:=D5.k q23;have q31:=D5.k q24;refine tn (wp_seq ?_)
   refine cond_p (p:=(((i:Nat):Int) < (((List.length many):Nat):Int))) (D5.m 0 rfl) (fun c2=>?_) (fun c2=>?_)
   ·
    refine wp_skip (tn (wp_seq (wp_block (wp_seq ?_))))
    refine gI a7 s5 ok6 (gT (Ty.ref [(Ty.int (many.getD i 0))]) rfl (fun A B G H I=>rP (y_index1 Try.underlying22 Try.inf3 (kp (I 20 rfl) G q31) (kp (I 22 rfl) G q26) oM (lst_get Ty.int many 0 i oM))) (gS rfl (fun A B G H I d0=>rP (y_load Try.underlying3 rfl (eI d0) rfl)) (gB 0 (gE ok6 fun a8 s6 ok7 D6=>?_))));have q36:=D6.k q28;have q41:=D6.m 2 rfl;refine tn (wp_seq (wp_seq ?_))
    refine gI a8 s6 ok7 (gM q41 (gS rfl (fun A B G H I d0=>rP (y_lss (eI d0) rfl)) (gS rfl (fun A B G H I d0=>rP (y_move (eI d0))) (gS rfl (fun A B G H I d0=>gu H (eI d0) fun hg=>y_move (kp (I 10 rfl) G q41)) (gS rfl (fun A B G H I d0=>gu H (eI d0) fun hg=>y_move (kp (I 0 rfl) G q36)) (gS rfl (fun A B G H I d0 d1 d2=>gu H (eI d2) fun hg=>y_gtr ((ef d0 rfl).1 hg) ((ef d1 rfl).1 hg)) (gS rfl (fun A B G H I d0 d1=>rP (y_pick_or (eI d0) rfl (eI d1))) (gE ok7 fun a9 s7 ok8 D7=>?_))))))));refine tn ?_
    refine cond_t (D7.m 6 rfl) (fun c3=>?_) (fun c3=>?_)
    ·
     exfalso
     (simp only [Bool.or_eq_true,decide_eq_true_eq] at c3;have h_:=hok.2 i oM;omega)
    ·
     obtain ⟨d1,d2⟩:=Bool.or_eq_false_iff.mp c3
     replace d1:=of_decide_eq_false d1
     replace d2:=of_decide_eq_false d2
     simp only [Bool.or_eq_false_iff,decide_eq_false_iff_not] at c3;have hA2:∀ k,k < i + 1 → 0 ≤ many.getD k 0∧many.getD k 0 ≤ n:=fun k hk=>(by (by_cases e_:k = i;(rw [e_];omega);exact hA k oM))
     refine wp_skip (tn ?_)
     refine gI a9 s7 ok8 (gM (D7.k (D6.k q27)) (gM (D7.k q41) (gT (Ty.int (wr64 ((alT many i) + (many.getD i 0)))) rfl (fun A B G H I d0 d1=>rP (y_addW (eI d0) (eI d1))) (gB 0 (gE ok8 fun a10 s8 ok9 D8=>?_)))));refine bn (tn ?_)
     refine gI a10 s8 ok9 (gT (Ty.nat (i + 1)) rfl (fun A B G H I=>rP ((y_add (kp (I 22 rfl) G (D8.k (D7.k (D6.k q26)))) rfl wX).mono (fun τ _ h=>cN (σ:=τ) h))) (gS rfl (fun A B G H I d0=>rP (y_move (eI d0))) (gE ok9 fun a11 s9 ok10 D9=>?_)))
     exact tn ⟨many.length - ((i+1)),by omega,s9,(i+1),rfl,((((F6.step0 D6.stp).step0 D7.stp).step0 D8.stp).step0 D9.stp),ok10,(cJ (D9.m 1 rfl)),(cvi (by (rfl)) (D9.k (D8.m 3 rfl))),(D9.k (D8.k (D7.k q36))),(D9.k (D8.k (D7.k (D6.k q29)))),(D9.k (D8.k (D7.k (D6.k q30)))),(D9.k (D8.k (D7.k (D6.k q31)))),(D9.k (D8.k (D7.k (D6.k (D5.k q25))))),by omega,hA2,rfl⟩
   ·
    have ei:i = many.length:=oM;rw [← ei] at heq
    refine wp_exit (tx (tx (bx (tn (wp_seq (wp_seq ?_))))))
    refine gI a7 s5 ok6 (gM q27 (gM q28 (gS rfl (fun A B G H I d0 d1=>rP (y_neq (eI d0) (eI d1))) (gE ok6 fun a12 s10 ok11 D10=>?_))));have q65:=D10.k q28;refine tn ?_
    refine cond_p (p:=((alT many i) ≠ ((n:Nat):Int))) (D10.m 2 rfl) (fun c4=>?_) (fun c4=>?_)
    ·
     exfalso
     exact c4 heq
    ·
     refine wp_skip (tn (wp_seq ?_))
     refine gI a12 s10 ok11 (gM q65 (gM (D10.k q29) (gE2 ok11 fun a13 s11 ok12 D11=>?_)))
     refine tL ok12 (y_callL (L:=[]) [] [] _ rfl dE Try.func48 rfl rfl my2 (cKindsC_fn (n) (gens) _ lW _ _ (uL (D11.m 0 rfl)) (uL (D11.m 1 rfl))  (by first | omega | assumption | exact hKP.srt) (by first | omega | assumption | exact hKP.srt))) fun a14 s12 hs1 ok13 r1 sm1=>?_
     obtain ⟨t3,⟨g1,hT1,hp1⟩,B1⟩:=r1
     have q75:At (Ty.tup2 (Ty.lstc 2 kndC (g1)) (Ty.int (0:Int))) s12 a14 (.tmp 43):=Ty.up _ B1.le hT1
     refine tL ok13 (Yld.toL (y_mv q75)) fun a15 s13 hs2 ok14 r2 sm2=>?_
     have q78:At (Ty.tup2 (Ty.lstc 2 kndC (g1)) (Ty.int (0:Int))) s13 a15 (.tmp 40):=r2
     clear r2
     refine tL (R:=(fun v τ=>Pr.has (Ty.pr (Ty.lstc 2 kndC (g1))) τ v)) ok14 (Yld.toL (y_ext2_0 q78)) fun a16 s14 hs3 ok15 r3 sm3=>?_
     have q82:At (Ty.lstc 2 kndC (g1)) s14 a16 (.tmp 44):=r3
     clear r3
     refine tL (R:=(fun v τ=>Pr.has (Ty.pr (Ty.int (0:Int))) τ v)) ok15 (Yld.toL (y_ext2_1 (kq hs3 sm3 40 q78))) fun a17 s15 hs4 ok16 r4 sm4=>?_
     have q86:At (Ty.int (0:Int)) s15 a17 (.tmp 45):=r4
     clear r4
     refine tL ok16 (Yld.toL (y_as (kq hs4 sm4 44 q82))) fun a18 s16 hs5 ok17 r5 sm5=>?_
     have q90:At (Ty.lstc 2 kndC (g1)) s16 a18 (.tmp 11):=r5
     clear r5
     refine tL ok17 (Yld.toL (y_as (kq hs5 sm5 45 q86))) fun a19 s17 hs6 ok18 r6 sm6=>?_
     have q94:At (Ty.int (0:Int)) s17 a19 (.tmp 12):=r6
     clear r6;refine wpList_nil (tn (wp_seq (wp_seq ?_)))
     obtain ⟨E,hE,hKP⟩:=hp1
     have hEr:∀ r ∈ E,RowN n r:=fun r hr=>((hE.mem r).1 hr).row hn hG
     have hEl:E.length ≤ 5040:=(by rw [hE.len];exact hL)
     have hB:=hKP.bds hn hEr hEl
     have hne:0 < E.length:=List.length_pos_of_mem ((hE.mem _).2 .one)
     have hKl:=hKP.len
     rw [List.length_map] at hKl
     have hsz:kSz g1 g1.length = E.length:=(by unfold kSz;rw [List.take_length];exact hKP.total)
     have hFP:=hKP.fil hEr hmb hml hms
     refine gI a19 s17 ok18 (gM q94 (gT (Ty.bool false) rfl (fun A B G H I d0=>rP ((y_neq (eI d0) rfl).mono (fun τ _ h=>cvb (σ:=τ) dE h))) (gE ok18 fun a20 s18 ok19 D12=>?_)));refine tn ?_
     refine cond_t (D12.m 1 rfl) (fun c5=>(by cases c5)) (fun _=>?_)
     refine wp_skip (tn (wp_seq ?_))
     refine gI a20 s18 ok19 (gC (Ty.int (0:Int)) (gC (Ty.int (0:Int)) (gE ok19 fun a21 s19 ok20 D13=>?_)));refine tn (wp_seq (wp_seq ?_))
     refine gI a21 s19 ok20 (gM (D13.k (D12.k (kq hs6 sm6 11 q90))) (gS rfl (fun A B G H I d0=>rP (y_len Try.underlying73 (eI d0))) (gT (Ty.int (0:Int)) rfl (fun A B G H I=>rP (y_move rfl)) (gE ok20 fun a22 s20 ok21 D14=>?_))));refine tn (wp_block ?_)
     refine loop (fun n3 a23 w3=>∃ (t4:GW) (j:Nat),t4.w = w3∧FromL [] σ t4∧Ok 74 [] a23∧At (Ty.nat j) t4 a23 (.tmp 51)∧At (Ty.nat (kSz g1 j)) t4 a23 (.tmp 13)∧At (Ty.nat (kWay n many g1 j)) t4 a23 (.tmp 14)∧At (Ty.nat n) t4 a23 (.tmp 0)∧At (Ty.lst Ty.int many) t4 a23 (.tmp 2)∧At (Ty.lstc 2 kndC (g1)) t4 a23 (.tmp 49)∧At (Ty.nat (List.length (g1))) t4 a23 (.tmp 50)∧(j ≤ g1.length)∧n3 = g1.length - j) (g1.length - (0)) ?_ ?_
     ·
      exact ⟨s20,0,rfl,(((((((((((F6.step0 D10.stp).step0 D11.stp).sl hs1).sl hs2).sl hs3).sl hs4).sl hs5).sl hs6).step0 D12.stp).step0 D13.stp).step0 D14.stp),ok21,(cJ (D14.m 2 rfl)),(cvi (by (simp [kSz])) (D14.k (D13.m 0 rfl))),(cvi (by (simp [kWay])) (D14.k (D13.m 1 rfl))),(D14.k (D13.k (D12.k (kq hs6 sm6 0 (kq hs5 sm5 0 (kq hs4 sm4 0 (kq hs3 sm3 0 (kq hs2 sm2 0 (kq hs1 sm1 0 (D11.k q65)))))))))),(D14.k (D13.k (D12.k (kq hs6 sm6 2 (kq hs5 sm5 2 (kq hs4 sm4 2 (kq hs3 sm3 2 (kq hs2 sm2 2 (kq hs1 sm1 2 (D11.k (D10.k q30))))))))))),(D14.m 0 rfl),(D14.m 1 rfl),by omega,rfl⟩
     ·
      rintro n4 a24 w4 ⟨t5,j,rfl,F22,ok22,q112,q113,q114,q115,q116,q117,q118,hj,rfl⟩
      have hkb:=kSz_bd (j:=j) hB
      have hwb:=kWay_bd (j:=j) hB hFP
      refine wp_seq ?_
      refine gI a24 t5 ok22 (gS rfl (fun A B G H I=>rP (y_lss (kp (I 51 rfl) G q112) (kp (I 50 rfl) G q118))) (gE ok22 fun a25 s21 ok23 D15=>?_));have F23:=F22.step0 D15.stp;have q119:=D15.k q112;have q120:=D15.k q113;have q121:=D15.k q114;have q124:=D15.k q117;refine tn (wp_seq ?_)
      refine cond_p (p:=(((j:Nat):Int) < (((List.length (g1)):Nat):Int))) (D15.m 0 rfl) (fun c6=>?_) (fun c6=>?_)
      ·
       have hmb2:=hB.many _ (mem_atD ([],0) (show j < g1.length by omega));have hFj:=hFP _ (mem_atD ([],0) (show j < g1.length by omega));have hFb:=hFj.wbd;have hwb2:=kWay_bd (j:=j + 1) hB hFP;rw [kWay_succ oM] at hwb2;have hmc:(((g1.getD j ([],0)).2.toNat * wayN (partsL (g1.getD j ([],0)).1 n) many:Nat):Int) = (g1.getD j ([],0)).2 * ((wayN (partsL (g1.getD j ([],0)).1 n) many:Nat):Int):=(by rw [Int.natCast_mul,Int.toNat_of_nonneg hmb2.1]);have hmu:0 ≤ (g1.getD j ([],0)).2 * ((wayN (partsL (g1.getD j ([],0)).1 n) many:Nat):Int)∧((kWay n many g1 j:Nat):Int) + (g1.getD j ([],0)).2 * ((wayN (partsL (g1.getD j ([],0)).1 n) many:Nat):Int) ≤ 346346162749440:=(by rw [← hmc];exact ⟨Int.natCast_nonneg _,by (have h_:=Int.ofNat_le.2 hwb2;rw [Int.natCast_add] at h_;omega)⟩)
       refine wp_skip (tn (wp_seq (wp_block (wp_seq ?_))))
       refine gI a25 s21 ok23 (gT (Ty.ref [(Ty.lst Ty.int (((g1).getD j ([],0))).1),(Ty.int (((g1).getD j ([],0))).2)]) rfl (fun A B G H I=>rP (y_indexc (i:=((j:Nat):Int)) ([],0) Try.underlying73 Try.inf117 (kp (I 49 rfl) G q124) (kp (I 51 rfl) G q119) oM oM dE (fun _=>rfl))) (gS rfl (fun A B G H I d0=>rP (y_loadagg Try.underlying117 Try.inf117 (eI d0))) (gR (Pr.ownp 61 [(Ty.val (Value.slice none 0 0)),(Ty.int (0:Int))]) rfl (by intro A B G H I;exact rP (y_alloc Try.inf117 rfl (alloc_vals (vs:=[.slice none 0 0,.int .i64 0]) rfl))) (gE2 ok23 fun a26 s22 ok24 D16=>?_))))
       obtain ⟨x1,hx1⟩:∃ x,a26.eval (.tmp 16) = x:=⟨_,rfl⟩
       have q135:At (Ty.val x1) s22 a26 (.tmp 16):=hx1
       have o1:=al2 (R:=(Pr.ownp 61 [(Ty.val (Value.slice none 0 0)),(Ty.int (0:Int))])) hx1 (D16.done 2 dE)
       refine tailL0 (L:=[61]) (R:=(fun _ τ=>OwnP τ 61 x1 [(Ty.lst Ty.int (((g1).getD j ([],0))).1),(Ty.int (((g1).getD j ([],0))).2)])) rfl rfl (YldM.toL (m_storeagg Try.inf117 dE o1 q135 rfl (D16.m 1 rfl) (by intro U hU;simp only [List.mem_cons,List.not_mem_nil,or_false] at hU;rcases hU with rfl | rfl <;> first | exact one_val rfl | exact one_sl | exact one_flt | exact one_cx | exact one_ref))) (fun v1 s23 hs7 r7=>?_)
       have q136:=kpL hs7 dE rfl (D16.k q119);have q137:=kpL hs7 dE rfl (D16.k q120);have q138:=kpL hs7 dE rfl (D16.k q121);have q139:=kpL hs7 dE rfl (D16.k (D15.k q115));have q140:=kpL hs7 dE rfl (D16.k (D15.k q116));have q141:=kpL hs7 dE rfl (D16.k q124);have q142:=kpL hs7 dE rfl (D16.k (D15.k q118));have q143:=kpL hs7 dE rfl q135
       have o2:OwnP s23 61 x1 [(Ty.lst Ty.int (((g1).getD j ([],0))).1),(Ty.int (((g1).getD j ([],0))).2)]:=r7
       clear r7;refine wpList_nil (tn (wp_seq ?_))
       refine gI a26 s23 ok24 (gM q137 (gT (Ty.val (ptrAt x1 1)) rfl (fun A B G H I=>rP (ownp_field Try.fld117_1 Try.inf3 dE (OwnP.k0 o2 G) (kp (I 16 rfl) G q143))) (gS rfl (fun A B G H I d0=>rP (ownp_load Try.underlying3 rfl (OwnP.k0 o2 G) (eI d0) rfl)) (gT (Ty.int ((((kSz g1 j):Nat):Int) + (((g1).getD j ([],0))).2)) rfl (fun A B G H I d0 d1=>rP (y_add (eI d0) (eI d1) wX)) (gB 0 (gE ok24 fun a27 s24 ok25 D17=>?_))))));have q146:=D17.k q138;have q147:=D17.k q139;have q148:=D17.k q140;have q151:=D17.k q143;have o3:=OwnP.k0 o2 D17.stp;refine tn ?_
       refine reg8 (a:=a27) (σ:=s24) rfl 10 8 6 65 67 [50] dE (Pr.own 50 3 1 (List.length (many)) (List.map Ty.int (many))) (Ty.nat (wayN (partsL ((((g1).getD j ([],0))).1) (n)) ((many)))).pr (fun i_=>List.getD [(Ty.nat (kWay n many g1 j)),(Ty.val (ptrAt x1 1)),(Ty.int (((g1).getD j ([],0))).2),(Ty.val (ptrAt x1 0)),(Ty.lst Ty.int (((g1).getD j ([],0))).1),(Ty.lst Ty.int many),Ty.any,(Ty.nat n),(Ty.nat (wayN (partsL ((((g1).getD j ([],0))).1) (n)) ((many)))),(Ty.int ((((g1).getD j ([],0))).2 * (((wayN (partsL ((((g1).getD j ([],0))).1) (n)) ((many))):Nat):Int)))] i_ Ty.any) ok25 rfl dE rfl dE dE dE rfl rfl (fun _ _=>trivial) (fun _ _ h_=>h_) rfl ⟨?_,?_,?_,?_,?_,?_,?_,?_,?_,?_,trivial⟩ ?_
       · refine obR4 dE dE ?_
         intro A B G H I
         exact rP (y_move (kpL G dE (I 14 rfl) q146))
       · refine obR4 dE dE ?_
         intro A B G H I
         exact rP (ownp_field Try.fld117_1 Try.inf3 dE (OwnP.keepL o3 G dE dE) (kpL G dE (I 16 rfl) q151))
       · refine obR4 dE dE ?_
         intro A B G H I d0
         have e1:At (Ty.val (ptrAt x1 1)) B A (.tmp 60):=d0 rfl
         exact rP (ownp_load Try.underlying3 rfl (OwnP.keepL o3 G dE dE) e1 rfl)
       · refine obR4 dE dE ?_
         intro A B G H I
         exact rP (ownp_field Try.fld117_0 Try.inf22 dE (OwnP.keepL o3 G dE dE) (kpL G dE (I 16 rfl) q151))
       · refine obR4 dE dE ?_
         intro A B G H I d0
         have e3:At (Ty.val (ptrAt x1 0)) B A (.tmp 62):=d0 rfl
         exact rP (ownp_load Try.underlying22 rfl (OwnP.keepL o3 G dE dE) e3 rfl)
       · refine obR4 dE dE ?_
         intro A B G H I
         exact rP (y_move (kpL G dE (I 2 rfl) q148))
       · refine obR4q dE rfl ?_
         intro A B G H I d0
         have e5:At (Ty.lst Ty.int many) B A (.tmp 64):=d0 rfl
         exact rP (y_callO (k:=50) #[A.eval (.tmp 64)] Try.func101 rfl rfl (by simp) (cloneN_fn (many) _ lW _ (uL e5) oX oX))
       · refine obR4 dE dE ?_
         intro A B G H I
         exact rP (y_move (kpL G dE (I 0 rfl) q147))
       · refine obR4w rfl ?_
         intro A B G H I hA d0 d1 d2 d3
         have e4:At (Ty.lst Ty.int (((g1).getD j ([],0))).1) B A (.tmp 63):=d0 rfl
         have e7:At (Ty.nat n) B A (.tmp 66):=d2 rfl
         exact YldL.mono (y_callL (L:=[40]) [(50,40)] [(40,50)] #[A.eval (.tmp 63),A.eval (.tmp 65),A.eval (.tmp 66)] rfl dE Try.func100 rfl rfl my3 (fill_fn ((partsL ((((g1).getD j ([],0))).1) (n)).length) ((((g1).getD j ([],0))).1) ((A.eval (.tmp 65))) ((many)) (n) _ lW _ _ _ (uL e4) (uL rfl) (uL (cvi (σ:=B) (by first | rfl | omega | assumption | (rw [List.length_set];omega)) e7)) (Own.ren (cvo (by (simp)) (by (simp)) hA) (GW.ren_lend _ _ dE rfl)) (by first | rfl | omega | assumption | (rw [List.length_set];omega)) (by first | rfl | omega | assumption | (rw [List.length_set];omega)) (by first | rfl | omega | assumption | (rw [List.length_set];omega)))) (fun v_ t_ r_=>by obtain ⟨t6,⟨hT2,o4⟩,B2⟩:=r_;exact Ty.up _ B2.le hT2)
       · refine obR4 dE dE ?_
         intro A B G H I d0 d1
         have e2:At (Ty.int (((g1).getD j ([],0))).2) B A (.tmp 61):=d0 rfl
         have e8:At (Ty.nat (wayN (partsL ((((g1).getD j ([],0))).1) (n)) ((many)))) B A (.tmp 67):=d1 rfl
         exact rP (y_mul e2 e8 wX)
       intro a28 s25 D18;have ok26:=D18.ok;have F27:=(((F23.step0 D16.stp).sl hs7).step0 D17.stp).stepL D18.stp dE
       have q153:At (Ty.nat j) s25 a28 (.tmp 51):=D18.kt dE (D17.k q136) rfl
       have q154:At (Ty.nat (kWay n many g1 j)) s25 a28 (.tmp 14):=D18.kt dE q146 rfl
       have q155:At (Ty.nat n) s25 a28 (.tmp 0):=D18.kt dE q147 rfl
       have q156:At (Ty.lst Ty.int many) s25 a28 (.tmp 2):=D18.kt dE q148 rfl
       have q157:At (Ty.lstc 2 kndC (g1)) s25 a28 (.tmp 49):=D18.kt dE (D17.k q141) rfl
       have q158:At (Ty.nat (List.length (g1))) s25 a28 (.tmp 50):=D18.kt dE (D17.k q142) rfl
       have q159:At (Ty.int ((((kSz g1 j):Nat):Int) + (((g1).getD j ([],0))).2)) s25 a28 (.tmp 13):=D18.kt dE (D17.m 4 rfl) rfl
       have o6:=OwnP.keepL o3 D18.stp dE dE
       have q160:At (Ty.nat (kWay n many g1 j)) s25 a28 (.tmp 59):=D18.done 0 dE
       have q161:At (Ty.int ((((g1).getD j ([],0))).2 * (((wayN (partsL ((((g1).getD j ([],0))).1) (n)) ((many))):Nat):Int))) s25 a28 (.tmp 68):=D18.done 9 dE
       have q162:At (Ty.nat (wayN (partsL ((((g1).getD j ([],0))).1) (n)) ((many)))) s25 a28 (.tmp 67):=D18.donep
       refine tL (R:=(fun v τ=>Pr.has (Ty.pr (Ty.int ((((kWay n many g1 j):Nat):Int) + ((((g1).getD j ([],0))).2 * (((wayN (partsL ((((g1).getD j ([],0))).1) (n)) ((many))):Nat):Int))))) τ v)) ok26 (Yld.toL (y_add q160 q161 wX)) fun a29 s26 hs8 ok27 r8 sm7=>?_
       have q164:=kq hs8 sm7 14 q154
       have q170:At (Ty.int ((((kWay n many g1 j):Nat):Int) + ((((g1).getD j ([],0))).2 * (((wayN (partsL ((((g1).getD j ([],0))).1) (n)) ((many))):Nat):Int)))) s26 a29 (.tmp 69):=r8
       refine tL ok27 (Yld.toL (y_as q170)) fun a30 s27 hs9 ok28 r9 sm8=>?_
       have o8:=OwnP.kl (OwnP.kl o6 hs8) hs9
       have q177:At (Ty.int ((((kWay n many g1 j):Nat):Int) + ((((g1).getD j ([],0))).2 * (((wayN (partsL ((((g1).getD j ([],0))).1) (n)) ((many))):Nat):Int)))) s27 a30 (.tmp 14):=r9
       clear r9;refine wpList_nil (bn (tn ?_))
       refine gI a30 s27 ok28 (gT (Ty.nat (j + 1)) rfl (fun A B G H I=>rP ((y_add (kp (I 51 rfl) G (kq hs9 sm8 51 (kq hs8 sm7 51 q153))) rfl wX).mono (fun τ _ h=>cN (σ:=τ) h))) (gS rfl (fun A B G H I d0=>rP (y_move (eI d0))) (gE ok28 fun a31 s28 ok29 D19=>?_)))
       exact tn ⟨g1.length - ((j+1)),by omega,s28,(j+1),rfl,(((F27.sl hs8).sl hs9).step0 D19.stp),ok29,(cJ (D19.m 1 rfl)),(cvi (by ((rw [kSz_succ oM];omega))) (D19.k (kq hs9 sm8 13 (kq hs8 sm7 13 q159)))),(cvi (by ((rw [kWay_succ oM,Int.natCast_add,hmc]))) (D19.k q177)),(D19.k (kq hs9 sm8 0 (kq hs8 sm7 0 q155))),(D19.k (kq hs9 sm8 2 (kq hs8 sm7 2 q156))),(D19.k (kq hs9 sm8 49 (kq hs8 sm7 49 q157))),(D19.k (kq hs9 sm8 50 (kq hs8 sm7 50 q158))),by omega,rfl⟩
      ·
       have ej:j = g1.length:=oM;have hsj:kSz g1 j = E.length:=(by rw [ej];exact hsz)
       refine wp_exit (tx (tx (bx (tn (wp_seq ?_)))))
       refine gI a25 s21 ok23 (gM q121 (gM q120 (gT (Ty.nat ((kWay n many g1 j) / (kSz g1 j))) rfl (fun A B G H I d0 d1=>rP (y_quoN (eI d0) (eI d1) oM oM)) (gB 0 (gC (Ty.int (0:Int)) (gE ok23 fun a32 s29 ok30 D20=>?_))))));refine tn (wp_ret ?_)
       exact retL2 rfl ok30 (F23.step0 D20.stp) ⟨(((colsL n many.length).filter (dist many)).filter (fstP E)).length,(hasT2 (cvi (by (rw [← way_kinds hn hG hE hKP,ej,hsz])) (D20.m 3 rfl)) (D20.m 4 rfl)),(by exact ⟨E,hE,rfl⟩)⟩
end Go.Proofs.Ytkjifbgofckfeaa
