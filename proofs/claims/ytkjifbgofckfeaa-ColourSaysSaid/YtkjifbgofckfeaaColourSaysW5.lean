/- The functions that the law ColourSays reaches, each by its contract. Part 5. -/
import Derived.Test.YtkjifbgofckfeaaColourSaysW4
namespace Go.Proofs.Ytkjifbgofckfeaa
open Go.KL
set_option maxHeartbeats 4000000 in
set_option maxRecDepth 100000 in
theorem insK_fn (x:Value) (K:List Knd) (i:Nat) (y:Value) (qs:List Knd) (σ:GW) (hlow:Low [40,41] σ) (v0 v1 v2:Value) (hv0:Ty.has (Ty.val x) σ v0) (hv1:Ty.has (Ty.nat i) σ v1) (hv2:Ty.has (Ty.val y) σ v2) (ho_x:Own σ 40 117 2 x (List.length K) (List.flatMap kndC K)) (ho_y:Own σ 41 117 2 y 1 (List.flatMap kndC qs)) (hK:K.length ≤ 1000000) (hi:i ≤ K.length) (hq:∃ q,qs = [q]) :
    FnL Try.prog 83 #[v0,v1,v2] σ [40,41] (fun v τ=>∃ (z:Value),(Ty.has (Ty.val z) τ v)∧(Own τ 40 117 2 z (List.length (K.take i ++ qs ++ K.drop i)) (List.flatMap kndC (K.take i ++ qs ++ K.drop i)))):=by
 have hfx0:=(Own.formC ho_x).cap
 have hql:qs.length = 1:=(by obtain ⟨q,rfl⟩:=hq;rfl)
 refine fn_introL hlow Try.func83 rfl Try.ntmps83 (Nat.le_of_ble_eq_true rfl) (fun a0 F0 ok0 hargs=>?_)
 have p0:=pB (hargs 0 _ rfl) hv0
 have p1:=pB (hargs 1 _ rfl) hv1
 have p2:=pB (hargs 2 _ rfl) hv2
 clear hargs;refine wp_seq ?_
 refine gI a0 σ ok0 (gC (Ty.val (Value.slice none 0 0)) (gE ok0 fun a1 s1 ok1 D1=>?_));have q1:=D1.k p0;have q2:=D1.k p1;have o1:=Own.k0 ho_x D1.stp;have o2:=Own.k0 ho_y D1.stp;refine tn (wp_seq ?_)
 refine gI a1 s1 ok1 (gM q1 (gM q2 (gT (Ty.val (sufC 2 x i)) rfl (fun A B G H I d0 d1=>rP (y_sufC (j:=i) Try.underlying73 Try.inf117 (Own.formC (Own.k0 o1 G)) (eI d0) (eI d1) oM)) (gE ok1 fun a2 s2 ok2 D2=>?_))));have q6:=D2.k (D1.k p2);have o3:=Own.k0 o1 D2.stp;have o4:=Own.k0 o2 D2.stp;refine tn (wp_seq ?_)
 refine gI a2 s2 ok2 (gM q6 (gT (Ty.nat 1) rfl (fun A B G H I d0=>rP (own_len Try.underlying73 (al (R:=(Pr.own 41 117 2 1 (List.flatMap kndC qs))) (eI d0) (Own.k0 o4 G)))) (gB 0 (gE ok2 fun a3 s3 ok3 D3=>?_))));have o5:=Own.k0 o3 D3.stp;have o6:=Own.k0 o4 D3.stp;have q10:=D3.m 2 rfl;refine tn (wp_seq (wp_seq ?_))
 refine gI a3 s3 ok3 (gM q10 (gS rfl (fun A B G H I d0=>rP (y_eql (eI d0) rfl)) (gE ok3 fun a4 s4 ok4 D4=>?_)));have q11:=D4.k (D3.k (D2.k q1));have o7:=Own.k0 o5 D4.stp;have o8:=Own.k0 o6 D4.stp;refine tn ?_
 refine cond_p (p:=(((1:Nat):Int) = (0:Int))) (D4.m 1 rfl) (fun c1=>?_) (fun c1=>?_)
 ·
  exfalso
  omega
 ·
  refine wp_skip (tn (wp_seq ?_))
  refine gI a4 s4 ok4 (gM q11 (gT (Ty.nat (List.length K)) rfl (fun A B G H I d0=>rP (own_len Try.underlying73 (al (R:=(Pr.own 40 117 2 (List.length K) (List.flatMap kndC K))) (eI d0) (Own.k0 o7 G)))) (gB 0 (gE ok4 fun a5 s5 ok5 D5=>?_))));have q17:=D5.k (D4.k (D3.k (D2.k q2)));have o9:=Own.k0 o7 D5.stp;have o10:=Own.k0 o8 D5.stp;have q20:=D5.m 2 rfl;refine tn (wp_seq (wp_seq ?_))
  refine gI a5 s5 ok5 (gM q17 (gM q20 (gS rfl (fun A B G H I d0 d1=>rP (y_eql (eI d0) (eI d1))) (gE ok5 fun a6 s6 ok6 D6=>?_))));have F6:=(((((F0.step0 D1.stp).step0 D2.stp).step0 D3.stp).step0 D4.stp).step0 D5.stp).step0 D6.stp;have q21:=D6.k (D5.k q11);have q23:=D6.k (D5.k (D4.k (D3.k q6)));have q24:=D6.k (D5.k (D4.k q10));have q25:=D6.k q20;have o11:=Own.k0 o9 D6.stp;have o12:=Own.k0 o10 D6.stp;refine tn ?_
  refine cond_p (p:=(((i:Nat):Int) = (((List.length K):Nat):Int))) (D6.m 2 rfl) (fun c2=>?_) (fun c2=>?_)
  ·
   refine wp_seq ?_
   refine gI a6 s6 ok6 (gM q21 (gM q23 (gE2 ok6 fun a7 s7 ok7 D7=>?_)));have o13:=Own.k0 o11 D7.stp;have o14:=Own.k0 o12 D7.stp
   have q27:At (Ty.val x) s7 a7 (.tmp 23):=D7.done 0 dE
   refine tL (R:=(fun v τ=>Own τ 40 117 2 v ((List.length K) + 1) ((List.flatMap kndC K) ++ (List.flatMap kndC qs)))) ok7 (YldM.toL (m_appendo Try.underlying73 Try.inf117 dE rfl dE (al (R:=(Pr.own 40 117 2 (List.length K) (List.flatMap kndC K))) q27 o13) (al (R:=(Pr.own 41 117 2 1 (List.flatMap kndC qs))) (D7.m 1 rfl) o14) (one_flat kndOne) (by first | omega | (simp;done)) (by first | omega | (simp;done)))) fun a8 s8 hs1 ok8 r1 sm1=>?_
   obtain ⟨x1,hx1⟩:∃ x,a8.eval (.tmp 25) = x:=⟨_,rfl⟩
   have q29:At (Ty.val x1) s8 a8 (.tmp 25):=hx1
   have o15:=al2 (R:=(Pr.own 40 117 2 (List.length (K ++ qs)) (List.flatMap kndC (K ++ qs)))) hx1 (cvo (by first | (simp;done) | (simp;omega)) (by first | (rw [List.map_append];rfl) | (rw [List.flatMap_append];done) | simp) r1)
   clear r1
   refine tL ok8 (Yld.toL (y_as q29)) fun a9 s9 hs2 ok9 r2 sm2=>?_
   have o17:=Own.kl (Own.kl o14 hs1) hs2
   have q30:At (Ty.val x1) s9 a9 (.tmp 6):=r2
   clear r2;refine wpList_nil (tn (wp_ret (tr ?_)))
   exact retL1 rfl ok9 (((F6.step0 D7.stp).sl hs1).sl hs2) ⟨x1,q30,(cvo (by (rw [show i = List.length K by omega,List.take_length,List.drop_length,List.append_nil])) (by (rw [show i = List.length K by omega,List.take_length,List.drop_length,List.append_nil])) (Own.kl o15 hs2))⟩
  ·
   refine wp_skip (tn (wp_seq (wp_seq ?_)))
   refine gI a6 s6 ok6 (gM q25 (gM q24 (gT (Ty.nat ((List.length K) + 1)) rfl (fun A B G H I d0 d1=>rP ((y_add (eI d0) (eI d1) wX).mono (fun τ _ h=>cN (σ:=τ) h))) (gM q21 (gT (Ty.nat (capOf x)) rfl (fun A B G H I d0=>rP (y_capF Try.underlying73 (Own.formC (Own.k0 o11 G)) (eI d0))) (gS rfl (fun A B G H I d0 d1=>rP (y_gtr (eI d0) (eI d1))) (gE ok6 fun a10 s10 ok10 D8=>?_)))))));have F10:=F6.step0 D8.stp;have q31:=D8.k q21;have q32:=D8.k (D6.k q17);have q33:=D8.k q23;have q34:=D8.k q24;have q35:=D8.k q25;have o19:=Own.k0 o11 D8.stp;have o20:=Own.k0 o12 D8.stp;refine tn ?_
   refine cond_p (p:=((((capOf x):Nat):Int) < ((((List.length K) + 1):Nat):Int))) (D8.m 5 rfl) (fun c3=>?_) (fun c3=>?_)
   ·
    refine wp_seq ?_
    refine gI a10 s10 ok10 (gM q31 (gM q32 (gT (Ty.val (preOf x i)) rfl (fun A B G H I d0 d1=>rP (y_preC (i:=i) Try.underlying73 Try.inf117 (Own.formC (Own.k0 o19 G)) (eI d0) (eI d1) oM)) (gM q35 (gM q34 (gT (Ty.nat ((List.length K) + 1)) rfl (fun A B G H I d0 d1=>rP ((y_add (eI d0) (eI d1) wX).mono (fun τ _ h=>cN (σ:=τ) h))) (gM q32 (gT (Ty.nat (((List.length K) + 1) - i)) rfl (fun A B G H I d0 d1=>rP ((y_sub (eI d0) (eI d1) wX).mono (fun τ _ h=>cvi (σ:=τ) oM h))) (gE2 ok10 fun a11 s11 ok11 D9=>?_)))))))));have o21:=Own.k0 o19 D9.stp;have o22:=Own.k0 o20 D9.stp
    refine tL (R:=(fun v τ=>Own τ 61 117 2 v (i + (((List.length K) + 1) - i)) ((List.flatMap kndC K).take (i * 2) ++ List.replicate ((((List.length K) + 1) - i) * 2) Ty.any))) ok11 (YldM.toL (m_appnC (k:=61) (i:=i) (m:=(((List.length K) + 1) - i)) Try.underlying73 Try.underlying3 Try.inf117 rfl dE o21 (by first | omega | (simp;done)) (by first | omega | (simp;done)) (D9.m 2 rfl) (D9.m 7 rfl) (by first | omega | (simp;done)) (by first | omega | (simp;done)) (by first | omega | (simp;done)) (by first | omega | (simp;done)))) fun a12 s12 hs3 ok12 r3 sm3=>?_
    obtain ⟨x2,hx2⟩:∃ x,a12.eval (.tmp 40) = x:=⟨_,rfl⟩
    have q47:At (Ty.val x2) s12 a12 (.tmp 40):=hx2
    have o23:=al2 (R:=(Pr.own 61 117 2 (i + (((List.length K) + 1) - i)) ((List.flatMap kndC K).take (i * 2) ++ List.replicate ((((List.length K) + 1) - i) * 2) Ty.any))) hx2 r3
    clear r3
    refine tL ok12 (Yld.toL (y_as q47)) fun a13 s13 hs4 ok13 r4 sm4=>?_
    have q49:=kq hs4 sm4 1 (kq hs3 sm3 1 (D9.k q32));have o28:=Own.kl o23 hs4
    have q52:At (Ty.val x2) s13 a13 (.tmp 9):=r4
    clear r4;refine wpList_nil (tn (wp_seq ?_))
    refine gI a13 s13 ok13 (gM q52 (gM q49 (gT (Ty.val (sufC 2 x2 i)) rfl (fun A B G H I d0 d1=>rP (y_sufC (j:=i) Try.underlying73 Try.inf117 (Own.formC (Own.k0 o28 G)) (eI d0) (eI d1) oM)) (gM (kq hs4 sm4 2 (kq hs3 sm3 2 (D9.k q33))) (gE2 ok13 fun a14 s14 ok14 D10=>?_)))));have o29:=Own.k0 (Own.kl (Own.kl o21 hs3) hs4) D10.stp;have o30:=Own.k0 (Own.kl (Own.kl o22 hs3) hs4) D10.stp;have o31:=Own.k0 o28 D10.stp
    refine tL (R:=(fun _ τ=>Own τ 61 117 2 x2 (i + (((List.length K) + 1) - i)) (((List.flatMap kndC K).take (i * 2) ++ List.replicate ((((List.length K) + 1) - i) * 2) Ty.any).take (i * 2) ++ (List.flatMap kndC qs).drop (0 * 2) ++ ((List.flatMap kndC K).take (i * 2) ++ List.replicate ((((List.length K) + 1) - i) * 2) Ty.any).drop ((i + (1 - 0)) * 2)))) ok14 (YldM.toL (m_copyOC (i:=0) (j:=i) Try.underlying73 Try.inf117 dE o31 o30 (D10.m 2 rfl) (((D10.m 3 rfl):_ = _).trans (Own.sufC0 o30 oM).symm) (one_flat kndOne) oM oM oM)) fun a15 s15 hs5 ok15 r5 sm5=>?_
    have q60:=kq hs5 sm5 1 (D10.k q49);have q62:=kq hs5 sm5 9 (D10.k q52);have o33:=Own.kl o29 hs5
    have o32:Own s15 61 117 2 x2 (i + (((List.length K) + 1) - i)) (((List.flatMap kndC K).take (i * 2) ++ List.replicate ((((List.length K) + 1) - i) * 2) Ty.any).take (i * 2) ++ (List.flatMap kndC qs).drop (0 * 2) ++ ((List.flatMap kndC K).take (i * 2) ++ List.replicate ((((List.length K) + 1) - i) * 2) Ty.any).drop ((i + (1 - 0)) * 2)):=r5
    clear r5;refine wpList_nil (tn (wp_seq ?_))
    refine gI a15 s15 ok15 (gM q62 (gM q60 (gM (kq hs5 sm5 7 (D10.k (kq hs4 sm4 7 (kq hs3 sm3 7 (D9.k q34))))) (gT (Ty.nat (i + 1)) rfl (fun A B G H I d0 d1=>rP ((y_add (eI d0) (eI d1) wX).mono (fun τ _ h=>cN (σ:=τ) h))) (gT (Ty.val (sufC 2 x2 (i + 1))) rfl (fun A B G H I d0 d1=>rP (y_sufC (j:=(i + 1)) Try.underlying73 Try.inf117 (Own.formC (Own.k0 o32 G)) (eI d0) (eI d1) oM)) (gM (kq hs5 sm5 0 (D10.k (kq hs4 sm4 0 (kq hs3 sm3 0 (D9.k q31))))) (gM q60 (gT (Ty.val (sufC 2 x i)) rfl (fun A B G H I d0 d1=>rP (y_sufC (j:=i) Try.underlying73 Try.inf117 (Own.formC (Own.k0 o33 G)) (eI d0) (eI d1) oM)) (gE2 ok15 fun a16 s16 ok16 D11=>?_)))))))));have o35:=Own.k0 o33 D11.stp;have o36:=Own.k0 (Own.kl o30 hs5) D11.stp;have o37:=Own.k0 o32 D11.stp
    refine tL (R:=(fun _ τ=>Own τ 61 117 2 x2 (i + (((List.length K) + 1) - i)) ((((List.flatMap kndC K).take (i * 2) ++ List.replicate ((((List.length K) + 1) - i) * 2) Ty.any).take (i * 2) ++ (List.flatMap kndC qs).drop (0 * 2) ++ ((List.flatMap kndC K).take (i * 2) ++ List.replicate ((((List.length K) + 1) - i) * 2) Ty.any).drop ((i + (1 - 0)) * 2)).take ((i + 1) * 2) ++ (List.flatMap kndC K).drop (i * 2) ++ (((List.flatMap kndC K).take (i * 2) ++ List.replicate ((((List.length K) + 1) - i) * 2) Ty.any).take (i * 2) ++ (List.flatMap kndC qs).drop (0 * 2) ++ ((List.flatMap kndC K).take (i * 2) ++ List.replicate ((((List.length K) + 1) - i) * 2) Ty.any).drop ((i + (1 - 0)) * 2)).drop (((i + 1) + ((List.length K) - i)) * 2)))) ok16 (YldM.toL (m_copyOC (i:=i) (j:=(i + 1)) Try.underlying73 Try.inf117 dE o37 o35 (D11.m 4 rfl) (D11.m 7 rfl) (one_flat kndOne) oM oM oM)) fun a17 s17 hs6 ok17 r6 sm6=>?_
    have o38:Own s17 61 117 2 x2 (i + (((List.length K) + 1) - i)) ((((List.flatMap kndC K).take (i * 2) ++ List.replicate ((((List.length K) + 1) - i) * 2) Ty.any).take (i * 2) ++ (List.flatMap kndC qs).drop (0 * 2) ++ ((List.flatMap kndC K).take (i * 2) ++ List.replicate ((((List.length K) + 1) - i) * 2) Ty.any).drop ((i + (1 - 0)) * 2)).take ((i + 1) * 2) ++ (List.flatMap kndC K).drop (i * 2) ++ (((List.flatMap kndC K).take (i * 2) ++ List.replicate ((((List.length K) + 1) - i) * 2) Ty.any).take (i * 2) ++ (List.flatMap kndC qs).drop (0 * 2) ++ ((List.flatMap kndC K).take (i * 2) ++ List.replicate ((((List.length K) + 1) - i) * 2) Ty.any).drop ((i + (1 - 0)) * 2)).drop (((i + 1) + ((List.length K) - i)) * 2)):=r6
    clear r6;refine wpList_nil (tn (wp_seq ?_))
    refine gI a17 s17 ok17 (gM (kq hs6 sm6 9 (D11.k q62)) (gB 0 (gE ok17 fun a18 s18 ok18 D12=>?_)));have o41:=Own.k0 (Own.kl o35 hs6) D12.stp;have o42:=Own.k0 (Own.kl o36 hs6) D12.stp;have o43:=Own.k0 o38 D12.stp
    have q69:At (Ty.val x2) s18 a18 (.tmp 6):=D12.done 1
    refine tn (wp_ret (tr ?_))
    obtain ⟨t1,e1,h1,o44⟩:=Own.retag (k':=40) o43 dE dE
    rw [← e1]
    have F19:=((((((((F10.step0 D9.stp).sl hs3).sl hs4).step0 D10.stp).sl hs5).step0 D11.stp).sl hs6).step0 D12.stp).step h1 dE;have o45:=Own.keepL o41 (h1.toL (L:=[61]) (by simp)) dE dE;have o46:=Own.keepL o42 (h1.toL (L:=[61]) (by simp)) dE dE;have q70:=Ty.up (Ty.val x2) (h1.le dE) q69
    exact retL1 rfl ok18 F19 ⟨x2,q70,(cvo (by (obtain ⟨q,rfl⟩:=hq;rw [ins_one];first | exact knds_insA oM | (rw [knds_ins_len oM];omega))) (by (obtain ⟨q,rfl⟩:=hq;rw [ins_one];first | exact knds_insA oM | (rw [knds_ins_len oM];omega))) o44)⟩
   ·
    refine wp_skip (tn (wp_seq ?_))
    refine gI a10 s10 ok10 (gM q31 (gM q35 (gM q34 (gT (Ty.nat ((List.length K) + 1)) rfl (fun A B G H I d0 d1=>rP ((y_add (eI d0) (eI d1) wX).mono (fun τ _ h=>cN (σ:=τ) h))) (gT (Ty.val (preOf x ((List.length K) + 1))) rfl (fun A B G H I d0 d1=>rP (y_preC (i:=((List.length K) + 1)) Try.underlying73 Try.inf117 (Own.formC (Own.k0 o19 G)) (eI d0) (eI d1) oM)) (gB 0 (gE ok10 fun a19 s19 ok19 D13=>?_)))))));have q71:=D13.k q32;have q72:=D13.k q33;have q73:=D13.k q34;have o47:=Own.k0 o19 D13.stp;have o48:=Own.k0 o20 D13.stp;have q75:=D13.m 5 rfl;refine tn (wp_seq (wp_seq ?_))
    have hfx:SlForm (preOf x ((List.length K) + 1)) ((List.length K) + 1):=SlForm.pre (Own.formC o47) oM
    refine gI a19 s19 ok19 (gM q72 (gM q75 (gM q71 (gM q73 (gT (Ty.nat (i + 1)) rfl (fun A B G H I d0 d1=>rP ((y_add (eI d0) (eI d1) wX).mono (fun τ _ h=>cN (σ:=τ) h))) (gT (Ty.val (sufC 2 (preOf x ((List.length K) + 1)) (i + 1))) rfl (fun A B G H I d0 d1=>rP (y_sufC (j:=(i + 1)) Try.underlying73 Try.inf117 hfx (eI d0) (eI d1) oM)) (gT (Ty.bool false) rfl (fun A B G H I d0 d1=>rP (y_ovlC (tr:=4) (h:=((List.length K) + 1)) (j:=(i + 1)) Try.underlying73 Try.inf117 dE (Own.k0 o48 G) (Own.k0 o47 G) dE oM oM (eI d0) (eI d1) oM (fun args_ w_=>run_callFunc_extern Try.func104 (by kernel_rfl) (by kernel_rfl) (by kernel_rfl) (by kernel_rfl) args_ w_) Try.func104)) (gS rfl (fun A B G H I d0=>rP (y_not (eI d0))) (gE ok19 fun a20 s20 ok20 D14=>?_)))))))));have q76:=D14.k q71;have q80:=D14.k q75;have o49:=Own.k0 o47 D14.stp;have o50:=Own.k0 o48 D14.stp;refine tn ?_
    refine cond_t (D14.m 7 rfl) (fun c4=>?_) (fun c4=>?_)
    ·
     refine wp_seq ?_
     refine gI a20 s20 ok20 (gM q80 (gM q76 (gM (D14.k q73) (gT (Ty.nat (i + 1)) rfl (fun A B G H I d0 d1=>rP ((y_add (eI d0) (eI d1) wX).mono (fun τ _ h=>cN (σ:=τ) h))) (gT (Ty.val (sufC 2 (preOf x ((List.length K) + 1)) (i + 1))) rfl (fun A B G H I d0 d1=>rP (y_sufC (j:=(i + 1)) Try.underlying73 Try.inf117 hfx (eI d0) (eI d1) oM)) (gM q80 (gM q76 (gT (Ty.val (sufC 2 (preOf x ((List.length K) + 1)) i)) rfl (fun A B G H I d0 d1=>rP (y_sufC (j:=i) Try.underlying73 Try.inf117 hfx (eI d0) (eI d1) oM)) (gE2 ok20 fun a21 s21 ok21 D15=>?_)))))))));have o51:=Own.k0 o49 D15.stp;have o52:=Own.k0 o50 D15.stp
     refine tL (R:=(fun _ τ=>Own τ 40 117 2 (preOf x ((List.length K) + 1)) ((List.length K) + 1) ((List.flatMap kndC K).take ((i + 1) * 2) ++ (List.flatMap kndC K).drop (i * 2)))) ok21 (YldM.toL (m_copyXC (i:=i) Try.underlying73 Try.inf117 dE o51 oM oM (D15.m 4 rfl) (D15.m 7 rfl) (one_flat kndOne))) fun a22 s22 hs7 ok22 r7 sm7=>?_
     have q89:=kq hs7 sm7 0 (D15.k q80)
     have o53:Own s22 40 117 2 (preOf x ((List.length K) + 1)) ((List.length K) + 1) ((List.flatMap kndC K).take ((i + 1) * 2) ++ (List.flatMap kndC K).drop (i * 2)):=r7
     clear r7;refine wpList_nil (tn (wp_seq ?_))
     refine gI a22 s22 ok22 (gM q89 (gM (kq hs7 sm7 1 (D15.k q76)) (gT (Ty.val (sufC 2 (preOf x ((List.length K) + 1)) i)) rfl (fun A B G H I d0 d1=>rP (y_sufC (j:=i) Try.underlying73 Try.inf117 (Own.formC (Own.k0 o53 G)) (eI d0) (eI d1) oM)) (gM (kq hs7 sm7 2 (D15.k (D14.k q72))) (gE2 ok22 fun a23 s23 ok23 D16=>?_)))));have o55:=Own.k0 (Own.kl o52 hs7) D16.stp;have o56:=Own.k0 o53 D16.stp
     refine tL (R:=(fun _ τ=>Own τ 40 117 2 (preOf x ((List.length K) + 1)) ((List.length K) + 1) (((List.flatMap kndC K).take ((i + 1) * 2) ++ (List.flatMap kndC K).drop (i * 2)).take (i * 2) ++ (List.flatMap kndC qs).drop (0 * 2) ++ ((List.flatMap kndC K).take ((i + 1) * 2) ++ (List.flatMap kndC K).drop (i * 2)).drop ((i + (1 - 0)) * 2)))) ok23 (YldM.toL (m_copyOC (i:=0) (j:=i) Try.underlying73 Try.inf117 dE o56 o55 (D16.m 2 rfl) (((D16.m 3 rfl):_ = _).trans (Own.sufC0 o55 oM).symm) (one_flat kndOne) oM oM oM)) fun a24 s24 hs8 ok24 r8 sm8=>?_
     have o57:Own s24 40 117 2 (preOf x ((List.length K) + 1)) ((List.length K) + 1) (((List.flatMap kndC K).take ((i + 1) * 2) ++ (List.flatMap kndC K).drop (i * 2)).take (i * 2) ++ (List.flatMap kndC qs).drop (0 * 2) ++ ((List.flatMap kndC K).take ((i + 1) * 2) ++ (List.flatMap kndC K).drop (i * 2)).drop ((i + (1 - 0)) * 2)):=r8
     clear r8;refine wpList_nil (tn (wp_seq ?_))
     refine gI a24 s24 ok24 (gM (kq hs8 sm8 0 (D16.k q89)) (gB 0 (gE ok24 fun a25 s25 ok25 D17=>?_)));have o59:=Own.k0 (Own.kl o55 hs8) D17.stp;have o60:=Own.k0 o57 D17.stp;refine tn (wp_ret (tr ?_))
     exact retL1 rfl ok25 (((((((F10.step0 D13.stp).step0 D14.stp).step0 D15.stp).sl hs7).step0 D16.stp).sl hs8).step0 D17.stp) ⟨(preOf x ((List.length K) + 1)),(D17.m 1 rfl),(cvo (by (obtain ⟨q,rfl⟩:=hq;rw [ins_one];first | exact knds_insB oM | (rw [knds_ins_len oM];done))) (by (obtain ⟨q,rfl⟩:=hq;rw [ins_one];first | exact knds_insB oM | (rw [knds_ins_len oM];done))) o60)⟩
    ·
     exfalso
     simp at c4
set_option maxHeartbeats 4000000 in
set_option maxRecDepth 100000 in
theorem cKindsA_fn (n:Int) (gens:List (List Int)) (σ:GW)  (v0 v1:Value) (hv0:Ty.has (Ty.int n) σ v0) (hv1:Ty.has (Ty.lst Ty.ints gens) σ v1)  (hbad:gensMay n gens ≠ 0) :
    FnC Try.prog 48 #[v0,v1] σ (Ty.tup2 (Ty.lstc 2 kndC ([]:List Knd)) (Ty.int (gensMay n gens))):=by
 refine fn_intro0 Try.func48 rfl Try.ntmps48 (Nat.le_of_ble_eq_true rfl) (fun s0 a0 hle F0 ok0 hargs=>?_)
 have p0:=pA hle (hargs 0 _ rfl) hv0
 have p1:=pA hle (hargs 1 _ rfl) hv1
 have b1:=sl_le p1
 clear hargs;refine wp_seq ?_
 refine gI a0 s0 ok0 (gC (Ty.val (Value.slice none 0 0)) (gC (Ty.int (0:Int)) (gE ok0 fun a1 s1 ok1 D1=>?_)));refine tn (wp_seq ?_)
 refine gI a1 s1 ok1 (gM (D1.k p0) (gM (D1.k p1) (gS rfl (fun A B G H I d0 d1=>rP (y_call _ Try.func17 rfl rfl my2 (gMakeE_fn (n) (gens) _ _ _ (eI d0) (eI d1) oM))) (gS rfl (fun A B G H I d0=>rP (y_move (eI d0))) (gT (Ty.val (Value.pointer none)) rfl (fun A B G H I d0=>rP (y_ext2_0 (eI d0))) (gT (Ty.int (gensMay n gens)) rfl (fun A B G H I d0 d1=>rP (y_ext2_1 (eI d0))) (gB 0 (gB 0 (gE ok1 fun a2 s2 ok2 D2=>?_)))))))));have q4:=D2.m 7 rfl;refine tn (wp_seq (wp_seq ?_))
 refine gI a2 s2 ok2 (gM q4 (gS rfl (fun A B G H I d0=>rP (y_neq (eI d0) rfl)) (gE ok2 fun a3 s3 ok3 D3=>?_)));refine tn ?_
 refine cond_p (p:=((gensMay n gens) ≠ (0:Int))) (D3.m 1 rfl) (fun c1=>?_) (fun c1=>?_)
 ·
  refine wp_seq ?_
  refine gI a3 s3 ok3 (gM (D3.k q4) (gC (Ty.val (Value.slice none 0 0)) (gB 0 (gE ok3 fun a4 s4 ok4 D4=>?_))));refine tn (wp_ret (tr ?_))
  exact retL2 rfl ok4 ((((F0.step0 D1.stp).step0 D2.stp).step0 D3.stp).step0 D4.stp) (hasT2 (nil_lstc (by (first | rfl | omega | (simp_all;done) | (simp_all;omega))) (D4.m 1 rfl)) (D4.m 2 rfl))
 ·
  exfalso
  exact c1 hbad
set_option maxHeartbeats 4000000 in
set_option maxRecDepth 100000 in
theorem gMake_fn (n:Nat) (gens:List (List Int)) (σ:GW) (hlow:Low [] σ) (v0 v1:Value) (hv0:Ty.has (Ty.nat n) σ v0) (hv1:Ty.has (Ty.lst Ty.ints gens) σ v1)  (hn:1 ≤ n∧n ≤ 12) (hg:∀ x ∈ gens,RowN n x) (hl:gens.length ≤ 8) :
    FnL Try.prog 17 #[v0,v1] σ [] (fun v τ=>∃ (c:(Nat → Lev)),∃ (us:(List Value)),∃ (x:Value),∃ (cs:Value),∃ (gs:Value),(Ty.has (Ty.tup2 (Ty.val x) (Ty.int (0:Int))) τ v)∧(OwnP τ 41 x [(Ty.nat n),(Ty.val gs),(Ty.val cs)])∧(ChnU τ 42 22 108 cs n c us)∧(Own τ 43 22 1 gs (List.length gens) (List.map Ty.ints gens))∧(ChnOf n gens c)):=by
 have hmay:=gensMay_of hn hl hg
 refine fn_introL hlow Try.func17 rfl Try.ntmps17 (Nat.le_of_ble_eq_true rfl) (fun a0 F0 ok0 hargs=>?_)
 have p0:=pB (hargs 0 _ rfl) hv0
 have p1:=pB (hargs 1 _ rfl) hv1
 have b1:=sl_le p1
 clear hargs;refine wp_seq ?_
 refine gI a0 σ ok0 (gC (Ty.val (Value.pointer none)) (gC (Ty.int (0:Int)) (gE ok0 fun a1 s1 ok1 D1=>?_)));have q1:=D1.k p0;have q2:=D1.k p1;refine tn (wp_seq (wp_seq ?_))
 refine gI a1 s1 ok1 (gM q1 (gM q2 (gS rfl (fun A B G H I d0 d1=>rP (y_call _ Try.func41 rfl rfl my2 (gCheck_fn (((n:Nat):Int)) (gens) _ _ _ (cvi (σ:=B) oM (ef d0 rfl)) (eI d1) ))) (gB 0 (gE ok1 fun a2 s2 ok2 D2=>?_)))));refine tn (wp_seq ?_)
 refine gI a2 s2 ok2 (gM (D2.m 3 rfl) (gS rfl (fun A B G H I d0=>rP (y_neq (eI d0) rfl)) (gE ok2 fun a3 s3 ok3 D3=>?_)));refine tn ?_
 refine cond_p (p:=((gensMay (((n:Nat):Int)) (gens)) ≠ (0:Int))) (D3.m 1 rfl) (fun c1=>?_) (fun c1=>?_)
 ·
  exfalso
  rw [hmay] at c1;exact c1 rfl
 ·
  refine wp_skip (tn (wp_seq ?_))
  refine gI a3 s3 ok3 (gM (D3.k (D2.k q1)) (gM (D3.k (D2.k q2)) (gE2 ok3 fun a4 s4 ok4 D4=>?_)))
  refine tL ok4 (y_callL (L:=[]) [] [(41,41),(42,42),(43,43)] _ rfl dE Try.func63 rfl rfl my2 (gOf_fn (n) (gens) _ lW _ _ (uL (D4.m 0 rfl)) (uL (D4.m 1 rfl))  oX oX oX)) fun a5 s5 hs1 ok5 r1 sm1=>?_
  obtain ⟨t1,⟨g1,g2,x1,x2,x3,hT1,o1,o2,o3,hp1⟩,B1⟩:=r1
  have q12:At (Ty.val x1) s5 a5 (.tmp 15):=Ty.up _ B1.le hT1
  have o4:OwnP s5 41 x1 [(Ty.nat n),(Ty.val x3),(Ty.val x2)]:=OwnP.ren o1 (B1.ren dE rfl)
  have o5:ChnU s5 42 22 108 x2 n (g1) (g2):=ChnU.ren o2 (B1.ren dE rfl)
  have o6:Own s5 43 22 1 x3 (List.length gens) (List.map Ty.ints gens):=Own.ren o3 (B1.ren dE rfl)
  refine tL ok5 (Yld.toL (y_as q12)) fun a6 s6 hs2 ok6 r2 sm2=>?_
  have q13:At (Ty.val x1) s6 a6 (.tmp 4):=r2
  clear r2
  refine tL (R:=(fun v τ=>Pr.has (Ty.pr (Ty.int (0:Int))) τ v)) ok6 (Yld.toL (y_assign rfl)) fun a7 s7 hs3 ok7 r3 sm3=>?_
  have q15:At (Ty.int (0:Int)) s7 a7 (.tmp 5):=r3
  clear r3;refine wpList_nil (tn (wp_ret ?_))
  exact retL2 rfl ok7 (((((((F0.step0 D1.stp).step0 D2.stp).step0 D3.stp).step0 D4.stp).sl hs1).sl hs2).sl hs3) ⟨(g1),(g2),x1,x2,x3,(hasT2 (kq hs3 sm3 4 q13) q15),(OwnP.kl (OwnP.kl o4 hs2) hs3),(cvch (by (rfl)) (ChnU.kl (ChnU.kl o5 hs2) hs3)),(Own.kl (Own.kl o6 hs2) hs3),(by assumption)⟩
set_option maxHeartbeats 4000000 in
set_option maxRecDepth 100000 in
theorem cKindsB_fn (n:Nat) (gens:List (List Int)) (σ:GW)  (v0 v1:Value) (hv0:Ty.has (Ty.nat n) σ v0) (hv1:Ty.has (Ty.lst Ty.ints gens) σ v1)  (hG0:gensMay (n:Int) gens = 0) (hL:5040 < szTo n (fun y=>y ∈ gens) n) :
    FnC Try.prog 48 #[v0,v1] σ (Ty.tup2 (Ty.lstc 2 kndC ([]:List Knd)) (Ty.int (3:Int))):=by
 obtain ⟨hn,hGl,hG⟩:=may_nat hG0
 have hGl2:gens.length ≤ 1000000:=oM
 have hGl3:gens.length ≤ 1000:=oM
 refine fn_intro0 Try.func48 rfl Try.ntmps48 (Nat.le_of_ble_eq_true rfl) (fun s0 a0 hle F0 ok0 hargs=>?_)
 have p0:=pA hle (hargs 0 _ rfl) hv0
 have p1:=pA hle (hargs 1 _ rfl) hv1
 have b1:=sl_le p1
 clear hargs;refine wp_seq ?_
 refine gI a0 s0 ok0 (gC (Ty.val (Value.slice none 0 0)) (gC (Ty.int (0:Int)) (gE ok0 fun a1 s1 ok1 D1=>?_)));refine tn (wp_seq ?_)
 refine gI a1 s1 ok1 (gM (D1.k p0) (gM (D1.k p1) (gE2 ok1 fun a2 s2 ok2 D2=>?_)))
 refine tL ok2 (y_callL (L:=[]) [] [(41,41),(42,42),(43,43)] _ rfl dE Try.func17 rfl rfl my2 (gMake_fn (n) (gens) _ lW _ _ (uL (D2.m 0 rfl)) (uL (D2.m 1 rfl))  oX oX oX)) fun a3 s3 hs1 ok3 r1 sm1=>?_
 obtain ⟨t1,⟨g1,g2,x1,x2,x3,hT1,o1,o2,o3,hp1⟩,B1⟩:=r1
 have q5:At (Ty.tup2 (Ty.val x1) (Ty.int (0:Int))) s3 a3 (.tmp 18):=Ty.up _ B1.le hT1
 have o4:OwnP s3 41 x1 [(Ty.nat n),(Ty.val x3),(Ty.val x2)]:=OwnP.ren o1 (B1.ren dE rfl)
 have o5:ChnU s3 42 22 108 x2 n (g1) (g2):=ChnU.ren o2 (B1.ren dE rfl)
 have o6:Own s3 43 22 1 x3 (List.length gens) (List.map Ty.ints gens):=Own.ren o3 (B1.ren dE rfl)
 refine tL ok3 (Yld.toL (y_mv q5)) fun a4 s4 hs2 ok4 r2 sm2=>?_
 have q6:At (Ty.tup2 (Ty.val x1) (Ty.int (0:Int))) s4 a4 (.tmp 15):=r2
 clear r2
 refine tL (R:=(fun v τ=>Pr.has (Ty.pr (Ty.val x1)) τ v)) ok4 (Yld.toL (y_ext2_0 q6)) fun a5 s5 hs3 ok5 r3 sm3=>?_
 have q8:At (Ty.val x1) s5 a5 (.tmp 19):=r3
 clear r3
 refine tL (R:=(fun v τ=>Pr.has (Ty.pr (Ty.int (0:Int))) τ v)) ok5 (Yld.toL (y_ext2_1 (kq hs3 sm3 15 q6))) fun a6 s6 hs4 ok6 r4 sm4=>?_
 have q10:At (Ty.int (0:Int)) s6 a6 (.tmp 20):=r4
 clear r4
 refine tL ok6 (Yld.toL (y_as (kq hs4 sm4 19 q8))) fun a7 s7 hs5 ok7 r5 sm5=>?_
 have q12:At (Ty.val x1) s7 a7 (.tmp 6):=r5
 clear r5
 refine tL ok7 (Yld.toL (y_as (kq hs5 sm5 20 q10))) fun a8 s8 hs6 ok8 r6 sm6=>?_
 have q14:At (Ty.int (0:Int)) s8 a8 (.tmp 7):=r6
 clear r6;refine wpList_nil (tn (wp_seq (wp_seq ?_)))
 refine gI a8 s8 ok8 (gM q14 (gT (Ty.bool false) rfl (fun A B G H I d0=>rP ((y_neq (eI d0) rfl).mono (fun τ _ h=>cvb (σ:=τ) dE h))) (gE ok8 fun a9 s9 ok9 D3=>?_)));have o22:=OwnP.k0 (OwnP.kl (OwnP.kl (OwnP.kl (OwnP.kl (OwnP.kl o4 hs2) hs3) hs4) hs5) hs6) D3.stp;have o23:=ChnU.k0 (ChnU.kl (ChnU.kl (ChnU.kl (ChnU.kl (ChnU.kl o5 hs2) hs3) hs4) hs5) hs6) D3.stp;have o24:=Own.k0 (Own.kl (Own.kl (Own.kl (Own.kl (Own.kl o6 hs2) hs3) hs4) hs5) hs6) D3.stp;refine tn ?_
 refine cond_t (D3.m 1 rfl) (fun c1=>(by cases c1)) (fun _=>?_)
 refine wp_skip (tn (wp_seq ?_))
 refine gI a9 s9 ok9 (gM (D3.k (kq hs6 sm6 6 q12)) (gE2 ok9 fun a10 s10 ok10 D4=>?_));have o25:=OwnP.k0 o22 D4.stp;have o26:=ChnU.k0 o23 D4.stp;have o27:=Own.k0 o24 D4.stp
 have q19:At (Ty.val x1) s10 a10 (.tmp 25):=D4.done 0 dE
 refine tL ok10 (y_callL (L:=[41,42,43]) [(41,41),(42,42),(43,43)] [(41,41),(42,42),(43,43)] #[a10.eval (.tmp 25)] rfl dE Try.func60 rfl rfl my1 (gElts_fn (x1) (x3) (x2) ((g2)) (n) ((g1)) (gens) _ lW _ (uL q19) (OwnP.ren o25 (GW.ren_lend _ _ dE rfl)) (ChnU.ren (cvch (by (rfl)) o26) (GW.ren_lend _ _ dE rfl)) (Own.ren o27 (GW.ren_lend _ _ dE rfl)) oX oX)) fun a11 s11 hs7 ok11 r7 sm7=>?_
 obtain ⟨t2,⟨g3,hT2,o28,o29,o30,hp2⟩,B2⟩:=r7
 have q21:At (Ty.tup2 (Ty.lst Ty.ints (g3)) (Ty.int (eltE n gens))) s11 a11 (.tmp 26):=Ty.up _ B2.le hT2
 have o31:OwnP s11 41 x1 [(Ty.nat n),(Ty.val x3),(Ty.val x2)]:=OwnP.ren o28 (B2.ren dE rfl)
 have o32:ChnU s11 42 22 108 x2 n ((g1)) ((g2)):=ChnU.ren o29 (B2.ren dE rfl)
 have o33:Own s11 43 22 1 x3 (List.length gens) (List.map Ty.ints gens):=Own.ren o30 (B2.ren dE rfl)
 refine tL ok11 (Yld.toL (y_mv q21)) fun a12 s12 hs8 ok12 r8 sm8=>?_
 have q23:At (Ty.tup2 (Ty.lst Ty.ints (g3)) (Ty.int (eltE n gens))) s12 a12 (.tmp 24):=r8
 clear r8
 refine tL (R:=(fun v τ=>Pr.has (Ty.pr (Ty.lst Ty.ints (g3))) τ v)) ok12 (Yld.toL (y_ext2_0 q23)) fun a13 s13 hs9 ok13 r9 sm9=>?_
 have q26:At (Ty.lst Ty.ints (g3)) s13 a13 (.tmp 27):=r9
 clear r9
 refine tL (R:=(fun v τ=>Pr.has (Ty.pr (Ty.int (eltE n gens))) τ v)) ok13 (Yld.toL (y_ext2_1 (kq hs9 sm9 24 q23))) fun a14 s14 hs10 ok14 r10 sm10=>?_
 have q29:At (Ty.int (eltE n gens)) s14 a14 (.tmp 28):=r10
 clear r10
 refine tL ok14 (Yld.toL (y_as (kq hs10 sm10 27 q26))) fun a15 s15 hs11 ok15 r11 sm11=>?_
 have q30:=kq hs11 sm11 7 (kq hs10 sm10 7 (kq hs9 sm9 7 (kq hs8 sm8 7 (kq hs7 sm7 7 (D4.k (D3.k q14))))))
 have q32:At (Ty.lst Ty.ints (g3)) s15 a15 (.tmp 8):=r11
 clear r11
 refine tL ok15 (Yld.toL (y_as (kq hs11 sm11 28 q29))) fun a16 s16 hs12 ok16 r12 sm12=>?_
 have q33:=kq hs12 sm12 8 q32
 have q34:At (Ty.int (eltE n gens)) s16 a16 (.tmp 7):=r12
 clear r12;refine wpList_nil (tn (wp_seq (wp_seq ?_)))
 have hE3:eltE n gens = 3:=(by unfold eltE;rw [if_neg oM])
 refine gI a16 s16 ok16 (gM q34 (gS rfl (fun A B G H I d0=>rP (y_neq (eI d0) rfl)) (gE ok16 fun a17 s17 ok17 D5=>?_)));have o49:=OwnP.k0 (OwnP.kl (OwnP.kl (OwnP.kl (OwnP.kl (OwnP.kl o31 hs8) hs9) hs10) hs11) hs12) D5.stp;have o50:=ChnU.k0 (ChnU.kl (ChnU.kl (ChnU.kl (ChnU.kl (ChnU.kl o32 hs8) hs9) hs10) hs11) hs12) D5.stp;have o51:=Own.k0 (Own.kl (Own.kl (Own.kl (Own.kl (Own.kl o33 hs8) hs9) hs10) hs11) hs12) D5.stp;refine tn ?_
 refine cond_p (p:=((eltE n gens) ≠ (0:Int))) (D5.m 1 rfl) (fun c2=>?_) (fun c2=>?_)
 ·
  refine wp_seq ?_
  refine gI a17 s17 ok17 (gM (D5.k q34) (gC (Ty.val (Value.slice none 0 0)) (gB 0 (gE ok17 fun a18 s18 ok18 D6=>?_))));have o52:=OwnP.k0 o49 D6.stp;have o53:=ChnU.k0 o50 D6.stp;have o54:=Own.k0 o51 D6.stp;refine tn (wp_ret (tr ?_))
  exact retL2 rfl ok18 ((((((((((((((((((F0.step0 D1.stp).step0 D2.stp).sl hs1).sl hs2).sl hs3).sl hs4).sl hs5).sl hs6).step0 D3.stp).step0 D4.stp).sl hs7).sl hs8).sl hs9).sl hs10).sl hs11).sl hs12).step0 D5.stp).step0 D6.stp) (hasT2 (nil_lstc (by (rfl)) (D6.m 1 rfl)) (cvi (by (rw [hE3])) (D6.m 2 rfl)))
 ·
  exfalso
  (rw [hE3] at c2;simp at c2)
theorem kindsErr_fn (n:Int) (gens:List (List Int)) (e:Int) (σ:GW) (v0 v1:Value) (hv0:Ty.has (Ty.int n) σ v0) (hv1:Ty.has (Ty.lst Ty.ints gens) σ v1) (hE:GErr n gens e) :
    FnC Try.prog 48 #[v0,v1] σ (Ty.tup2 (Ty.lstc 2 kndC ([]:List Knd)) (Ty.int e)):=by
  rcases hE with ⟨h,rfl⟩ | ⟨m,rfl,h,hL,rfl⟩
  · exact cKindsA_fn n gens σ v0 v1 hv0 hv1 h
  · exact cKindsB_fn m gens σ v0 v1 hv0 hv1 h hL
set_option maxHeartbeats 4000000 in
set_option maxRecDepth 100000 in
theorem rFact_fn:∀ (m:Nat) (n:Nat) (σ:GW)  (v0:Value) (hv0:Ty.has (Ty.nat n) σ v0)  (hm:m = n) (hn:n ≤ 12),FnC Try.prog 58 #[v0] σ (Ty.nat (fct n)):=by
 intro m
 induction m using Nat.strongRecOn with
 | _ m ih =>
 intro n σ v0 hv0 hm hn
 refine fn_intro0 Try.func58 rfl Try.ntmps58 (Nat.le_of_ble_eq_true rfl) (fun s0 a0 hle F0 ok0 hargs=>?_)
 have p0:=pA hle (hargs 0 _ rfl) hv0
 clear hargs;refine wp_seq ?_
 refine gI a0 s0 ok0 (gC (Ty.int (0:Int)) (gE ok0 fun a1 s1 ok1 D1=>?_));have q1:=D1.k p0;refine tn (wp_seq (wp_seq ?_))
 refine gI a1 s1 ok1 (gM q1 (gS rfl (fun A B G H I d0=>rP (y_lss (eI d0) rfl)) (gE ok1 fun a2 s2 ok2 D2=>?_)));have F2:=(F0.step0 D1.stp).step0 D2.stp;have q2:=D2.k q1;refine tn ?_
 refine cond_p (p:=(((n:Nat):Int) < (2:Int))) (D2.m 1 rfl) (fun c1=>?_) (fun c1=>?_)
 ·
  refine wp_seq ?_
  refine gI a2 s2 ok2 (gC (Ty.int (1:Int)) (gE ok2 fun a3 s3 ok3 D3=>?_));refine tn (wp_ret (tr ?_))
  exact retL1 rfl ok3 (F2.step0 D3.stp) (cvi (by (rw [fct_small oM];rfl)) (D3.m 0 rfl))
 ·
  have hm2:((n:Nat):Int) * ((fct (n - 1):Nat):Int) ≤ 479001600∧0 ≤ ((n:Nat):Int) * ((fct (n - 1):Nat):Int):=(by have h1:=fct_le12 hn;have h2:=fct_rec (n:=n) oM;rw [← Int.natCast_mul];omega)
  refine wp_skip (tn (wp_seq ?_))
  refine gI a2 s2 ok2 (gM q2 (gM q2 (gT (Ty.nat (n - 1)) rfl (fun A B G H I d0=>rP ((y_sub (eI d0) rfl wX).mono (fun τ _ h=>cvi (σ:=τ) oM h))) (gS rfl (fun A B G H I d0=>rP (y_call _ Try.func58 rfl rfl my1 (ih (((n - 1))) oM ((n - 1)) _ _ (cvi (σ:=B) oM (ef d0 rfl)) oM oM))) (gT (Ty.nat (n * (fct ((n - 1))))) rfl (fun A B G H I d0 d1=>rP ((y_mul (eI d0) (eI d1) wX).mono (fun τ _ h=>cN (σ:=τ) h))) (gB 0 (gE ok2 fun a4 s4 ok4 D4=>?_)))))));refine tn (wp_ret ?_)
  exact retL1 rfl ok4 (F2.step0 D4.stp) (cvi (by (rw [fct_rec oM])) (D4.m 5 rfl))
set_option maxHeartbeats 4000000 in
set_option maxRecDepth 100000 in
theorem rRank_fn (r:List Int) (σ:GW)  (v0:Value) (hv0:Ty.has (Ty.lst Ty.int r) σ v0)  (hr:IsRow r) :
    FnC Try.prog 21 #[v0] σ (Ty.nat (rankL r)):=by
 have hln:=hr.le
 refine fn_intro0 Try.func21 rfl Try.ntmps21 (Nat.le_of_ble_eq_true rfl) (fun s0 a0 hle F0 ok0 hargs=>?_)
 have p0:=pA hle (hargs 0 _ rfl) hv0
 have b1:=sl_le p0
 clear hargs;refine wp_seq ?_
 refine gI a0 s0 ok0 (gC (Ty.int (0:Int)) (gE ok0 fun a1 s1 ok1 D1=>?_));refine tn (wp_seq ?_)
 refine gI a1 s1 ok1 (gC (Ty.int (0:Int)) (gE ok1 fun a2 s2 ok2 D2=>?_));refine tn (wp_seq (wp_seq ?_))
 refine gI a2 s2 ok2 (gC (Ty.int (0:Int)) (gE ok2 fun a3 s3 ok3 D3=>?_));refine tn (wp_block ?_)
 refine loop (fun n1 a4 w1=>∃ (t1:GW) (i:Nat) (q:Nat),t1.w = w1∧FromL [] s0 t1∧Ok 44 [] a4∧At (Ty.nat i) t1 a4 (.tmp 4)∧At (Ty.nat q) t1 a4 (.tmp 3)∧At (Ty.lst Ty.int r) t1 a4 (.tmp 0)∧(i ≤ r.length)∧(q + rankL (r.drop i) = rankL r)∧n1 = r.length - i) (r.length - (0)) ?_ ?_
 ·
  exact ⟨s3,0,0,rfl,(((F0.step0 D1.stp).step0 D2.stp).step0 D3.stp),ok3,(cJ (D3.m 0 rfl)),(cJ (D3.k (D2.m 0 rfl))),(D3.k (D2.k (D1.k p0))),by omega,by simp,rfl⟩
 ·
  rintro n2 a5 w2 ⟨t2,i,q,rfl,F4,ok4,q7,q8,q9,hi,hq,rfl⟩
  have hrl:=rank_le12 hln
  refine wp_seq (wp_seq ?_)
  refine gI a5 t2 ok4 (gM q7 (gM q9 (gS rfl (fun A B G H I d0=>rP (y_len Try.underlying22 (eI d0))) (gS rfl (fun A B G H I d0 d1=>rP (y_lss (eI d0) (eI d1))) (gE ok4 fun a6 s4 ok5 D4=>?_)))));have F5:=F4.step0 D4.stp;have q10:=D4.k q7;have q11:=D4.k q8;have q12:=D4.k q9;refine tn ?_
  refine cond_p (p:=(((i:Nat):Int) < (((List.length r):Nat):Int))) (D4.m 3 rfl) (fun c1=>?_) (fun c1=>?_)
  ·
   have hmb:=rank_mul hln oM hq;have hbd:=hr.at (i:=i) oM
   refine wp_skip (tn (wp_seq (wp_block (wp_seq ?_))))
   refine gI a6 s4 ok5 (gM q12 (gM q10 (gT (Ty.ref [(Ty.int (r.getD i 0))]) rfl (fun A B G H I d0 d1=>rP (y_index1 Try.underlying22 Try.inf3 (eI d0) (eI d1) oM (lst_get Ty.int r 0 i oM))) (gS rfl (fun A B G H I d0=>rP (y_load Try.underlying3 rfl (eI d0) rfl)) (gB 0 (gE ok5 fun a7 s5 ok6 D5=>?_))))));refine tn (wp_seq (wp_seq ?_))
   refine gI a7 s5 ok6 (gC (Ty.int (0:Int)) (gE ok6 fun a8 s6 ok7 D6=>?_));refine tn (wp_block ?_)
   refine loop (fun n3 a9 w3=>∃ (t3:GW) (j:Nat),t3.w = w3∧FromL [] s0 t3∧Ok 44 [] a9∧At (Ty.nat j) t3 a9 (.tmp 6)∧At (Ty.int (r.getD i 0 - ((lessN (r.getD i 0) (r.take j):Nat):Int))) t3 a9 (.tmp 5)∧At (Ty.nat i) t3 a9 (.tmp 4)∧At (Ty.nat q) t3 a9 (.tmp 3)∧At (Ty.lst Ty.int r) t3 a9 (.tmp 0)∧(j ≤ i)∧n3 = i - j) (i - (0)) ?_ ?_
   ·
    exact ⟨s6,0,rfl,((F5.step0 D5.stp).step0 D6.stp),ok7,(cJ (D6.m 0 rfl)),(cvi (by (simp [lessN])) (D6.k (D5.m 4 rfl))),(D6.k (D5.k q10)),(D6.k (D5.k q11)),(D6.k (D5.k q12)),by omega,rfl⟩
   ·
    rintro n4 a10 w4 ⟨t4,j,rfl,F8,ok8,q23,q24,q25,q26,q27,hj,rfl⟩
    have hll:=lessN_le (r.getD i 0) (r.take j)
    have htl:=List.length_take_le j r
    refine wp_seq (wp_seq ?_)
    refine gI a10 t4 ok8 (gM q23 (gM q25 (gS rfl (fun A B G H I d0 d1=>rP (y_lss (eI d0) (eI d1))) (gE ok8 fun a11 s7 ok9 D7=>?_))));have F9:=F8.step0 D7.stp;have q28:=D7.k q23;have q29:=D7.k q24;have q30:=D7.k q25;have q31:=D7.k q26;have q32:=D7.k q27;refine tn ?_
    refine cond_p (p:=(((j:Nat):Int) < ((i:Nat):Int))) (D7.m 2 rfl) (fun c2=>?_) (fun c2=>?_)
    ·
     refine wp_skip (tn (wp_seq (wp_block (wp_seq ?_))))
     refine gI a11 s7 ok9 (gM q32 (gM q28 (gT (Ty.ref [(Ty.int (r.getD j 0))]) rfl (fun A B G H I d0 d1=>rP (y_index1 Try.underlying22 Try.inf3 (eI d0) (eI d1) oM (lst_get Ty.int r 0 j oM))) (gS rfl (fun A B G H I d0=>rP (y_load Try.underlying3 rfl (eI d0) rfl)) (gM q32 (gM q30 (gT (Ty.ref [(Ty.int (r.getD i 0))]) rfl (fun A B G H I d0 d1=>rP (y_index1 Try.underlying22 Try.inf3 (eI d0) (eI d1) oM (lst_get Ty.int r 0 i oM))) (gS rfl (fun A B G H I d0=>rP (y_load Try.underlying3 rfl (eI d0) rfl)) (gS rfl (fun A B G H I d0 d1=>rP (y_lss (eI d0) (eI d1))) (gE ok9 fun a12 s8 ok10 D8=>?_))))))))));have F10:=F9.step0 D8.stp;have q34:=D8.k q28;have q35:=D8.k q29;have q36:=D8.k q30;have q37:=D8.k q31;have q38:=D8.k q32;refine tn ?_
     refine cond_p (p:=((r.getD j 0) < (r.getD i 0))) (D8.m 8 rfl) (fun c3=>?_) (fun c3=>?_)
     ·
      refine gI a12 s8 ok10 (gM q35 (gT (Ty.int ((r.getD i 0 - ((lessN (r.getD i 0) (r.take j):Nat):Int)) - (1:Int))) rfl (fun A B G H I d0=>rP (y_sub (eI d0) rfl wX)) (gB 0 (gE ok10 fun a13 s9 ok11 D9=>?_))));refine bn (tn ?_)
      refine gI a13 s9 ok11 (gM (D9.k q34) (gT (Ty.nat (j + 1)) rfl (fun A B G H I d0=>rP ((y_add (eI d0) rfl wX).mono (fun τ _ h=>cN (σ:=τ) h))) (gB 0 (gE ok11 fun a14 s10 ok12 D10=>?_))))
      exact tn ⟨i - ((j+1)),by omega,s10,(j+1),rfl,((F10.step0 D9.stp).step0 D10.stp),ok12,(cJ (D10.m 2 rfl)),(cvi (by (rw [lessN_snoc _ _ _ oM,if_pos (by assumption)];omega)) (D10.k (D9.m 2 rfl))),(D10.k (D9.k q36)),(D10.k (D9.k q37)),(D10.k (D9.k q38)),by omega,rfl⟩
     ·
      refine wp_skip (bn (tn ?_))
      refine gI a12 s8 ok10 (gM q34 (gT (Ty.nat (j + 1)) rfl (fun A B G H I d0=>rP ((y_add (eI d0) rfl wX).mono (fun τ _ h=>cN (σ:=τ) h))) (gB 0 (gE ok10 fun a15 s11 ok13 D11=>?_))))
      exact tn ⟨i - ((j+1)),by omega,s11,(j+1),rfl,(F10.step0 D11.stp),ok13,(cJ (D11.m 2 rfl)),(cvi (by (rw [lessN_snoc _ _ _ oM,if_neg (by assumption)];rfl)) (D11.k q35)),(D11.k q36),(D11.k q37),(D11.k q38),by omega,rfl⟩
    ·
     have q55:At (Ty.nat (lessN (r.getD i 0) (r.drop (i + 1)))) s7 a11 (.tmp 5):=cvt (T:=(Ty.int (r.getD i 0 - ((lessN (r.getD i 0) (r.take j):Nat):Int)))) (U:=(Ty.nat (lessN (r.getD i 0) (r.drop (i + 1))))) (by have e:j = i:=oM;rw [e];exact congrArg Ty.int (less_after hr oM)) q29
     refine wp_exit (tx (tx (bx (tn ?_))))
     refine gI a11 s7 ok9 (gM q31 (gM q55 (gM q32 (gS rfl (fun A B G H I d0=>rP (y_len Try.underlying22 (eI d0))) (gT (Ty.nat ((List.length r) - 1)) rfl (fun A B G H I d0=>rP ((y_sub (eI d0) rfl wX).mono (fun τ _ h=>cvi (σ:=τ) oM h))) (gM q30 (gT (Ty.nat (((List.length r) - 1) - i)) rfl (fun A B G H I d0 d1=>rP ((y_sub (eI d0) (eI d1) wX).mono (fun τ _ h=>cvi (σ:=τ) oM h))) (gS rfl (fun A B G H I d0=>rP (y_call _ Try.func58 rfl rfl my1 (rFact_fn (((((List.length r) - 1) - i))) ((((List.length r) - 1) - i)) _ _ (cvi (σ:=B) oM (ef d0 rfl)) oM oM))) (gT (Ty.nat ((lessN (r.getD i 0) (r.drop (i + 1))) * (fct ((((List.length r) - 1) - i))))) rfl (fun A B G H I d0 d1=>rP ((y_mul (eI d0) (eI d1) wX).mono (fun τ _ h=>cN (σ:=τ) h))) (gT (Ty.nat (q + ((lessN (r.getD i 0) (r.drop (i + 1))) * (fct ((((List.length r) - 1) - i)))))) rfl (fun A B G H I d0 d1=>rP ((y_add (eI d0) (eI d1) wX).mono (fun τ _ h=>cN (σ:=τ) h))) (gB 0 (gE ok9 fun a16 s12 ok14 D12=>?_))))))))))));refine bn (tn ?_)
     refine gI a16 s12 ok14 (gM (D12.k q30) (gT (Ty.nat (i + 1)) rfl (fun A B G H I d0=>rP ((y_add (eI d0) rfl wX).mono (fun τ _ h=>cN (σ:=τ) h))) (gB 0 (gE ok14 fun a17 s13 ok15 D13=>?_))))
     exact tn ⟨r.length - ((i+1)),by omega,s13,(i+1),(q + lessN (r.getD i 0) (r.drop (i + 1)) * fct (r.length - 1 - i)),rfl,((F9.step0 D12.stp).step0 D13.stp),ok15,(cJ (D13.m 2 rfl)),(cJ (D13.k (D12.m 10 rfl))),(D13.k (D12.k q32)),by omega,rank_step' oM hq,rfl⟩
  ·
   refine wp_exit (tx (tx (bx (tn (wp_seq ?_)))))
   refine gI a6 s4 ok5 (gM q11 (gB 0 (gE ok5 fun a18 s14 ok16 D14=>?_)));refine tn (wp_ret ?_)
   exact retL1 rfl ok16 (F5.step0 D14.stp) (cvi (by (obtain rfl:i = r.length:=oM;exact congrArg _ (by rw [List.drop_length] at hq;exact hq))) (D14.m 1 rfl))
theorem Try.inf4:Info Try.prog 4 (.bool false) 1 1:=by unfold Info;kernel_rfl
set_option maxHeartbeats 4000000 in
set_option maxRecDepth 100000 in
theorem rClosed_fn (n:Nat) (gens:List (List Int)) (most:Nat) (σ:GW) (hlow:Low [] σ) (v0 v1 v2:Value) (hv0:Ty.has (Ty.nat n) σ v0) (hv1:Ty.has (Ty.lst Ty.ints gens) σ v1) (hv2:Ty.has (Ty.nat most) σ v2)  (hn:1 ≤ n∧n ≤ 12) (hg:∀ x ∈ gens,RowN n x) (hgl:gens.length ≤ 1000) (hms:1 ≤ most∧most ≤ 100000) :
    FnL Try.prog 19 #[v0,v1,v2] σ [] (fun v τ=>∃ (R:(List (List Int))),∃ (W:(List (List Int))),(Ty.has (Ty.tup2 (Ty.lst Ty.ints R) (Ty.lst Ty.ints W)) τ v)∧(ClosedP n gens most R W)):=by
 refine fn_introL hlow Try.func19 rfl Try.ntmps19 (Nat.le_of_ble_eq_true rfl) (fun a0 F0 ok0 hargs=>?_)
 have p0:=pB (hargs 0 _ rfl) hv0
 have p1:=pB (hargs 1 _ rfl) hv1
 have b1:=sl_le p1
 have p2:=pB (hargs 2 _ rfl) hv2
 clear hargs;refine wp_seq ?_
 refine gI a0 σ ok0 (gC (Ty.val (Value.slice none 0 0)) (gC (Ty.val (Value.slice none 0 0)) (gE ok0 fun a1 s1 ok1 D1=>?_)));refine tn (wp_seq ?_)
 refine gI a1 s1 ok1 (gM (D1.k p0) (gS rfl (fun A B G H I d0=>rP (y_call _ Try.func39 rfl rfl my1 (rRounds_fn (n) _ _ (eI d0) oM))) (gR (Pr.own 20 22 1 1 (List.map Ty.ints [(roundsL n)])) rfl (by intro A B G H I d0;exact rP ((y_lit1 (k:=20) Try.underlying24 Try.inf22 rfl (one_sl) (eI d0)).mono (fun _ _ h=>cvo (by simp) (by first | (simp;done) | rfl) h))) (gE2 ok1 fun a2 s2 ok2 D2=>?_))))
 obtain ⟨x1,hx1⟩:∃ x,a2.eval (.tmp 19) = x:=⟨_,rfl⟩
 have q6:At (Ty.val x1) s2 a2 (.tmp 19):=hx1
 have o1:=al2 (R:=(Pr.own 20 22 1 1 (List.map Ty.ints [(roundsL n)]))) hx1 (D2.done 2 dE)
 refine tL ok2 (Yld.toL (y_as q6)) fun a3 s3 hs1 ok3 r1 sm1=>?_
 have q9:At (Ty.val x1) s3 a3 (.tmp 8):=r1
 clear r1;refine wpList_nil (tn (wp_seq ?_))
 refine gI a3 s3 ok3 (gR (Pr.own 21 22 1 1 (List.map Ty.ints [([]:List Int)])) rfl (by intro A B G H I;exact rP ((y_lit1 (k:=21) Try.underlying24 Try.inf22 rfl (one_sl) (nil_lst (f:=Ty.int) (xs:=([]:List Int)) rfl (show Ty.has (Ty.val (Value.slice none 0 0)) B (A.eval ((Operand.const (Value.slice none 0 0)))) from rfl))).mono (fun _ _ h=>cvo (by simp) (by first | (simp;done) | rfl) h))) (gE2 ok3 fun a4 s4 ok4 D3=>?_));have o3:=Own.k0 (Own.kl o1 hs1) D3.stp
 obtain ⟨x2,hx2⟩:∃ x,a4.eval (.tmp 20) = x:=⟨_,rfl⟩
 have q13:At (Ty.val x2) s4 a4 (.tmp 20):=hx2
 have o4:=al2 (R:=(Pr.own 21 22 1 1 (List.map Ty.ints [([]:List Int)]))) hx2 (D3.done 0 dE)
 refine tL ok4 (Yld.toL (y_as q13)) fun a5 s5 hs2 ok5 r2 sm2=>?_
 have q17:At (Ty.val x2) s5 a5 (.tmp 9):=r2
 clear r2;refine wpList_nil (tn (wp_seq ?_))
 refine gI a5 s5 ok5 (gR (Pr.ownm Ty.bool kI 22 (fun _=>none:Int → Option Bool)) rfl (by intro A B G H I;exact rP (y_makemap 22)) (gE2 ok5 fun a6 s6 ok6 D4=>?_));have o7:=Own.k0 (Own.kl o3 hs2) D4.stp;have o8:=Own.k0 (Own.kl o4 hs2) D4.stp
 obtain ⟨x3,hx3⟩:∃ x,a6.eval (.tmp 21) = x:=⟨_,rfl⟩
 have q22:At (Ty.val x3) s6 a6 (.tmp 21):=hx3
 have o9:=al2 (R:=(Pr.ownm Ty.bool kI 22 (fun _=>none:Int → Option Bool))) hx3 (D4.done 0 dE)
 refine tailL0 (L:=[22]) (R:=(fun _ τ=>OwnM Ty.bool kI τ 22 x3 (fun x_=>if x_ = (0:Int) then some true else (fun _=>none:Int → Option Bool) x_))) rfl rfl (YldM.toL (m_mapins (i:=(0:Int)) Try.underlying35 (keyInt Try.underlying3) dE o9 q22 rfl rfl)) (fun v1 s7 hs3 r3=>?_)
 have q23:=kpL hs3 dE rfl (D4.k (kq hs2 sm2 1 (D3.k (kq hs1 sm1 1 (D2.k (D1.k p1))))));have q24:=kpL hs3 dE rfl (D4.k (kq hs2 sm2 2 (D3.k (kq hs1 sm1 2 (D2.k (D1.k p2))))));have q25:=kpL hs3 dE rfl (D4.k (kq hs2 sm2 8 (D3.k q9)));have q26:=kpL hs3 dE rfl (D4.k q17);have q27:=kpL hs3 dE rfl q22
 have o10:OwnM Ty.bool kI s7 22 x3 (fun x_=>if x_ = (0:Int) then some true else (fun _=>none:Int → Option Bool) x_):=r3
 clear r3
 refine tL ok6 (Yld.toL (y_mv q27)) fun a7 s8 hs4 ok7 r4 sm3=>?_
 have q33:At (Ty.val x3) s8 a7 (.tmp 22):=r4
 clear r4
 refine tL ok7 (Yld.toL (y_as q33)) fun a8 s9 hs5 ok8 r5 sm4=>?_
 have q38:At (Ty.val x3) s9 a8 (.tmp 10):=r5
 clear r5;refine wpList_nil (tn (wp_seq (wp_seq ?_)))
 refine gI a8 s9 ok8 (gC (Ty.int (0:Int)) (gE ok8 fun a9 s10 ok9 D5=>?_));have o19:=Own.k0 (Own.kl (Own.kl (Own.kl o7 hs3) hs4) hs5) D5.stp;have o20:=Own.k0 (Own.kl (Own.kl (Own.kl o8 hs3) hs4) hs5) D5.stp;have o21:=OwnM.k0 (OwnM.kl (OwnM.kl o10 hs4) hs5) D5.stp;refine tn (wp_block ?_)
 refine loop (fun n1 a10 w1=>∃ (t1:GW) (i:Nat) (L:(List (List Int))) (W:(List (List Int))) (f:(Int → Option Bool)) (x8_0 x9_0:Value),t1.w = w1∧FromL [] σ t1∧Ok 86 [] a10∧At (Ty.nat i) t1 a10 (.tmp 11)∧At (Ty.val x8_0) t1 a10 (.tmp 8)∧At (Ty.val x9_0) t1 a10 (.tmp 9)∧At (Ty.lst Ty.ints gens) t1 a10 (.tmp 1)∧At (Ty.nat most) t1 a10 (.tmp 2)∧At (Ty.val x3) t1 a10 (.tmp 10)∧Own t1 20 22 1 x8_0 (List.length L) (List.map Ty.ints L)∧Own t1 21 22 1 x9_0 (List.length W) (List.map Ty.ints W)∧OwnM Ty.bool kI t1 22 x3 f∧(i ≤ L.length)∧(L.length ≤ most)∧(ClI n gens L W i 0)∧(SeenB n L f)∧(WordsB W)∧n1 = most - i) (most - (0)) ?_ ?_
 ·
  exact ⟨s10,0,[roundsL n],[[]],(fun x=>if x = (0:Int) then some true else (fun _=>none) x),x1,x2,rfl,((((((((((F0.step0 D1.stp).step0 D2.stp).sl hs1).step0 D3.stp).sl hs2).step0 D4.stp).sl hs3).sl hs4).sl hs5).step0 D5.stp),ok9,(cJ (D5.m 0 rfl)),(D5.k (kq hs5 sm4 8 (kq hs4 sm3 8 q25))),(D5.k (kq hs5 sm4 9 (kq hs4 sm3 9 q26))),(D5.k (kq hs5 sm4 1 (kq hs4 sm3 1 q23))),(D5.k (kq hs5 sm4 2 (kq hs4 sm3 2 q24))),(D5.k q38),(cvo (by (first | rfl | simp)) (by (first | rfl | simp)) o19),(cvo (by (first | rfl | simp)) (by (first | rfl | simp)) o20),(cvm (by (rfl)) o21),by simp,hms.1,ClI.start,seenC_start hn,wordsB_start,rfl⟩
 ·
  rintro n2 a11 w2 ⟨t2,i,L,W,f,x8_0,x9_0,rfl,F11,ok10,q45,q46,q47,q48,q49,q50,o22,o23,o24,hi,hl,hC,hsn,hwb,rfl⟩
  have hwl:=hC.wl
  refine wp_seq (wp_seq ?_)
  refine gI a11 t2 ok10 (gM q45 (gM q46 (gT (Ty.nat (List.length L)) rfl (fun A B G H I d0=>rP (own_len Try.underlying24 (al (R:=(Pr.own 20 22 1 (List.length L) (List.map Ty.ints L))) (eI d0) (Own.k0 o22 G)))) (gS rfl (fun A B G H I d0 d1=>rP (y_lss (eI d0) (eI d1))) (gE ok10 fun a12 s11 ok11 D6=>?_)))));have F12:=F11.step0 D6.stp;have q52:=D6.k q46;have q53:=D6.k q47;have o25:=Own.k0 o22 D6.stp;have o26:=Own.k0 o23 D6.stp;have o27:=OwnM.k0 o24 D6.stp;refine tn ?_
  refine cond_p (p:=(((i:Nat):Int) < (((List.length L):Nat):Int))) (D6.m 3 rfl) (fun c1=>?_) (fun c1=>?_)
  ·
   refine wp_skip (tn (wp_seq (wp_block (wp_seq ?_))))
   refine gI a12 s11 ok11 (gC (Ty.int (0:Int)) (gE ok11 fun a13 s12 ok12 D7=>?_));have o28:=Own.k0 o25 D7.stp;have o29:=Own.k0 o26 D7.stp;have o30:=OwnM.k0 o27 D7.stp;refine tn (wp_block ?_)
   refine loop (fun n3 a14 w3=>∃ (t3:GW) (j:Nat) (L2:(List (List Int))) (W2:(List (List Int))) (f2:(Int → Option Bool)) (x8_1 x9_1:Value),t3.w = w3∧FromL [] σ t3∧Ok 86 [] a14∧At (Ty.nat j) t3 a14 (.tmp 12)∧At (Ty.val x8_1) t3 a14 (.tmp 8)∧At (Ty.val x9_1) t3 a14 (.tmp 9)∧At (Ty.nat i) t3 a14 (.tmp 11)∧At (Ty.lst Ty.ints gens) t3 a14 (.tmp 1)∧At (Ty.nat most) t3 a14 (.tmp 2)∧At (Ty.val x3) t3 a14 (.tmp 10)∧Own t3 20 22 1 x8_1 (List.length L2) (List.map Ty.ints L2)∧Own t3 21 22 1 x9_1 (List.length W2) (List.map Ty.ints W2)∧OwnM Ty.bool kI t3 22 x3 f2∧(j ≤ 2 * gens.length)∧(i < L2.length)∧(L2.length ≤ most)∧(ClI n gens L2 W2 i j)∧(SeenB n L2 f2)∧(WordsB W2)∧n3 = 2 * gens.length - j) (2 * gens.length - (0)) ?_ ?_
   ·
    exact ⟨s12,0,L,W,f,x8_0,x9_0,rfl,(F12.step0 D7.stp),ok12,(cJ (D7.m 0 rfl)),(D7.k q52),(D7.k q53),(D7.k (D6.k q45)),(D7.k (D6.k q48)),(D7.k (D6.k q49)),(D7.k (D6.k q50)),(cvo (by (simp)) (by (simp)) o28),(cvo (by (simp)) (by (simp)) o29),(cvm (by (rfl)) o30),by omega,by omega,hl,hC,hsn,hwb,rfl⟩
   ·
    rintro n4 a15 w4 ⟨t4,j,L2,W2,f2,x8_1,x9_1,rfl,F14,ok13,q65,q66,q67,q68,q69,q70,q71,o31,o32,o33,hj,hil,hl2,hC2,hsn2,hwb2,rfl⟩
    have hwl2:=hC2.wl
    refine wp_seq (wp_seq ?_)
    refine gI a15 t4 ok13 (gM q65 (gM q69 (gS rfl (fun A B G H I d0=>rP (y_len Try.underlying24 (eI d0))) (gT (Ty.nat (2 * (List.length gens))) rfl (fun A B G H I d0=>rP ((y_mul rfl (eI d0) wX).mono (fun τ _ h=>cN (σ:=τ) h))) (gS rfl (fun A B G H I d0 d1=>rP (y_lss (eI d0) (eI d1))) (gE ok13 fun a16 s13 ok14 D8=>?_))))));have F15:=F14.step0 D8.stp;have q72:=D8.k q65;have q73:=D8.k q66;have q74:=D8.k q67;have q75:=D8.k q68;have q76:=D8.k q69;have q77:=D8.k q70;have q78:=D8.k q71;have o34:=Own.k0 o31 D8.stp;have o35:=Own.k0 o32 D8.stp;have o36:=OwnM.k0 o33 D8.stp;refine tn ?_
    refine cond_p (p:=(((j:Nat):Int) < (((2 * (List.length gens)):Nat):Int))) (D8.m 4 rfl) (fun c2=>?_) (fun c2=>?_)
    ·
     obtain ⟨hf1,hf2,hf3,hf4,hf5,hf6⟩:=hC2.fits hn hg hil oM
     refine wp_skip (tn (wp_seq (wp_block (wp_seq ?_))))
     refine gI a16 s13 ok14 (gM q76 (gM q72 (gT (Ty.nat (j / 2)) rfl (fun A B G H I d0=>rP (y_quoN (eI d0) (toN (σ:=B) rfl oM) oM oM)) (gT (Ty.ref [(Ty.lst Ty.int (gens.getD (j / 2) []))]) rfl (fun A B G H I d0 d1=>rP (y_index1 Try.underlying24 Try.inf22 (eI d0) (eI d1) oM (lst_get Ty.ints gens [] (j / 2) oM))) (gS rfl (fun A B G H I d0=>rP (y_load Try.underlying22 rfl (eI d0) rfl)) (gB 0 (gE ok14 fun a17 s14 ok15 D9=>?_)))))));have q80:=D9.k q72;have o37:=Own.k0 o34 D9.stp;have o38:=Own.k0 o35 D9.stp;have o39:=OwnM.k0 o36 D9.stp;refine tn (wp_seq ?_)
     refine gI a17 s14 ok15 (gM q80 (gT (Ty.nat (j / 2)) rfl (fun A B G H I d0=>rP (y_quoN (eI d0) (toN (σ:=B) rfl oM) oM oM)) (gT (Ty.nat ((j / 2) + 1)) rfl (fun A B G H I d0=>rP ((y_add (eI d0) rfl wX).mono (fun τ _ h=>cN (σ:=τ) h))) (gB 0 (gE ok15 fun a18 s15 ok16 D10=>?_)))));have q88:=D10.k q80;have o40:=Own.k0 o37 D10.stp;have o41:=Own.k0 o38 D10.stp;have o42:=OwnM.k0 o39 D10.stp;refine tn (wp_seq (wp_seq ?_))
     refine gI a18 s15 ok16 (gM q88 (gT (Ty.nat (j % 2)) rfl (fun A B G H I d0=>rP (y_remN (eI d0) (toN (σ:=B) rfl oM) oM)) (gS rfl (fun A B G H I d0=>rP (y_eql (eI d0) rfl)) (gE ok16 fun a19 s16 ok17 D11=>?_))));have F18:=((F15.step0 D9.stp).step0 D10.stp).step0 D11.stp;have q97:=D11.k q88;have q98:=D11.k (D10.k (D9.k q73));have q99:=D11.k (D10.k (D9.k q74));have q100:=D11.k (D10.k (D9.k q75));have q101:=D11.k (D10.k (D9.k q76));have q102:=D11.k (D10.k (D9.k q77));have q103:=D11.k (D10.k (D9.k q78));have q104:=D11.k (D10.k (D9.m 5 rfl));have q105:=D11.k (D10.m 3 rfl);have o43:=Own.k0 o40 D11.stp;have o44:=Own.k0 o41 D11.stp;have o45:=OwnM.k0 o42 D11.stp;refine tn ?_
     refine Go.KL.join_then (Q':=fun a20 w5=>∃ (t5:GW),t5.w = w5∧FromL [] σ t5∧Ok 86 [] a20∧At (Ty.lst Ty.int (ltr gens j)) t5 a20 (.tmp 13)∧At (Ty.int (ltrN j)) t5 a20 (.tmp 14)∧At (Ty.nat j) t5 a20 (.tmp 12)∧At (Ty.val x8_1) t5 a20 (.tmp 8)∧At (Ty.val x9_1) t5 a20 (.tmp 9)∧At (Ty.nat i) t5 a20 (.tmp 11)∧At (Ty.lst Ty.ints gens) t5 a20 (.tmp 1)∧At (Ty.nat most) t5 a20 (.tmp 2)∧At (Ty.val x3) t5 a20 (.tmp 10)∧Own t5 20 22 1 x8_1 (List.length L2) (List.map Ty.ints L2)∧Own t5 21 22 1 x9_1 (List.length W2) (List.map Ty.ints W2)∧OwnM Ty.bool kI t5 22 x3 f2∧True) ?_ ?_
     ·
      refine cond_p (p:=((((j % 2):Nat):Int) = (1:Int))) (D11.m 2 rfl) (fun c3=>?_) (fun c3=>?_)
      ·
       refine wp_seq ?_
       refine gI a19 s16 ok17 (gM q104 (gS rfl (fun A B G H I d0=>rP (y_call _ Try.func23 rfl rfl my1 (rUndo_fn ((gens.getD (j / 2) [])) _ _ (eI d0) (by assumption)))) (gB 0 (gE ok17 fun a21 s17 ok18 D12=>?_))));have o46:=Own.k0 o43 D12.stp;have o47:=Own.k0 o44 D12.stp;have o48:=OwnM.k0 o45 D12.stp;refine tn ?_
       refine gI a21 s17 ok18 (gM (D12.k q105) (gT (Ty.int (-((((j / 2) + 1):Nat):Int))) rfl (fun A B G H I d0=>rP (y_neg (eI d0) wX)) (gB 0 (gE ok18 fun a22 s18 ok19 D13=>?_))));have o49:=Own.k0 o46 D13.stp;have o50:=Own.k0 o47 D13.stp;have o51:=OwnM.k0 o48 D13.stp
       exact tn ⟨s18,rfl,((F18.step0 D12.stp).step0 D13.stp),ok19,(cvt (by (unfold ltr;rw [if_pos oM])) (D13.k (D12.m 2 rfl))),(cvi (by (unfold ltrN;rw [if_pos oM])) (D13.m 2 rfl)),(D13.k (D12.k q97)),(D13.k (D12.k q98)),(D13.k (D12.k q99)),(D13.k (D12.k q100)),(D13.k (D12.k q101)),(D13.k (D12.k q102)),(D13.k (D12.k q103)),o49,o50,o51,trivial⟩
      ·
       refine wp_skip ?_
       exact tn ⟨s16,rfl,F18,ok17,(cvt (by (unfold ltr;rw [if_neg oM])) q104),(cvi (by (unfold ltrN;rw [if_neg oM])) q105),q97,q98,q99,q100,q101,q102,q103,o43,o44,o45,trivial⟩
     ·
      rintro a23 w6 ⟨t6,rfl,F21,ok20,q125,q126,q127,q128,q129,q130,q131,q132,q133,o52,o53,o54,-⟩
      refine wp_seq ?_
      refine gI a23 t6 ok20 (gM q128 (gM q130 (gT (Ty.val (cellPtr x8_1 i)) rfl (fun A B G H I d0 d1=>rP (own_index1 (i:=((i:Nat):Int)) Try.underlying24 Try.inf22 (Own.k0 o52 G) (eI d0) (eI d1) oM oM)) (gS rfl (fun A B G H I d0=>rP (own_load Try.underlying22 rfl (Own.k0 o52 G) (eI d0) (lst_get Ty.ints L2 [] i oM))) (gM q125 (gS rfl (fun A B G H I d0 d1=>rP (y_call _ Try.func22 rfl rfl my2 (rBy_fn ((L2.getD i [])) ((ltr gens j)) _ _ _ (eI d0) (eI d1) (by first | assumption | omega) (by first | assumption | omega)))) (gB 0 (gE ok20 fun a24 s19 ok21 D14=>?_))))))));have o55:=Own.k0 o52 D14.stp;have o56:=Own.k0 o53 D14.stp;have o57:=OwnM.k0 o54 D14.stp;have q142:=D14.m 6 rfl;refine tn (wp_seq ?_)
      refine gI a24 s19 ok21 (gM q142 (gS rfl (fun A B G H I d0=>rP (y_call _ Try.func21 rfl rfl my1 (rRank_fn ((byL ((L2.getD i [])) ((ltr gens j)))) _ _ (eI d0) oX))) (gB 0 (gE ok21 fun a25 s20 ok22 D15=>?_))));have q150:=D15.k (D14.k q133);have o58:=Own.k0 o55 D15.stp;have o59:=Own.k0 o56 D15.stp;have o60:=OwnM.k0 o57 D15.stp;have q152:=D15.m 2 rfl;refine tn (wp_seq (wp_seq ?_))
      refine gI a25 s20 ok22 (gM q150 (gM q152 (gT (Ty.bool ((f2 (((rankL ((byL ((L2.getD i [])) ((ltr gens j))))):Nat):Int)).getD false)) rfl (fun A B G H I d0 d1=>rP (y_lookup (i:=(((rankL ((byL ((L2.getD i [])) ((ltr gens j))))):Nat):Int)) (z:=false) Try.underlying35 (keyInt Try.underlying3) Try.inf4 (fun _=>rfl) (OwnM.k0 o60 G) (eI d0) (eI d1))) (gE ok22 fun a26 s21 ok23 D16=>?_))));have F24:=((F21.step0 D14.stp).step0 D15.stp).step0 D16.stp;have q154:=D16.k (D15.k (D14.k q127));have q155:=D16.k (D15.k (D14.k q128));have q156:=D16.k (D15.k (D14.k q129));have q157:=D16.k (D15.k (D14.k q130));have q158:=D16.k (D15.k (D14.k q131));have q159:=D16.k (D15.k (D14.k q132));have q160:=D16.k q150;have o61:=Own.k0 o58 D16.stp;have o62:=Own.k0 o59 D16.stp;have o63:=OwnM.k0 o60 D16.stp;refine tn ?_
      refine cond_t (D16.m 2 rfl) (fun c4=>?_) (fun c4=>?_)
      ·
       have hm:(byL (L2.getD i []) (ltr gens j)) ∈ L2:=(by have h_:=hsn2 _ hf4 hf5;rw [c4] at h_;exact of_decide_eq_true h_.symm)
       refine wp_exit (tx (bx (tn ?_)))
       refine gI a26 s21 ok23 (gM q154 (gT (Ty.nat (j + 1)) rfl (fun A B G H I d0=>rP ((y_add (eI d0) rfl wX).mono (fun τ _ h=>cN (σ:=τ) h))) (gB 0 (gE ok23 fun a27 s22 ok24 D17=>?_))));have o64:=Own.k0 o61 D17.stp;have o65:=Own.k0 o62 D17.stp;have o66:=OwnM.k0 o63 D17.stp
       exact tn ⟨2 * gens.length - ((j+1)),by omega,s22,(j+1),L2,W2,f2,x8_1,x9_1,rfl,(F24.step0 D17.stp),ok24,(cJ (D17.m 2 rfl)),(D17.k q155),(D17.k q156),(D17.k q157),(D17.k q158),(D17.k q159),(D17.k q160),o64,o65,o66,by omega,hil,hl2,hC2.old hm,hsn2,hwb2,rfl⟩
      ·
       have hm:(byL (L2.getD i []) (ltr gens j)) ∉ L2:=(by have h_:=hsn2 _ hf4 hf5;rw [c4] at h_;exact of_decide_eq_false h_.symm);have hC5:=hC2.new (w:=(W2.getD i [] ++ [ltrN j])) hn hg hil oM hm;have hsn5:=hsn2.put hf4 hf5;have hwi:=hwb2 i oM
       refine wp_skip (tn (wp_seq ?_))
       refine gI a26 s21 ok23 (gM q160 (gM (D16.k q152) (gE2 ok23 fun a28 s23 ok25 D18=>?_)));have o67:=Own.k0 o61 D18.stp;have o68:=Own.k0 o62 D18.stp;have o69:=OwnM.k0 o63 D18.stp
       have q180:At (Ty.val x3) s23 a28 (.tmp 62):=D18.done 0 dE
       refine tailL0 (L:=[22]) (R:=(fun _ τ=>OwnM Ty.bool kI τ 22 x3 (fun x_=>if x_ = (((rankL ((byL ((L2.getD i [])) ((ltr gens j))))):Nat):Int) then some true else f2 x_))) rfl rfl (YldM.toL (m_mapset (i:=(((rankL ((byL ((L2.getD i [])) ((ltr gens j))))):Nat):Int)) Try.underlying35 (keyInt Try.underlying3) dE o69 q180 (D18.m 1 rfl) rfl)) (fun v2 s24 hs6 r6=>?_)
       have q182:=kpL hs6 dE rfl (D18.k (D16.k (D15.k (D14.k q126))));have q183:=kpL hs6 dE rfl (D18.k q154);have q184:=kpL hs6 dE rfl (D18.k q155);have q185:=kpL hs6 dE rfl (D18.k q156);have q186:=kpL hs6 dE rfl (D18.k q157);have q187:=kpL hs6 dE rfl (D18.k q158);have q188:=kpL hs6 dE rfl (D18.k q159);have q189:=kpL hs6 dE rfl (D18.k q160);have q190:=kpL hs6 dE rfl (D18.k (D16.k (D15.k q142)))
       have o70:OwnM Ty.bool kI s24 22 x3 (fun x_=>if x_ = (((rankL ((byL ((L2.getD i [])) ((ltr gens j))))):Nat):Int) then some true else f2 x_):=r6
       clear r6;refine wpList_nil (tn (wp_seq ?_))
       refine gI a28 s24 ok25 (gM q184 (gM q190 (gT (Ty.sl 1 1 [(Ty.lst Ty.int (byL ((L2.getD i [])) ((ltr gens j))))]) rfl (fun A B G H I d0=>rP (y_build1o Try.underlying24 Try.inf22 rfl (one_sl) (eI d0))) (gE2 ok25 fun a29 s25 ok26 D19=>?_))));have o73:=Own.k0 (Own.kl o67 hs6) D19.stp;have o74:=Own.k0 (Own.kl o68 hs6) D19.stp;have o75:=OwnM.k0 o70 D19.stp
       have q200:At (Ty.val x8_1) s25 a29 (.tmp 64):=D19.done 0 dE
       have q201:=D19.m 2 rfl
       have b2:=sl_le q201
       refine tL ok26 (YldM.toL (m_append Try.underlying24 Try.inf22 dE rfl dE (al (R:=(Pr.own 20 22 1 (List.length L2) (List.map Ty.ints L2))) q200 o73) q201 (by intro U hU;simp at hU;subst hU;exact one_sl) oM oM)) fun a30 s26 hs7 ok27 r7 sm5=>?_
       have q204:=kq hs7 sm5 8 (D19.k q184)
       obtain ⟨x4,hx4⟩:∃ x,a30.eval (.tmp 67) = x:=⟨_,rfl⟩
       have q210:At (Ty.val x4) s26 a30 (.tmp 67):=hx4
       have o76:=al2 (R:=(Pr.own 20 22 1 (List.length (L2 ++ [(byL ((L2.getD i [])) ((ltr gens j)))])) (List.map Ty.ints (L2 ++ [(byL ((L2.getD i [])) ((ltr gens j)))])))) hx4 (cvo (by simp) (by first | (rw [List.map_append];rfl) | simp) r7)
       clear r7
       refine tL ok27 (Yld.toL (y_as q210)) fun a31 s27 hs8 ok28 r8 sm6=>?_
       have q213:=kq hs8 sm6 9 (kq hs7 sm5 9 (D19.k q185));have q214:=kq hs8 sm6 11 (kq hs7 sm5 11 (D19.k q186));have o79:=Own.kl (Own.kl o74 hs7) hs8
       have q218:At (Ty.val x4) s27 a31 (.tmp 8):=r8
       clear r8;refine wpList_nil (tn (wp_seq ?_))
       refine gI a31 s27 ok28 (gM q213 (gR (Pr.own 24 3 1 0 (List.map Ty.int ([]:List Int))) rfl (by intro A B G H I;exact rP ((y_lit0 (k:=24) Try.underlying22 Try.inf3).mono (fun _ _ h=>cvo (by simp) (by simp) h))) (gM q213 (gM q214 (gT (Ty.val (cellPtr x9_1 i)) rfl (fun A B G H I d0 d1=>rP (own_index1 (i:=((i:Nat):Int)) Try.underlying24 Try.inf22 (Own.k0 o79 G) (eI d0) (eI d1) oM oM)) (gS rfl (fun A B G H I d0=>rP (own_load Try.underlying22 rfl (Own.k0 o79 G) (eI d0) (lst_get Ty.ints W2 [] i oM))) (gE2 ok28 fun a32 s28 ok29 D20=>?_)))))));have o82:=Own.k0 o79 D20.stp;have o83:=OwnM.k0 (OwnM.kl (OwnM.kl o75 hs7) hs8) D20.stp;have o84:=Own.k0 (Own.kl o76 hs8) D20.stp
       have q227:At (Ty.val x9_1) s28 a32 (.tmp 68):=D20.done 0 dE
       obtain ⟨x5,hx5⟩:∃ x,a32.eval (.tmp 69) = x:=⟨_,rfl⟩
       have q228:At (Ty.val x5) s28 a32 (.tmp 69):=hx5
       have o85:=al2 (R:=(Pr.own 24 3 1 0 (List.map Ty.int ([]:List Int)))) hx5 (D20.done 1 dE)
       have q229:=D20.m 5 rfl
       have b3:=sl_le q229
       refine tL ok29 (YldM.toL (m_append Try.underlying22 Try.inf3 dE rfl dE (al (R:=(Pr.own 24 3 1 0 (List.map Ty.int ([]:List Int)))) q228 o85) q229 (one_map (fun _=>one_val rfl)) oM oM)) fun a33 s29 hs9 ok30 r9 sm7=>?_
       obtain ⟨x6,hx6⟩:∃ x,a33.eval (.tmp 74) = x:=⟨_,rfl⟩
       have q239:At (Ty.val x6) s29 a33 (.tmp 74):=hx6
       have o86:=al2 (R:=(Pr.own 24 3 1 (List.length (W2.getD i [])) (List.map Ty.int (W2.getD i [])))) hx6 (cvo (by first | (simp;done) | (simp;omega)) (by first | (rw [List.map_append];rfl) | simp) r9)
       clear r9
       refine tL ok30 (Yld.toL (y_mv (kq hs9 sm7 14 (D20.k (kq hs8 sm6 14 (kq hs7 sm5 14 (D19.k q182))))))) fun a34 s30 hs10 ok31 r10 sm8=>?_
       have q249:At (Ty.int (ltrN j)) s30 a34 (.tmp 75):=r10
       clear r10
       refine tL (R:=(fun v τ=>Pr.has (Ty.pr (Ty.sl 1 1 [(Ty.int (ltrN j))])) τ v)) ok31 (Yld.toL (y_build1o Try.underlying22 Try.inf3 rfl (one_val rfl) q249)) fun a35 s31 hs11 ok32 r11 sm9=>?_
       have q259:At (Ty.sl 1 1 [(Ty.int (ltrN j))]) s31 a35 (.tmp 76):=r11
       clear r11
       refine tL ok32 (YldM.toL (m_append Try.underlying22 Try.inf3 dE rfl dE (al (R:=(Pr.own 24 3 1 (List.length (W2.getD i [])) (List.map Ty.int (W2.getD i [])))) (kq hs11 sm9 74 (kq hs10 sm8 74 q239)) (Own.kl (Own.kl o86 hs10) hs11)) q259 (by intro U hU;simp at hU;subst hU;exact one_val rfl) oM oM)) fun a36 s32 hs12 ok33 r12 sm10=>?_
       obtain ⟨x7,hx7⟩:∃ x,a36.eval (.tmp 77) = x:=⟨_,rfl⟩
       have q268:At (Ty.val x7) s32 a36 (.tmp 77):=hx7
       have o98:=al2 (R:=(Pr.own 24 3 1 (List.length ((W2.getD i []) ++ [(ltrN j)])) (List.map Ty.int ((W2.getD i []) ++ [(ltrN j)])))) hx7 (cvo (by simp) (by first | (rw [List.map_append];rfl) | simp) r12)
       clear r12
       obtain ⟨t7,e1,h1,q269⟩:=Own.seal o98 dE
       rw [← e1]
       have F36:=((((((((((F24.step0 D18.stp).sl hs6).step0 D19.stp).sl hs7).sl hs8).step0 D20.stp).sl hs9).sl hs10).sl hs11).sl hs12).step h1 dE;have o102:=Own.keepL (Own.kl (Own.kl (Own.kl (Own.kl o82 hs9) hs10) hs11) hs12) (h1.toL (L:=[24]) (by simp)) dE dE;have o103:=OwnM.keepL (OwnM.kl (OwnM.kl (OwnM.kl (OwnM.kl o83 hs9) hs10) hs11) hs12) (h1.toL (L:=[24]) (by simp)) dE dE;have o104:=Own.keepL (Own.kl (Own.kl (Own.kl (Own.kl o84 hs9) hs10) hs11) hs12) (h1.toL (L:=[24]) (by simp)) dE dE;have q270:=Ty.up (Ty.nat j) (h1.le dE) (kq hs12 sm10 12 (kq hs11 sm9 12 (kq hs10 sm8 12 (kq hs9 sm7 12 (D20.k (kq hs8 sm6 12 (kq hs7 sm5 12 (D19.k q183))))))));have q271:=Ty.up (Ty.val x9_1) (h1.le dE) (kq hs12 sm10 9 (kq hs11 sm9 9 (kq hs10 sm8 9 (kq hs9 sm7 9 (D20.k q213)))));have q272:=Ty.up (Ty.nat i) (h1.le dE) (kq hs12 sm10 11 (kq hs11 sm9 11 (kq hs10 sm8 11 (kq hs9 sm7 11 (D20.k q214)))));have q273:=Ty.up (Ty.lst Ty.ints gens) (h1.le dE) (kq hs12 sm10 1 (kq hs11 sm9 1 (kq hs10 sm8 1 (kq hs9 sm7 1 (D20.k (kq hs8 sm6 1 (kq hs7 sm5 1 (D19.k q187))))))));have q274:=Ty.up (Ty.nat most) (h1.le dE) (kq hs12 sm10 2 (kq hs11 sm9 2 (kq hs10 sm8 2 (kq hs9 sm7 2 (D20.k (kq hs8 sm6 2 (kq hs7 sm5 2 (D19.k q188))))))));have q275:=Ty.up (Ty.val x3) (h1.le dE) (kq hs12 sm10 10 (kq hs11 sm9 10 (kq hs10 sm8 10 (kq hs9 sm7 10 (D20.k (kq hs8 sm6 10 (kq hs7 sm5 10 (D19.k q189))))))));have q276:=Ty.up (Ty.val x4) (h1.le dE) (kq hs12 sm10 8 (kq hs11 sm9 8 (kq hs10 sm8 8 (kq hs9 sm7 8 (D20.k q218)))));have q277:=Ty.up (Ty.val x9_1) (h1.le dE) (kq hs12 sm10 68 (kq hs11 sm9 68 (kq hs10 sm8 68 (kq hs9 sm7 68 q227))))
       have q278:At (Ty.lst Ty.int ((W2.getD i []) ++ [(ltrN j)])) t7 a36 (.tmp 77):=by have e:a36.eval (.tmp 77) = x7:=q268;show Ty.has _ _ _;rw [e];exact q269
       refine tL (R:=(fun v τ=>Pr.has (Ty.pr (Ty.sl 1 1 [(Ty.lst Ty.int ((W2.getD i []) ++ [(ltrN j)]))])) τ v)) ok33 (Yld.toL (y_build1o Try.underlying24 Try.inf22 rfl (one_sl) q278)) fun a37 s33 hs13 ok34 r13 sm11=>?_
       have q287:At (Ty.sl 1 1 [(Ty.lst Ty.int ((W2.getD i []) ++ [(ltrN j)]))]) s33 a37 (.tmp 78):=r13
       clear r13
       refine tL ok34 (YldM.toL (m_append Try.underlying24 Try.inf22 dE rfl dE (al (R:=(Pr.own 21 22 1 (List.length W2) (List.map Ty.ints W2))) (kq hs13 sm11 68 q277) (Own.kl o102 hs13)) q287 (by intro U hU;simp at hU;subst hU;exact one_sl) oM oM)) fun a38 s34 hs14 ok35 r14 sm12=>?_
       have q289:=kq hs14 sm12 9 (kq hs13 sm11 9 q271)
       obtain ⟨x8,hx8⟩:∃ x,a38.eval (.tmp 79) = x:=⟨_,rfl⟩
       have q295:At (Ty.val x8) s34 a38 (.tmp 79):=hx8
       have o108:=al2 (R:=(Pr.own 21 22 1 (List.length (W2 ++ [((W2.getD i []) ++ [(ltrN j)])])) (List.map Ty.ints (W2 ++ [((W2.getD i []) ++ [(ltrN j)])])))) hx8 (cvo (by simp) (by first | (rw [List.map_append];rfl) | simp) r14)
       clear r14
       refine tL ok35 (Yld.toL (y_as q295)) fun a39 s35 hs15 ok36 r15 sm13=>?_
       have q299:=kq hs15 sm13 2 (kq hs14 sm12 2 (kq hs13 sm11 2 q274));have q301:=kq hs15 sm13 8 (kq hs14 sm12 8 (kq hs13 sm11 8 q276));have o112:=Own.kl (Own.kl (Own.kl o104 hs13) hs14) hs15
       have q302:At (Ty.val x8) s35 a39 (.tmp 9):=r15
       clear r15;refine wpList_nil (tn (wp_seq ?_))
       refine gI a39 s35 ok36 (gM q301 (gT (Ty.nat (List.length (L2 ++ [(byL ((L2.getD i [])) ((ltr gens j)))]))) rfl (fun A B G H I d0=>rP (own_len Try.underlying24 (al (R:=(Pr.own 20 22 1 (List.length (L2 ++ [(byL ((L2.getD i [])) ((ltr gens j)))])) (List.map Ty.ints (L2 ++ [(byL ((L2.getD i [])) ((ltr gens j)))])))) (eI d0) (Own.k0 o112 G)))) (gM q299 (gS rfl (fun A B G H I d0 d1=>rP (y_gtr (eI d0) (eI d1))) (gE ok36 fun a40 s36 ok37 D21=>?_)))));have F40:=(((F36.sl hs13).sl hs14).sl hs15).step0 D21.stp;have o114:=OwnM.k0 (OwnM.kl (OwnM.kl (OwnM.kl o103 hs13) hs14) hs15) D21.stp;have o115:=Own.k0 o112 D21.stp;have o116:=Own.k0 (Own.kl o108 hs15) D21.stp;refine tn ?_
       refine cond_p (p:=(((most:Nat):Int) < (((List.length (L2 ++ [(byL ((L2.getD i [])) ((ltr gens j)))])):Nat):Int))) (D21.m 3 rfl) (fun c5=>?_) (fun c5=>?_)
       ·
        refine wp_seq ?_
        refine gI a40 s36 ok37 (gC (Ty.val (Value.slice none 0 0)) (gC (Ty.val (Value.slice none 0 0)) (gE ok37 fun a41 s37 ok38 D22=>?_)));have o117:=OwnM.k0 o114 D22.stp;have o118:=Own.k0 o115 D22.stp;have o119:=Own.k0 o116 D22.stp;refine tn (wp_ret (br (tr (tr (br (br (tr (tr (br (tr ?_))))))))))
        exact retL2 rfl ok38 (F40.step0 D22.stp) ⟨([]:List (List Int)),([]:List (List Int)),(hasT2 (nil_lst (by (first | rfl | omega | (simp_all;done) | (simp_all;omega))) (D22.m 0 rfl)) (nil_lst (by (first | rfl | omega | (simp_all;done) | (simp_all;omega))) (D22.m 1 rfl))),(by exact ClI.many hC5 oM)⟩
       ·
        refine wp_skip (bn (tn ?_))
        refine gI a40 s36 ok37 (gM (D21.k (kq hs15 sm13 12 (kq hs14 sm12 12 (kq hs13 sm11 12 q270)))) (gT (Ty.nat (j + 1)) rfl (fun A B G H I d0=>rP ((y_add (eI d0) rfl wX).mono (fun τ _ h=>cN (σ:=τ) h))) (gB 0 (gE ok37 fun a42 s38 ok39 D23=>?_))));have o120:=OwnM.k0 o114 D23.stp;have o121:=Own.k0 o115 D23.stp;have o122:=Own.k0 o116 D23.stp
        exact tn ⟨2 * gens.length - ((j+1)),by omega,s38,(j+1),(L2 ++ [(byL (L2.getD i []) (ltr gens j))]),(W2 ++ [(W2.getD i [] ++ [ltrN j])]),(fun p=>if p = ((rankL (byL (L2.getD i []) (ltr gens j)):Nat):Int) then some true else f2 p),x4,x8,rfl,(F40.step0 D23.stp),ok39,(cJ (D23.m 2 rfl)),(D23.k (D21.k q301)),(D23.k (D21.k q302)),(D23.k (D21.k (kq hs15 sm13 11 (kq hs14 sm12 11 (kq hs13 sm11 11 q272))))),(D23.k (D21.k (kq hs15 sm13 1 (kq hs14 sm12 1 (kq hs13 sm11 1 q273))))),(D23.k (D21.k q299)),(D23.k (D21.k (kq hs15 sm13 10 (kq hs14 sm12 10 (kq hs13 sm11 10 q275))))),(cvo (by (simp)) (by (simp)) o121),(cvo (by (simp)) (by (simp)) o122),(cvm (by (rfl)) o120),by omega,by (rw [List.length_append];omega),by omega,hC5,hsn5,hwb2.new oM,rfl⟩
    ·
     have ej:j = 2 * gens.length:=oM;have hC4:=(ej ▸ hC2:ClI n gens L2 W2 i (2 * gens.length)).next
     refine wp_exit (tx (tx (bx (bn (tn ?_)))))
     refine gI a16 s13 ok14 (gM q75 (gT (Ty.nat (i + 1)) rfl (fun A B G H I d0=>rP ((y_add (eI d0) rfl wX).mono (fun τ _ h=>cN (σ:=τ) h))) (gB 0 (gE ok14 fun a43 s39 ok40 D24=>?_))));have o123:=Own.k0 o34 D24.stp;have o124:=Own.k0 o35 D24.stp;have o125:=OwnM.k0 o36 D24.stp
     exact tn ⟨most - ((i + 1)),by omega,s39,(i + 1),L2,W2,f2,x8_1,x9_1,rfl,(F15.step0 D24.stp),ok40,(cJ (D24.m 2 rfl)),(D24.k q73),(D24.k q74),(D24.k q76),(D24.k q77),(D24.k q78),(cvo (by (simp)) (by (simp)) o123),(cvo (by (simp)) (by (simp)) o124),(cvm (by (rfl)) o125),by omega,hl2,hC4,hsn2,hwb2,rfl⟩
  ·
   have ei:i = L.length:=oM;have hC9:ClosedP n gens most L W:=ClI.closed hn hg (ei ▸ hC) hl
   refine wp_exit (tx (tx (bx (tn (wp_seq ?_)))))
   refine gI a12 s11 ok11 (gM q52 (gM q53 (gB 0 (gB 0 (gE ok11 fun a44 s40 ok41 D25=>?_)))));have o126:=Own.k0 o25 D25.stp;have o127:=Own.k0 o26 D25.stp;have o128:=OwnM.k0 o27 D25.stp
   have q326:At (Ty.val x8_0) s40 a44 (.tmp 6):=D25.done 2
   have q327:At (Ty.val x9_0) s40 a44 (.tmp 7):=D25.done 3
   refine tn (wp_ret ?_)
   obtain ⟨t8,e2,h2,q328⟩:=Own.seal o126 dE
   rw [← e2]
   have F45:=(F12.step0 D25.stp).step h2 dE;have o129:=Own.keepL o127 (h2.toL (L:=[20]) (by simp)) dE dE
   have q329:At (Ty.lst Ty.ints L) t8 a44 (.tmp 6):=by have e:a44.eval (.tmp 6) = x8_0:=q326;show Ty.has _ _ _;rw [e];exact q328
   have q330:=Ty.up (Ty.val x9_0) (h2.le dE) q327
   obtain ⟨t9,e3,h3,q331⟩:=Own.seal o129 dE
   rw [← e3]
   have F46:=F45.step h3 dE;have q332:=Ty.up (Ty.lst Ty.ints L) (h3.le dE) q329
   have q333:At (Ty.lst Ty.ints W) t9 a44 (.tmp 7):=by have e:a44.eval (.tmp 7) = x9_0:=q330;show Ty.has _ _ _;rw [e];exact q331
   exact retL2 rfl ok41 F46 ⟨L,W,(hasT2 (cvt (by (first | rfl | omega | (simp_all;done) | (simp_all;omega))) q332) q333),(by exact hC9)⟩
set_option maxHeartbeats 4000000 in
set_option maxRecDepth 100000 in
theorem rCycles_fn (r:List Int) (σ:GW)  (v0:Value) (hv0:Ty.has (Ty.lst Ty.int r) σ v0)  (hr:IsRow r) :
    FnC Try.prog 85 #[v0] σ (Ty.lst Ty.ints (cyclesL r)):=by
 have hln:=hr.le
 refine fn_intro0 Try.func85 rfl Try.ntmps85 (Nat.le_of_ble_eq_true rfl) (fun s0 a0 hle F0 ok0 hargs=>?_)
 have p0:=pA hle (hargs 0 _ rfl) hv0
 have b1:=sl_le p0
 clear hargs;refine wp_seq ?_
 refine gI a0 s0 ok0 (gC (Ty.val (Value.slice none 0 0)) (gE ok0 fun a1 s1 ok1 D1=>?_));refine tn (wp_seq ?_)
 refine gI a1 s1 ok1 (gC (Ty.val (Value.slice none 0 0)) (gE ok1 fun a2 s2 ok2 D2=>?_));refine tn (wp_seq (wp_seq ?_))
 refine gI a2 s2 ok2 (gC (Ty.int (0:Int)) (gE ok2 fun a3 s3 ok3 D3=>?_));refine tn (wp_block ?_)
 have o1:Own s3 5 22 1 (Value.slice none 0 0) 0 (List.map Ty.ints ([]:List (List Int))):=Own.nil _ _ _ _
 refine loop (fun n1 a4 w1=>∃ (t1:GW) (b:Nat) (x3_0:Value),t1.w = w1∧FromL [] s0 t1∧Ok 43 [] a4∧At (Ty.nat b) t1 a4 (.tmp 4)∧At (Ty.val x3_0) t1 a4 (.tmp 3)∧At (Ty.lst Ty.int r) t1 a4 (.tmp 0)∧Own t1 5 22 1 x3_0 (List.length (cyclesTo r b)) (List.map Ty.ints (cyclesTo r b))∧(b ≤ r.length)∧n1 = r.length - b) (r.length - (0)) ?_ ?_
 ·
  exact ⟨s3,0,(Value.slice none 0 0),rfl,(((F0.step0 D1.stp).step0 D2.stp).step0 D3.stp),ok3,(cvi (by (first | rfl | omega | (simp_all;done) | (simp_all;omega))) (D3.m 0 rfl)),(D3.k (D2.m 0 rfl)),(D3.k (D2.k (D1.k p0))),(cvo (by (rfl)) (by (rfl)) o1),by omega,rfl⟩
 ·
  rintro n2 a5 w2 ⟨t2,b,x3_0,rfl,F4,ok4,q7,q8,q9,o2,hb,rfl⟩
  have hcl:=cyclesTo_len r b
  refine wp_seq (wp_seq ?_)
  refine gI a5 t2 ok4 (gM q7 (gM q9 (gS rfl (fun A B G H I d0=>rP (y_len Try.underlying22 (ef d0 rfl))) (gS rfl (fun A B G H I d0 d1=>rP (y_lss (ef d0 rfl) (ef d1 rfl))) (gE ok4 fun a6 s4 ok5 D4=>?_)))));have F5:=F4.step0 D4.stp;have q10:=D4.k q7;have q11:=D4.k q8;have o3:=Own.k0 o2 D4.stp;refine tn ?_
  refine cond_p (p:=(((b:Nat):Int) < (((List.length r):Nat):Int))) (D4.m 3 rfl) (fun c1=>?_) (fun c1=>?_)
  ·
   have hper:=per_spec hr (show b < r.length by omega)
   refine wp_skip (tn (wp_seq (wp_block (wp_seq ?_))))
   refine gI a6 s4 ok5 (gM q10 (gR (Pr.own 6 3 1 1 (List.map Ty.int [((b:Nat):Int)])) rfl (by intro A B G H I d0;exact rP ((y_lit1 (k:=6) Try.underlying22 Try.inf3 rfl (one_val rfl) (ef d0 rfl)).mono (fun _ _ h=>cvo (by simp) (by first | (simp;done) | rfl) h))) (gE2 ok5 fun a7 s5 ok6 D5=>?_)));have o4:=Own.k0 o3 D5.stp
   obtain ⟨x1,hx1⟩:∃ x,a7.eval (.tmp 15) = x:=⟨_,rfl⟩
   have q17:At (Ty.val x1) s5 a7 (.tmp 15):=hx1
   have o5:=al2 (R:=(Pr.own 6 3 1 1 (List.map Ty.int [((b:Nat):Int)]))) hx1 (D5.done 1 (by decide))
   refine tL ok6 (Yld.toL (y_as q17)) fun a8 s6 hs1 ok7 r1 sm1=>?_
   have q21:At (Ty.val x1) s6 a8 (.tmp 5):=r1
   clear r1;refine wpList_nil (tn (wp_seq ?_))
   refine gI a8 s6 ok7 (gC (Ty.bool true) (gE ok7 fun a9 s7 ok8 D6=>?_));have q22:=D6.k (kq hs1 sm1 4 (D5.k q10));have q24:=D6.k (kq hs1 sm1 0 (D5.k (D4.k q9)));have o8:=Own.k0 (Own.kl o4 hs1) D6.stp;have o9:=Own.k0 (Own.kl o5 hs1) D6.stp;refine tn (wp_seq (wp_seq ?_))
   refine gI a9 s7 ok8 (gM q24 (gM q22 (gT (Ty.ref [(Ty.int (r.getD b 0))]) rfl (fun A B G H I d0 d1=>rP (y_index1 Try.underlying22 Try.inf3 (ef d0 rfl) (ef d1 rfl) (by omega) (lst_get Ty.int r 0 b (by omega)))) (gS rfl (fun A B G H I d0=>rP (y_load Try.underlying3 rfl (ef d0 rfl) rfl)) (gB 0 (gE ok8 fun a10 s8 ok9 D7=>?_))))));have o10:=Own.k0 o8 D7.stp;have o11:=Own.k0 o9 D7.stp;refine tn (wp_block ?_)
   refine loop (fun n3 a11 w3=>∃ (t3:GW) (m:Nat) (x5_1:Value),t3.w = w3∧FromL [] s0 t3∧Ok 43 [] a11∧At (Ty.val x5_1) t3 a11 (.tmp 5)∧At (Ty.bool (lessB r b (m + 1))) t3 a11 (.tmp 6)∧At (Ty.nat (itr r b (m + 1))) t3 a11 (.tmp 7)∧At (Ty.nat b) t3 a11 (.tmp 4)∧At (Ty.val x3_0) t3 a11 (.tmp 3)∧At (Ty.lst Ty.int r) t3 a11 (.tmp 0)∧Own t3 6 3 1 x5_1 (List.length (orbTo r b (m + 1))) (List.map Ty.int (orbTo r b (m + 1)))∧Own t3 5 22 1 x3_0 (List.length (cyclesTo r b)) (List.map Ty.ints (cyclesTo r b))∧(m + 1 ≤ per r b)∧n3 = per r b - m) (per r b - (0)) ?_ ?_
   ·
    exact ⟨s8,0,x1,rfl,((((F5.step0 D5.stp).sl hs1).step0 D6.stp).step0 D7.stp),ok9,(D7.k (D6.k q21)),(cvb (by (rw [lessB_one])) (D7.k (D6.m 0 rfl))),(cvi (by (exact (nxt_int hr (by omega)).symm)) (D7.m 4 rfl)),(D7.k q22),(D7.k (D6.k (kq hs1 sm1 3 (D5.k q11)))),(D7.k q24),(cvo (by (simp [orbTo_one])) (by (simp [orbTo_one])) o11),o10,hper.1,rfl⟩
   ·
    rintro n4 a12 w4 ⟨t4,m,x5_1,rfl,F10,ok10,q33,q34,q35,q36,q37,q38,o12,o13,hm,rfl⟩
    have hit:=itr_lt hr (show b < r.length by omega) (m + 1)
    have hol:=orbTo_len r b (m + 1)
    refine wp_seq (wp_seq ?_)
    refine gI a12 t4 ok10 (gM q35 (gM q36 (gS rfl (fun A B G H I d0 d1=>rP (y_neq (ef d0 rfl) (ef d1 rfl))) (gE ok10 fun a13 s9 ok11 D8=>?_))));have F11:=F10.step0 D8.stp;have q39:=D8.k q33;have q40:=D8.k q34;have q41:=D8.k q35;have q42:=D8.k q36;have q43:=D8.k q37;have q44:=D8.k q38;have o14:=Own.k0 o12 D8.stp;have o15:=Own.k0 o13 D8.stp;refine tn ?_
    refine cond_p (p:=((((itr r b (m + 1)):Nat):Int) ≠ ((b:Nat):Int))) (D8.m 2 rfl) (fun c2=>?_) (fun c2=>?_)
    ·
     have hne:¬ itr r b (m + 1) = b:=by omega
     refine wp_skip (tn (wp_seq (wp_block (wp_seq ?_))))
     refine gI a13 s9 ok11 (gM q39 (gM q41 (gT (Ty.sl 1 1 [(Ty.nat (itr r b (m + 1)))]) rfl (fun A B G H I d0=>rP (y_build1o Try.underlying22 Try.inf3 rfl (one_val rfl) (ef d0 rfl))) (gE2 ok11 fun a14 s10 ok12 D9=>?_))));have o16:=Own.k0 o14 D9.stp;have o17:=Own.k0 o15 D9.stp
     have q52:At (Ty.val x5_1) s10 a14 (.tmp 27):=D9.done 0 (by decide)
     have q53:=D9.m 2 rfl
     have b2:=sl_le q53
     refine tL ok12 (YldM.toL (m_append Try.underlying22 Try.inf3 (by decide) rfl (by decide) (al (R:=(Pr.own 6 3 1 (List.length (orbTo r b (m + 1))) (List.map Ty.int (orbTo r b (m + 1))))) q52 o16) q53 (by intro U hU;simp at hU;subst hU;exact one_val rfl) (by omega) (by omega))) fun a15 s11 hs2 ok13 r2 sm2=>?_
     have q54:=kq hs2 sm2 5 (D9.k q39)
     obtain ⟨x2,hx2⟩:∃ x,a15.eval (.tmp 30) = x:=⟨_,rfl⟩
     have q60:At (Ty.val x2) s11 a15 (.tmp 30):=hx2
     have o18:=al2 (R:=(Pr.own 6 3 1 (List.length ((orbTo r b (m + 1)) ++ [(((itr r b (m + 1)):Nat):Int)])) (List.map Ty.int ((orbTo r b (m + 1)) ++ [(((itr r b (m + 1)):Nat):Int)])))) hx2 (cvo (by simp) (by first | (rw [List.map_append];rfl) | simp) r2)
     clear r2
     refine tL ok13 (Yld.toL (y_as q60)) fun a16 s12 hs3 ok14 r3 sm3=>?_
     have q62:=kq hs3 sm3 7 (kq hs2 sm2 7 (D9.k q41));have q63:=kq hs3 sm3 4 (kq hs2 sm2 4 (D9.k q42))
     have q66:At (Ty.val x2) s12 a16 (.tmp 5):=r3
     clear r3;refine wpList_nil (tn ?_)
     refine gI a16 s12 ok14 (gM (kq hs3 sm3 6 (kq hs2 sm2 6 (D9.k q40))) (gS rfl (fun A B G H I d0=>rP (y_move (ef d0 rfl))) (gS rfl (fun A B G H I d0=>gu H (ef d0 rfl) fun hg=>y_move (kp (I 7 rfl) G q62)) (gS rfl (fun A B G H I d0=>gu H (ef d0 rfl) fun hg=>y_move (kp (I 4 rfl) G q63)) (gS rfl (fun A B G H I d0 d1 d2=>gu H (ef d2 rfl) fun hg=>y_gtr ((ef d0 rfl).1 hg) ((ef d1 rfl).1 hg)) (gS rfl (fun A B G H I d0 d1=>rP (y_pick_and (ef d0 rfl) (ef d1 rfl) rfl)) (gB 0 (gE ok14 fun a17 s13 ok15 D10=>?_))))))));have q70:=D10.k (kq hs3 sm3 0 (kq hs2 sm2 0 (D9.k q44)));have o22:=Own.k0 (Own.kl (Own.kl o17 hs2) hs3) D10.stp;have o23:=Own.k0 (Own.kl o18 hs3) D10.stp;refine bn (tn ?_)
     refine gI a17 s13 ok15 (gM q70 (gM (D10.k q62) (gT (Ty.ref [(Ty.int (r.getD (itr r b (m + 1)) 0))]) rfl (fun A B G H I d0 d1=>rP (y_index1 Try.underlying22 Try.inf3 (ef d0 rfl) (ef d1 rfl) (by omega) (lst_get Ty.int r 0 (itr r b (m + 1)) (by omega)))) (gS rfl (fun A B G H I d0=>rP (y_load Try.underlying3 rfl (ef d0 rfl) rfl)) (gB 0 (gE ok15 fun a18 s14 ok16 D11=>?_))))));have o24:=Own.k0 o22 D11.stp;have o25:=Own.k0 o23 D11.stp
     exact tn ⟨per r b - ((m + 1)),by omega,s14,(m + 1),x2,rfl,(((((F11.step0 D9.stp).sl hs2).sl hs3).step0 D10.stp).step0 D11.stp),ok16,(D11.k (D10.k q66)),(cvb (by (rw [lessB_succ hne])) (D11.k (D10.m 6 rfl))),(cvi (by (exact (nxt_int hr (by omega)).symm)) (D11.m 4 rfl)),(D11.k (D10.k q63)),(D11.k (D10.k (kq hs3 sm3 3 (kq hs2 sm2 3 (D9.k q43))))),(D11.k q70),(cvo (by (rw [orbTo_succ r b (m + 1)])) (by (rw [orbTo_succ r b (m + 1)])) o25),o24,cr_go hr (by omega) hm hne,rfl⟩
    ·
     have hpe:=cr_end hr (show b < r.length by omega) hm (by omega)
     refine wp_exit (tx (tx (bx (tn (wp_seq ?_)))))
     refine gI a13 s9 ok11 (gM q40 (gE ok11 fun a19 s15 ok17 D12=>?_));have F17:=F11.step0 D12.stp;have q80:=D12.k q42;have q81:=D12.k q43;have q82:=D12.k q44;have o26:=Own.k0 o14 D12.stp;have o27:=Own.k0 o15 D12.stp;have q83:=D12.m 0 rfl;refine tn ?_
     refine cond_t q83 (fun c3=>?_) (fun c3=>?_)
     ·
      have hls:least r b = true:=by rw [← lessB_per,← hpe];exact c3
      obtain ⟨t5,e1,h1,q84⟩:=Own.seal o26 (by decide)
      rw [← e1]
      have F18:=F17.step h1 (by decide);have o28:=Own.keepL o27 (h1.toL (L:=[6]) (by simp)) (by decide) (by decide)
      have q85:At (Ty.lst Ty.int (orbTo r b (m + 1))) t5 a19 (.tmp 5):=by have e:a19.eval (.tmp 5) = x5_1:=(D12.k q39);show Ty.has _ _ _;rw [e];exact q84
      have q86:=Ty.up (Ty.nat b) (h1.le (by decide)) q80;have q87:=Ty.up (Ty.val x3_0) (h1.le (by decide)) q81;have q88:=Ty.up (Ty.lst Ty.int r) (h1.le (by decide)) q82;have q89:=Ty.up (Ty.bool (lessB r b (m + 1))) (h1.le (by decide)) q83
      refine gI a19 t5 ok17 (gM q87 (gM q85 (gT (Ty.sl 1 1 [(Ty.lst Ty.int (orbTo r b (m + 1)))]) rfl (fun A B G H I d0=>rP (y_build1o Try.underlying24 Try.inf22 rfl (one_sl) (ef d0 rfl))) (gE2 ok17 fun a20 s16 ok18 D13=>?_))));have o29:=Own.k0 o28 D13.stp
      have q93:At (Ty.val x3_0) s16 a20 (.tmp 38):=D13.done 0 (by decide)
      have q94:=D13.m 2 rfl
      have b3:=sl_le q94
      refine tL ok18 (YldM.toL (m_append Try.underlying24 Try.inf22 (by decide) rfl (by decide) (al (R:=(Pr.own 5 22 1 (List.length (cyclesTo r b)) (List.map Ty.ints (cyclesTo r b)))) q93 o29) q94 (by intro U hU;simp at hU;subst hU;exact one_sl) (by omega) (by omega))) fun a21 s17 hs4 ok19 r4 sm4=>?_
      have q96:=kq hs4 sm4 3 (D13.k q87)
      obtain ⟨x3,hx3⟩:∃ x,a21.eval (.tmp 41) = x:=⟨_,rfl⟩
      have q98:At (Ty.val x3) s17 a21 (.tmp 41):=hx3
      have o30:=al2 (R:=(Pr.own 5 22 1 (List.length ((cyclesTo r b) ++ [(orbTo r b (m + 1))])) (List.map Ty.ints ((cyclesTo r b) ++ [(orbTo r b (m + 1))])))) hx3 (cvo (by simp) (by first | (rw [List.map_append];rfl) | simp) r4)
      clear r4
      refine tL ok19 (Yld.toL (y_as q98)) fun a22 s18 hs5 ok20 r5 sm5=>?_
      have q101:At (Ty.val x3) s18 a22 (.tmp 3):=r5
      clear r5;refine wpList_nil (bn (tn ?_))
      refine gI a22 s18 ok20 (gM (kq hs5 sm5 4 (kq hs4 sm4 4 (D13.k q86))) (gT (Ty.nat (b + 1)) rfl (fun A B G H I d0=>rP ((y_add (ef d0 rfl) rfl (w64 (by omega) (by omega))).mono (fun τ _ h=>cvi (σ:=τ) (by first | omega | exact (Int.natCast_mul _ _).symm) h))) (gB 0 (gE ok20 fun a23 s19 ok21 D14=>?_))));have o32:=Own.k0 (Own.kl o30 hs5) D14.stp
      exact tn ⟨r.length - ((b+1)),by omega,s19,(b+1),x3,rfl,((((F18.step0 D13.stp).sl hs4).sl hs5).step0 D14.stp),ok21,(cvi (by (first | rfl | omega | (simp_all;done) | (simp_all;omega))) (D14.m 2 rfl)),(D14.k q101),(D14.k (kq hs5 sm5 0 (kq hs4 sm4 0 (D13.k q88)))),(cvo (by (rw [cyclesTo_yes r b hls,hpe,orbTo_per])) (by (rw [cyclesTo_yes r b hls,hpe,orbTo_per])) o32),by omega,rfl⟩
     ·
      have hls:least r b = false:=by rw [← lessB_per,← hpe];exact c3
      refine wp_skip (bn (tn ?_))
      refine gI a19 s15 ok17 (gM q80 (gT (Ty.nat (b + 1)) rfl (fun A B G H I d0=>rP ((y_add (ef d0 rfl) rfl (w64 (by omega) (by omega))).mono (fun τ _ h=>cvi (σ:=τ) (by first | omega | exact (Int.natCast_mul _ _).symm) h))) (gB 0 (gE ok17 fun a24 s20 ok22 D15=>?_))));have o33:=Own.k0 o26 D15.stp;have o34:=Own.k0 o27 D15.stp
      exact tn ⟨r.length - ((b+1)),by omega,s20,(b+1),x3_0,rfl,(F17.step0 D15.stp),ok22,(cvi (by (first | rfl | omega | (simp_all;done) | (simp_all;omega))) (D15.m 2 rfl)),(D15.k q81),(D15.k q82),(cvo (by (rw [cyclesTo_no r b hls])) (by (rw [cyclesTo_no r b hls])) o34),by omega,rfl⟩
  ·
   have hbe:b = r.length:=by omega
   refine wp_exit (tx (tx (bx (tn (wp_seq ?_)))))
   refine gI a6 s4 ok5 (gM q11 (gB 0 (gE ok5 fun a25 s21 ok23 D16=>?_)));have o35:=Own.k0 o3 D16.stp
   have q108:At (Ty.val x3_0) s21 a25 (.tmp 2):=D16.done 1
   refine tn (wp_ret ?_)
   obtain ⟨t6,e2,h2,q109⟩:=Own.seal o35 (by decide)
   rw [← e2]
   have F25:=(F5.step0 D16.stp).step h2 (by decide)
   have q110:At (Ty.lst Ty.ints (cyclesTo r b)) t6 a25 (.tmp 2):=by have e:a25.eval (.tmp 2) = x3_0:=q108;show Ty.has _ _ _;rw [e];exact q109
   exact retL1 rfl ok23 F25 (cvt (by (rw [hbe];rfl)) q110)
end Go.Proofs.Ytkjifbgofckfeaa
