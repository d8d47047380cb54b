/- The functions that the law TopBand reaches, each by its contract (beside leavers, and in company). Part 3. -/
import Derived.Test.YtodmoedmijfciaaTopBandB2
namespace Go.Proofs.Ytodmoedmijfciaa
open Go.KL
variable {J:Go.KL.JdOf Try.prog} [Go.KL.Al J]
set_option maxHeartbeats 4000000 in
set_option maxRecDepth 100000 in
theorem topBand_fn [Go.ConcR.Payload] {W:World} {Post:Value → World → Prop} {Z:UInt8 → Obj} (raw:List Int) (n:Int) (changes:Int) (calls:Int) (leads:Int) (at_:Int) (p:Int) (long:Int) (gh:Array (Nat × ByteArray)) (σ:GW) (hlow:Low [999] σ) (v0 v1 v2 v3 v4 v5 v6 v7:Value) (hv0:Ty.has (Ty.lst Ty.int raw) σ v0) (hv1:Ty.has (Ty.int n) σ v1) (hv2:Ty.has (Ty.int changes) σ v2) (hv3:Ty.has (Ty.int calls) σ v3) (hv4:Ty.has (Ty.int leads) σ v4) (hv5:Ty.has (Ty.int at_) σ v5) (hv6:Ty.has (Ty.int p) σ v6) (hv7:Ty.has (Ty.int long) σ v7) (ho_PL:PlS gh σ) (hraw:∀ x ∈ raw,-9223372036854775808 ≤ x∧x ≤ 9223372036854775807) (hn:-9223372036854775808 ≤ n∧n ≤ 9223372036854775807) (hchanges:-9223372036854775808 ≤ changes∧changes ≤ 9223372036854775807) (hcalls:-9223372036854775808 ≤ calls∧calls ≤ 9223372036854775807) (hleads:-9223372036854775808 ≤ leads∧leads ≤ 9223372036854775807) (hat_:-9223372036854775808 ≤ at_∧at_ ≤ 9223372036854775807) (hp:-9223372036854775808 ≤ p∧p ≤ 9223372036854775807) (hlong:-9223372036854775808 ≤ long∧long ≤ 9223372036854775807) (hZ1:Z 1 = Go.ConcR.wgBlock 64 0 0) (hZ2:Z 2 = .cells #[.int .i64 0] 66) :
    FnL (sf Try.prog W Post Z) 5 #[v0,v1,v2,v3,v4,v5,v6,v7] σ [999] (fun v τ=>∃ (gh2:Array (Nat × ByteArray)),(Ty.has (Ty.bool true) τ v)∧(PlS gh2 τ)):=by
 have hr:∀ k,-9223372036854775808 ≤ Kp raw k∧Kp raw k ≤ 9223372036854775807:=fun k=>rawAt_bd hraw k
 have hp_n:=pick_lt n (n:=8) oM
 have hp_changes:=pick_lt changes (n:=12) oM
 have hp_calls:=pick_lt calls (n:=3) oM
 have hp_leads:=pick_lt leads (n:=5) oM
 obtain ⟨M,hM⟩:∃ M,M = 2 + pick n 8:=⟨_,rfl⟩
 obtain ⟨K,hK⟩:∃ K,K = 1 + pick changes 12:=⟨_,rfl⟩
 obtain ⟨C,hC⟩:∃ C,C = 1 + pick calls 3:=⟨_,rfl⟩
 obtain ⟨LN,hLN⟩:∃ LN,LN = 1 + pick leads 5:=⟨_,rfl⟩
 obtain ⟨L,hL⟩:∃ L,L = Jg raw 3 M K:=⟨_,rfl⟩
 obtain ⟨CS,hCS⟩:∃ CS,CS = cOf raw M (C - 1):=⟨_,rfl⟩
 obtain ⟨T,hT⟩:∃ T,T = Qe raw LN C:=⟨_,rfl⟩
 have hmo:MethOk (ByteArray.mk #[84,114,105,101,100]) M L:=by (rw [hL];exact methOk_of (by decide +kernel) oM oM oM oM)
 have hbs:(ByteArray.mk #[84,114,105,101,100]).size ≤ 1099511627776:=by (show 5 ≤ 1099511627776;omega)
 have hLl:L.length = K:=by rw [hL,Qw]
 have hco:Kl (ByteArray.mk #[84,114,105,101,100]) ((M:Nat):Int) L CS = 0:=by (rw [hCS];exact cOf_may hmo oM)
 have hCl:CS.length = C:=by rw [hCS,cOf_len];omega
 have hTl:T.length = LN:=by rw [hT,leadsOf_len]
 have hTi:KF CS T:=by (rw [hT];exact in_calls (by rw [hCl];exact leads_in oM))
 have hmb:T.length * L.length ≤ 5 * 12:=Nat.mul_le_mul oM oM
 have htT:JY (ByteArray.mk #[84,114,105,101,100]) ((M:Nat):Int) L CS T = 0:=touchMay_yes hco oM hTi oM
 have htn:(((M:Nat):Int)).toNat = M:=Int.toNat_natCast _
 have hok_:=(callsMay_ok hco).1
 rw [htn] at hok_
 have hmI:((T.length:Nat):Int) * ((L.length:Nat):Int) = ((T.length * L.length:Nat):Int):=(Int.natCast_mul _ _).symm
 obtain ⟨X,hX⟩:∃ X,X = JT M L CS T T.length:=⟨_,rfl⟩
 have hXl:X.length = T.length * L.length + 1:=by rw [hX];exact Qu hok_ hTi _ (Nat.le_refl _)
 have hXr:∀ i,i < X.length → IsRow (X.getD i [])∧(X.getD i []).length = M:=fun i hi=>by rw [hX];exact tRows_row hok_ hTi oM
 have hp_at_:=pick_lt at_ (n:=X.length) oM
 have hp_p:=pick_lt p (n:=M - 1) oM
 have hp_long:=pick_lt long (n:=10) oM
 obtain ⟨A,hA⟩:∃ A,A = pick at_ X.length:=⟨_,rfl⟩
 obtain ⟨B,hB⟩:∃ B,B = 1 + pick p (M - 1):=⟨_,rfl⟩
 obtain ⟨G,hG⟩:∃ G,G = 1 + pick long 10:=⟨_,rfl⟩
 obtain ⟨SL,hSL⟩:∃ S:List KN,S = [(((A:Nat):Int),((B:Nat):Int),((G:Nat):Int))]:=⟨_,rfl⟩
 have hsm:Qo SL ((M:Nat):Int) ((T.length * L.length:Nat):Int) = 0:=by (rw [hSL];refine slipsMay_no (by simp) (fun i hi=>?_);have hi0:i = 0:=(by simpa using hi);subst hi0;simp only [Qm,List.getD_cons_zero];omega)
 have hbe0:KJ (ByteArray.mk #[84,114,105,101,100]) ((M:Nat):Int) L CS T [] = 0:=by (unfold KJ;rw [if_neg (by rw [htT];decide)];exact slipsMay_no (by simp) (by simp))
 have hbr0:Kh (ByteArray.mk #[84,114,105,101,100]) ((M:Nat):Int) L CS T [] = X:=by (unfold Kh;rw [if_pos hbe0,hX,htn];rfl)
 have hbe1:KJ (ByteArray.mk #[84,114,105,101,100]) ((M:Nat):Int) L CS T SL = 0:=by (unfold KJ;rw [if_neg (by rw [htT];decide)];exact hsm)
 obtain ⟨Y,hY⟩:∃ Y,Y = rungE X SL:=⟨_,rfl⟩
 have hbr1:Kh (ByteArray.mk #[84,114,105,101,100]) ((M:Nat):Int) L CS T SL = Y:=by (unfold Kh;rw [if_pos hbe1,slipsE_rung,hY,hX,htn])
 have hYl:Y.length = X.length:=by rw [hY,rungE_len]
 have hw0:Jp X X X.length = []:=wrong_self _ (Nat.le_refl _)
 have hw1:Jp Y X Y.length = Xa A (min X.length (A + G) - A):=by (rw [hYl,hY,hSL];exact wrong_slip hXr oM oM _ (Nat.le_refl _))
 refine fn_introL hlow Try.func5 rfl Try.ntmps5 (Xj rfl) (fun a0 F0 ok0 hargs=>?_)
 have p0:=pB (hargs 0 _ rfl) hv0
 have b1:=Ke p0
 have p1:=pB (hargs 1 _ rfl) hv1
 have p2:=pB (hargs 2 _ rfl) hv2
 have p3:=pB (hargs 3 _ rfl) hv3
 have p4:=pB (hargs 4 _ rfl) hv4
 have p5:=pB (hargs 5 _ rfl) hv5
 have p6:=pB (hargs 6 _ rfl) hv6
 have p7:=pB (hargs 7 _ rfl) hv7
 clear hargs;refine Jb ?_
 refine gI a0 σ ok0 (gC (Ty.bool false) (gE ok0 fun a1 s1 ok1 D1=>?_));have q1:=D1.k p0;have o1:=PlS.k0 ho_PL D1.stp;refine tn (Jb (Jb ?_))
 refine gI a1 s1 ok1 (gM q1 (gS rfl (fun E H I J O d0=>rP (JE Try.underlying26 (eI d0))) (gS rfl (fun E H I J O d0=>rP (y_gtr (eI d0) rfl)) (gE ok1 fun a2 s2 ok2 D2=>?_))));have F2:=(F0.step0 D1.stp).step0 D2.stp;have o2:=PlS.k0 o1 D2.stp;refine tn ?_
 refine Jm (p:=((256:Int) < (((List.length raw):Nat):Int))) (D2.m 2 rfl) (fun c1=>?_) (fun c1=>?_)
 ·
  refine Jb ?_
  refine gI a2 s2 ok2 (gC (Ty.bool true) (gE ok2 fun a3 s3 ok3 D3=>?_));have o3:=PlS.k0 o2 D3.stp;refine tn (Jj (tr ?_))
  exact KP rfl ok3 (F2.step0 D3.stp) ⟨gh,(D3.m 0 rfl),(cvpls (by rfl) o3)⟩
 ·
  refine Ji (tn (Jb ?_))
  refine gI a2 s2 ok2 (gM (D2.k (D1.k p1)) (gS rfl (fun E H I J O d0=>rP (Jw #[E.eval (.tmp 30),E.eval ((Operand.const (Value.int IntKind.i64 8)))] Try.func16 rfl rfl my2 (pick_fn (n) (8) _ _ _ (cvi (σ:=H) oM (ef d0 rfl)) (cvi (σ:=H) oM rfl) oM oM))) (gT (Ty.nat (2 + (pick (n) (8)))) rfl (fun E H I J O d0=>rP ((Jy rfl (eI d0) wX).mono (fun τ _ h=>cN (σ:=τ) h))) (gB 0 (gE ok2 fun a4 s4 ok4 D4=>?_)))));have o4:=PlS.k0 o2 D4.stp
  have q27:At (Ty.nat M) s4 a4 (.tmp 1):=(cvi (by (rw [hM])) (D4.m 3 rfl))
  refine tn (Jb ?_)
  refine gI a4 s4 ok4 (gM (D4.k (D2.k (D1.k p3))) (gS rfl (fun E H I J O d0=>rP (Jw #[E.eval (.tmp 33),E.eval ((Operand.const (Value.int IntKind.i64 3)))] Try.func16 rfl rfl my2 (pick_fn (calls) (3) _ _ _ (cvi (σ:=H) oM (ef d0 rfl)) (cvi (σ:=H) oM rfl) oM oM))) (gT (Ty.nat (1 + (pick (calls) (3)))) rfl (fun E H I J O d0=>rP ((Jy rfl (eI d0) wX).mono (fun τ _ h=>cN (σ:=τ) h))) (gB 0 (gE ok4 fun a5 s5 ok5 D5=>?_)))));have q28:=D5.k (D4.k (D2.k q1));have q34:=D5.k q27;have o5:=PlS.k0 o4 D5.stp
  have q36:At (Ty.nat C) s5 a5 (.tmp 17):=(cvi (by (rw [hC])) (D5.m 3 rfl))
  refine tn (Jb ?_)
  refine gI a5 s5 ok5 (gM q28 (gM q34 (gM (D5.k (D4.k (D2.k (D1.k p2)))) (gS rfl (fun E H I J O d0=>rP (Jw #[E.eval (.tmp 38),E.eval ((Operand.const (Value.int IntKind.i64 12)))] Try.func16 rfl rfl my2 (pick_fn (changes) (12) _ _ _ (cvi (σ:=H) oM (ef d0 rfl)) (cvi (σ:=H) oM rfl) oM oM))) (gT (Ty.nat (1 + (pick (changes) (12)))) rfl (fun E H I J O d0=>rP ((Jy rfl (eI d0) wX).mono (fun τ _ h=>cN (σ:=τ) h))) (gT (Ty.agg [(Ty.val (Value.string (ByteArray.mk #[84,114,105,101,100]))),(Ty.nat M),(Ty.lst Ty.ints L)]) rfl (fun E H I J O d0 d1 d2 d3=>rP ((Jw _ Try.func17 rfl rfl my3 (methodOf_fn (raw) (M) ((1 + (pick (changes) (12)))) _ _ _ _ (eI d0) (cvi (σ:=H) (by first | omega | exact hr | assumption) (ef d1 rfl)) (cvi (σ:=H) (by first | omega | exact hr | assumption) (ef d2 rfl)) (by first | omega | exact hr | assumption) (by first | omega | exact hr | assumption) (by first | omega | exact hr | assumption))).mono (fun τ _ h=>cvt (σ:=τ) (T:=(Ty.agg [(Ty.val (Value.string (ByteArray.mk #[84,114,105,101,100]))),(Ty.nat (M)),(Ty.lst Ty.ints (Jg raw 3 (M) ((1 + (pick (changes) (12))))))])) (U:=(Ty.agg [(Ty.val (Value.string (ByteArray.mk #[84,114,105,101,100]))),(Ty.nat M),(Ty.lst Ty.ints L)])) (by rw [hL,hK]) h))) (gR (Pr.ownp 61 [(Ty.val (Value.string ByteArray.empty)),(Ty.int (0:Int)),(Ty.val (Value.slice none 0 0))]) rfl (by intro E H I J O;exact rP (y_alloc Try.inf24 rfl (JR (vs:=[.string ByteArray.empty,.int .i64 0,.slice none 0 0]) rfl))) (gE2 ok5 fun a6 s6 ok6 D6=>?_))))))));have o6:=PlS.k0 o5 D6.stp
  obtain ⟨x1,hx1⟩:∃ x,a6.eval (.tmp 18) = x:=⟨_,rfl⟩
  have q45:At (Ty.val x1) s6 a6 (.tmp 18):=hx1
  have o7:=al2 (R:=(Pr.ownp 61 [(Ty.val (Value.string ByteArray.empty)),(Ty.int (0:Int)),(Ty.val (Value.slice none 0 0))])) hx1 (D6.done 6 dE)
  refine tailL0 (L:=[61]) (R:=(fun _ τ=>OwnP τ 61 x1 [(Ty.val (Value.string (ByteArray.mk #[84,114,105,101,100]))),(Ty.nat M),(Ty.lst Ty.ints L)])) rfl rfl (YldM.toL (QU Try.inf24 dE o7 q45 rfl (D6.m 5 rfl) (by intro U hU;simp only [List.mem_cons,List.not_mem_nil,or_false] at hU;rcases hU with rfl | rfl | rfl <;> first | exact Jk rfl | exact KZ | exact one_flt | exact one_cx | exact one_ref))) (fun v1 s7 hs1 r1=>?_)
  have q46:=kpL hs1 dE rfl (D6.k q28);have q47:=kpL hs1 dE rfl (D6.k (D5.k (D4.k (D2.k (D1.k p4)))));have q48:=kpL hs1 dE rfl (D6.k (D5.k (D4.k (D2.k (D1.k p5)))));have q49:=kpL hs1 dE rfl (D6.k (D5.k (D4.k (D2.k (D1.k p6)))));have q50:=kpL hs1 dE rfl (D6.k (D5.k (D4.k (D2.k (D1.k p7)))));have q51:=kpL hs1 dE rfl (D6.k q34);have q52:=kpL hs1 dE rfl (D6.k q36);have q53:=kpL hs1 dE rfl q45;have o9:=PlS.keepL o6 hs1 dE dE
  have o8:OwnP s7 61 x1 [(Ty.val (Value.string (ByteArray.mk #[84,114,105,101,100]))),(Ty.nat M),(Ty.lst Ty.ints L)]:=r1
  clear r1;refine Jh (tn (Jb ?_))
  refine gI a6 s7 ok6 (gM q46 (gM q51 (gM q52 (gT (Ty.lstc 2 Kz CS) rfl (fun E H I J O d0 d1 d2=>rP ((Jw _ Try.func18 rfl rfl my3 (callsOf_fn (raw) (M) (C) _ _ _ _ (eI d0) (cvi (σ:=H) (by first | omega | exact hr | assumption) (ef d1 rfl)) (cvi (σ:=H) (by first | omega | exact hr | assumption) (ef d2 rfl)) (by first | omega | exact hr | assumption) (by first | omega | exact hr | assumption) (by first | omega | exact hr | assumption))).mono (fun τ _ h=>cvt (σ:=τ) (T:=(Ty.lstc 2 Kz (cOf raw (M) ((C) - 1)))) (U:=(Ty.lstc 2 Kz CS)) (by rw [hCS]) h))) (gB 0 (gE ok6 fun a7 s8 ok7 D7=>?_))))));have o10:=PlS.k0 o9 D7.stp;have o11:=OwnP.k0 o8 D7.stp;refine tn (Jb ?_)
  refine gI a7 s8 ok7 (gM (D7.k q46) (gM (D7.k q47) (gS rfl (fun E H I J O d0=>rP (Jw #[E.eval (.tmp 47),E.eval ((Operand.const (Value.int IntKind.i64 5)))] Try.func16 rfl rfl my2 (pick_fn (leads) (5) _ _ _ (cvi (σ:=H) oM (ef d0 rfl)) (cvi (σ:=H) oM rfl) oM oM))) (gT (Ty.nat (1 + (pick (leads) (5)))) rfl (fun E H I J O d0=>rP ((Jy rfl (eI d0) wX).mono (fun τ _ h=>cN (σ:=τ) h))) (gM (D7.k q52) (gT (Ty.lst Ty.int T) rfl (fun E H I J O d0 d1 d2 d3=>rP ((Jw _ Try.func19 rfl rfl my3 (rLeadsOf_fn (raw) ((1 + (pick (leads) (5)))) (C) _ _ _ _ (eI d0) (cvi (σ:=H) oX (ef d1 rfl)) (cvi (σ:=H) oX (ef d2 rfl)) oX oX oX)).mono (fun τ _ h=>cvt (σ:=τ) (T:=(Ty.lst Ty.int (Qe raw ((1 + (pick (leads) (5)))) (C)))) (U:=(Ty.lst Ty.int T)) (by rw [hT,hLN]) h))) (gB 0 (gE ok7 fun a8 s9 ok8 D8=>?_))))))));have q68:=D8.k (D7.k q53);have q69:=D8.k (D7.m 4 rfl);have o12:=PlS.k0 o10 D8.stp;have o13:=OwnP.k0 o11 D8.stp;have q70:=D8.m 6 rfl;refine tn (Jb ?_)
  refine gI a8 s9 ok8 (gT (Ty.agg [(Ty.val (Value.string (ByteArray.mk #[84,114,105,101,100]))),(Ty.nat M),(Ty.lst Ty.ints L)]) rfl (fun E H I J O=>rP (QF Try.underlying24 Try.inf24 (OwnP.k0 o13 I) (kp (O 18 rfl) I q68))) (gM q69 (gM q70 (gT (Ty.tup2 (Ty.lst Ty.ints X) (Ty.int (0:Int))) rfl (fun E H I J O d0 d1 d2=>rP ((Jw _ Try.func20 rfl rfl my3 (callRows_fn ((ByteArray.mk #[84,114,105,101,100])) (((M:Nat):Int)) (L) (CS) (T) _ _ _ _ (eI d0) (eI d1) (eI d2) oX oX)).mono (fun τ _ h=>cvt (σ:=τ) (T:=(Ty.tup2 (Ty.lst Ty.ints (if JY ((ByteArray.mk #[84,114,105,101,100])) (((M:Nat):Int)) (L) (CS) (T) = 0 then (JT (((M:Nat):Int)).toNat (L) (CS) (T) (T).length) else [])) (Ty.int (JY ((ByteArray.mk #[84,114,105,101,100])) (((M:Nat):Int)) (L) (CS) (T))))) (U:=(Ty.tup2 (Ty.lst Ty.ints X) (Ty.int (0:Int)))) (by rw [if_pos htT,htT,htn,hX]) h))) (gS rfl (fun E H I J O d0=>rP (Jc (eI d0))) (gT (Ty.lst Ty.ints X) rfl (fun E H I J O d0=>rP (y_ext2_0 (eI d0))) (gT (Ty.int (0:Int)) rfl (fun E H I J O d0 d1=>rP (y_ext2_1 (eI d0))) (gB 0 (gB 0 (gE ok8 fun a9 s10 ok9 D9=>?_))))))))));have q75:=D9.k q68;have q76:=D9.k q69;have q77:=D9.k q70;have o14:=PlS.k0 o12 D9.stp;have o15:=OwnP.k0 o13 D9.stp;refine tn (Jb ?_)
  refine gI a9 s10 ok9 (gT (Ty.agg [(Ty.val (Value.string (ByteArray.mk #[84,114,105,101,100]))),(Ty.nat M),(Ty.lst Ty.ints L)]) rfl (fun E H I J O=>rP (QF Try.underlying24 Try.inf24 (OwnP.k0 o15 I) (kp (O 18 rfl) I q75))) (gM q76 (gM q77 (gE2 ok9 fun a10 s11 ok10 D10=>?_))));have o16:=PlS.k0 o14 D10.stp;have o17:=OwnP.k0 o15 D10.stp
  refine tailL (R:=(fun v τ'=>∃ τ,(fun v τ=>∃ (gh2:Array (Nat × ByteArray)),(Ty.has (Ty.tup2 (Ty.lst Ty.ints (Kh ((ByteArray.mk #[84,114,105,101,100])) (((M:Nat):Int)) (L) (CS) (T) (([]:List KN)))) (Ty.int (KJ ((ByteArray.mk #[84,114,105,101,100])) (((M:Nat):Int)) (L) (CS) (T) (([]:List KN))))) τ v)∧(PlS gh2 τ)) v τ∧Back [(999,999)] τ τ')) rfl rfl dE ok10 (y_callL (L:=[999]) [(999,999)] [(999,999)] #[a10.eval (.tmp 60),a10.eval (.tmp 61),a10.eval (.tmp 62),a10.eval ((Operand.const (Value.slice none 0 0)))] rfl dE Try.func9 rfl rfl my4 (Ring_fn ((ByteArray.mk #[84,114,105,101,100])) (((M:Nat):Int)) (L) (CS) (T) (([]:List KN)) (_) _ lW _ _ _ _ (uL (D10.m 0 rfl)) (uL (D10.m 1 rfl)) (uL (D10.m 2 rfl)) (uL (nil_lstc rfl rfl)) (PlS.ren o16 (GW.ren_lend _ _ dE rfl)) oX oX oX oX oX)) (fun a11 s12 hs2 ok11 r2 sm1=>?_) (Go.KL.Qn (fun _ _ _ hz_ hy_=>by obtain ⟨e0_,h0_,h1_⟩:=hy_;exact ⟨e0_,Ty.up _ hz_.le0 h0_,PlS.k0 h1_ hz_⟩))
  obtain ⟨t1,⟨g1,hT1,o18⟩,B1⟩:=r2
  have q101:At (Ty.tup2 (Ty.lst Ty.ints (Kh ((ByteArray.mk #[84,114,105,101,100])) (((M:Nat):Int)) (L) (CS) (T) (([]:List KN)))) (Ty.int (KJ ((ByteArray.mk #[84,114,105,101,100])) (((M:Nat):Int)) (L) (CS) (T) (([]:List KN))))) s12 a11 (.tmp 63):=Ty.up _ B1.le hT1
  have o19:PlS (g1) s12:=PlS.ren o18 (B1.ren dE rfl)
  refine tL ok11 (Yld.toL (y_mv q101)) fun a12 s13 hs3 ok12 r3 sm2=>?_
  have o22:=PlS.keepL o19 hs3 dE dE
  have q111:At (Ty.tup2 (Ty.lst Ty.ints (Kh ((ByteArray.mk #[84,114,105,101,100])) (((M:Nat):Int)) (L) (CS) (T) (([]:List KN)))) (Ty.int (KJ ((ByteArray.mk #[84,114,105,101,100])) (((M:Nat):Int)) (L) (CS) (T) (([]:List KN))))) s13 a12 (.tmp 59):=r3
  clear r3
  refine tL (R:=(fun v τ=>Pr.has (Ty.pr (Ty.lst Ty.ints (Kh ((ByteArray.mk #[84,114,105,101,100])) (((M:Nat):Int)) (L) (CS) (T) (([]:List KN))))) τ v)) ok12 (Yld.toL (y_ext2_0 q111)) fun a13 s14 hs4 ok13 r4 sm3=>?_
  have o24:=PlS.keepL o22 hs4 dE dE
  have q122:At (Ty.lst Ty.ints (Kh ((ByteArray.mk #[84,114,105,101,100])) (((M:Nat):Int)) (L) (CS) (T) (([]:List KN)))) s14 a13 (.tmp 64):=r4
  clear r4
  refine tL (R:=(fun v τ=>Pr.has (Ty.pr (Ty.int (KJ ((ByteArray.mk #[84,114,105,101,100])) (((M:Nat):Int)) (L) (CS) (T) (([]:List KN))))) τ v)) ok13 (Yld.toL (y_ext2_1 (kq hs4 sm3 59 q111))) fun a14 s15 hs5 ok14 r5 sm4=>?_
  have o26:=PlS.keepL o24 hs5 dE dE
  have q133:At (Ty.int (KJ ((ByteArray.mk #[84,114,105,101,100])) (((M:Nat):Int)) (L) (CS) (T) (([]:List KN)))) s15 a14 (.tmp 65):=r5
  clear r5
  refine tL ok14 (Yld.toL (y_as (kq hs5 sm4 64 q122))) fun a15 s16 hs6 ok15 r6 sm5=>?_
  have o28:=PlS.keepL o26 hs6 dE dE
  have q144:At (Ty.lst Ty.ints (Kh ((ByteArray.mk #[84,114,105,101,100])) (((M:Nat):Int)) (L) (CS) (T) (([]:List KN)))) s16 a15 (.tmp 23):=r6
  clear r6
  refine tL ok15 (Yld.toL (y_as (kq hs6 sm5 65 q133))) fun a16 s17 hs7 ok16 r7 sm6=>?_
  have q149:=kq hs7 sm6 18 (kq hs6 sm5 18 (kq hs5 sm4 18 (kq hs4 sm3 18 (kq hs3 sm2 18 (kq hs2 sm1 18 (D10.k q75))))));have q151:=kq hs7 sm6 20 (kq hs6 sm5 20 (kq hs5 sm4 20 (kq hs4 sm3 20 (kq hs3 sm2 20 (kq hs2 sm1 20 (D10.k q77))))));have q152:=kq hs7 sm6 21 (kq hs6 sm5 21 (kq hs5 sm4 21 (kq hs4 sm3 21 (kq hs3 sm2 21 (kq hs2 sm1 21 (D10.k (D9.m 7 rfl)))))));have o29:=OwnP.kl (OwnP.kl (OwnP.kl (OwnP.kl (OwnP.kl (OwnP.kl o17 hs2) hs3) hs4) hs5) hs6) hs7;have o30:=PlS.keepL o28 hs7 dE dE
  have q155:At (Ty.int (KJ ((ByteArray.mk #[84,114,105,101,100])) (((M:Nat):Int)) (L) (CS) (T) (([]:List KN)))) s17 a16 (.tmp 24):=r7
  clear r7;refine Jh ?_
  have q156:At (Ty.lst Ty.ints X) s17 a16 (.tmp 23):=(cvt (by (rw [hbr0])) (kq hs7 sm6 23 q144))
  have q157:At (Ty.int (0:Int)) s17 a16 (.tmp 24):=(cvi (by (rw [hbe0])) q155)
  refine tn (Jb (Jb ?_))
  refine gI a16 s17 ok16 (gM (kq hs7 sm6 22 (kq hs6 sm5 22 (kq hs5 sm4 22 (kq hs4 sm3 22 (kq hs3 sm2 22 (kq hs2 sm1 22 (D10.k (D9.m 8 rfl)))))))) (gT (Ty.bool false) rfl (fun E H I J O d0=>rP ((QH (eI d0) rfl).mono (fun τ _ h=>cvb (σ:=τ) dE h))) (gS rfl (fun E H I J O d0=>rP (Jc (eI d0))) (gS rfl (fun E H I J O d0=>gu J (eI d0) fun hg=>Jc (kp (O 24 rfl) I q157)) (gT (Ty.grd (false = false) (Ty.bool false)) rfl (fun E H I J O d0 d1=>gu J (eI d1) fun hg=>(QH ((ef d0 rfl).1 hg) rfl).mono (fun τ _ h=>cvb (σ:=τ) dE h)) (gS rfl (fun E H I J O d0 d1=>rP (Jv (eI d0) rfl (eI d1))) (gS rfl (fun E H I J O d0 d1=>rP (Jc (eI d0))) (gT (Ty.grd ((false || false) = false) (Ty.lst Ty.ints X)) rfl (by intro E H I J O d0;refine Jd J rfl rfl dE (eI d0) (fun hg=>?_);obtain ⟨d1,d2⟩:=Xf hg;exact Jc (kp (O 23 rfl) I q156)) (gT (Ty.grd ((false || false) = false) (Ty.lst Ty.ints X)) rfl (by intro E H I J O d0;refine Jd J rfl rfl dE (eI d0) (fun hg=>?_);obtain ⟨d3,d4⟩:=Xf hg;exact Jc (kp (O 21 rfl) I q152)) (gT (Ty.grd ((false || false) = false) (Ty.bool (decide ((X) = (X))))) rfl (by intro E H I J O d0 d1 d2 d3;refine Jd J rfl rfl dE (eI d2) (fun hg=>?_);obtain ⟨d5,d6⟩:=Xf hg;exact Jw _ Try.func11 rfl rfl my2 (rSameAll_fn (X) (X) _ _ _ ((ef d0 rfl).1 hg) ((ef d1 rfl).1 hg) )) (gT (Ty.grd ((false || false) = false) (Ty.bool (!(decide ((X) = (X)))))) rfl (by intro E H I J O d0 d1;refine Jd J rfl rfl dE (eI d1) (fun hg=>?_);obtain ⟨d7,d8⟩:=Xf hg;exact y_not ((ef d0 rfl).1 hg)) ?_)))))))))))
  refine gS rfl (fun E H I J O d0 d1=>rP (Jv (eI d0) rfl (eI d1))) (gS rfl (fun E H I J O d0 d1=>rP (Jc (eI d0))) (gT (Ty.grd (((false || false) || (!(decide ((X) = (X))))) = false) (Ty.lst Ty.ints X)) rfl (by intro E H I J O d0;refine Jd J rfl rfl dE (eI d0) (fun hg=>?_);obtain ⟨d9,d10⟩:=Xf hg;obtain ⟨d11,d12⟩:=Xf d9;exact Jc (kp (O 21 rfl) I q152)) (gT (Ty.grd (((false || false) || (!(decide ((X) = (X))))) = false) (Ty.nat (List.length X))) rfl (by intro E H I J O d0 d1;refine Jd J rfl rfl dE (eI d1) (fun hg=>?_);obtain ⟨d13,d14⟩:=Xf hg;obtain ⟨d15,d16⟩:=Xf d13;exact JE Try.underlying22 ((ef d0 rfl).1 hg)) (gT (Ty.grd (((false || false) || (!(decide ((X) = (X))))) = false) (Ty.lst Ty.int T)) rfl (by intro E H I J O d0;refine Jd J rfl rfl dE (eI d0) (fun hg=>?_);obtain ⟨d17,d18⟩:=Xf hg;obtain ⟨d19,d20⟩:=Xf d17;exact Jc (kp (O 20 rfl) I q151)) (gT (Ty.grd (((false || false) || (!(decide ((X) = (X))))) = false) (Ty.nat (List.length T))) rfl (by intro E H I J O d0 d1;refine Jd J rfl rfl dE (eI d1) (fun hg=>?_);obtain ⟨d21,d22⟩:=Xf hg;obtain ⟨d23,d24⟩:=Xf d21;exact JE Try.underlying26 ((ef d0 rfl).1 hg)) (gT (Ty.grd (((false || false) || (!(decide ((X) = (X))))) = false) (Ty.val (KW x1 2))) rfl (by intro E H I J O d0;refine Jd J rfl rfl dE (eI d0) (fun hg=>?_);obtain ⟨d25,d26⟩:=Xf hg;obtain ⟨d27,d28⟩:=Xf d25;exact Jz Try.fld24_2 Try.inf22 dE (OwnP.k0 o29 I) (kp (O 18 rfl) I q149)) ?_))))))
  refine gT (Ty.grd (((false || false) || (!(decide ((X) = (X))))) = false) (Ty.lst Ty.ints L)) rfl (by intro E H I J O d0 d1;refine Jd J rfl rfl dE (eI d1) (fun hg=>?_);obtain ⟨d29,d30⟩:=Xf hg;obtain ⟨d31,d32⟩:=Xf d29;exact JB Try.underlying22 rfl (OwnP.k0 o29 I) ((ef d0 rfl).1 hg) rfl) (gT (Ty.grd (((false || false) || (!(decide ((X) = (X))))) = false) (Ty.nat (List.length L))) rfl (by intro E H I J O d0 d1;refine Jd J rfl rfl dE (eI d1) (fun hg=>?_);obtain ⟨d33,d34⟩:=Xf hg;obtain ⟨d35,d36⟩:=Xf d33;exact JE Try.underlying22 ((ef d0 rfl).1 hg)) (gT (Ty.grd (((false || false) || (!(decide ((X) = (X))))) = false) (Ty.nat ((List.length T) * (List.length L)))) rfl (by intro E H I J O d0 d1 d2;refine Jd J rfl rfl dE (eI d2) (fun hg=>?_);obtain ⟨d37,d38⟩:=Xf hg;obtain ⟨d39,d40⟩:=Xf d37;exact (y_mul ((ef d0 rfl).1 hg) ((ef d1 rfl).1 hg) wX).mono (fun τ _ h=>cN (σ:=τ) h)) (gT (Ty.grd (((false || false) || (!(decide ((X) = (X))))) = false) (Ty.nat (((List.length T) * (List.length L)) + 1))) rfl (by intro E H I J O d0 d1;refine Jd J rfl rfl dE (eI d1) (fun hg=>?_);obtain ⟨d41,d42⟩:=Xf hg;obtain ⟨d43,d44⟩:=Xf d41;exact (Jy ((ef d0 rfl).1 hg) rfl wX).mono (fun τ _ h=>cN (σ:=τ) h)) ?_)))
  refine gT (Ty.grd (((false || false) || (!(decide ((X) = (X))))) = false) (Ty.bool (decide ((((List.length X):Nat):Int) ≠ (((((List.length T) * (List.length L)) + 1):Nat):Int))))) rfl (by intro E H I J O d0 d1 d2;refine Jd J rfl rfl dE (eI d2) (fun hg=>?_);obtain ⟨d45,d46⟩:=Xf hg;obtain ⟨d47,d48⟩:=Xf d45;exact QH ((ef d0 rfl).1 hg) ((ef d1 rfl).1 hg)) (gS rfl (fun E H I J O d0 d1=>rP (Jv (eI d0) rfl (eI d1))) (gS rfl (fun E H I J O d0 d1=>rP (Jc (eI d0))) (gT (Ty.grd ((((false || false) || (!(decide ((X) = (X))))) || (decide ((((List.length X):Nat):Int) ≠ (((((List.length T) * (List.length L)) + 1):Nat):Int)))) = false) (Ty.lst Ty.ints X)) rfl (by intro E H I J O d0;refine Jd J rfl rfl dE (eI d0) (fun hg=>?_);obtain ⟨d49,d50⟩:=Xf hg;obtain ⟨d51,d52⟩:=Xf d49;obtain ⟨d53,d54⟩:=Xf d51;have d50:=Xh d50;exact Jc (kp (O 23 rfl) I q156)) (gT (Ty.grd ((((false || false) || (!(decide ((X) = (X))))) || (decide ((((List.length X):Nat):Int) ≠ (((((List.length T) * (List.length L)) + 1):Nat):Int)))) = false) (Ty.lst Ty.ints X)) rfl (by intro E H I J O d0;refine Jd J rfl rfl dE (eI d0) (fun hg=>?_);obtain ⟨d55,d56⟩:=Xf hg;obtain ⟨d57,d58⟩:=Xf d55;obtain ⟨d59,d60⟩:=Xf d57;have d56:=Xh d56;exact Jc (kp (O 21 rfl) I q152)) ?_))))
  refine gT (Ty.grd ((((false || false) || (!(decide ((X) = (X))))) || (decide ((((List.length X):Nat):Int) ≠ (((((List.length T) * (List.length L)) + 1):Nat):Int)))) = false) (Ty.lst Ty.int ([]:List Int))) rfl (by intro E H I J O d0 d1 d2 d3;refine Jd J rfl rfl dE (eI d2) (fun hg=>?_);obtain ⟨d61,d62⟩:=Xf hg;obtain ⟨d63,d64⟩:=Xf d61;obtain ⟨d65,d66⟩:=Xf d63;have d62:=Xh d62;exact (Jw _ Try.func14 rfl rfl my2 (bwrong_fn (X) (X) _ _ _ ((ef d0 rfl).1 hg) ((ef d1 rfl).1 hg) oM)).mono (fun τ _ h=>cvt (σ:=τ) (T:=(Ty.lst Ty.int (Jp (X) (X) (X).length))) (U:=(Ty.lst Ty.int ([]:List Int))) (by rw [hw0]) h)) (gT (Ty.grd ((((false || false) || (!(decide ((X) = (X))))) || (decide ((((List.length X):Nat):Int) ≠ (((((List.length T) * (List.length L)) + 1):Nat):Int)))) = false) (Ty.nat (List.length ([]:List Int)))) rfl (by intro E H I J O d0 d1;refine Jd J rfl rfl dE (eI d1) (fun hg=>?_);obtain ⟨d67,d68⟩:=Xf hg;obtain ⟨d69,d70⟩:=Xf d67;obtain ⟨d71,d72⟩:=Xf d69;have d68:=Xh d68;exact JE Try.underlying26 ((ef d0 rfl).1 hg)) ?_)
  refine gT (Ty.grd ((((false || false) || (!(decide ((X) = (X))))) || (decide ((((List.length X):Nat):Int) ≠ (((((List.length T) * (List.length L)) + 1):Nat):Int)))) = false) (Ty.bool (decide ((0:Int) < (((List.length ([]:List Int)):Nat):Int))))) rfl (by intro E H I J O d0 d1;refine Jd J rfl rfl dE (eI d1) (fun hg=>?_);obtain ⟨d73,d74⟩:=Xf hg;obtain ⟨d75,d76⟩:=Xf d73;obtain ⟨d77,d78⟩:=Xf d75;have d74:=Xh d74;exact y_gtr ((ef d0 rfl).1 hg) rfl) (gS rfl (fun E H I J O d0 d1=>rP (Jv (eI d0) rfl (eI d1))) (gE ok16 fun a17 s18 ok17 D11=>?_));have q165:=D11.k q152;have o31:=OwnP.k0 o29 D11.stp;have o32:=PlS.k0 o30 D11.stp;refine tn ?_
  refine KM (D11.m 30 rfl) (fun c2=>?_) (fun c2=>?_)
  ·
   exfalso
   simp [hXl] at c2
  ·
   obtain ⟨d79,d80⟩:=Xf c2
   obtain ⟨d81,d82⟩:=Xf d79
   obtain ⟨d83,d84⟩:=Xf d81
   obtain ⟨d85,d86⟩:=Xf d83
   replace d82:=Xh d82
   replace d80:=Xh d80
   refine Ji (tn (Jb ?_))
   refine gI a17 s18 ok17 (gM (D11.k (kq hs7 sm6 5 (kq hs6 sm5 5 (kq hs5 sm4 5 (kq hs4 sm3 5 (kq hs3 sm2 5 (kq hs2 sm1 5 (D10.k (D9.k (D8.k (D7.k q48))))))))))) (gM q165 (gS rfl (fun E H I J O d0=>rP (JE Try.underlying22 (eI d0))) (gS rfl (fun E H I J O d0 d1=>rP (Jw _ Try.func16 rfl rfl my2 (pick_fn (at_) ((List.length X)) _ _ _ (cvi (σ:=H) oM (ef d0 rfl)) (cvi (σ:=H) oM (ef d1 rfl)) oM oM))) (gB 0 (gE ok17 fun a18 s19 ok18 D12=>?_))))));have o33:=OwnP.k0 o31 D12.stp;have o34:=PlS.k0 o32 D12.stp
   have q175:At (Ty.nat A) s19 a18 (.tmp 5):=(cvi (by (rw [hA])) (D12.m 4 rfl))
   refine tn (Jb ?_)
   refine gI a18 s19 ok18 (gM (D12.k (D11.k (kq hs7 sm6 7 (kq hs6 sm5 7 (kq hs5 sm4 7 (kq hs4 sm3 7 (kq hs3 sm2 7 (kq hs2 sm1 7 (D10.k (D9.k (D8.k (D7.k q50)))))))))))) (gS rfl (fun E H I J O d0=>rP (Jw #[E.eval (.tmp 101),E.eval ((Operand.const (Value.int IntKind.i64 10)))] Try.func16 rfl rfl my2 (pick_fn (long) (10) _ _ _ (cvi (σ:=H) oM (ef d0 rfl)) (cvi (σ:=H) oM rfl) oM oM))) (gT (Ty.nat (1 + (pick (long) (10)))) rfl (fun E H I J O d0=>rP ((Jy rfl (eI d0) wX).mono (fun τ _ h=>cN (σ:=τ) h))) (gB 0 (gE ok18 fun a19 s20 ok19 D13=>?_)))));have q182:=D13.k q175;have o35:=OwnP.k0 o33 D13.stp;have o36:=PlS.k0 o34 D13.stp
   have q184:At (Ty.nat G) s20 a19 (.tmp 7):=(cvi (by (rw [hG])) (D13.m 3 rfl))
   refine tn (Jb ?_)
   refine regT (a:=a19) (σ:=s20) rfl 12 (fun i_=>List.getD [(Ty.pr (Ty.agg [(Ty.val (Value.string (ByteArray.mk #[84,114,105,101,100]))),(Ty.nat M),(Ty.lst Ty.ints L)])),(Ty.pr (Ty.lstc 2 Kz CS)),(Ty.pr (Ty.lst Ty.int T)),(Ty.pr (Ty.nat A)),(Ty.pr (Ty.int p)),(Ty.pr (Ty.nat M)),(Ty.pr (Ty.nat (M - 1))),(Ty.pr (Ty.nat (pick (p) ((M - 1))))),(Ty.pr (Ty.nat (1 + (pick (p) ((M - 1)))))),(Ty.pr (Ty.nat G)),(Ty.pr (Ty.agg [(Ty.nat A),(Ty.nat (1 + (pick (p) ((M - 1))))),(Ty.nat G)])),(Ty.pr (Ty.lstc 3 QI [(((A:Nat):Int),(((1 + (pick (p) ((M - 1)))):Nat):Int),((G:Nat):Int))]))] i_ Pr.any) ok19 rfl rfl dE ⟨?_,?_,?_,?_,?_,?_,?_,?_,?_,?_,?_,?_,trivial⟩ ?_
   · intro E H I J O;exact rP (QF Try.underlying24 Try.inf24 (OwnP.k0 o35 I) (kp (O 18 rfl) I (D13.k (D12.k (D11.k q149)))))
   · intro E H I J O;exact rP (Jc (kp (O 19 rfl) I (D13.k (D12.k (D11.k (kq hs7 sm6 19 (kq hs6 sm5 19 (kq hs5 sm4 19 (kq hs4 sm3 19 (kq hs3 sm2 19 (kq hs2 sm1 19 (D10.k q76))))))))))))
   · intro E H I J O;exact rP (Jc (kp (O 20 rfl) I (D13.k (D12.k (D11.k q151)))))
   · intro E H I J O;exact rP (Jc (kp (O 5 rfl) I q182))
   · intro E H I J O;exact rP (Jc (kp (O 6 rfl) I (D13.k (D12.k (D11.k (kq hs7 sm6 6 (kq hs6 sm5 6 (kq hs5 sm4 6 (kq hs4 sm3 6 (kq hs3 sm2 6 (kq hs2 sm1 6 (D10.k (D9.k (D8.k (D7.k q49)))))))))))))))
   · intro E H I J O;exact rP (Jc (kp (O 1 rfl) I (D13.k (D12.k (D11.k (kq hs7 sm6 1 (kq hs6 sm5 1 (kq hs5 sm4 1 (kq hs4 sm3 1 (kq hs3 sm2 1 (kq hs2 sm1 1 (D10.k (D9.k (D8.k (D7.k q51)))))))))))))))
   · intro E H I J O d0;exact rP ((y_sub (eI d0) rfl wX).mono (fun τ _ h=>cvi (σ:=τ) oM h))
   · intro E H I J O d0 d1;exact rP (Jw _ Try.func16 rfl rfl my2 (pick_fn (p) ((M - 1)) _ _ _ (cvi (σ:=H) oM (ef d0 rfl)) (cvi (σ:=H) oM (ef d1 rfl)) oM oM))
   · intro E H I J O d0;exact rP ((Jy rfl (eI d0) wX).mono (fun τ _ h=>cN (σ:=τ) h))
   · intro E H I J O;exact rP (Jc (kp (O 7 rfl) I q184))
   · intro E H I J O d0 d1 d2;exact rP (y_bld [(0,(.tmp 108),(Ty.nat A)),(1,(.tmp 113),(Ty.nat (1 + (pick (p) ((M - 1)))))),(2,(.tmp 114),(Ty.nat G))] [(Ty.int (0:Int)),(Ty.int (0:Int)),(Ty.int (0:Int))] (l:=[(0,1),(1,1),(2,1)]) rfl Try.inf46 rfl (JR (vs:=[.int .i64 0,.int .i64 0,.int .i64 0]) rfl) rfl (by intro p hp;simp only [List.mem_cons,List.not_mem_nil,or_false] at hp;rcases hp with rfl | rfl | rfl;exact ⟨Jk rfl,(eI d0)⟩;exact ⟨Jk rfl,(eI d1)⟩;exact ⟨Jk rfl,(eI d2)⟩))
   · intro E H I J O d0;exact rP (y_build1c (c:=3) Try.underlying27 Try.inf46 rfl dE dE rfl (eI d0))
   intro a20 s21 D14;have ok20:=D14.ok;have o37:=OwnP.k0 o35 D14.stp;have o38:=PlS.k0 o36 D14.stp;have q188:=D14.m 0 rfl;have q189:=D14.m 1 rfl;have q190:=D14.m 2 rfl;have q191:=D14.m 11 rfl
   refine tailL (R:=(fun v τ'=>∃ τ,(fun v τ=>∃ (gh2:Array (Nat × ByteArray)),(Ty.has (Ty.tup2 (Ty.lst Ty.ints (Kh ((ByteArray.mk #[84,114,105,101,100])) (((M:Nat):Int)) (L) (CS) (T) ([(((A:Nat):Int),(((1 + (pick (p) ((M - 1)))):Nat):Int),((G:Nat):Int))]))) (Ty.int (KJ ((ByteArray.mk #[84,114,105,101,100])) (((M:Nat):Int)) (L) (CS) (T) ([(((A:Nat):Int),(((1 + (pick (p) ((M - 1)))):Nat):Int),((G:Nat):Int))])))) τ v)∧(PlS gh2 τ)) v τ∧Back [(999,999)] τ τ')) rfl rfl dE ok20 (y_callL (L:=[999]) [(999,999)] [(999,999)] #[a20.eval (.tmp 105),a20.eval (.tmp 106),a20.eval (.tmp 107),a20.eval (.tmp 116)] rfl dE Try.func9 rfl rfl my4 (Ring_fn ((ByteArray.mk #[84,114,105,101,100])) (((M:Nat):Int)) (L) (CS) (T) ([(((A:Nat):Int),(((1 + (pick (p) ((M - 1)))):Nat):Int),((G:Nat):Int))]) (_) _ lW _ _ _ _ (uL q188) (uL q189) (uL q190) (uL q191) (PlS.ren (cvpls (by rfl) o38) (GW.ren_lend _ _ dE rfl)) oX oX oX oX oX)) (fun a21 s22 hs8 ok21 r8 sm7=>?_) (Go.KL.Qn (fun _ _ _ hz_ hy_=>by obtain ⟨e0_,h0_,h1_⟩:=hy_;exact ⟨e0_,Ty.up _ hz_.le0 h0_,PlS.k0 h1_ hz_⟩))
   have q195:=kq hs8 sm7 105 q188;have q196:=kq hs8 sm7 106 q189;have q197:=kq hs8 sm7 107 q190;have q198:=kq hs8 sm7 116 q191
   obtain ⟨t2,⟨g2,hT2,o39⟩,B2⟩:=r8
   have q199:At (Ty.tup2 (Ty.lst Ty.ints (Kh ((ByteArray.mk #[84,114,105,101,100])) (((M:Nat):Int)) (L) (CS) (T) ([(((A:Nat):Int),(((1 + (pick (p) ((M - 1)))):Nat):Int),((G:Nat):Int))]))) (Ty.int (KJ ((ByteArray.mk #[84,114,105,101,100])) (((M:Nat):Int)) (L) (CS) (T) ([(((A:Nat):Int),(((1 + (pick (p) ((M - 1)))):Nat):Int),((G:Nat):Int))])))) s22 a21 (.tmp 117):=Ty.up _ B2.le hT2
   have o40:PlS (g2) s22:=PlS.ren o39 (B2.ren dE rfl)
   refine Jh ?_
   refine Piv.of a21 s22 (fun i_=>List.getD (List.replicate 12 Pr.any ++ [(Ty.pr (Ty.tup2 (Ty.lst Ty.ints (Kh ((ByteArray.mk #[84,114,105,101,100])) (((M:Nat):Int)) (L) (CS) (T) ([(((A:Nat):Int),(((1 + (pick (p) ((M - 1)))):Nat):Int),((G:Nat):Int))]))) (Ty.int (KJ ((ByteArray.mk #[84,114,105,101,100])) (((M:Nat):Int)) (L) (CS) (T) ([(((A:Nat):Int),(((1 + (pick (p) ((M - 1)))):Nat):Int),((G:Nat):Int))]))))),(Ty.pr (Ty.tup2 (Ty.lst Ty.ints (Kh ((ByteArray.mk #[84,114,105,101,100])) (((M:Nat):Int)) (L) (CS) (T) ([(((A:Nat):Int),(((1 + (pick (p) ((M - 1)))):Nat):Int),((G:Nat):Int))]))) (Ty.int (KJ ((ByteArray.mk #[84,114,105,101,100])) (((M:Nat):Int)) (L) (CS) (T) ([(((A:Nat):Int),(((1 + (pick (p) ((M - 1)))):Nat):Int),((G:Nat):Int))]))))),(Ty.pr (Ty.lst Ty.ints (Kh ((ByteArray.mk #[84,114,105,101,100])) (((M:Nat):Int)) (L) (CS) (T) ([(((A:Nat):Int),(((1 + (pick (p) ((M - 1)))):Nat):Int),((G:Nat):Int))])))),(Ty.pr (Ty.int (KJ ((ByteArray.mk #[84,114,105,101,100])) (((M:Nat):Int)) (L) (CS) (T) ([(((A:Nat):Int),(((1 + (pick (p) ((M - 1)))):Nat):Int),((G:Nat):Int))])))),(Ty.pr (Ty.lst Ty.ints (Kh ((ByteArray.mk #[84,114,105,101,100])) (((M:Nat):Int)) (L) (CS) (T) ([(((A:Nat):Int),(((1 + (pick (p) ((M - 1)))):Nat):Int),((G:Nat):Int))])))),(Ty.pr (Ty.int (KJ ((ByteArray.mk #[84,114,105,101,100])) (((M:Nat):Int)) (L) (CS) (T) ([(((A:Nat):Int),(((1 + (pick (p) ((M - 1)))):Nat):Int),((G:Nat):Int))]))))]) i_ Pr.any) ok21 (rd_piv (d:=117) rfl q199) ⟨?_,?_,?_,?_,?_,trivial⟩ ?_
   · intro E H I J O d0;exact rP (Jc (eI d0))
   · intro E H I J O d0;exact rP (y_ext2_0 (eI d0))
   · intro E H I J O d0 d1;exact rP (y_ext2_1 (eI d0))
   · intro E H I J O d0 d1 d2 d3 d4 d5 d6 d7 d8 d9 d10 d11 d12 d13 d14 d15 d16 d17;exact rP (KX (eI d0))
   · intro E H I J O d0 d1 d2 d3 d4 d5 d6 d7 d8 d9 d10 d11 d12 d13 d14 d15 d16 d17 d18;exact rP (KX (eI d0))
   intro a22 s23 D15;have ok22:=D15.ok;have o42:=OwnP.k0 (OwnP.kl o37 hs8) D15.stp;have o43:=PlS.k0 o40 D15.stp
   have q205:At (Ty.lst Ty.ints Y) s23 a22 (.tmp 23):=(cvt (by (rw [← hB,← hSL,hbr1])) (D15.m 16 rfl))
   have q206:At (Ty.int (0:Int)) s23 a22 (.tmp 22):=(cvi (by (rw [← hB,← hSL,hbe1])) (D15.m 17 rfl))
   refine tn (Jb (Jb ?_))
   refine gI a22 s23 ok22 (gM q206 (gT (Ty.bool false) rfl (fun E H I J O d0=>rP ((QH (eI d0) rfl).mono (fun τ _ h=>cvb (σ:=τ) dE h))) (gE ok22 fun a23 s24 ok23 D16=>?_)));have o44:=PlS.k0 o43 D16.stp;refine tn ?_
   refine KM (D16.m 1 rfl) (fun c3=>(by cases c3)) (fun _=>?_)
   refine Ji (tn (Jb ?_))
   refine gI a23 s24 ok23 (gC (Ty.val (Value.slice none 0 0)) (gE ok23 fun a24 s25 ok24 D17=>?_));have q213:=D17.k (D16.k (D15.k (kq hs8 sm7 5 (D14.k q182))));have o45:=PlS.k0 o44 D17.stp;refine tn (Jb (Jb ?_))
   refine gI a24 s25 ok24 (gM q213 (gB 0 (gE ok24 fun a25 s26 ok25 D18=>?_)));have o46:=PlS.k0 o45 D18.stp;refine tn (Je ?_)
   have o47:Own s26 6 3 1 (Value.slice none 0 0) 0 (List.map Ty.int ([]:List Int)):=Own.nil _ _ _ _
   refine KB (fun n1 a26 w1=>∃ (t3:GW) (k:Nat) (x25_0:Value),t3.w = w1∧FromL [999] σ t3∧Ok 145 [] a26∧At (Ty.nat (A + k)) t3 a26 (.tmp 26)∧At (Ty.val x25_0) t3 a26 (.tmp 25)∧At (Ty.lst Ty.ints X) t3 a26 (.tmp 21)∧At (Ty.nat A) t3 a26 (.tmp 5)∧At (Ty.nat G) t3 a26 (.tmp 7)∧At (Ty.lst Ty.ints Y) t3 a26 (.tmp 23)∧Own t3 6 3 1 x25_0 (List.length (Xa A k)) (List.map Ty.int (Xa A k))∧PlS (g2) t3∧(k ≤ min X.length (A + G) - A)∧n1 = X.length - k) (X.length - (0)) ?_ ?_
   ·
    exact ⟨s26,0,(Value.slice none 0 0),rfl,(((((((((((((((((((((((F2.step0 D4.stp).step0 D5.stp).step0 D6.stp).sl hs1).step0 D7.stp).step0 D8.stp).step0 D9.stp).step0 D10.stp).sl hs2).sl hs3).sl hs4).sl hs5).sl hs6).sl hs7).step0 D11.stp).step0 D12.stp).step0 D13.stp).step0 D14.stp).sl hs8).step0 D15.stp).step0 D16.stp).step0 D17.stp).step0 D18.stp),ok25,(cJ (D18.m 1 rfl)),(D18.k (D17.m 0 rfl)),(D18.k (D17.k (D16.k (D15.k (kq hs8 sm7 21 (D14.k (D13.k (D12.k q165)))))))),(D18.k q213),(D18.k (D17.k (D16.k (D15.k (kq hs8 sm7 7 (D14.k q184)))))),(D18.k (D17.k (D16.k q205))),(cvo (by (rfl)) (by (rfl)) o47),o46,by omega,rfl⟩
   ·
    rintro n2 a27 w2 ⟨t4,k,x25_0,rfl,F27,ok26,q223,q224,q225,q226,q227,q228,o48,o49,hk,rfl⟩
    have hwl_:(Xa A k).length = k:=wantL_len
    refine Jb (Jb ?_)
    refine gI a27 t4 ok26 (gM q223 (gM q226 (gM q227 (gT (Ty.nat (A + G)) rfl (fun E H I J O d0 d1=>rP ((Jy (eI d0) (eI d1) wX).mono (fun τ _ h=>cN (σ:=τ) h))) (gS rfl (fun E H I J O d0 d1=>rP (JL (eI d0) (eI d1))) (gS rfl (fun E H I J O d0=>rP (Jc (eI d0))) (gS rfl (fun E H I J O d0=>gu J (eI d0) fun hg=>Jc (kp (O 26 rfl) I q223)) (gS rfl (fun E H I J O d0=>gu J (eI d0) fun hg=>Jc (kp (O 21 rfl) I q225)) (gS rfl (fun E H I J O d0 d1=>gu J (eI d1) fun hg=>JE Try.underlying22 ((ef d0 rfl).1 hg)) (gS rfl (fun E H I J O d0 d1 d2=>gu J (eI d2) fun hg=>JL ((ef d0 rfl).1 hg) ((ef d1 rfl).1 hg)) (gS rfl (fun E H I J O d0 d1=>rP (Ki (eI d0) (eI d1) rfl)) (gE ok26 fun a28 s27 ok27 D19=>?_))))))))))));have F28:=F27.step0 D19.stp;have q229:=D19.k q223;have q230:=D19.k q224;have q231:=D19.k q225;have q232:=D19.k q226;have q233:=D19.k q227;have q234:=D19.k q228;have o50:=Own.k0 o48 D19.stp;have o51:=PlS.k0 o49 D19.stp;have q235:=D19.m 10 rfl;refine tn ?_
    refine KM q235 (fun c4=>?_) (fun c4=>?_)
    ·
     obtain ⟨d87,d88⟩:=Xg c4
     replace d87:=Xi d87
     replace d88:=Xi d88
     simp only [Bool.and_eq_true,decide_eq_true_eq] at c4
     refine Ji (tn (Jb (Je ?_)))
     refine gI a28 s27 ok27 (gM q230 (gM q229 (gT (Ty.sl 1 1 [(Ty.nat (A + k))]) rfl (fun E H I J O d0=>rP (Qs Try.underlying26 Try.inf3 rfl (Jk rfl) (eI d0))) (gE2 ok27 fun a29 s28 ok28 D20=>?_))));have o52:=Own.k0 o50 D20.stp;have o53:=PlS.k0 o51 D20.stp
     have q242:At (Ty.val x25_0) s28 a29 (.tmp 136):=D20.done 0 dE
     have q243:=D20.m 2 rfl
     have b2:=Ke q243
     refine tL ok28 (YldM.toL (Qg Try.underlying26 Try.inf3 dE rfl dE (al (R:=(Pr.own 6 3 1 (List.length (Xa A k)) (List.map Ty.int (Xa A k)))) q242 o52) q243 (by intro U hU;simp at hU;subst hU;exact Jk rfl) oM oM)) fun a30 s29 hs9 ok29 r9 sm8=>?_
     have q245:=kq hs9 sm8 25 (D20.k q230);have o55:=PlS.keepL o53 hs9 dE dE
     obtain ⟨x2,hx2⟩:∃ x,a30.eval (.tmp 139) = x:=⟨_,rfl⟩
     have q250:At (Ty.val x2) s29 a30 (.tmp 139):=hx2
     have o54:=al2 (R:=(Pr.own 6 3 1 (List.length ((Xa A k) ++ [(((A + k):Nat):Int)])) (List.map Ty.int ((Xa A k) ++ [(((A + k):Nat):Int)])))) hx2 (cvo (by simp) (by first | (rw [List.map_append];rfl) | simp) r9)
     clear r9
     refine tL ok29 (Yld.toL (y_as q250)) fun a31 s30 hs10 ok30 r10 sm9=>?_
     have o56:=PlS.keepL o55 hs10 dE dE
     have q256:At (Ty.val x2) s30 a31 (.tmp 25):=r10
     clear r10;refine Jh (bn (tn ?_))
     refine gI a31 s30 ok30 (gM (kq hs10 sm9 26 (kq hs9 sm8 26 (D20.k q229))) (gT (Ty.nat ((A + k) + 1)) rfl (fun E H I J O d0=>rP ((Jy (eI d0) rfl wX).mono (fun τ _ h=>cN (σ:=τ) h))) (gB 0 (gE ok30 fun a32 s31 ok31 D21=>?_))));have o58:=PlS.k0 o56 D21.stp;have o59:=Own.k0 (Own.kl o54 hs10) D21.stp
     exact tn ⟨X.length - ((k + 1)),by omega,s31,(k + 1),x2,rfl,((((F28.step0 D20.stp).sl hs9).sl hs10).step0 D21.stp),ok31,(cJ (D21.m 2 rfl)),(D21.k q256),(D21.k (kq hs10 sm9 21 (kq hs9 sm8 21 (D20.k q231)))),(D21.k (kq hs10 sm9 5 (kq hs9 sm8 5 (D20.k q232)))),(D21.k (kq hs10 sm9 7 (kq hs9 sm8 7 (D20.k q233)))),(D21.k (kq hs10 sm9 23 (kq hs9 sm8 23 (D20.k q234)))),(cvo (by (first | rfl | (rw [wantL_succ]))) (by (first | rfl | (rw [wantL_succ]))) o59),o58,by omega,rfl⟩
    ·
     simp only [Bool.and_eq_false_iff,decide_eq_false_iff_not] at c4
     refine Jx (tx (tx (bx (tn (Jb ?_)))))
     obtain ⟨t5,e1,h1,q263⟩:=Own.seal o50 dE
     rw [← e1]
     have F33:=F28.step h1 dE;have o60:=PlS.keepL o51 (h1.toL (L:=[6]) (by simp)) dE dE;have q264:=Ty.up (Ty.nat (A + k)) (h1.le dE) q229
     have q265:At (Ty.lst Ty.int (Xa A k)) t5 a28 (.tmp 25):=by have e:a28.eval (.tmp 25) = x25_0:=q230;show Ty.has _ _ _;rw [e];exact q263
     have q266:=Ty.up (Ty.lst Ty.ints X) (h1.le dE) q231;have q267:=Ty.up (Ty.nat A) (h1.le dE) q232;have q268:=Ty.up (Ty.nat G) (h1.le dE) q233;have q269:=Ty.up (Ty.lst Ty.ints Y) (h1.le dE) q234;have q270:=Ty.up (Ty.bool ((decide ((((A + k):Nat):Int) < (((A + G):Nat):Int))) && (decide ((((A + k):Nat):Int) < (((List.length X):Nat):Int))))) (h1.le dE) q235
     refine gI a28 t5 ok27 (gM q269 (gM q266 (gT (Ty.lst Ty.int (Xa A (min X.length (A + G) - A))) rfl (fun E H I J O d0 d1=>rP ((Jw _ Try.func14 rfl rfl my2 (bwrong_fn (Y) (X) _ _ _ (eI d0) (eI d1) oM)).mono (fun τ _ h=>cvt (σ:=τ) (T:=(Ty.lst Ty.int (Jp (Y) (X) (Y).length))) (U:=(Ty.lst Ty.int (Xa A (min X.length (A + G) - A)))) (by rw [hw1]) h))) (gM q265 (gS rfl (fun E H I J O d0 d1 d2=>rP (Jw _ Try.func13 rfl rfl my2 (rsame_fn ((Xa A (min X.length (A + G) - A))) ((Xa A k)) _ _ _ (eI d0) (eI d1) ))) (gB 0 (gE ok27 fun a33 s32 ok32 D22=>?_)))))));have o61:=PlS.k0 o60 D22.stp;refine tn (Jj ?_)
     exact KP rfl ok32 (F33.step0 D22.stp) ⟨g2,(cvb (by (simp [show k = min X.length (A + G) - A by omega])) (D22.m 5 rfl)),o61⟩
end Go.Proofs.Ytodmoedmijfciaa
