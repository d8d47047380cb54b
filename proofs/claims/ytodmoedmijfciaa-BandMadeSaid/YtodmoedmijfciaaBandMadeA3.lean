/- The functions that the law BandMade reaches, each by its contract. Part 3. -/
import Derived.Test.YtodmoedmijfciaaBandMadeA2
namespace Go.Proofs.Ytodmoedmijfciaa
open Go.KL
variable {J:Go.KL.JdOf Try.prog} [Go.KL.Al J]
set_option maxHeartbeats 4000000 in
set_option maxRecDepth 100000 in
theorem rTouchMay_fn (nm:ByteArray) (n:Int) (l:List (List Int)) (cs:List JL) (leads:List Int) (σ:GW)  (v0 v1 v2:Value) (hv0:Ty.has (Ty.agg [(Ty.val (Value.string nm)),(Ty.int n),(Ty.lst Ty.ints l)]) σ v0) (hv1:Ty.has (Ty.lstc 2 Ky cs) σ v1) (hv2:Ty.has (Ty.lst Ty.int leads) σ v2)  (hnm:nm.size ≤ 1099511627776) (hn:-9223372036854775808 ≤ n∧n ≤ 9223372036854775807) :
    FnC J 6 #[v0,v1,v2] σ (Ty.int (Kn nm n l cs leads)):=by
 refine JR Try.func6 rfl Try.ntmps6 (Xy rfl) (fun s0 a0 hle F0 ok0 hargs=>?_)
 have p0:=pA hle (hargs 0 _ rfl) hv0
 have p1:=pA hle (hargs 1 _ rfl) hv1
 have b1:=JI p1
 have p2:=pA hle (hargs 2 _ rfl) hv2
 have b2:=JI p2
 clear hargs;refine Ja ?_
 refine gI a0 s0 ok0 (gS rfl (fun A B E G H=>rP (QC (kp (H 0 rfl) E p0))) (gC (Ty.int (0:Int)) (gE ok0 fun a1 s1 ok1 D1=>?_)));have q1:=D1.k p1;have q3:=D1.m 0 rfl;refine tn (Ja ?_)
 refine gI a1 s1 ok1 (gS rfl (fun A B E G H=>rP (Qd Try.underlying24 Try.inf24 (kp (H 3 rfl) E q3))) (gM q1 (gS rfl (fun A B E G H d0 d1=>rP (JB _ Try.func21 rfl rfl my2 (rCallsMay_fn (nm) (n) (l) (cs) _ _ _ (eI d0) (eI d1) oX oX))) (gB 0 (gE ok1 fun a2 s2 ok2 D2=>?_)))));have q7:=D2.m 3 rfl;refine tn (Ja (Ja ?_))
 refine gI a2 s2 ok2 (gM q7 (gS rfl (fun A B E G H d0=>rP (Qx (eI d0) rfl)) (gE ok2 fun a3 s3 ok3 D3=>?_)));have F3:=((F0.step0 D1.stp).step0 D2.stp).step0 D3.stp;have q9:=D3.k (D2.k (D1.k p2));refine tn ?_
 refine Jl (p:=((Kx nm n l cs) ≠ (0:Int))) (D3.m 1 rfl) (fun c1=>?_) (fun c1=>?_)
 ·
  have hm:=touchMay_calls (leads:=leads) c1
  refine Ja ?_
  refine gI a3 s3 ok3 (gM (D3.k q7) (gB 0 (gE ok3 fun a4 s4 ok4 D4=>?_)));refine tn (Ji (tr ?_))
  exact JJ rfl ok4 (F3.step0 D4.stp) (cvi (by (exact hm.symm)) (D4.m 1 rfl))
 ·
  have h0:=Classical.not_not.1 c1;have hl2:=(callsMay_ok h0).1.meth.l2
  refine Jf (tn (Ja (Ja ?_)))
  refine gI a3 s3 ok3 (gM q9 (gS rfl (fun A B E G H d0=>rP (Jt Try.underlying26 (eI d0))) (gS rfl (fun A B E G H d0=>rP (Jx (eI d0) rfl)) (gS rfl (fun A B E G H d0=>rP (Jc (eI d0))) (gS rfl (fun A B E G H d0=>gu G (eI d0) fun hg=>Jc (kp (H 2 rfl) E q9)) (gS rfl (fun A B E G H d0 d1=>gu G (eI d1) fun hg=>Jt Try.underlying26 ((ef d0 rfl).1 hg)) (gS rfl (fun A B E G H d0 d1=>gu G (eI d1) fun hg=>KJ ((ef d0 rfl).1 hg) rfl) (gS rfl (fun A B E G H d0 d1=>rP (Jk (eI d0) rfl (eI d1))) (gE ok3 fun a5 s5 ok5 D5=>?_)))))))));have F5:=F3.step0 D5.stp;refine tn ?_
  refine JU (D5.m 7 rfl) (fun c2=>?_) (fun c2=>?_)
  ·
   simp only [Bool.or_eq_true,decide_eq_true_eq] at c2;have hm:=touchMay_cnt h0 (leads:=leads) oM
   refine Ja ?_
   refine gI a5 s5 ok5 (gC (Ty.int (1:Int)) (gE ok5 fun a6 s6 ok6 D6=>?_));refine tn (Ji (tr ?_))
   exact JJ rfl ok6 (F5.step0 D6.stp) (cvi (by (exact hm.symm)) (D6.m 0 rfl))
  ·
   obtain ⟨d1,d2⟩:=Xu c2
   replace d1:=Xw d1
   replace d2:=Xw d2
   have hx2:¬ (leads.length < 1 ∨ 400 < leads.length):=(by simp only [Bool.or_eq_false_iff,decide_eq_false_iff_not] at c2;omega);have hmb:leads.length * l.length ≤ 400 * 200:=Nat.mul_le_mul oM hl2;have hmc:((leads.length:Nat):Int) * ((l.length:Nat):Int) = ((leads.length * l.length:Nat):Int):=(Int.natCast_mul _ _).symm
   refine Jf (tn (Ja (Ja ?_)))
   refine gI a5 s5 ok5 (gC (Ty.int (0:Int)) (gE ok5 fun a7 s7 ok7 D7=>?_));refine tn (Je ?_)
   refine JY (fun n1 a8 w1=>∃ (t1:GW) (k:Nat),t1.w = w1∧FromL [] s0 t1∧Ok 50 [] a8∧At (Ty.nat k) t1 a8 (.tmp 8)∧At (Ty.lstc 2 Ky cs) t1 a8 (.tmp 1)∧At (Ty.lst Ty.int leads) t1 a8 (.tmp 2)∧At (Ty.ref [(Ty.val (Value.string nm)),(Ty.int n),(Ty.lst Ty.ints l)]) t1 a8 (.tmp 3)∧(k ≤ leads.length)∧(∀ j,j < k → 0 ≤ leads.getD j 0∧leads.getD j 0 < cs.length)∧n1 = leads.length - k) (leads.length - (0)) ?_ ?_
   ·
    exact ⟨s7,0,rfl,(F5.step0 D7.stp),ok7,(cJ (D7.m 0 rfl)),(D7.k (D5.k (D3.k (D2.k q1)))),(D7.k (D5.k q9)),(D7.k (D5.k (D3.k (D2.k q3)))),by omega,fun j hj=>absurd hj (Nat.not_lt_zero j),rfl⟩
   ·
    rintro n2 a9 w2 ⟨t2,k,rfl,F8,ok8,q23,q24,q25,q26,hk,hin,rfl⟩
    refine Ja (Ja ?_)
    refine gI a9 t2 ok8 (gM q23 (gM q25 (gS rfl (fun A B E G H d0=>rP (Jt Try.underlying26 (eI d0))) (gS rfl (fun A B E G H d0 d1=>rP (Jx (eI d0) (eI d1))) (gE ok8 fun a10 s8 ok9 D8=>?_)))));have F9:=F8.step0 D8.stp;have q27:=D8.k q23;have q28:=D8.k q24;have q29:=D8.k q25;have q30:=D8.k q26;refine tn ?_
    refine Jl (p:=(((k:Nat):Int) < (((List.length leads):Nat):Int))) (D8.m 3 rfl) (fun c3=>?_) (fun c3=>?_)
    ·
     refine Jf (tn (Ja (Je (Ja ?_))))
     refine gI a10 s8 ok9 (gM q29 (gM q27 (gT (Ty.ref [(Ty.int (leads.getD k 0))]) rfl (fun A B E G H d0 d1=>rP (Jy Try.underlying26 Try.inf3 (eI d0) (eI d1) oM (Jw Ty.int leads 0 k oM))) (gS rfl (fun A B E G H d0=>rP (Jo Try.underlying3 rfl (eI d0) rfl)) (gS rfl (fun A B E G H d0=>rP (Jx (eI d0) rfl)) (gS rfl (fun A B E G H d0=>rP (Jc (eI d0))) (gS rfl (fun A B E G H d0=>gu G (eI d0) fun hg=>Jc (kp (H 2 rfl) E q29)) (gS rfl (fun A B E G H d0=>gu G (eI d0) fun hg=>Jc (kp (H 8 rfl) E q27)) (gT (Ty.grd ((decide ((leads.getD k 0) < (0:Int))) = false) (Ty.ref [(Ty.int (leads.getD k 0))])) rfl (fun A B E G H d0 d1 d2=>guf G (eI d2) fun hg hp=>Jy Try.underlying26 Try.inf3 ((ef d0 rfl).1 hg) ((ef d1 rfl).1 hg) oM (Jw Ty.int leads 0 k oM)) (gS rfl (fun A B E G H d0 d1=>gu G (eI d1) fun hg=>Jo Try.underlying3 rfl ((ef d0 rfl).1 hg) rfl) (gS rfl (fun A B E G H d0=>gu G (eI d0) fun hg=>Jc (kp (H 1 rfl) E q28)) (gS rfl (fun A B E G H d0 d1=>gu G (eI d1) fun hg=>Jt Try.underlying25 ((ef d0 rfl).1 hg)) (gS rfl (fun A B E G H d0 d1 d2=>gu G (eI d2) fun hg=>QB ((ef d0 rfl).1 hg) ((ef d1 rfl).1 hg)) (gS rfl (fun A B E G H d0 d1=>rP (Jk (eI d0) rfl (eI d1))) (gE ok9 fun a11 s9 ok10 D9=>?_)))))))))))))));have F10:=F9.step0 D9.stp;refine tn ?_
     refine JU (D9.m 13 rfl) (fun c4=>?_) (fun c4=>?_)
     ·
      simp only [Bool.or_eq_true,decide_eq_true_eq] at c4;have hm:=touchMay_val h0 hx2 (k:=k) oM oM
      refine Ja ?_
      refine gI a11 s9 ok10 (gC (Ty.int (12:Int)) (gE ok10 fun a12 s10 ok11 D10=>?_));refine tn (Ji (br (tr (tr (br (tr ?_))))))
      exact JJ rfl ok11 (F10.step0 D10.stp) (cvi (by (exact hm.symm)) (D10.m 0 rfl))
     ·
      obtain ⟨d3,d4⟩:=Xu c4
      replace d3:=Xw d3
      replace d4:=Xw d4
      refine Jf (bn (tn ?_))
      refine gI a11 s9 ok10 (gM (D9.k q27) (gT (Ty.nat (k + 1)) rfl (fun A B E G H d0=>rP ((JA (eI d0) rfl wX).mono (fun τ _ h=>cN (σ:=τ) h))) (gB 0 (gE ok10 fun a13 s11 ok12 D11=>?_))))
      exact tn ⟨leads.length - ((k+1)),by omega,s11,(k+1),rfl,(F10.step0 D11.stp),ok12,(cJ (D11.m 2 rfl)),(D11.k (D9.k q28)),(D11.k (D9.k q29)),(D11.k (D9.k q30)),by omega,fun j hj=>by (by_cases e:j = k;subst e;simp only [Bool.or_eq_false_iff,decide_eq_false_iff_not] at c4;omega;exact hin j oM),rfl⟩
    ·
     have hin2:∀ j,j < leads.length → 0 ≤ leads.getD j 0∧leads.getD j 0 < cs.length:=fun j hj=>hin j oM
     refine Jv (tx (tx (bx (tn (Ja (Ja ?_))))))
     refine gI a10 s8 ok9 (gM q29 (gS rfl (fun A B E G H d0=>rP (Jt Try.underlying26 (eI d0))) (gS rfl (fun A B E G H=>rP (JG Try.fld24_2 Try.inf22 dE (kp (H 3 rfl) E q30) rfl)) (gS rfl (fun A B E G H d0=>rP (Jo Try.underlying22 rfl (eI d0) rfl)) (gS rfl (fun A B E G H d0=>rP (Jt Try.underlying22 (eI d0))) (gT (Ty.nat ((List.length leads) * (List.length l))) rfl (fun A B E G H d0 d1=>rP ((y_mul (eI d0) (eI d1) wX).mono (fun τ _ h=>cN (σ:=τ) h))) (gS rfl (fun A B E G H d0=>rP (KJ (eI d0) rfl)) (gE ok9 fun a14 s12 ok13 D12=>?_))))))));have F13:=F9.step0 D12.stp;refine tn ?_
     refine Jl (p:=((20000:Int) < ((((List.length leads) * (List.length l)):Nat):Int))) (D12.m 6 rfl) (fun c5=>?_) (fun c5=>?_)
     ·
      have hm:=touchMay_lim h0 hx2 hin2 oM
      refine Ja ?_
      refine gI a14 s12 ok13 (gC (Ty.int (3:Int)) (gE ok13 fun a15 s13 ok14 D13=>?_));refine tn (Ji (tr ?_))
      exact JJ rfl ok14 (F13.step0 D13.stp) (cvi (by (exact hm.symm)) (D13.m 0 rfl))
     ·
      have hm:=touchMay_yes h0 hx2 hin2 oM
      refine Jf (tn (Ja ?_))
      refine gI a14 s12 ok13 (gC (Ty.int (0:Int)) (gE ok13 fun a16 s14 ok15 D14=>?_));refine tn (Ji ?_)
      exact JJ rfl ok15 (F13.step0 D14.stp) (cvi (by (exact hm.symm)) (D14.m 0 rfl))
set_option maxRecDepth 100000 in
theorem letter_fn (c:Int) (σ:GW) (v0:Value) (hv0:Ty.has (Ty.val (Value.int .i32 c)) σ v0)  :
    FnC J 90 #[v0] σ (Ty.bool (Qa c)):=by
 refine Kt Try.func90 rfl Try.ntmps90 (Xy rfl) (fun s0 a0 hle F0 ok0 hargs=>?_)
 have p0:=pA hle (hargs 0 _ rfl) hv0
 clear hargs;refine Ja ?_
 refine gI a0 s0 ok0 (gC (Ty.bool false) (gE ok0 fun a1 s1 ok1 D1=>?_));have q1:=D1.k p0;refine tn (Ja ?_)
 refine gI a1 s1 ok1 (gM q1 (gS rfl (fun A B E G H d0=>rP (QB (eI d0) rfl)) (gS rfl (fun A B E G H d0=>rP (Jc (eI d0))) (gS rfl (fun A B E G H d0=>gu G (eI d0) fun hg=>Jc (kp (H 0 rfl) E q1)) (gS rfl (fun A B E G H d0 d1=>gu G (eI d1) fun hg=>y_leq ((ef d0 rfl).1 hg) rfl) (gS rfl (fun A B E G H d0 d1=>rP (Jr (eI d0) (eI d1) rfl)) (gS rfl (fun A B E G H d0 d1=>rP (Jc (eI d0))) (gS rfl (fun A B E G H d0=>gu G (eI d0) fun hg=>Jc (kp (H 0 rfl) E q1)) (gS rfl (fun A B E G H d0 d1=>gu G (eI d1) fun hg=>QB ((ef d0 rfl).1 hg) rfl) (gS rfl (fun A B E G H d0 d1 d2=>gu G (eI d1) fun hg=>y_mv ((ef d0 rfl).1 hg)) (gS rfl (fun A B E G H d0=>gu2 G (eI d0) fun hg=>Jc (kp (H 0 rfl) E q1)) (gS rfl (fun A B E G H d0 d1=>gu2 G (eI d1) fun hg=>y_leq ((ef d0 rfl).1 hg) rfl) (gS rfl (fun A B E G H d0 d1 d2=>gu G (eI d2) fun hg=>Jr ((ef d0 rfl).1 hg) (KX hg (eI d1)) rfl) (gS rfl (fun A B E G H d0 d1=>rP (Jk (eI d0) rfl (eI d1))) (gS rfl (fun A B E G H d0 d1=>rP (Jc (eI d0))) (gT (Ty.grd ((((decide ((65:Int) ≤ c)) && (decide (c ≤ (90:Int)))) || ((decide ((97:Int) ≤ c)) && (decide (c ≤ (122:Int))))) = false) (Ty.val (Value.int .i32 c))) rfl (by intro A B E G H d0;refine Jd G rfl rfl dE (eI d0) (fun hg=>?_);obtain ⟨d1,d2⟩:=Xu hg;exact Jc (kp (H 0 rfl) E q1)) ?_))))))))))))))))
 refine gT (Ty.grd ((((decide ((65:Int) ≤ c)) && (decide (c ≤ (90:Int)))) || ((decide ((97:Int) ≤ c)) && (decide (c ≤ (122:Int))))) = false) (Ty.bool (decide ((48:Int) ≤ c)))) rfl (by intro A B E G H d0 d1;refine Jd G rfl rfl dE (eI d1) (fun hg=>?_);obtain ⟨d3,d4⟩:=Xu hg;exact QB ((ef d0 rfl).1 hg) rfl) (gT (Ty.grd ((((decide ((65:Int) ≤ c)) && (decide (c ≤ (90:Int)))) || ((decide ((97:Int) ≤ c)) && (decide (c ≤ (122:Int))))) = false) (Ty.bool (decide ((48:Int) ≤ c)))) rfl (by intro A B E G H d0 d1 d2;refine Jd G rfl rfl dE (eI d1) (fun hg=>?_);obtain ⟨d5,d6⟩:=Xu hg;exact Jc ((ef d0 rfl).1 hg)) (gS rfl (fun A B E G H d0=>gu2 G (eI d0) fun hg=>Jc (kp (H 0 rfl) E q1)) (gS rfl (fun A B E G H d0 d1=>gu2 G (eI d1) fun hg=>y_leq ((ef d0 rfl).1 hg) rfl) (gT (Ty.grd ((((decide ((65:Int) ≤ c)) && (decide (c ≤ (90:Int)))) || ((decide ((97:Int) ≤ c)) && (decide (c ≤ (122:Int))))) = false) (Ty.bool ((decide ((48:Int) ≤ c)) && (decide (c ≤ (57:Int)))))) rfl (by intro A B E G H d0 d1 d2;refine Jd G rfl rfl dE (eI d2) (fun hg=>?_);obtain ⟨d7,d8⟩:=Xu hg;exact Jr ((ef d0 rfl).1 hg) (KX hg (eI d1)) rfl) (gS rfl (fun A B E G H d0 d1=>rP (Jk (eI d0) rfl (eI d1))) (gS rfl (fun A B E G H d0 d1=>rP (Jc (eI d0))) ?_))))))
 refine gT (Ty.grd (((((decide ((65:Int) ≤ c)) && (decide (c ≤ (90:Int)))) || ((decide ((97:Int) ≤ c)) && (decide (c ≤ (122:Int))))) || ((decide ((48:Int) ≤ c)) && (decide (c ≤ (57:Int))))) = false) (Ty.val (Value.int .i32 c))) rfl (by intro A B E G H d0;refine Jd G rfl rfl dE (eI d0) (fun hg=>?_);obtain ⟨d9,d10⟩:=Xu hg;obtain ⟨d11,d12⟩:=Xu d9;exact Jc (kp (H 0 rfl) E q1)) (gT (Ty.grd (((((decide ((65:Int) ≤ c)) && (decide (c ≤ (90:Int)))) || ((decide ((97:Int) ≤ c)) && (decide (c ≤ (122:Int))))) || ((decide ((48:Int) ≤ c)) && (decide (c ≤ (57:Int))))) = false) (Ty.bool (decide (c = (32:Int))))) rfl (by intro A B E G H d0 d1;refine Jd G rfl rfl dE (eI d1) (fun hg=>?_);obtain ⟨d13,d14⟩:=Xu hg;obtain ⟨d15,d16⟩:=Xu d13;exact Qc ((ef d0 rfl).1 hg) rfl) (gS rfl (fun A B E G H d0 d1=>rP (Jk (eI d0) rfl (eI d1))) (gS rfl (fun A B E G H d0 d1=>rP (Jc (eI d0))) (gT (Ty.grd ((((((decide ((65:Int) ≤ c)) && (decide (c ≤ (90:Int)))) || ((decide ((97:Int) ≤ c)) && (decide (c ≤ (122:Int))))) || ((decide ((48:Int) ≤ c)) && (decide (c ≤ (57:Int))))) || (decide (c = (32:Int)))) = false) (Ty.val (Value.int .i32 c))) rfl (by intro A B E G H d0;refine Jd G rfl rfl dE (eI d0) (fun hg=>?_);obtain ⟨d17,d18⟩:=Xu hg;obtain ⟨d19,d20⟩:=Xu d17;obtain ⟨d21,d22⟩:=Xu d19;have d18:=Xw d18;exact Jc (kp (H 0 rfl) E q1)) ?_))))
 refine gT (Ty.grd ((((((decide ((65:Int) ≤ c)) && (decide (c ≤ (90:Int)))) || ((decide ((97:Int) ≤ c)) && (decide (c ≤ (122:Int))))) || ((decide ((48:Int) ≤ c)) && (decide (c ≤ (57:Int))))) || (decide (c = (32:Int)))) = false) (Ty.bool (decide ((192:Int) ≤ c)))) rfl (by intro A B E G H d0 d1;refine Jd G rfl rfl dE (eI d1) (fun hg=>?_);obtain ⟨d23,d24⟩:=Xu hg;obtain ⟨d25,d26⟩:=Xu d23;obtain ⟨d27,d28⟩:=Xu d25;have d24:=Xw d24;exact QB ((ef d0 rfl).1 hg) rfl) (gT (Ty.grd ((((((decide ((65:Int) ≤ c)) && (decide (c ≤ (90:Int)))) || ((decide ((97:Int) ≤ c)) && (decide (c ≤ (122:Int))))) || ((decide ((48:Int) ≤ c)) && (decide (c ≤ (57:Int))))) || (decide (c = (32:Int)))) = false) (Ty.bool (decide ((192:Int) ≤ c)))) rfl (by intro A B E G H d0 d1 d2;refine Jd G rfl rfl dE (eI d1) (fun hg=>?_);obtain ⟨d29,d30⟩:=Xu hg;obtain ⟨d31,d32⟩:=Xu d29;obtain ⟨d33,d34⟩:=Xu d31;have d30:=Xw d30;exact Jc ((ef d0 rfl).1 hg)) (gS rfl (fun A B E G H d0=>gu2 G (eI d0) fun hg=>Jc (kp (H 0 rfl) E q1)) (gS rfl (fun A B E G H d0 d1=>gu2 G (eI d1) fun hg=>y_leq ((ef d0 rfl).1 hg) rfl) ?_)))
 refine gT (Ty.grd ((((((decide ((65:Int) ≤ c)) && (decide (c ≤ (90:Int)))) || ((decide ((97:Int) ≤ c)) && (decide (c ≤ (122:Int))))) || ((decide ((48:Int) ≤ c)) && (decide (c ≤ (57:Int))))) || (decide (c = (32:Int)))) = false) (Ty.bool ((decide ((192:Int) ≤ c)) && (decide (c ≤ (382:Int)))))) rfl (by intro A B E G H d0 d1 d2;refine Jd G rfl rfl dE (eI d2) (fun hg=>?_);obtain ⟨d35,d36⟩:=Xu hg;obtain ⟨d37,d38⟩:=Xu d35;obtain ⟨d39,d40⟩:=Xu d37;have d36:=Xw d36;exact Jr ((ef d0 rfl).1 hg) (KX hg (eI d1)) rfl) (gT (Ty.grd ((((((decide ((65:Int) ≤ c)) && (decide (c ≤ (90:Int)))) || ((decide ((97:Int) ≤ c)) && (decide (c ≤ (122:Int))))) || ((decide ((48:Int) ≤ c)) && (decide (c ≤ (57:Int))))) || (decide (c = (32:Int)))) = false) (Ty.bool ((decide ((192:Int) ≤ c)) && (decide (c ≤ (382:Int)))))) rfl (by intro A B E G H d0 d1 d2;refine Jd G rfl rfl dE (eI d2) (fun hg=>?_);obtain ⟨d41,d42⟩:=Xu hg;obtain ⟨d43,d44⟩:=Xu d41;obtain ⟨d45,d46⟩:=Xu d43;have d42:=Xw d42;exact Jc ((ef d0 rfl).1 hg)) (gT (Ty.grd (((((((decide ((65:Int) ≤ c)) && (decide (c ≤ (90:Int)))) || ((decide ((97:Int) ≤ c)) && (decide (c ≤ (122:Int))))) || ((decide ((48:Int) ≤ c)) && (decide (c ≤ (57:Int))))) || (decide (c = (32:Int)))) = false)∧((decide ((192:Int) ≤ c)) && (decide (c ≤ (382:Int)))) = true) (Ty.val (Value.int .i32 c))) rfl (by intro A B E G H d0;refine Qp G rfl rfl dE (eI d0) (fun hg=>?_);obtain ⟨d47,d48⟩:=Xv hg.2;have d47:=Xx d47;have d48:=Xx d48;exact Jc (kp (H 0 rfl) E q1)) ?_))
 refine gT (Ty.grd (((((((decide ((65:Int) ≤ c)) && (decide (c ≤ (90:Int)))) || ((decide ((97:Int) ≤ c)) && (decide (c ≤ (122:Int))))) || ((decide ((48:Int) ≤ c)) && (decide (c ≤ (57:Int))))) || (decide (c = (32:Int)))) = false)∧((decide ((192:Int) ≤ c)) && (decide (c ≤ (382:Int)))) = true) (Ty.bool (decide (c ≠ (215:Int))))) rfl (by intro A B E G H d0 d1;refine Qp G rfl rfl dE (eI d1) (fun hg=>?_);obtain ⟨d49,d50⟩:=Xv hg.2;have d49:=Xx d49;have d50:=Xx d50;exact Qx ((ef d0 rfl).1 hg) rfl) (gT (Ty.grd ((((((decide ((65:Int) ≤ c)) && (decide (c ≤ (90:Int)))) || ((decide ((97:Int) ≤ c)) && (decide (c ≤ (122:Int))))) || ((decide ((48:Int) ≤ c)) && (decide (c ≤ (57:Int))))) || (decide (c = (32:Int)))) = false) (Ty.bool (((decide ((192:Int) ≤ c)) && (decide (c ≤ (382:Int)))) && (decide (c ≠ (215:Int)))))) rfl (by intro A B E G H d0 d1 d2;refine Jd G rfl rfl dE (eI d2) (fun hg=>?_);obtain ⟨d51,d52⟩:=Xu hg;obtain ⟨d53,d54⟩:=Xu d51;obtain ⟨d55,d56⟩:=Xu d53;have d52:=Xw d52;exact Jr ((ef d0 rfl).1 hg) (KX hg (eI d1)) rfl) ?_)
 refine gT (Ty.grd ((((((decide ((65:Int) ≤ c)) && (decide (c ≤ (90:Int)))) || ((decide ((97:Int) ≤ c)) && (decide (c ≤ (122:Int))))) || ((decide ((48:Int) ≤ c)) && (decide (c ≤ (57:Int))))) || (decide (c = (32:Int)))) = false) (Ty.bool (((decide ((192:Int) ≤ c)) && (decide (c ≤ (382:Int)))) && (decide (c ≠ (215:Int)))))) rfl (by intro A B E G H d0 d1 d2;refine Jd G rfl rfl dE (eI d2) (fun hg=>?_);obtain ⟨d57,d58⟩:=Xu hg;obtain ⟨d59,d60⟩:=Xu d57;obtain ⟨d61,d62⟩:=Xu d59;have d58:=Xw d58;exact Jc ((ef d0 rfl).1 hg)) (gT (Ty.grd (((((((decide ((65:Int) ≤ c)) && (decide (c ≤ (90:Int)))) || ((decide ((97:Int) ≤ c)) && (decide (c ≤ (122:Int))))) || ((decide ((48:Int) ≤ c)) && (decide (c ≤ (57:Int))))) || (decide (c = (32:Int)))) = false)∧(((decide ((192:Int) ≤ c)) && (decide (c ≤ (382:Int)))) && (decide (c ≠ (215:Int)))) = true) (Ty.val (Value.int .i32 c))) rfl (by intro A B E G H d0;refine Qp G rfl rfl dE (eI d0) (fun hg=>?_);obtain ⟨d63,d64⟩:=Xv hg.2;obtain ⟨d65,d66⟩:=Xv d63;have d65:=Xx d65;have d66:=Xx d66;have d64:=Xx d64;exact Jc (kp (H 0 rfl) E q1)) ?_)
 refine gT (Ty.grd (((((((decide ((65:Int) ≤ c)) && (decide (c ≤ (90:Int)))) || ((decide ((97:Int) ≤ c)) && (decide (c ≤ (122:Int))))) || ((decide ((48:Int) ≤ c)) && (decide (c ≤ (57:Int))))) || (decide (c = (32:Int)))) = false)∧(((decide ((192:Int) ≤ c)) && (decide (c ≤ (382:Int)))) && (decide (c ≠ (215:Int)))) = true) (Ty.bool (decide (c ≠ (247:Int))))) rfl (by intro A B E G H d0 d1;refine Qp G rfl rfl dE (eI d1) (fun hg=>?_);obtain ⟨d67,d68⟩:=Xv hg.2;obtain ⟨d69,d70⟩:=Xv d67;have d69:=Xx d69;have d70:=Xx d70;have d68:=Xx d68;exact Qx ((ef d0 rfl).1 hg) rfl) (gT (Ty.grd ((((((decide ((65:Int) ≤ c)) && (decide (c ≤ (90:Int)))) || ((decide ((97:Int) ≤ c)) && (decide (c ≤ (122:Int))))) || ((decide ((48:Int) ≤ c)) && (decide (c ≤ (57:Int))))) || (decide (c = (32:Int)))) = false) (Ty.bool ((((decide ((192:Int) ≤ c)) && (decide (c ≤ (382:Int)))) && (decide (c ≠ (215:Int)))) && (decide (c ≠ (247:Int)))))) rfl (by intro A B E G H d0 d1 d2;refine Jd G rfl rfl dE (eI d2) (fun hg=>?_);obtain ⟨d71,d72⟩:=Xu hg;obtain ⟨d73,d74⟩:=Xu d71;obtain ⟨d75,d76⟩:=Xu d73;have d72:=Xw d72;exact Jr ((ef d0 rfl).1 hg) (KX hg (eI d1)) rfl) (gS rfl (fun A B E G H d0 d1=>rP (Jk (eI d0) rfl (eI d1))) (gB 0 (gE ok1 fun a2 s2 ok2 D2=>?_))));refine tn (Ji ?_)
 exact QD rfl ok2 ((F0.step0 D1.stp).step0 D2.stp) (cvb (by (rfl)) (D2.m 42 rfl))
set_option maxRecDepth 100000 in
theorem mName_fn (s:ByteArray) (σ:GW) (v0:Value) (hv0:Ty.has (Ty.val (Value.string s)) σ v0) (E:s.size ≤ 1099511627776) :
    FnC J 87 #[v0] σ (Ty.bool (nameL s)):=by
 refine Kt Try.func87 rfl Try.ntmps87 (Xy rfl) (fun s0 a0 hle F0 ok0 hargs=>?_)
 have p0:=pA hle (hargs 0 _ rfl) hv0
 clear hargs;refine Ja ?_
 refine gI a0 s0 ok0 (gC (Ty.bool false) (gE ok0 fun a1 s1 ok1 D1=>?_));refine tn (Ja ?_)
 refine gI a1 s1 ok1 (gC (Ty.int (0:Int)) (gE ok1 fun a2 s2 ok2 D2=>?_));have q2:=D2.k (D1.k p0);refine tn (Ja (Ja ?_))
 refine gI a2 s2 ok2 (gM q2 (gR (Pr.iter 7 s 0) rfl (by intro A B E G H d0;exact rP (y_range 7 Try.underlying9 (eI d0))) (gE ok2 fun a3 s3 ok3 D3=>?_)))
 have q6:(Pr.iter 7 s 0).has s3 (a3.eval (.tmp 7)):=D3.done 1
 refine tn (Je ?_)
 refine JY (fun n1 a4 w1=>∃ (t1:GW) (xs:List Nat) (p:Nat) (f:Nat),t1.w = w1∧From s0 t1∧Ok 35 [] a4∧(Pr.iter 7 s p).has t1 (a4.eval (.tmp 7))∧At (Ty.nat xs.length) t1 a4 (.tmp 3)∧At (Ty.val (Value.string s)) t1 a4 (.tmp 0)∧(∀ c ∈ xs,Qa ((c:Nat):Int) = true)∧(xs ++ runesF s f p = runesL s)∧(s.size ≤ f + p)∧(p ≤ s.size + 4)∧(xs.length ≤ p)∧(xs.length = 0 ∨ 0 < s.size)∧n1 = s.size + 8 - p) (s.size + 8 - (0)) ?_ ?_
 ·
  exact ⟨s3,([]:List Nat),0,s.size,rfl,(((F0.step0 D1.stp).step0 D2.stp).step0 D3.stp),ok3,(cvit oM q6),(cJ (D3.k (D2.m 0 rfl))),(D3.k q2),fun c hc=>by simp at hc,rfl,by omega,by omega,by simp,.inl rfl,rfl⟩
 ·
  rintro n2 a5 w2 ⟨t2,xs,p,f,rfl,F4,ok4,q7,q8,q9,hall,heq,hf,hp,hx,hz,rfl⟩
  have hw:=wid_pos s p
  have hw2:=wid_le s p
  refine Ja ?_
  refine gI a5 t2 ok4 (gE2 ok4 fun a6 s4 ok5 D4=>?_);have q10:=(Pr.iter 7 s p).up D4.stp q7
  have q11:a6.eval (.tmp 7) = a5.eval (.tmp 7):=D4.same 7 rfl
  refine Ka (m:=7) (R:=(fun v τ=>(Ty.nxt (decide (p < s.size)) p (run1 s p)).has τ v∧Iter τ 7 (a5.eval (.tmp 7)) s (stepTo s p))) rfl rfl dE ok5 (m_next dE q10 q11) (fun a7 s5 hs1 ok6 r1 sm1=>?_)
  have F6:=(F4.step0 D4.stp).step hs1 dE
  have q14:(Pr.iter 7 s (stepTo s p)).has s5 (a5.eval (.tmp 7)):=(r1).2
  have q15:=(sm1 7 dE).trans q11
  have q16:At (Ty.nat xs.length) s5 a7 (.tmp 3):=kpm hs1 dE (sm1 3 dE) (D4.k q8)
  have q17:At (Ty.val (Value.string s)) s5 a7 (.tmp 0):=kpm hs1 dE (sm1 0 dE) (D4.k q9)
  have q18:At (Ty.nxt (decide (p < s.size)) p (run1 s p)) s5 a7 (.tmp 8):=(r1).1
  refine Ka (m:=0) (R:=(fun v τ=>Pr.has (Ty.pr (Ty.bool (decide (p < s.size)))) τ v)) rfl rfl dE ok6 (Yld.toM (y_ext_n0 q18)) (fun a8 s6 hs2 ok7 r2 sm2=>?_)
  have F7:=F6.step hs2 dE;have q19:=Iter.keep q14 hs2 dE (.inl rfl);have q20:=(sm2 7 dE).trans q15
  have q21:At (Ty.nat xs.length) s6 a8 (.tmp 3):=kpm hs2 dE (sm2 3 dE) q16
  have q22:At (Ty.val (Value.string s)) s6 a8 (.tmp 0):=kpm hs2 dE (sm2 0 dE) q17
  have q23:At (Ty.nxt (decide (p < s.size)) p (run1 s p)) s6 a8 (.tmp 8):=kpm hs2 dE (sm2 8 dE) q18
  have q24:At (Ty.bool (decide (p < s.size))) s6 a8 (.tmp 9):=r2
  refine Jg ?_
  have q25:(Pr.iter 7 s (stepTo s p)).has s6 (a8.eval (.tmp 7)):=al q20 q19
  refine tn (Ja ?_)
  refine Jl (p:=(p < s.size)) q24 (fun c1=>?_) (fun c1=>?_)
  ·
   refine Jf (tn (Je (Ja ?_)))
   refine gI a8 s6 ok7 (gT (Ty.val (Value.int .i32 ((run1 s p:Nat):Int))) rfl (fun A B E G H=>rP (y_ext_n2 (kp (H 8 rfl) E q23) (decide_eq_true oM))) (gB 0 (gE ok7 fun a9 s7 ok8 D5=>?_)))
   have q26:(Pr.iter 7 s (stepTo s p)).has s7 (a9.eval (.tmp 7)):=D5.ko q25 rfl
   refine tn (Ja (Ja ?_))
   refine gI a9 s7 ok8 (gM (D5.m 1 rfl) (gS rfl (fun A B E G H d0=>rP (JB _ Try.func90 rfl rfl my1 (letter_fn (((run1 s p:Nat):Int)) _ _ (eI d0) ))) (gS rfl (fun A B E G H d0=>rP (y_not (eI d0))) (gE ok8 fun a10 s8 ok9 D6=>?_))));have F9:=(F7.step0 D5.stp).step0 D6.stp
   have q30:(Pr.iter 7 s (stepTo s p)).has s8 (a10.eval (.tmp 7)):=D6.ko q26 rfl
   refine tn ?_
   refine JU (D6.m 2 rfl) (fun c2=>?_) (fun c2=>?_)
   ·
    have hlet:Qa (run1 s p:Nat) = false:=(by simpa using c2)
    refine Ja ?_
    refine gI a10 s8 ok9 (gC (Ty.bool false) (gE ok9 fun a11 s9 ok10 D7=>?_));refine tn (Ji (tr (br (tr (br (tr ?_))))))
    exact QD rfl ok10 (F9.step0 D7.stp) (cvb (by (exact (nameL_no heq oM oM hlet).symm)) (D7.m 0 rfl))
   ·
    have hlet:Qa (run1 s p:Nat) = true:=(by simpa using c2)
    refine Jf (tn ?_)
    refine gI a10 s8 ok9 (gM (D6.k (D5.k q21)) (gT (Ty.int (((xs.length:Nat):Int) + (1:Int))) rfl (fun A B E G H d0=>rP (JA (eI d0) rfl wX)) (gB 0 (gE ok9 fun a12 s10 ok11 D8=>?_))))
    have q35:(Pr.iter 7 s (stepTo s p)).has s10 (a12.eval (.tmp 7)):=D8.ko q30 rfl
    refine bn ?_
    exact tn ⟨s.size + 8 - ((p + wid s p)),by omega,s10,(xs ++ [run1 s p]),(p + wid s p),(f - 1),rfl,(F9.step0 D8.stp),ok11,(cvit (by unfold stepTo;rw [if_pos oM]) q35),(cvi (by (simp)) (D8.m 2 rfl)),(D8.k (D6.k (D5.k q22))),fun c hc=>by (rcases List.mem_append.1 hc with h | h;exact hall c h;simp at h;subst h;exact hlet),runesF_step heq oM oM,by omega,by omega,by simp;omega,.inr oM,rfl⟩
  ·
   refine Jv (tx (tx (bx (tn (Ja ?_)))))
   refine gI a8 s6 ok7 (gM q21 (gS rfl (fun A B E G H d0=>rP (QB (eI d0) rfl)) (gS rfl (fun A B E G H d0=>rP (Jc (eI d0))) (gS rfl (fun A B E G H d0=>gu G (eI d0) fun hg=>Jc (kp (H 3 rfl) E q21)) (gS rfl (fun A B E G H d0 d1=>gu G (eI d1) fun hg=>y_leq ((ef d0 rfl).1 hg) rfl) (gS rfl (fun A B E G H d0 d1=>rP (Jr (eI d0) (eI d1) rfl)) (gS rfl (fun A B E G H d0 d1=>rP (Jc (eI d0))) (gT (Ty.grd (((decide ((1:Int) ≤ ((xs.length:Nat):Int))) && (decide (((xs.length:Nat):Int) ≤ (20:Int)))) = true) (Ty.val (Value.string s))) rfl (by intro A B E G H d0;refine Jd G rfl rfl dE (eI d0) (fun hg=>?_);obtain ⟨d1,d2⟩:=Xv hg;have d1:=Xx d1;have d2:=Xx d2;exact Jc (kp (H 0 rfl) E q22)) (gT (Ty.grd (((decide ((1:Int) ≤ ((xs.length:Nat):Int))) && (decide (((xs.length:Nat):Int) ≤ (20:Int)))) = true) (Ty.val (Value.int .u8 (((s.get! ((0:Int)).toNat).toNat:Nat):Int)))) rfl (by intro A B E G H d0 d1;refine Jd G rfl rfl dE (eI d1) (fun hg=>?_);obtain ⟨d3,d4⟩:=Xv hg;have d3:=Xx d3;have d4:=Xx d4;exact y_sindex Try.underlying9 ((ef d0 rfl).1 hg) rfl oM oM) (gT (Ty.grd (((decide ((1:Int) ≤ ((xs.length:Nat):Int))) && (decide (((xs.length:Nat):Int) ≤ (20:Int)))) = true) (Ty.bool (decide ((((s.get! ((0:Int)).toNat).toNat:Nat):Int) ≠ (32:Int))))) rfl (by intro A B E G H d0 d1;refine Jd G rfl rfl dE (eI d1) (fun hg=>?_);obtain ⟨d5,d6⟩:=Xv hg;have d5:=Xx d5;have d6:=Xx d6;exact Qx ((ef d0 rfl).1 hg) rfl) ?_))))))))))
   refine gS rfl (fun A B E G H d0 d1=>rP (Jr (eI d0) (eI d1) rfl)) (gS rfl (fun A B E G H d0 d1=>rP (Jc (eI d0))) (gT (Ty.grd ((((decide ((1:Int) ≤ ((xs.length:Nat):Int))) && (decide (((xs.length:Nat):Int) ≤ (20:Int)))) && (decide ((((s.get! ((0:Int)).toNat).toNat:Nat):Int) ≠ (32:Int)))) = true) (Ty.val (Value.string s))) rfl (by intro A B E G H d0;refine Jd G rfl rfl dE (eI d0) (fun hg=>?_);obtain ⟨d7,d8⟩:=Xv hg;obtain ⟨d9,d10⟩:=Xv d7;have d9:=Xx d9;have d10:=Xx d10;have d8:=Xx d8;exact Jc (kp (H 0 rfl) E q22)) (gT (Ty.grd ((((decide ((1:Int) ≤ ((xs.length:Nat):Int))) && (decide (((xs.length:Nat):Int) ≤ (20:Int)))) && (decide ((((s.get! ((0:Int)).toNat).toNat:Nat):Int) ≠ (32:Int)))) = true) (Ty.val (Value.string s))) rfl (by intro A B E G H d0;refine Jd G rfl rfl dE (eI d0) (fun hg=>?_);obtain ⟨d11,d12⟩:=Xv hg;obtain ⟨d13,d14⟩:=Xv d11;have d13:=Xx d13;have d14:=Xx d14;have d12:=Xx d12;exact Jc (kp (H 0 rfl) E q22)) (gT (Ty.grd ((((decide ((1:Int) ≤ ((xs.length:Nat):Int))) && (decide (((xs.length:Nat):Int) ≤ (20:Int)))) && (decide ((((s.get! ((0:Int)).toNat).toNat:Nat):Int) ≠ (32:Int)))) = true) (Ty.nat (ByteArray.size s))) rfl (by intro A B E G H d0 d1;refine Jd G rfl rfl dE (eI d1) (fun hg=>?_);obtain ⟨d15,d16⟩:=Xv hg;obtain ⟨d17,d18⟩:=Xv d15;have d17:=Xx d17;have d18:=Xx d18;have d16:=Xx d16;exact y_len_str Try.underlying9 ((ef d0 rfl).1 hg)) ?_))))
   refine gT (Ty.grd ((((decide ((1:Int) ≤ ((xs.length:Nat):Int))) && (decide (((xs.length:Nat):Int) ≤ (20:Int)))) && (decide ((((s.get! ((0:Int)).toNat).toNat:Nat):Int) ≠ (32:Int)))) = true) (Ty.int ((((ByteArray.size s):Nat):Int) - (1:Int)))) rfl (by intro A B E G H d0 d1;refine Jd G rfl rfl dE (eI d1) (fun hg=>?_);obtain ⟨d19,d20⟩:=Xv hg;obtain ⟨d21,d22⟩:=Xv d19;have d21:=Xx d21;have d22:=Xx d22;have d20:=Xx d20;exact Xn ((ef d0 rfl).1 hg) rfl wX) (gT (Ty.grd ((((decide ((1:Int) ≤ ((xs.length:Nat):Int))) && (decide (((xs.length:Nat):Int) ≤ (20:Int)))) && (decide ((((s.get! ((0:Int)).toNat).toNat:Nat):Int) ≠ (32:Int)))) = true) (Ty.val (Value.int .u8 (((s.get! (((((ByteArray.size s):Nat):Int) - (1:Int))).toNat).toNat:Nat):Int)))) rfl (by intro A B E G H d0 d1 d2;refine Jd G rfl rfl dE (eI d2) (fun hg=>?_);obtain ⟨d23,d24⟩:=Xv hg;obtain ⟨d25,d26⟩:=Xv d23;have d25:=Xx d25;have d26:=Xx d26;have d24:=Xx d24;exact y_sindex Try.underlying9 ((ef d0 rfl).1 hg) ((ef d1 rfl).1 hg) oM oM) ?_)
   refine gT (Ty.grd ((((decide ((1:Int) ≤ ((xs.length:Nat):Int))) && (decide (((xs.length:Nat):Int) ≤ (20:Int)))) && (decide ((((s.get! ((0:Int)).toNat).toNat:Nat):Int) ≠ (32:Int)))) = true) (Ty.bool (decide ((((s.get! (((((ByteArray.size s):Nat):Int) - (1:Int))).toNat).toNat:Nat):Int) ≠ (32:Int))))) rfl (by intro A B E G H d0 d1;refine Jd G rfl rfl dE (eI d1) (fun hg=>?_);obtain ⟨d27,d28⟩:=Xv hg;obtain ⟨d29,d30⟩:=Xv d27;have d29:=Xx d29;have d30:=Xx d30;have d28:=Xx d28;exact Qx ((ef d0 rfl).1 hg) rfl) (gS rfl (fun A B E G H d0 d1=>rP (Jr (eI d0) (eI d1) rfl)) (gB 0 (gE ok7 fun a13 s11 ok12 D9=>?_)));refine tn (Ji ?_)
   exact QD rfl ok12 (F7.step0 D9.stp) (cvb (by (rw [runesF_end oM,List.append_nil] at heq;rw [nameL_all (by rw [← heq];exact hall),heq];simp)) (D9.m 19 rfl))
set_option maxRecDepth 100000 in
theorem pCheck_fn (n:Int) (l:List Int) (σ:GW) (v0 v1:Value) (hv0:Ty.has (Ty.int n) σ v0) (hv1:Ty.has (Ty.lst Ty.int l) σ v1) (hn:-9223372036854775808 ≤ n∧n ≤ 9223372036854775807) :
    FnC J 77 #[v0,v1] σ (Ty.int (Qh n l)):=by
 refine Kt Try.func77 rfl Try.ntmps77 (Xy rfl) (fun s0 a0 hle F0 ok0 hargs=>?_)
 have p0:=pA hle (hargs 0 _ rfl) hv0
 have p1:=pA hle (hargs 1 _ rfl) hv1
 have b1:=JI p1
 clear hargs;refine Ja ?_
 refine gI a0 s0 ok0 (gC (Ty.int (0:Int)) (gE ok0 fun a1 s1 ok1 D1=>?_));have q1:=D1.k p0;refine tn (Ja (Ja ?_))
 refine gI a1 s1 ok1 (gM q1 (gS rfl (fun A B E G H d0=>rP (Jx (eI d0) rfl)) (gS rfl (fun A B E G H d0=>rP (Jc (eI d0))) (gS rfl (fun A B E G H d0=>gu G (eI d0) fun hg=>Jc (kp (H 0 rfl) E q1)) (gS rfl (fun A B E G H d0 d1=>gu G (eI d1) fun hg=>KJ ((ef d0 rfl).1 hg) rfl) (gS rfl (fun A B E G H d0 d1=>rP (Jk (eI d0) rfl (eI d1))) (gE ok1 fun a2 s2 ok2 D2=>?_)))))));have F2:=(F0.step0 D1.stp).step0 D2.stp;refine tn ?_
 refine JU (D2.m 5 rfl) (fun c1=>?_) (fun c1=>?_)
 ·
  simp only [Bool.or_eq_true,decide_eq_true_eq] at c1
  refine Ja ?_
  refine gI a2 s2 ok2 (gC (Ty.int (1:Int)) (gE ok2 fun a3 s3 ok3 D3=>?_));refine tn (Ji (tr ?_))
  exact QD rfl ok3 (F2.step0 D3.stp) (cvi (by (exact (chgMay_cnt oM).symm)) (D3.m 0 rfl))
 ·
  obtain ⟨d1,d2⟩:=Xu c1
  replace d1:=Xw d1
  replace d2:=Xw d2
  refine Jf (tn (Ja ?_))
  refine gI a2 s2 ok2 (gC (Ty.int (0:Int)) (gE ok2 fun a4 s4 ok4 D4=>?_));refine tn (Ja (Ja ?_))
  refine gI a4 s4 ok4 (gM (D4.k (D2.k (D1.k p1))) (gS rfl (fun A B E G H d0=>rP (Jt Try.underlying26 (eI d0))) (gT (Ty.int (0:Int)) rfl (fun A B E G H=>rP (Jc rfl)) (gE ok4 fun a5 s5 ok5 D5=>?_))));refine tn (Je ?_)
  refine JY (fun n1 a6 w1=>∃ (t1:GW) (k:Nat) (z:Int),t1.w = w1∧From s0 t1∧Ok 42 [] a6∧At (Ty.nat k) t1 a6 (.tmp 16)∧At (Ty.int z) t1 a6 (.tmp 5)∧At (Ty.int n) t1 a6 (.tmp 0)∧At (Ty.lst Ty.int l) t1 a6 (.tmp 14)∧At (Ty.nat (List.length l)) t1 a6 (.tmp 15)∧(k ≤ l.length)∧(QQ n l k = some z)∧(0 ≤ z∧z ≤ n)∧n1 = l.length - k) (l.length - (0)) ?_ ?_
  ·
   exact ⟨s5,0,0,rfl,((F2.step0 D4.stp).step0 D5.stp),ok5,(cJ (D5.m 2 rfl)),(cJ (D5.k (D4.m 0 rfl))),(D5.k (D4.k (D2.k q1))),(D5.m 0 rfl),(D5.m 1 rfl),by omega,rfl,by omega,rfl⟩
  ·
   rintro n2 a7 w2 ⟨t2,k,z,rfl,F6,ok6,q15,q16,q17,q18,q19,hk,E,hz,rfl⟩
   refine Ja ?_
   refine gI a7 t2 ok6 (gS rfl (fun A B E G H=>rP (Jx (kp (H 16 rfl) E q15) (kp (H 15 rfl) E q19))) (gE ok6 fun a8 s6 ok7 D6=>?_));have F7:=F6.step0 D6.stp;have q20:=D6.k q15;have q21:=D6.k q16;have q22:=D6.k q17;have q23:=D6.k q18;refine tn (Ja ?_)
   refine Jl (p:=(((k:Nat):Int) < (((List.length l):Nat):Int))) (D6.m 0 rfl) (fun c2=>?_) (fun c2=>?_)
   ·
    refine Jf (tn (Ja (Je (Ja ?_))))
    refine gI a8 s6 ok7 (gT (Ty.ref [(Ty.int (l.getD k 0))]) rfl (fun A B E G H=>rP (Jy Try.underlying26 Try.inf3 (kp (H 14 rfl) E q23) (kp (H 16 rfl) E q20) oM (Jw Ty.int l 0 k oM))) (gS rfl (fun A B E G H d0=>rP (Jo Try.underlying3 rfl (eI d0) rfl)) (gB 0 (gE ok7 fun a9 s7 ok8 D7=>?_))));have q27:=D7.k q21;have q28:=D7.k q22;have q31:=D7.m 2 rfl;refine tn (Ja (Ja ?_))
    refine gI a9 s7 ok8 (gM q31 (gM q27 (gS rfl (fun A B E G H d0 d1=>rP (y_leq (eI d0) (eI d1))) (gS rfl (fun A B E G H d0=>rP (Jc (eI d0))) (gS rfl (fun A B E G H d0=>gu G (eI d0) fun hg=>Jc (kp (H 7 rfl) E q31)) (gS rfl (fun A B E G H d0=>gu G (eI d0) fun hg=>Jc (kp (H 0 rfl) E q28)) (gS rfl (fun A B E G H d0 d1 d2=>gu G (eI d2) fun hg=>KJ ((ef d0 rfl).1 hg) ((ef d1 rfl).1 hg)) (gS rfl (fun A B E G H d0 d1=>rP (Jk (eI d0) rfl (eI d1))) (gS rfl (fun A B E G H d0 d1=>rP (Jc (eI d0))) (gT (Ty.grd (((decide ((l.getD k 0) ≤ z)) || (decide (n < (l.getD k 0)))) = false) (Ty.int (l.getD k 0))) rfl (by intro A B E G H d0;refine Jd G rfl rfl dE (eI d0) (fun hg=>?_);obtain ⟨d3,d4⟩:=Xu hg;have d3:=Xw d3;have d4:=Xw d4;exact Jc (kp (H 7 rfl) E q31)) (gT (Ty.grd (((decide ((l.getD k 0) ≤ z)) || (decide (n < (l.getD k 0)))) = false) (Ty.int z)) rfl (by intro A B E G H d0;refine Jd G rfl rfl dE (eI d0) (fun hg=>?_);obtain ⟨d5,d6⟩:=Xu hg;have d5:=Xw d5;have d6:=Xw d6;exact Jc (kp (H 5 rfl) E q27)) (gT (Ty.grd (((decide ((l.getD k 0) ≤ z)) || (decide (n < (l.getD k 0)))) = false) (Ty.int ((l.getD k 0) - z))) rfl (by intro A B E G H d0 d1 d2;refine Jd G rfl rfl dE (eI d2) (fun hg=>?_);obtain ⟨d7,d8⟩:=Xu hg;have d7:=Xw d7;have d8:=Xw d8;exact Xn ((ef d0 rfl).1 hg) ((ef d1 rfl).1 hg) wX) ?_))))))))))))
    refine gT (Ty.grd (((decide ((l.getD k 0) ≤ z)) || (decide (n < (l.getD k 0)))) = false) (Ty.nat ((((l.getD k 0) - z)).toNat % 2))) rfl (by intro A B E G H d0 d1;refine Jd G rfl rfl dE (eI d1) (fun hg=>?_);obtain ⟨d9,d10⟩:=Xu hg;have d9:=Xw d9;have d10:=Xw d10;exact y_remN (toN (σ:=B) ((ef d0 rfl).1 hg) oM) (toN (σ:=B) rfl oM) oM) (gT (Ty.grd (((decide ((l.getD k 0) ≤ z)) || (decide (n < (l.getD k 0)))) = false) (Ty.bool (decide (((((((l.getD k 0) - z)).toNat % 2):Nat):Int) = (0:Int))))) rfl (by intro A B E G H d0 d1;refine Jd G rfl rfl dE (eI d1) (fun hg=>?_);obtain ⟨d11,d12⟩:=Xu hg;have d11:=Xw d11;have d12:=Xw d12;exact Qc ((ef d0 rfl).1 hg) rfl) (gS rfl (fun A B E G H d0 d1=>rP (Jk (eI d0) rfl (eI d1))) (gE ok8 fun a10 s8 ok9 D8=>?_)));have F9:=(F7.step0 D7.stp).step0 D8.stp;refine tn ?_
    refine JU (D8.m 14 rfl) (fun c3=>?_) (fun c3=>?_)
    ·
     simp only [Bool.or_eq_true,decide_eq_true_eq] at c3
     refine Ja ?_
     refine gI a10 s8 ok9 (gC (Ty.int (6:Int)) (gE ok9 fun a11 s9 ok10 D9=>?_));refine tn (Ji (tr (br (tr (tr (br (tr ?_)))))))
     exact QD rfl ok10 (F9.step0 D9.stp) (cvi (by (exact (chgMay_scan oM E oM oM).symm)) (D9.m 0 rfl))
    ·
     obtain ⟨d13,d14⟩:=Xu c3
     obtain ⟨d15,d16⟩:=Xu d13
     replace d15:=Xw d15
     replace d16:=Xw d16
     replace d14:=Xw d14
     refine Jf (tn ?_)
     refine gI a10 s8 ok9 (gM (D8.k q31) (gB 0 (gE ok9 fun a12 s10 ok11 D10=>?_)));refine bn (tn ?_)
     refine gI a12 s10 ok11 (gT (Ty.int (((k:Nat):Int) + (1:Int))) rfl (fun A B E G H=>rP (JA (kp (H 16 rfl) E (D10.k (D8.k (D7.k q20)))) rfl wX)) (gS rfl (fun A B E G H d0=>rP (Jc (eI d0))) (gE ok11 fun a13 s11 ok12 D11=>?_)))
     have d1_:=(Xw (Bool.or_eq_false_iff.1 c3).2)
     have d2_:=Xw (Bool.or_eq_false_iff.1 (Bool.or_eq_false_iff.1 c3).1).1
     have d3_:=Xw (Bool.or_eq_false_iff.1 (Bool.or_eq_false_iff.1 c3).1).2
     exact tn ⟨l.length - ((k+1)),by omega,s11,(k+1),(l.getD k 0),rfl,((F9.step0 D10.stp).step0 D11.stp),ok12,(cJ (D11.m 1 rfl)),(cJ (D11.k (D10.m 1 rfl))),(D11.k (D10.k (D8.k q28))),(D11.k (D10.k (D8.k (D7.k q23)))),(D11.k (D10.k (D8.k (D7.k (D6.k q19))))),by omega,scan_step E oM oM oM d1_,by omega,rfl⟩
   ·
    have hk2:k = l.length:=oM
    refine Jv (tx (tx (bx (tn (Ja (Ja ?_))))))
    refine gI a8 s6 ok7 (gM q22 (gM q21 (gT (Ty.int (n - z)) rfl (fun A B E G H d0 d1=>rP (Xn (eI d0) (eI d1) wX)) (gT (Ty.nat (((n - z)).toNat % 2)) rfl (fun A B E G H d0=>rP (y_remN (toN (σ:=B) (eI d0) oM) (toN (σ:=B) rfl oM) oM)) (gS rfl (fun A B E G H d0=>rP (Qc (eI d0) rfl)) (gE ok7 fun a14 s12 ok13 D12=>?_))))));have F13:=F7.step0 D12.stp;refine tn ?_
    refine Jl (p:=((((((n - z)).toNat % 2):Nat):Int) = (1:Int))) (D12.m 4 rfl) (fun c4=>?_) (fun c4=>?_)
    ·
     refine Ja ?_
     refine gI a14 s12 ok13 (gC (Ty.int (6:Int)) (gE ok13 fun a15 s13 ok14 D13=>?_));refine tn (Ji (tr ?_))
     exact QD rfl ok14 (F13.step0 D13.stp) (cvi (by (exact (chgMay_odd oM (by rw [← hk2];exact E) oM).symm)) (D13.m 0 rfl))
    ·
     refine Jf (tn (Ja ?_))
     refine gI a14 s12 ok13 (gC (Ty.int (0:Int)) (gE ok13 fun a16 s14 ok15 D14=>?_));refine tn (Ji ?_)
     exact QD rfl ok15 (F13.step0 D14.stp) (cvi (by (exact (chgMay_ok oM (by rw [← hk2];exact E) oM).symm)) (D14.m 0 rfl))
set_option maxRecDepth 100000 in
theorem mCheck_fn (nm:ByteArray) (n:Int) (l:List (List Int)) (σ:GW) (v0:Value) (hv0:Ty.has (Ty.agg [(Ty.val (Value.string nm)),(Ty.int n),(Ty.lst Ty.ints l)]) σ v0) (hnm:nm.size ≤ 1099511627776) (hn:-9223372036854775808 ≤ n∧n ≤ 9223372036854775807) :
    FnC J 73 #[v0] σ (Ty.int (KP nm n l)):=by
 refine Kt Try.func73 rfl Try.ntmps73 (Xy rfl) (fun s0 a0 hle F0 ok0 hargs=>?_)
 have p0:=pA hle (hargs 0 _ rfl) hv0
 clear hargs;refine Ja ?_
 refine gI a0 s0 ok0 (gS rfl (fun A B E G H=>rP (QC (kp (H 0 rfl) E p0))) (gC (Ty.int (0:Int)) (gE ok0 fun a1 s1 ok1 D1=>?_)));have q1:=D1.m 0 rfl;refine tn (Ja (Je (Ja ?_)))
 refine gI a1 s1 ok1 (gS rfl (fun A B E G H=>rP (JG Try.fld24_0 Try.inf9 dE (kp (H 1 rfl) E q1) rfl)) (gS rfl (fun A B E G H d0=>rP (Jo Try.underlying9 rfl (eI d0) rfl)) (gS rfl (fun A B E G H d0=>rP (JB _ Try.func87 rfl rfl my1 (mName_fn (nm) _ _ (eI d0) oX))) (gS rfl (fun A B E G H d0=>rP (y_not (eI d0))) (gB 0 (gE ok1 fun a2 s2 ok2 D2=>?_))))));have F2:=(F0.step0 D1.stp).step0 D2.stp;have q2:=D2.k q1;refine tn ?_
 refine JU (D2.m 4 rfl) (fun c1=>?_) (fun c1=>?_)
 ·
  have hnn:nameL nm = false:=(by simpa using c1)
  refine Ja ?_
  refine gI a2 s2 ok2 (gC (Ty.int (7:Int)) (gE ok2 fun a3 s3 ok3 D3=>?_));refine tn (Ji (br (tr ?_)))
  exact QD rfl ok3 (F2.step0 D3.stp) (cvi (by (unfold KP;rw [if_pos hnn])) (D3.m 0 rfl))
 ·
  have hnn:¬ nameL nm = false:=(by simpa using c1)
  refine Ja ?_
  refine gI a2 s2 ok2 (gS rfl (fun A B E G H=>rP (JG Try.fld24_1 Try.inf3 dE (kp (H 1 rfl) E q2) rfl)) (gS rfl (fun A B E G H d0=>rP (Jo Try.underlying3 rfl (eI d0) rfl)) (gS rfl (fun A B E G H d0=>rP (Jx (eI d0) rfl)) (gS rfl (fun A B E G H d0=>rP (Jc (eI d0))) (gS rfl (fun A B E G H d0=>guf G (eI d0) fun hg hp=>JG Try.fld24_1 Try.inf3 dE (kp (H 1 rfl) E q2) rfl) (gS rfl (fun A B E G H d0 d1=>gu G (eI d1) fun hg=>Jo Try.underlying3 rfl ((ef d0 rfl).1 hg) rfl) (gS rfl (fun A B E G H d0 d1=>gu G (eI d1) fun hg=>KJ ((ef d0 rfl).1 hg) rfl) (gS rfl (fun A B E G H d0 d1=>rP (Jk (eI d0) rfl (eI d1))) (gS rfl (fun A B E G H d0 d1=>rP (Jc (eI d0))) (gT (Ty.grd (((decide (n < (2:Int))) || (decide ((12:Int) < n))) = false) (Ty.ref [(Ty.lst Ty.ints l)])) rfl (by intro A B E G H d0;refine Jd G rfl rfl dE (eI d0) (fun hg=>?_);obtain ⟨d1,d2⟩:=Xu hg;have d1:=Xw d1;have d2:=Xw d2;exact JG Try.fld24_2 Try.inf22 dE (kp (H 1 rfl) E q2) rfl) (gT (Ty.grd (((decide (n < (2:Int))) || (decide ((12:Int) < n))) = false) (Ty.lst Ty.ints l)) rfl (by intro A B E G H d0 d1;refine Jd G rfl rfl dE (eI d1) (fun hg=>?_);obtain ⟨d3,d4⟩:=Xu hg;have d3:=Xw d3;have d4:=Xw d4;exact Jo Try.underlying22 rfl ((ef d0 rfl).1 hg) rfl) ?_)))))))))))
  refine gT (Ty.grd (((decide (n < (2:Int))) || (decide ((12:Int) < n))) = false) (Ty.nat (List.length l))) rfl (by intro A B E G H d0 d1;refine Jd G rfl rfl dE (eI d1) (fun hg=>?_);obtain ⟨d5,d6⟩:=Xu hg;have d5:=Xw d5;have d6:=Xw d6;exact Jt Try.underlying22 ((ef d0 rfl).1 hg)) (gT (Ty.grd (((decide (n < (2:Int))) || (decide ((12:Int) < n))) = false) (Ty.bool (decide ((((List.length l):Nat):Int) < (1:Int))))) rfl (by intro A B E G H d0 d1;refine Jd G rfl rfl dE (eI d1) (fun hg=>?_);obtain ⟨d7,d8⟩:=Xu hg;have d7:=Xw d7;have d8:=Xw d8;exact Jx ((ef d0 rfl).1 hg) rfl) (gS rfl (fun A B E G H d0 d1=>rP (Jk (eI d0) rfl (eI d1))) (gS rfl (fun A B E G H d0 d1=>rP (Jc (eI d0))) (gT (Ty.grd ((((decide (n < (2:Int))) || (decide ((12:Int) < n))) || (decide ((((List.length l):Nat):Int) < (1:Int)))) = false) (Ty.ref [(Ty.lst Ty.ints l)])) rfl (by intro A B E G H d0;refine Jd G rfl rfl dE (eI d0) (fun hg=>?_);obtain ⟨d9,d10⟩:=Xu hg;obtain ⟨d11,d12⟩:=Xu d9;have d11:=Xw d11;have d12:=Xw d12;have d10:=Xw d10;exact JG Try.fld24_2 Try.inf22 dE (kp (H 1 rfl) E q2) rfl) ?_))))
  refine gT (Ty.grd ((((decide (n < (2:Int))) || (decide ((12:Int) < n))) || (decide ((((List.length l):Nat):Int) < (1:Int)))) = false) (Ty.lst Ty.ints l)) rfl (by intro A B E G H d0 d1;refine Jd G rfl rfl dE (eI d1) (fun hg=>?_);obtain ⟨d13,d14⟩:=Xu hg;obtain ⟨d15,d16⟩:=Xu d13;have d15:=Xw d15;have d16:=Xw d16;have d14:=Xw d14;exact Jo Try.underlying22 rfl ((ef d0 rfl).1 hg) rfl) (gT (Ty.grd ((((decide (n < (2:Int))) || (decide ((12:Int) < n))) || (decide ((((List.length l):Nat):Int) < (1:Int)))) = false) (Ty.nat (List.length l))) rfl (by intro A B E G H d0 d1;refine Jd G rfl rfl dE (eI d1) (fun hg=>?_);obtain ⟨d17,d18⟩:=Xu hg;obtain ⟨d19,d20⟩:=Xu d17;have d19:=Xw d19;have d20:=Xw d20;have d18:=Xw d18;exact Jt Try.underlying22 ((ef d0 rfl).1 hg)) (gT (Ty.grd ((((decide (n < (2:Int))) || (decide ((12:Int) < n))) || (decide ((((List.length l):Nat):Int) < (1:Int)))) = false) (Ty.bool (decide ((200:Int) < (((List.length l):Nat):Int))))) rfl (by intro A B E G H d0 d1;refine Jd G rfl rfl dE (eI d1) (fun hg=>?_);obtain ⟨d21,d22⟩:=Xu hg;obtain ⟨d23,d24⟩:=Xu d21;have d23:=Xw d23;have d24:=Xw d24;have d22:=Xw d22;exact KJ ((ef d0 rfl).1 hg) rfl) (gS rfl (fun A B E G H d0 d1=>rP (Jk (eI d0) rfl (eI d1))) (gB 0 (gE ok2 fun a4 s4 ok4 D4=>?_)))));have F4:=F2.step0 D4.stp;have q5:=D4.k q2;refine tn ?_
  refine JU (D4.m 20 rfl) (fun c2=>?_) (fun c2=>?_)
  ·
   simp only [Bool.or_eq_true,decide_eq_true_eq] at c2;have h4:n < 2 ∨ 12 < n ∨ l.length < 1 ∨ 200 < l.length:=oM
   refine Ja ?_
   refine gI a4 s4 ok4 (gC (Ty.int (1:Int)) (gE ok4 fun a5 s5 ok5 D5=>?_));refine tn (Ji (br (tr ?_)))
   exact QD rfl ok5 (F4.step0 D5.stp) (cvi (by (unfold KP;rw [if_neg hnn,if_pos h4])) (D5.m 0 rfl))
  ·
   obtain ⟨d25,d26⟩:=Xu c2
   obtain ⟨d27,d28⟩:=Xu d25
   obtain ⟨d29,d30⟩:=Xu d27
   replace d29:=Xw d29
   replace d30:=Xw d30
   replace d28:=Xw d28
   replace d26:=Xw d26
   have h4:¬ (n < 2 ∨ 12 < n ∨ l.length < 1 ∨ 200 < l.length):=(by simp only [Bool.or_eq_false_iff,decide_eq_false_iff_not] at c2;omega);have hmm:KP nm n l = KV n l:=(by unfold KP;rw [if_neg hnn,if_neg h4])
   refine Jf (bn (tn (Ja (Ja ?_))))
   refine gI a4 s4 ok4 (gS rfl (fun A B E G H=>rP (JG Try.fld24_2 Try.inf22 dE (kp (H 1 rfl) E q5) rfl)) (gS rfl (fun A B E G H d0=>rP (Jo Try.underlying22 rfl (eI d0) rfl)) (gS rfl (fun A B E G H d0=>rP (Jt Try.underlying22 (eI d0))) (gT (Ty.int (0:Int)) rfl (fun A B E G H=>rP (Jc rfl)) (gE ok4 fun a6 s6 ok6 D6=>?_)))));have q9:=D6.m 1 rfl
   have b1:=JI q9
   refine tn (Je ?_)
   refine JY (fun n1 a7 w1=>∃ (t1:GW) (k:Nat),t1.w = w1∧From s0 t1∧Ok 47 [] a7∧At (Ty.nat k) t1 a7 (.tmp 35)∧At (Ty.ref [(Ty.val (Value.string nm)),(Ty.int n),(Ty.lst Ty.ints l)]) t1 a7 (.tmp 1)∧At (Ty.lst Ty.ints l) t1 a7 (.tmp 33)∧At (Ty.nat (List.length l)) t1 a7 (.tmp 34)∧(k ≤ l.length)∧(KV n (l.drop k) = KV n l)∧n1 = l.length - k) (l.length - (0)) ?_ ?_
   ·
    exact ⟨s6,0,rfl,(F4.step0 D6.stp),ok6,(cJ (D6.m 3 rfl)),(D6.k q5),q9,(D6.m 2 rfl),by omega,rfl,rfl⟩
   ·
    rintro n2 a8 w2 ⟨t2,k,rfl,F7,ok7,q12,q13,q14,q15,hk,ha,rfl⟩
    refine Ja ?_
    refine gI a8 t2 ok7 (gS rfl (fun A B E G H=>rP (Jx (kp (H 35 rfl) E q12) (kp (H 34 rfl) E q15))) (gE ok7 fun a9 s7 ok8 D7=>?_));have F8:=F7.step0 D7.stp;have q16:=D7.k q12;have q18:=D7.k q14;refine tn (Ja ?_)
    refine Jl (p:=(((k:Nat):Int) < (((List.length l):Nat):Int))) (D7.m 0 rfl) (fun c3=>?_) (fun c3=>?_)
    ·
     refine Jf (tn (Ja (Je (Ja ?_))))
     refine gI a9 s7 ok8 (gT (Ty.ref [(Ty.lst Ty.int (l.getD k []))]) rfl (fun A B E G H=>rP (Jy Try.underlying22 Try.inf26 (kp (H 33 rfl) E q18) (kp (H 35 rfl) E q16) oM (Jw Ty.ints l [] k oM))) (gS rfl (fun A B E G H d0=>rP (Jo Try.underlying26 rfl (eI d0) rfl)) (gB 0 (gE ok8 fun a10 s8 ok9 D8=>?_))));have q22:=D8.k (D7.k q13);refine tn (Ja ?_)
     refine gI a10 s8 ok9 (gS rfl (fun A B E G H=>rP (JG Try.fld24_1 Try.inf3 dE (kp (H 1 rfl) E q22) rfl)) (gS rfl (fun A B E G H d0=>rP (Jo Try.underlying3 rfl (eI d0) rfl)) (gM (D8.m 2 rfl) (gS rfl (fun A B E G H d0 d1=>rP (JB _ Try.func77 rfl rfl my2 (pCheck_fn (n) ((l.getD k [])) _ _ _ (eI d0) (eI d1) oM))) (gB 0 (gE ok9 fun a11 s9 ok10 D9=>?_))))));have q30:=D9.m 4 rfl;refine tn (Ja ?_)
     refine gI a11 s9 ok10 (gM q30 (gS rfl (fun A B E G H d0=>rP (Qx (eI d0) rfl)) (gE ok10 fun a12 s10 ok11 D10=>?_)));have F11:=((F8.step0 D8.stp).step0 D9.stp).step0 D10.stp;refine tn ?_
     refine Jl (p:=((Qh n ((l.getD k []))) ≠ (0:Int))) (D10.m 1 rfl) (fun c4=>?_) (fun c4=>?_)
     ·
      refine Ja ?_
      refine gI a12 s10 ok11 (gM (D10.k q30) (gB 0 (gE ok11 fun a13 s11 ok12 D11=>?_)));refine tn (Ji (br (tr (tr (br (tr ?_))))))
      exact QD rfl ok12 (F11.step0 D11.stp) (cvi (by (rw [hmm];exact (allMay_stop ha oM c4).symm)) (D11.m 1 rfl))
     ·
      refine Jf (bn (tn ?_))
      refine gI a12 s10 ok11 (gT (Ty.int (((k:Nat):Int) + (1:Int))) rfl (fun A B E G H=>rP (JA (kp (H 35 rfl) E (D10.k (D9.k (D8.k q16)))) rfl wX)) (gS rfl (fun A B E G H d0=>rP (Jc (eI d0))) (gE ok11 fun a14 s12 ok13 D12=>?_)))
      exact tn ⟨l.length - ((k+1)),by omega,s12,(k+1),rfl,(F11.step0 D12.stp),ok13,(cJ (D12.m 1 rfl)),(D12.k (D10.k (D9.k q22))),(D12.k (D10.k (D9.k (D8.k q18)))),(D12.k (D10.k (D9.k (D8.k (D7.k q15))))),by omega,allMay_step ha oM c4,rfl⟩
    ·
     refine Jv (tx (tx (bx (tn (Ja ?_)))))
     refine gI a9 s7 ok8 (gC (Ty.int (0:Int)) (gE ok8 fun a15 s13 ok14 D13=>?_));refine tn (Ji ?_)
     exact QD rfl ok14 (F8.step0 D13.stp) (cvi (by (rw [hmm];exact (allMay_end ha oM).symm)) (D13.m 0 rfl))
set_option maxHeartbeats 4000000 in
set_option maxRecDepth 100000 in
theorem callSign_fn (c:Int) (σ:GW)  (v0:Value) (hv0:Ty.has (Ty.val (Value.int .i32 c)) σ v0)   :
    FnC J 74 #[v0] σ (Ty.bool (QK c)):=by
 refine JR Try.func74 rfl Try.ntmps74 (Xy rfl) (fun s0 a0 hle F0 ok0 hargs=>?_)
 have p0:=pA hle (hargs 0 _ rfl) hv0
 clear hargs;refine Ja ?_
 refine gI a0 s0 ok0 (gC (Ty.bool false) (gE ok0 fun a1 s1 ok1 D1=>?_));have q1:=D1.k p0;refine tn (Ja ?_)
 refine gI a1 s1 ok1 (gM q1 (gS rfl (fun A B E G H d0=>rP (KJ (eI d0) rfl)) (gS rfl (fun A B E G H d0=>rP (Jc (eI d0))) (gS rfl (fun A B E G H d0=>gu G (eI d0) fun hg=>Jc (kp (H 0 rfl) E q1)) (gS rfl (fun A B E G H d0 d1=>gu G (eI d1) fun hg=>Jx ((ef d0 rfl).1 hg) rfl) (gS rfl (fun A B E G H d0 d1=>rP (Jr (eI d0) (eI d1) rfl)) (gS rfl (fun A B E G H d0 d1=>rP (Jc (eI d0))) (gT (Ty.grd (((decide ((32:Int) < c)) && (decide (c < (12288:Int)))) = true) (Ty.val (Value.int .i32 c))) rfl (by intro A B E G H d0;refine Jd G rfl rfl dE (eI d0) (fun hg=>?_);obtain ⟨d1,d2⟩:=Xv hg;have d1:=Xx d1;have d2:=Xx d2;exact Jc (kp (H 0 rfl) E q1)) (gT (Ty.grd (((decide ((32:Int) < c)) && (decide (c < (12288:Int)))) = true) (Ty.bool (decide (c ≠ (40:Int))))) rfl (by intro A B E G H d0 d1;refine Jd G rfl rfl dE (eI d1) (fun hg=>?_);obtain ⟨d3,d4⟩:=Xv hg;have d3:=Xx d3;have d4:=Xx d4;exact Qx ((ef d0 rfl).1 hg) rfl) (gS rfl (fun A B E G H d0 d1=>rP (Jr (eI d0) (eI d1) rfl)) (gS rfl (fun A B E G H d0 d1=>rP (Jc (eI d0))) ?_)))))))))))
 refine gT (Ty.grd ((((decide ((32:Int) < c)) && (decide (c < (12288:Int)))) && (decide (c ≠ (40:Int)))) = true) (Ty.val (Value.int .i32 c))) rfl (by intro A B E G H d0;refine Jd G rfl rfl dE (eI d0) (fun hg=>?_);obtain ⟨d5,d6⟩:=Xv hg;obtain ⟨d7,d8⟩:=Xv d5;have d7:=Xx d7;have d8:=Xx d8;have d6:=Xx d6;exact Jc (kp (H 0 rfl) E q1)) (gT (Ty.grd ((((decide ((32:Int) < c)) && (decide (c < (12288:Int)))) && (decide (c ≠ (40:Int)))) = true) (Ty.bool (decide (c ≠ (41:Int))))) rfl (by intro A B E G H d0 d1;refine Jd G rfl rfl dE (eI d1) (fun hg=>?_);obtain ⟨d9,d10⟩:=Xv hg;obtain ⟨d11,d12⟩:=Xv d9;have d11:=Xx d11;have d12:=Xx d12;have d10:=Xx d10;exact Qx ((ef d0 rfl).1 hg) rfl) (gS rfl (fun A B E G H d0 d1=>rP (Jr (eI d0) (eI d1) rfl)) (gS rfl (fun A B E G H d0 d1=>rP (Jc (eI d0))) (gT (Ty.grd (((((decide ((32:Int) < c)) && (decide (c < (12288:Int)))) && (decide (c ≠ (40:Int)))) && (decide (c ≠ (41:Int)))) = true) (Ty.val (Value.int .i32 c))) rfl (by intro A B E G H d0;refine Jd G rfl rfl dE (eI d0) (fun hg=>?_);obtain ⟨d13,d14⟩:=Xv hg;obtain ⟨d15,d16⟩:=Xv d13;obtain ⟨d17,d18⟩:=Xv d15;have d17:=Xx d17;have d18:=Xx d18;have d16:=Xx d16;have d14:=Xx d14;exact Jc (kp (H 0 rfl) E q1)) ?_))))
 refine gT (Ty.grd (((((decide ((32:Int) < c)) && (decide (c < (12288:Int)))) && (decide (c ≠ (40:Int)))) && (decide (c ≠ (41:Int)))) = true) (Ty.bool (decide (c < (48:Int))))) rfl (by intro A B E G H d0 d1;refine Jd G rfl rfl dE (eI d1) (fun hg=>?_);obtain ⟨d19,d20⟩:=Xv hg;obtain ⟨d21,d22⟩:=Xv d19;obtain ⟨d23,d24⟩:=Xv d21;have d23:=Xx d23;have d24:=Xx d24;have d22:=Xx d22;have d20:=Xx d20;exact Jx ((ef d0 rfl).1 hg) rfl) (gT (Ty.grd (((((decide ((32:Int) < c)) && (decide (c < (12288:Int)))) && (decide (c ≠ (40:Int)))) && (decide (c ≠ (41:Int)))) = true) (Ty.bool (decide (c < (48:Int))))) rfl (by intro A B E G H d0 d1 d2;refine Jd G rfl rfl dE (eI d1) (fun hg=>?_);obtain ⟨d25,d26⟩:=Xv hg;obtain ⟨d27,d28⟩:=Xv d25;obtain ⟨d29,d30⟩:=Xv d27;have d29:=Xx d29;have d30:=Xx d30;have d28:=Xx d28;have d26:=Xx d26;exact Jc ((ef d0 rfl).1 hg)) (gS rfl (fun A B E G H d0=>gu2 G (eI d0) fun hg=>Jc (kp (H 0 rfl) E q1)) (gS rfl (fun A B E G H d0 d1=>gu2 G (eI d1) fun hg=>KJ ((ef d0 rfl).1 hg) rfl) ?_)))
 refine gT (Ty.grd (((((decide ((32:Int) < c)) && (decide (c < (12288:Int)))) && (decide (c ≠ (40:Int)))) && (decide (c ≠ (41:Int)))) = true) (Ty.bool ((decide (c < (48:Int))) || (decide ((57:Int) < c))))) rfl (by intro A B E G H d0 d1 d2;refine Jd G rfl rfl dE (eI d2) (fun hg=>?_);obtain ⟨d31,d32⟩:=Xv hg;obtain ⟨d33,d34⟩:=Xv d31;obtain ⟨d35,d36⟩:=Xv d33;have d35:=Xx d35;have d36:=Xx d36;have d34:=Xx d34;have d32:=Xx d32;exact Jk ((ef d0 rfl).1 hg) rfl (KX hg (eI d1))) (gS rfl (fun A B E G H d0 d1=>rP (Jr (eI d0) (eI d1) rfl)) (gS rfl (fun A B E G H d0 d1=>rP (Jc (eI d0))) (gT (Ty.grd ((((((decide ((32:Int) < c)) && (decide (c < (12288:Int)))) && (decide (c ≠ (40:Int)))) && (decide (c ≠ (41:Int)))) && ((decide (c < (48:Int))) || (decide ((57:Int) < c)))) = true) (Ty.val (Value.int .i32 c))) rfl (by intro A B E G H d0;refine Jd G rfl rfl dE (eI d0) (fun hg=>?_);obtain ⟨d37,d38⟩:=Xv hg;obtain ⟨d39,d40⟩:=Xv d37;obtain ⟨d41,d42⟩:=Xv d39;obtain ⟨d43,d44⟩:=Xv d41;have d43:=Xx d43;have d44:=Xx d44;have d42:=Xx d42;have d40:=Xx d40;exact Jc (kp (H 0 rfl) E q1)) ?_)))
 refine gT (Ty.grd ((((((decide ((32:Int) < c)) && (decide (c < (12288:Int)))) && (decide (c ≠ (40:Int)))) && (decide (c ≠ (41:Int)))) && ((decide (c < (48:Int))) || (decide ((57:Int) < c)))) = true) (Ty.bool (decide (c < (127:Int))))) rfl (by intro A B E G H d0 d1;refine Jd G rfl rfl dE (eI d1) (fun hg=>?_);obtain ⟨d45,d46⟩:=Xv hg;obtain ⟨d47,d48⟩:=Xv d45;obtain ⟨d49,d50⟩:=Xv d47;obtain ⟨d51,d52⟩:=Xv d49;have d51:=Xx d51;have d52:=Xx d52;have d50:=Xx d50;have d48:=Xx d48;exact Jx ((ef d0 rfl).1 hg) rfl) (gT (Ty.grd ((((((decide ((32:Int) < c)) && (decide (c < (12288:Int)))) && (decide (c ≠ (40:Int)))) && (decide (c ≠ (41:Int)))) && ((decide (c < (48:Int))) || (decide ((57:Int) < c)))) = true) (Ty.bool (decide (c < (127:Int))))) rfl (by intro A B E G H d0 d1 d2;refine Jd G rfl rfl dE (eI d1) (fun hg=>?_);obtain ⟨d53,d54⟩:=Xv hg;obtain ⟨d55,d56⟩:=Xv d53;obtain ⟨d57,d58⟩:=Xv d55;obtain ⟨d59,d60⟩:=Xv d57;have d59:=Xx d59;have d60:=Xx d60;have d58:=Xx d58;have d56:=Xx d56;exact Jc ((ef d0 rfl).1 hg)) (gS rfl (fun A B E G H d0=>gu2 G (eI d0) fun hg=>Jc (kp (H 0 rfl) E q1)) (gS rfl (fun A B E G H d0 d1=>gu2 G (eI d1) fun hg=>QB ((ef d0 rfl).1 hg) rfl) ?_)))
 refine gT (Ty.grd ((((((decide ((32:Int) < c)) && (decide (c < (12288:Int)))) && (decide (c ≠ (40:Int)))) && (decide (c ≠ (41:Int)))) && ((decide (c < (48:Int))) || (decide ((57:Int) < c)))) = true) (Ty.bool ((decide (c < (127:Int))) || (decide ((161:Int) ≤ c))))) rfl (by intro A B E G H d0 d1 d2;refine Jd G rfl rfl dE (eI d2) (fun hg=>?_);obtain ⟨d61,d62⟩:=Xv hg;obtain ⟨d63,d64⟩:=Xv d61;obtain ⟨d65,d66⟩:=Xv d63;obtain ⟨d67,d68⟩:=Xv d65;have d67:=Xx d67;have d68:=Xx d68;have d66:=Xx d66;have d64:=Xx d64;exact Jk ((ef d0 rfl).1 hg) rfl (KX hg (eI d1))) (gS rfl (fun A B E G H d0 d1=>rP (Jr (eI d0) (eI d1) rfl)) (gB 0 (gE ok1 fun a2 s2 ok2 D2=>?_)));refine tn (Ji ?_)
 exact JJ rfl ok2 ((F0.step0 D1.stp).step0 D2.stp) (cvb (by (rw [Bool.eq_iff_iff];simp only [QK,Bool.and_eq_true,Bool.or_eq_true,decide_eq_true_eq];omega)) (D2.m 30 rfl))
set_option maxHeartbeats 4000000 in
set_option maxRecDepth 100000 in
theorem callChk1_fn (sx:Int) (lx:List (List Int)) (sc:Int) (lc:List (List Int)) (σ:GW)  (v0 v1:Value) (hv0:Ty.has (Ty.agg [(Ty.val (Value.int .i32 sx)),(Ty.lst Ty.ints lx)]) σ v0) (hv1:Ty.has (Ty.ref [(Ty.val (Value.int .i32 sc)),(Ty.lst Ty.ints lc)]) σ v1)   :
    FnC J 76 #[v0,v1] σ (Ty.bool (decide (sx = sc))):=by
 refine JR Try.func76 rfl Try.ntmps76 (Xy rfl) (fun s0 a0 hle F0 ok0 hargs=>?_)
 have p0:=pA hle (hargs 0 _ rfl) hv0
 have p1:=pA hle (hargs 1 _ rfl) hv1
 clear hargs;refine Ja ?_
 refine gI a0 s0 ok0 (gS rfl (fun A B E G H=>rP (QC (kp (H 0 rfl) E p0))) (gC (Ty.bool false) (gE ok0 fun a1 s1 ok1 D1=>?_)));refine tn (Ja ?_)
 refine gI a1 s1 ok1 (gS rfl (fun A B E G H=>rP (JG Try.fld51_0 Try.inf21 dE (kp (H 2 rfl) E (D1.m 0 rfl)) rfl)) (gS rfl (fun A B E G H d0=>rP (Jo Try.underlying21 rfl (eI d0) rfl)) (gS rfl (fun A B E G H=>rP (JG Try.fld51_0 Try.inf21 dE (kp (H 1 rfl) E (D1.k p1)) rfl)) (gS rfl (fun A B E G H d0=>rP (Jo Try.underlying21 rfl (eI d0) rfl)) (gS rfl (fun A B E G H d0 d1=>rP (Qc (eI d0) (eI d1))) (gB 0 (gE ok1 fun a2 s2 ok2 D2=>?_)))))));refine tn (Ji ?_)
 exact JJ rfl ok2 ((F0.step0 D1.stp).step0 D2.stp) (D2.m 5 rfl)
set_option maxHeartbeats 4000000 in
set_option maxRecDepth 100000 in
theorem idxCall_fn (cs:List JL) (sc:Int) (lc:List (List Int)) (σ:GW)  (v0 v1:Value) (hv0:Ty.has (Ty.lstc 2 Ky cs) σ v0) (hv1:Ty.has (Ty.clo 76 [(Ty.val (Value.int .i32 sc)),(Ty.lst Ty.ints lc)]) σ v1)   :
    FnC J 88 #[v0,v1] σ (Ty.int (indexL (cs.map (·.1)) sc)):=by
 refine JR Try.func88 rfl Try.ntmps88 (Xy rfl) (fun s0 a0 hle F0 ok0 hargs=>?_)
 have p0:=pA hle (hargs 0 _ rfl) hv0
 have b1:=JI p0
 have p1:=pA hle (hargs 1 _ rfl) hv1
 clear hargs;refine Ja ?_
 refine gI a0 s0 ok0 (gC (Ty.int (0:Int)) (gE ok0 fun a1 s1 ok1 D1=>?_));have q1:=D1.k p0;refine tn (Ja (Ja ?_))
 refine gI a1 s1 ok1 (gM q1 (gS rfl (fun A B E G H d0=>rP (Jt Try.underlying25 (eI d0))) (gT (Ty.int (0:Int)) rfl (fun A B E G H=>rP (Jc rfl)) (gE ok1 fun a2 s2 ok2 D2=>?_))));refine tn (Je ?_)
 refine JY (fun n1 a3 w1=>∃ (t1:GW) (i:Nat),t1.w = w1∧FromL [] s0 t1∧Ok 19 [] a3∧At (Ty.nat i) t1 a3 (.tmp 8)∧At (Ty.lstc 2 Ky cs) t1 a3 (.tmp 0)∧At (Ty.clo 76 [(Ty.val (Value.int .i32 sc)),(Ty.lst Ty.ints lc)]) t1 a3 (.tmp 1)∧At (Ty.nat (List.length cs)) t1 a3 (.tmp 7)∧(i ≤ cs.length)∧(∀ j,j < i → (cs.getD j D0).1 ≠ sc)∧n1 = cs.length - i) (cs.length - (0)) ?_ ?_
 ·
  exact ⟨s2,0,rfl,((F0.step0 D1.stp).step0 D2.stp),ok2,(cJ (D2.m 2 rfl)),(D2.k q1),(D2.k (D1.k p1)),(D2.m 1 rfl),by omega,fun j hj=>absurd hj (Nat.not_lt_zero j),rfl⟩
 ·
  rintro n2 a4 w2 ⟨t2,i,rfl,F3,ok3,q7,q8,q9,q10,hi,hno,rfl⟩
  refine Ja ?_
  refine gI a4 t2 ok3 (gS rfl (fun A B E G H=>rP (Jx (kp (H 8 rfl) E q7) (kp (H 7 rfl) E q10))) (gE ok3 fun a5 s3 ok4 D3=>?_));have F4:=F3.step0 D3.stp;have q11:=D3.k q7;refine tn (Ja ?_)
  refine Jl (p:=(((i:Nat):Int) < (((List.length cs):Nat):Int))) (D3.m 0 rfl) (fun c1=>?_) (fun c1=>?_)
  ·
   refine Jf (tn (Ja (Je (Ja ?_))))
   refine gI a5 s3 ok4 (gM q11 (gB 0 (gE ok4 fun a6 s4 ok5 D4=>?_)));have q17:=D4.k (D3.k q8);have q18:=D4.k (D3.k q9);have q20:=D4.m 1 rfl;refine tn (Ja ?_)
   refine gI a6 s4 ok5 (gM q18 (gM q17 (gM q20 (gT (Ty.ref [(Ty.val (Value.int .i32 ((cs.getD i D0)).1)),(Ty.lst Ty.ints ((cs.getD i D0)).2)]) rfl (fun A B E G H d0 d1=>rP (Qk (i:=((i:Nat):Int)) D0 Try.underlying25 Try.inf51 (eI d0) (eI d1) oM oM dE (fun _=>rfl))) (gS rfl (fun A B E G H d0=>rP (Qd Try.underlying51 Try.inf51 (eI d0))) (gT (Ty.bool (decide ((((cs.getD i D0)).1) = sc))) rfl (fun A B E G H d0 d1=>rP (y_callv (fun p_=>#[A.eval (.tmp 15),p_]) (eI d0) Try.func76 rfl rfl (fun p_=>by simp only [List.map_toArray,List.map_cons,List.map_nil,List.append_toArray,List.cons_append,List.nil_append]) (fun p_ hp_=>callChk1_fn (((cs.getD i D0)).1) (((cs.getD i D0)).2) (sc) (lc) _ _ _ (eI d1) hp_ ))) (gE ok5 fun a7 s5 ok6 D5=>?_)))))));have F6:=(F4.step0 D4.stp).step0 D5.stp;refine tn ?_
   refine Jl (p:=((((cs.getD i D0)).1) = sc)) (D5.m 5 rfl) (fun c2=>?_) (fun c2=>?_)
   ·
    refine Ja ?_
    refine gI a7 s5 ok6 (gM (D5.k q20) (gB 0 (gE ok6 fun a8 s6 ok7 D6=>?_)));refine tn (Ji (br (tr (tr (br (tr ?_))))))
    exact JJ rfl ok7 (F6.step0 D6.stp) (cvi (by (exact (idxC_yes oM (by assumption) hno).symm)) (D6.m 1 rfl))
   ·
    refine Jf (bn (tn ?_))
    refine gI a7 s5 ok6 (gT (Ty.int (((i:Nat):Int) + (1:Int))) rfl (fun A B E G H=>rP (JA (kp (H 8 rfl) E (D5.k (D4.k q11))) rfl wX)) (gS rfl (fun A B E G H d0=>rP (Jc (eI d0))) (gE ok6 fun a9 s7 ok8 D7=>?_)))
    exact tn ⟨cs.length - ((i+1)),by omega,s7,(i+1),rfl,(F6.step0 D7.stp),ok8,(cJ (D7.m 1 rfl)),(D7.k (D5.k q17)),(D7.k (D5.k q18)),(D7.k (D5.k (D4.k (D3.k q10)))),by omega,fun j hj=>by (by_cases e:j = i;subst e;assumption;exact hno j oM),rfl⟩
  ·
   refine Jv (tx (tx (bx (tn (Ja ?_)))))
   refine gI a5 s3 ok4 (gC (Ty.int (-1:Int)) (gE ok4 fun a10 s8 ok9 D8=>?_));refine tn (Ji ?_)
   exact JJ rfl ok9 (F4.step0 D8.stp) (cvi (by (exact (idxC_no (fun j hj=>hno j oM)).symm)) (D8.m 0 rfl))
set_option maxHeartbeats 4000000 in
set_option maxRecDepth 100000 in
theorem hasCall_fn (cs:List JL) (sc:Int) (lc:List (List Int)) (σ:GW)  (v0 v1:Value) (hv0:Ty.has (Ty.lstc 2 Ky cs) σ v0) (hv1:Ty.has (Ty.clo 76 [(Ty.val (Value.int .i32 sc)),(Ty.lst Ty.ints lc)]) σ v1)   :
    FnC J 75 #[v0,v1] σ (Ty.bool (decide (sc ∈ cs.map (·.1)))):=by
 refine JR Try.func75 rfl Try.ntmps75 (Xy rfl) (fun s0 a0 hle F0 ok0 hargs=>?_)
 have p0:=pA hle (hargs 0 _ rfl) hv0
 have b1:=JI p0
 have p1:=pA hle (hargs 1 _ rfl) hv1
 clear hargs;refine Ja ?_
 refine gI a0 s0 ok0 (gC (Ty.bool false) (gE ok0 fun a1 s1 ok1 D1=>?_));refine tn (Ja ?_)
 refine gI a1 s1 ok1 (gM (D1.k p0) (gM (D1.k p1) (gS rfl (fun A B E G H d0 d1=>rP (JB _ Try.func88 rfl rfl my2 (idxCall_fn (cs) (sc) (lc) _ _ _ (eI d0) (eI d1) ))) (gS rfl (fun A B E G H d0=>rP (QB (eI d0) rfl)) (gB 0 (gE ok1 fun a2 s2 ok2 D2=>?_))))));refine tn (Ji ?_)
 exact JJ rfl ok2 ((F0.step0 D1.stp).step0 D2.stp) (cvb (by (rw [decide_eq_decide];exact indexL_iff)) (D2.m 4 rfl))
end Go.Proofs.Ytodmoedmijfciaa
