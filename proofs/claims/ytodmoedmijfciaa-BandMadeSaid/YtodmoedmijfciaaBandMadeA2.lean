/- The functions that the law BandMade reaches, each by its contract. Part 2. -/
import Derived.Test.YtodmoedmijfciaaBandMadeA1
namespace Go.Proofs.Ytodmoedmijfciaa
open Go.KL
variable {J:Go.KL.JdOf Try.prog} [Go.KL.Al J]
set_option maxHeartbeats 4000000 in
set_option maxRecDepth 100000 in
theorem rIsName_fn (s:ByteArray) (σ:GW)  (v0:Value) (hv0:Ty.has (Ty.val (Value.string s)) σ v0)  (E:s.size ≤ 17592186044416) :
    FnC J 72 #[v0] σ (Ty.bool (nameL s)):=by
 obtain ⟨L,hL⟩:∃ L,L = runsL s:=⟨_,rfl⟩
 have hne:nameI L = nameL s:=by rw [hL,name_eq]
 refine JR Try.func72 rfl Try.ntmps72 (Xy rfl) (fun s0 a0 hle F0 ok0 hargs=>?_)
 have p0:=pA hle (hargs 0 _ rfl) hv0
 clear hargs;refine Ja ?_
 refine gI a0 s0 ok0 (gC (Ty.bool false) (gE ok0 fun a1 s1 ok1 D1=>?_));refine tn (Ja ?_)
 refine gI a1 s1 ok1 (gM (D1.k p0) (gT (Ty.lst Ty.int L) rfl (fun A B E G H d0=>rP ((JB _ Try.func86 rfl rfl my1 (rRunes_fn (s) _ _ (eI d0) oM)).mono (fun τ _ h=>cvt (σ:=τ) (T:=(Ty.lst Ty.int (runsL s))) (U:=(Ty.lst Ty.int L)) (by rw [hL]) h))) (gB 0 (gE ok1 fun a2 s2 ok2 D2=>?_))));have q2:=D2.m 2 rfl;refine tn (Ja (Ja ?_))
 refine gI a2 s2 ok2 (gM q2 (gS rfl (fun A B E G H d0=>rP (Jt Try.underlying26 (eI d0))) (gS rfl (fun A B E G H d0=>rP (Jx (eI d0) rfl)) (gS rfl (fun A B E G H d0=>rP (Jc (eI d0))) (gS rfl (fun A B E G H d0=>gu G (eI d0) fun hg=>Jc (kp (H 3 rfl) E q2)) (gS rfl (fun A B E G H d0 d1=>gu G (eI d1) fun hg=>Jt Try.underlying26 ((ef d0 rfl).1 hg)) (gS rfl (fun A B E G H d0 d1=>gu G (eI d1) fun hg=>KJ ((ef d0 rfl).1 hg) rfl) (gS rfl (fun A B E G H d0 d1=>rP (Jk (eI d0) rfl (eI d1))) (gS rfl (fun A B E G H d0 d1=>rP (Jc (eI d0))) (gT (Ty.grd (((decide ((((List.length L):Nat):Int) < (1:Int))) || (decide ((20:Int) < (((List.length L):Nat):Int)))) = false) (Ty.lst Ty.int L)) rfl (by intro A B E G H d0;refine Jd G rfl rfl dE (eI d0) (fun hg=>?_);obtain ⟨d1,d2⟩:=Xu hg;have d1:=Xw d1;have d2:=Xw d2;exact Jc (kp (H 3 rfl) E q2)) (gT (Ty.grd (((decide ((((List.length L):Nat):Int) < (1:Int))) || (decide ((20:Int) < (((List.length L):Nat):Int)))) = false) (Ty.ref [(Ty.int (L.getD ((0:Int)).toNat 0))])) rfl (by intro A B E G H d0 d1;refine Jd G rfl rfl dE (eI d1) (fun hg=>?_);obtain ⟨d3,d4⟩:=Xu hg;have d3:=Xw d3;have d4:=Xw d4;exact Jy Try.underlying26 Try.inf3 ((ef d0 rfl).1 hg) rfl oM (Jw Ty.int L 0 ((0:Int)).toNat oM)) ?_)))))))))))
 refine gT (Ty.grd (((decide ((((List.length L):Nat):Int) < (1:Int))) || (decide ((20:Int) < (((List.length L):Nat):Int)))) = false) (Ty.int (L.getD ((0:Int)).toNat 0))) rfl (by intro A B E G H d0 d1;refine Jd G rfl rfl dE (eI d1) (fun hg=>?_);obtain ⟨d5,d6⟩:=Xu hg;have d5:=Xw d5;have d6:=Xw d6;exact Jo Try.underlying3 rfl ((ef d0 rfl).1 hg) rfl) (gT (Ty.grd (((decide ((((List.length L):Nat):Int) < (1:Int))) || (decide ((20:Int) < (((List.length L):Nat):Int)))) = false) (Ty.bool (decide ((L.getD ((0:Int)).toNat 0) = (32:Int))))) rfl (by intro A B E G H d0 d1;refine Jd G rfl rfl dE (eI d1) (fun hg=>?_);obtain ⟨d7,d8⟩:=Xu hg;have d7:=Xw d7;have d8:=Xw d8;exact Qc ((ef d0 rfl).1 hg) rfl) (gS rfl (fun A B E G H d0 d1=>rP (Jk (eI d0) rfl (eI d1))) (gS rfl (fun A B E G H d0 d1=>rP (Jc (eI d0))) (gT (Ty.grd ((((decide ((((List.length L):Nat):Int) < (1:Int))) || (decide ((20:Int) < (((List.length L):Nat):Int)))) || (decide ((L.getD ((0:Int)).toNat 0) = (32:Int)))) = false) (Ty.lst Ty.int L)) rfl (by intro A B E G H d0;refine Jd G rfl rfl dE (eI d0) (fun hg=>?_);obtain ⟨d9,d10⟩:=Xu hg;obtain ⟨d11,d12⟩:=Xu d9;have d11:=Xw d11;have d12:=Xw d12;have d10:=Xw d10;exact Jc (kp (H 3 rfl) E q2)) ?_))))
 refine gT (Ty.grd ((((decide ((((List.length L):Nat):Int) < (1:Int))) || (decide ((20:Int) < (((List.length L):Nat):Int)))) || (decide ((L.getD ((0:Int)).toNat 0) = (32:Int)))) = false) (Ty.lst Ty.int L)) rfl (by intro A B E G H d0;refine Jd G rfl rfl dE (eI d0) (fun hg=>?_);obtain ⟨d13,d14⟩:=Xu hg;obtain ⟨d15,d16⟩:=Xu d13;have d15:=Xw d15;have d16:=Xw d16;have d14:=Xw d14;exact Jc (kp (H 3 rfl) E q2)) (gT (Ty.grd ((((decide ((((List.length L):Nat):Int) < (1:Int))) || (decide ((20:Int) < (((List.length L):Nat):Int)))) || (decide ((L.getD ((0:Int)).toNat 0) = (32:Int)))) = false) (Ty.nat (List.length L))) rfl (by intro A B E G H d0 d1;refine Jd G rfl rfl dE (eI d1) (fun hg=>?_);obtain ⟨d17,d18⟩:=Xu hg;obtain ⟨d19,d20⟩:=Xu d17;have d19:=Xw d19;have d20:=Xw d20;have d18:=Xw d18;exact Jt Try.underlying26 ((ef d0 rfl).1 hg)) (gT (Ty.grd ((((decide ((((List.length L):Nat):Int) < (1:Int))) || (decide ((20:Int) < (((List.length L):Nat):Int)))) || (decide ((L.getD ((0:Int)).toNat 0) = (32:Int)))) = false) (Ty.nat ((List.length L) - 1))) rfl (by intro A B E G H d0 d1;refine Jd G rfl rfl dE (eI d1) (fun hg=>?_);obtain ⟨d21,d22⟩:=Xu hg;obtain ⟨d23,d24⟩:=Xu d21;have d23:=Xw d23;have d24:=Xw d24;have d22:=Xw d22;exact (Xn ((ef d0 rfl).1 hg) rfl wX).mono (fun τ _ h=>cvi (σ:=τ) oM h)) ?_))
 refine gT (Ty.grd ((((decide ((((List.length L):Nat):Int) < (1:Int))) || (decide ((20:Int) < (((List.length L):Nat):Int)))) || (decide ((L.getD ((0:Int)).toNat 0) = (32:Int)))) = false) (Ty.ref [(Ty.int (L.getD ((List.length L) - 1) 0))])) rfl (by intro A B E G H d0 d1 d2;refine Jd G rfl rfl dE (eI d2) (fun hg=>?_);obtain ⟨d25,d26⟩:=Xu hg;obtain ⟨d27,d28⟩:=Xu d25;have d27:=Xw d27;have d28:=Xw d28;have d26:=Xw d26;exact Jy Try.underlying26 Try.inf3 ((ef d0 rfl).1 hg) ((ef d1 rfl).1 hg) oM (Jw Ty.int L 0 ((List.length L) - 1) oM)) (gT (Ty.grd ((((decide ((((List.length L):Nat):Int) < (1:Int))) || (decide ((20:Int) < (((List.length L):Nat):Int)))) || (decide ((L.getD ((0:Int)).toNat 0) = (32:Int)))) = false) (Ty.int (L.getD ((List.length L) - 1) 0))) rfl (by intro A B E G H d0 d1;refine Jd G rfl rfl dE (eI d1) (fun hg=>?_);obtain ⟨d29,d30⟩:=Xu hg;obtain ⟨d31,d32⟩:=Xu d29;have d31:=Xw d31;have d32:=Xw d32;have d30:=Xw d30;exact Jo Try.underlying3 rfl ((ef d0 rfl).1 hg) rfl) (gT (Ty.grd ((((decide ((((List.length L):Nat):Int) < (1:Int))) || (decide ((20:Int) < (((List.length L):Nat):Int)))) || (decide ((L.getD ((0:Int)).toNat 0) = (32:Int)))) = false) (Ty.bool (decide ((L.getD ((List.length L) - 1) 0) = (32:Int))))) rfl (by intro A B E G H d0 d1;refine Jd G rfl rfl dE (eI d1) (fun hg=>?_);obtain ⟨d33,d34⟩:=Xu hg;obtain ⟨d35,d36⟩:=Xu d33;have d35:=Xw d35;have d36:=Xw d36;have d34:=Xw d34;exact Qc ((ef d0 rfl).1 hg) rfl) ?_))
 refine gS rfl (fun A B E G H d0 d1=>rP (Jk (eI d0) rfl (eI d1))) (gE ok2 fun a3 s3 ok3 D3=>?_);have F3:=((F0.step0 D1.stp).step0 D2.stp).step0 D3.stp;refine tn ?_
 refine JU (D3.m 22 rfl) (fun c1=>?_) (fun c1=>?_)
 ·
  simp only [Bool.or_eq_true,decide_eq_true_eq,Int.toNat_zero] at c1;have hb:=name_bad (l:=L) oM
  refine Ja ?_
  refine gI a3 s3 ok3 (gC (Ty.bool false) (gE ok3 fun a4 s4 ok4 D4=>?_));refine tn (Ji (tr ?_))
  exact JJ rfl ok4 (F3.step0 D4.stp) (cvb (by (rw [← hne,hb])) (D4.m 0 rfl))
 ·
  obtain ⟨d37,d38⟩:=Xu c1
  obtain ⟨d39,d40⟩:=Xu d37
  obtain ⟨d41,d42⟩:=Xu d39
  replace d41:=Xw d41
  replace d42:=Xw d42
  replace d40:=Xw d40
  replace d38:=Xw d38
  have hx1:¬ (L.length < 1 ∨ 20 < L.length ∨ L.getD 0 0 = 32 ∨ L.getD (L.length - 1) 0 = 32):=(by simp only [Bool.or_eq_false_iff,decide_eq_false_iff_not,Int.toNat_zero] at c1;omega)
  refine Jf (tn (Ja (Ja ?_)))
  refine gI a3 s3 ok3 (gC (Ty.int (0:Int)) (gE ok3 fun a5 s5 ok5 D5=>?_));refine tn (Je ?_)
  refine JY (fun n1 a6 w1=>∃ (t1:GW) (i:Nat),t1.w = w1∧FromL [] s0 t1∧Ok 86 [] a6∧At (Ty.nat i) t1 a6 (.tmp 4)∧At (Ty.lst Ty.int L) t1 a6 (.tmp 3)∧(i ≤ L.length)∧(∀ j,j < i → Qa (L.getD j 0) = true)∧n1 = L.length - i) (L.length - (0)) ?_ ?_
  ·
   exact ⟨s5,0,rfl,(F3.step0 D5.stp),ok5,(cJ (D5.m 0 rfl)),(D5.k (D3.k q2)),by omega,fun j hj=>absurd hj (Nat.not_lt_zero j),rfl⟩
  ·
   rintro n2 a7 w2 ⟨t2,i,rfl,F6,ok6,q8,q9,hi,hal,rfl⟩
   refine Ja (Ja ?_)
   refine gI a7 t2 ok6 (gM q8 (gM q9 (gS rfl (fun A B E G H d0=>rP (Jt Try.underlying26 (eI d0))) (gS rfl (fun A B E G H d0 d1=>rP (Jx (eI d0) (eI d1))) (gE ok6 fun a8 s6 ok7 D6=>?_)))));have F7:=F6.step0 D6.stp;have q10:=D6.k q8;have q11:=D6.k q9;refine tn ?_
   refine Jl (p:=(((i:Nat):Int) < (((List.length L):Nat):Int))) (D6.m 3 rfl) (fun c2=>?_) (fun c2=>?_)
   ·
    refine Jf (tn (Ja (Je (Ja ?_))))
    refine gI a8 s6 ok7 (gM q11 (gM q10 (gT (Ty.ref [(Ty.int (L.getD i 0))]) rfl (fun A B E G H d0 d1=>rP (Jy Try.underlying26 Try.inf3 (eI d0) (eI d1) oM (Jw Ty.int L 0 i oM))) (gS rfl (fun A B E G H d0=>rP (Jo Try.underlying3 rfl (eI d0) rfl)) (gB 0 (gE ok7 fun a9 s7 ok8 D7=>?_))))));have q15:=D7.m 4 rfl;refine tn (Ja ?_)
    refine gI a9 s7 ok8 (gM q15 (gS rfl (fun A B E G H d0=>rP (QB (eI d0) rfl)) (gS rfl (fun A B E G H d0=>rP (Jc (eI d0))) (gS rfl (fun A B E G H d0=>gu G (eI d0) fun hg=>Jc (kp (H 5 rfl) E q15)) (gS rfl (fun A B E G H d0 d1=>gu G (eI d1) fun hg=>y_leq ((ef d0 rfl).1 hg) rfl) (gS rfl (fun A B E G H d0 d1=>rP (Jr (eI d0) (eI d1) rfl)) (gS rfl (fun A B E G H d0 d1=>rP (Jc (eI d0))) (gS rfl (fun A B E G H d0=>gu G (eI d0) fun hg=>Jc (kp (H 5 rfl) E q15)) (gS rfl (fun A B E G H d0 d1=>gu G (eI d1) fun hg=>QB ((ef d0 rfl).1 hg) rfl) (gS rfl (fun A B E G H d0 d1 d2=>gu G (eI d1) fun hg=>y_mv ((ef d0 rfl).1 hg)) (gS rfl (fun A B E G H d0=>gu2 G (eI d0) fun hg=>Jc (kp (H 5 rfl) E q15)) (gS rfl (fun A B E G H d0 d1=>gu2 G (eI d1) fun hg=>y_leq ((ef d0 rfl).1 hg) rfl) (gS rfl (fun A B E G H d0 d1 d2=>gu G (eI d2) fun hg=>Jr ((ef d0 rfl).1 hg) (KX hg (eI d1)) rfl) (gS rfl (fun A B E G H d0 d1=>rP (Jk (eI d0) rfl (eI d1))) (gS rfl (fun A B E G H d0 d1=>rP (Jc (eI d0))) (gT (Ty.grd ((((decide ((65:Int) ≤ (L.getD i 0))) && (decide ((L.getD i 0) ≤ (90:Int)))) || ((decide ((97:Int) ≤ (L.getD i 0))) && (decide ((L.getD i 0) ≤ (122:Int))))) = false) (Ty.int (L.getD i 0))) rfl (by intro A B E G H d0;refine Jd G rfl rfl dE (eI d0) (fun hg=>?_);obtain ⟨d43,d44⟩:=Xu hg;exact Jc (kp (H 5 rfl) E q15)) ?_))))))))))))))))
    refine gT (Ty.grd ((((decide ((65:Int) ≤ (L.getD i 0))) && (decide ((L.getD i 0) ≤ (90:Int)))) || ((decide ((97:Int) ≤ (L.getD i 0))) && (decide ((L.getD i 0) ≤ (122:Int))))) = false) (Ty.bool (decide ((48:Int) ≤ (L.getD i 0))))) rfl (by intro A B E G H d0 d1;refine Jd G rfl rfl dE (eI d1) (fun hg=>?_);obtain ⟨d45,d46⟩:=Xu hg;exact QB ((ef d0 rfl).1 hg) rfl) (gT (Ty.grd ((((decide ((65:Int) ≤ (L.getD i 0))) && (decide ((L.getD i 0) ≤ (90:Int)))) || ((decide ((97:Int) ≤ (L.getD i 0))) && (decide ((L.getD i 0) ≤ (122:Int))))) = false) (Ty.bool (decide ((48:Int) ≤ (L.getD i 0))))) rfl (by intro A B E G H d0 d1 d2;refine Jd G rfl rfl dE (eI d1) (fun hg=>?_);obtain ⟨d47,d48⟩:=Xu hg;exact Jc ((ef d0 rfl).1 hg)) (gS rfl (fun A B E G H d0=>gu2 G (eI d0) fun hg=>Jc (kp (H 5 rfl) E q15)) (gS rfl (fun A B E G H d0 d1=>gu2 G (eI d1) fun hg=>y_leq ((ef d0 rfl).1 hg) rfl) (gT (Ty.grd ((((decide ((65:Int) ≤ (L.getD i 0))) && (decide ((L.getD i 0) ≤ (90:Int)))) || ((decide ((97:Int) ≤ (L.getD i 0))) && (decide ((L.getD i 0) ≤ (122:Int))))) = false) (Ty.bool ((decide ((48:Int) ≤ (L.getD i 0))) && (decide ((L.getD i 0) ≤ (57:Int)))))) rfl (by intro A B E G H d0 d1 d2;refine Jd G rfl rfl dE (eI d2) (fun hg=>?_);obtain ⟨d49,d50⟩:=Xu hg;exact Jr ((ef d0 rfl).1 hg) (KX hg (eI d1)) rfl) (gS rfl (fun A B E G H d0 d1=>rP (Jk (eI d0) rfl (eI d1))) (gS rfl (fun A B E G H d0 d1=>rP (Jc (eI d0))) ?_))))))
    refine gT (Ty.grd (((((decide ((65:Int) ≤ (L.getD i 0))) && (decide ((L.getD i 0) ≤ (90:Int)))) || ((decide ((97:Int) ≤ (L.getD i 0))) && (decide ((L.getD i 0) ≤ (122:Int))))) || ((decide ((48:Int) ≤ (L.getD i 0))) && (decide ((L.getD i 0) ≤ (57:Int))))) = false) (Ty.int (L.getD i 0))) rfl (by intro A B E G H d0;refine Jd G rfl rfl dE (eI d0) (fun hg=>?_);obtain ⟨d51,d52⟩:=Xu hg;obtain ⟨d53,d54⟩:=Xu d51;exact Jc (kp (H 5 rfl) E q15)) (gT (Ty.grd (((((decide ((65:Int) ≤ (L.getD i 0))) && (decide ((L.getD i 0) ≤ (90:Int)))) || ((decide ((97:Int) ≤ (L.getD i 0))) && (decide ((L.getD i 0) ≤ (122:Int))))) || ((decide ((48:Int) ≤ (L.getD i 0))) && (decide ((L.getD i 0) ≤ (57:Int))))) = false) (Ty.bool (decide ((L.getD i 0) = (32:Int))))) rfl (by intro A B E G H d0 d1;refine Jd G rfl rfl dE (eI d1) (fun hg=>?_);obtain ⟨d55,d56⟩:=Xu hg;obtain ⟨d57,d58⟩:=Xu d55;exact Qc ((ef d0 rfl).1 hg) rfl) (gS rfl (fun A B E G H d0 d1=>rP (Jk (eI d0) rfl (eI d1))) (gB 0 (gE ok8 fun a10 s8 ok9 D8=>?_))));have q18:=D8.k q15;refine tn (Ja ?_)
    refine gI a10 s8 ok9 (gM (D8.m 26 rfl) (gS rfl (fun A B E G H d0=>rP (y_not (eI d0))) (gS rfl (fun A B E G H d0=>rP (Jc (eI d0))) (gS rfl (fun A B E G H d0=>gu G (eI d0) fun hg=>Jc (kp (H 5 rfl) E q18)) (gS rfl (fun A B E G H d0 d1=>gu G (eI d1) fun hg=>Jx ((ef d0 rfl).1 hg) rfl) (gS rfl (fun A B E G H d0 d1 d2=>gu G (eI d1) fun hg=>y_mv ((ef d0 rfl).1 hg)) (gS rfl (fun A B E G H d0=>gu2 G (eI d0) fun hg=>Jc (kp (H 5 rfl) E q18)) (gS rfl (fun A B E G H d0 d1=>gu2 G (eI d1) fun hg=>KJ ((ef d0 rfl).1 hg) rfl) (gS rfl (fun A B E G H d0 d1 d2=>gu G (eI d2) fun hg=>Jk ((ef d0 rfl).1 hg) rfl (KX hg (eI d1))) (gS rfl (fun A B E G H d0 d1 d2=>gu G (eI d2) fun hg=>y_mv ((ef d0 rfl).1 hg)) (gT (Ty.grd (((!(((((decide ((65:Int) ≤ (L.getD i 0))) && (decide ((L.getD i 0) ≤ (90:Int)))) || ((decide ((97:Int) ≤ (L.getD i 0))) && (decide ((L.getD i 0) ≤ (122:Int))))) || ((decide ((48:Int) ≤ (L.getD i 0))) && (decide ((L.getD i 0) ≤ (57:Int))))) || (decide ((L.getD i 0) = (32:Int))))) = true)∧((decide ((L.getD i 0) < (192:Int))) || (decide ((382:Int) < (L.getD i 0)))) = false) (Ty.int (L.getD i 0))) rfl (by intro A B E G H d0;refine Qp G rfl rfl dE (eI d0) (fun hg=>?_);obtain ⟨d59,d60⟩:=Xu hg.2;have d59:=Xw d59;have d60:=Xw d60;exact Jc (kp (H 5 rfl) E q18)) ?_)))))))))))
    refine gT (Ty.grd (((!(((((decide ((65:Int) ≤ (L.getD i 0))) && (decide ((L.getD i 0) ≤ (90:Int)))) || ((decide ((97:Int) ≤ (L.getD i 0))) && (decide ((L.getD i 0) ≤ (122:Int))))) || ((decide ((48:Int) ≤ (L.getD i 0))) && (decide ((L.getD i 0) ≤ (57:Int))))) || (decide ((L.getD i 0) = (32:Int))))) = true)∧((decide ((L.getD i 0) < (192:Int))) || (decide ((382:Int) < (L.getD i 0)))) = false) (Ty.bool (decide ((L.getD i 0) = (215:Int))))) rfl (by intro A B E G H d0 d1;refine Qp G rfl rfl dE (eI d1) (fun hg=>?_);obtain ⟨d61,d62⟩:=Xu hg.2;have d61:=Xw d61;have d62:=Xw d62;exact Qc ((ef d0 rfl).1 hg) rfl) (gS rfl (fun A B E G H d0 d1 d2=>gu G (eI d2) fun hg=>Jk ((ef d0 rfl).1 hg) rfl (KX hg (eI d1))) (gS rfl (fun A B E G H d0 d1 d2=>gu G (eI d2) fun hg=>y_mv ((ef d0 rfl).1 hg)) (gT (Ty.grd (((!(((((decide ((65:Int) ≤ (L.getD i 0))) && (decide ((L.getD i 0) ≤ (90:Int)))) || ((decide ((97:Int) ≤ (L.getD i 0))) && (decide ((L.getD i 0) ≤ (122:Int))))) || ((decide ((48:Int) ≤ (L.getD i 0))) && (decide ((L.getD i 0) ≤ (57:Int))))) || (decide ((L.getD i 0) = (32:Int))))) = true)∧(((decide ((L.getD i 0) < (192:Int))) || (decide ((382:Int) < (L.getD i 0)))) || (decide ((L.getD i 0) = (215:Int)))) = false) (Ty.int (L.getD i 0))) rfl (by intro A B E G H d0;refine Qp G rfl rfl dE (eI d0) (fun hg=>?_);obtain ⟨d63,d64⟩:=Xu hg.2;obtain ⟨d65,d66⟩:=Xu d63;have d65:=Xw d65;have d66:=Xw d66;have d64:=Xw d64;exact Jc (kp (H 5 rfl) E q18)) ?_)))
    refine gT (Ty.grd (((!(((((decide ((65:Int) ≤ (L.getD i 0))) && (decide ((L.getD i 0) ≤ (90:Int)))) || ((decide ((97:Int) ≤ (L.getD i 0))) && (decide ((L.getD i 0) ≤ (122:Int))))) || ((decide ((48:Int) ≤ (L.getD i 0))) && (decide ((L.getD i 0) ≤ (57:Int))))) || (decide ((L.getD i 0) = (32:Int))))) = true)∧(((decide ((L.getD i 0) < (192:Int))) || (decide ((382:Int) < (L.getD i 0)))) || (decide ((L.getD i 0) = (215:Int)))) = false) (Ty.bool (decide ((L.getD i 0) = (247:Int))))) rfl (by intro A B E G H d0 d1;refine Qp G rfl rfl dE (eI d1) (fun hg=>?_);obtain ⟨d67,d68⟩:=Xu hg.2;obtain ⟨d69,d70⟩:=Xu d67;have d69:=Xw d69;have d70:=Xw d70;have d68:=Xw d68;exact Qc ((ef d0 rfl).1 hg) rfl) (gS rfl (fun A B E G H d0 d1 d2=>gu G (eI d2) fun hg=>Jk ((ef d0 rfl).1 hg) rfl (KX hg (eI d1))) (gS rfl (fun A B E G H d0 d1=>rP (Jr (eI d0) (eI d1) rfl)) (gE ok9 fun a11 s9 ok10 D9=>?_)));have F10:=((F7.step0 D7.stp).step0 D8.stp).step0 D9.stp;refine tn ?_
    refine JU (D9.m 17 rfl) (fun c3=>?_) (fun c3=>?_)
    ·
     obtain ⟨d71,d72⟩:=Xv c3
     have hlb:Qa (L.getD i 0) = false:=(by rw [Bool.eq_false_iff];intro h_;simp only [Qa,Bool.or_eq_true,Bool.and_eq_true,Bool.not_eq_true,Bool.or_eq_false_iff,Bool.and_eq_false_iff,Bool.not_eq_true',decide_eq_true_eq,decide_eq_false_iff_not] at h_ c3;omega);have hb:=name_let (l:=L) oM hlb
     refine Ja ?_
     refine gI a11 s9 ok10 (gC (Ty.bool false) (gE ok10 fun a12 s10 ok11 D10=>?_));refine tn (Ji (br (tr (tr (br (tr ?_))))))
     exact JJ rfl ok11 (F10.step0 D10.stp) (cvb (by (rw [← hne,hb])) (D10.m 0 rfl))
    ·
     have hlb:Qa (L.getD i 0) = true:=(by simp only [Qa,Bool.or_eq_true,Bool.and_eq_true,Bool.not_eq_false',Bool.or_eq_false_iff,Bool.and_eq_false_iff,decide_eq_true_eq,decide_eq_false_iff_not] at c3 ⊢;omega)
     refine Jf (bn (tn ?_))
     refine gI a11 s9 ok10 (gM (D9.k (D8.k (D7.k q10))) (gT (Ty.nat (i + 1)) rfl (fun A B E G H d0=>rP ((JA (eI d0) rfl wX).mono (fun τ _ h=>cN (σ:=τ) h))) (gB 0 (gE ok10 fun a13 s11 ok12 D11=>?_))))
     exact tn ⟨L.length - ((i+1)),by omega,s11,(i+1),rfl,(F10.step0 D11.stp),ok12,(cJ (D11.m 2 rfl)),(D11.k (D9.k (D8.k (D7.k q11)))),by omega,fun j hj=>by (by_cases e:j = i;subst e;exact hlb;exact hal j oM),rfl⟩
   ·
    refine Jv (tx (tx (bx (tn (Ja ?_)))))
    refine gI a8 s6 ok7 (gC (Ty.bool true) (gE ok7 fun a14 s12 ok13 D12=>?_));refine tn (Ji ?_)
    exact JJ rfl ok13 (F7.step0 D12.stp) (cvb (by (rw [← hne];exact (name_good hx1 (fun j hj=>hal j oM)).symm)) (D12.m 0 rfl))
set_option maxRecDepth 100000 in
theorem rChangeMay_fn (n:Int) (l:List Int) (σ:GW) (v0 v1:Value) (hv0:Ty.has (Ty.int n) σ v0) (hv1:Ty.has (Ty.lst Ty.int l) σ v1) (hn:-9223372036854775808 ≤ n∧n ≤ 9223372036854775807) :
    FnC J 43 #[v0,v1] σ (Ty.int (Qh n l)):=by
 refine Kt Try.func43 rfl Try.ntmps43 (Xy rfl) (fun s0 a0 hle F0 ok0 hargs=>?_)
 have p0:=pA hle (hargs 0 _ rfl) hv0
 have p1:=pA hle (hargs 1 _ rfl) hv1
 have b1:=JI p1
 clear hargs;refine Ja ?_
 refine gI a0 s0 ok0 (gC (Ty.int (0:Int)) (gE ok0 fun a1 s1 ok1 D1=>?_));have q1:=D1.k p0;refine tn (Ja (Ja ?_))
 refine gI a1 s1 ok1 (gM q1 (gS rfl (fun A B E G H d0=>rP (Jx (eI d0) rfl)) (gS rfl (fun A B E G H d0=>rP (Jc (eI d0))) (gS rfl (fun A B E G H d0=>gu G (eI d0) fun hg=>Jc (kp (H 0 rfl) E q1)) (gS rfl (fun A B E G H d0 d1=>gu G (eI d1) fun hg=>KJ ((ef d0 rfl).1 hg) rfl) (gS rfl (fun A B E G H d0 d1=>rP (Jk (eI d0) rfl (eI d1))) (gE ok1 fun a2 s2 ok2 D2=>?_)))))));have F2:=(F0.step0 D1.stp).step0 D2.stp;refine tn ?_
 refine JU (D2.m 5 rfl) (fun c1=>?_) (fun c1=>?_)
 ·
  simp only [Bool.or_eq_true,decide_eq_true_eq] at c1
  refine Ja ?_
  refine gI a2 s2 ok2 (gC (Ty.int (1:Int)) (gE ok2 fun a3 s3 ok3 D3=>?_));refine tn (Ji (tr ?_))
  exact QD rfl ok3 (F2.step0 D3.stp) (cvi (by (exact (chgMay_cnt oM).symm)) (D3.m 0 rfl))
 ·
  obtain ⟨d1,d2⟩:=Xu c1
  replace d1:=Xw d1
  replace d2:=Xw d2
  refine Jf (tn (Ja ?_))
  refine gI a2 s2 ok2 (gC (Ty.int (0:Int)) (gE ok2 fun a4 s4 ok4 D4=>?_));refine tn (Ja (Ja ?_))
  refine gI a4 s4 ok4 (gC (Ty.int (0:Int)) (gE ok4 fun a5 s5 ok5 D5=>?_));refine tn (Je ?_)
  refine JY (fun n1 a6 w1=>∃ (t1:GW) (k:Nat) (z:Int),t1.w = w1∧From s0 t1∧Ok 52 [] a6∧At (Ty.nat k) t1 a6 (.tmp 6)∧At (Ty.int z) t1 a6 (.tmp 5)∧At (Ty.int n) t1 a6 (.tmp 0)∧At (Ty.lst Ty.int l) t1 a6 (.tmp 1)∧(k ≤ l.length)∧(QQ n l k = some z)∧(0 ≤ z∧z ≤ n)∧n1 = l.length - k) (l.length - (0)) ?_ ?_
  ·
   exact ⟨s5,0,0,rfl,((F2.step0 D4.stp).step0 D5.stp),ok5,(cJ (D5.m 0 rfl)),(cJ (D5.k (D4.m 0 rfl))),(D5.k (D4.k (D2.k q1))),(D5.k (D4.k (D2.k (D1.k p1)))),by omega,rfl,by omega,rfl⟩
  ·
   rintro n2 a7 w2 ⟨t2,k,z,rfl,F6,ok6,q14,q15,q16,q17,hk,E,hz,rfl⟩
   refine Ja (Ja ?_)
   refine gI a7 t2 ok6 (gM q14 (gM q17 (gS rfl (fun A B E G H d0=>rP (Jt Try.underlying26 (eI d0))) (gS rfl (fun A B E G H d0 d1=>rP (Jx (eI d0) (eI d1))) (gE ok6 fun a8 s6 ok7 D6=>?_)))));have F7:=F6.step0 D6.stp;have q18:=D6.k q14;have q19:=D6.k q15;have q20:=D6.k q16;have q21:=D6.k q17;refine tn ?_
   refine Jl (p:=(((k:Nat):Int) < (((List.length l):Nat):Int))) (D6.m 3 rfl) (fun c2=>?_) (fun c2=>?_)
   ·
    refine Jf (tn (Ja (Je (Ja (Ja ?_)))))
    refine gI a8 s6 ok7 (gM q21 (gM q18 (gT (Ty.ref [(Ty.int (l.getD k 0))]) rfl (fun A B E G H d0 d1=>rP (Jy Try.underlying26 Try.inf3 (eI d0) (eI d1) oM (Jw Ty.int l 0 k oM))) (gS rfl (fun A B E G H d0=>rP (Jo Try.underlying3 rfl (eI d0) rfl)) (gM q19 (gS rfl (fun A B E G H d0 d1=>rP (y_leq (eI d0) (eI d1))) (gS rfl (fun A B E G H d0=>rP (Jc (eI d0))) (gS rfl (fun A B E G H d0=>gu G (eI d0) fun hg=>Jc (kp (H 1 rfl) E q21)) (gS rfl (fun A B E G H d0=>gu G (eI d0) fun hg=>Jc (kp (H 6 rfl) E q18)) (gT (Ty.grd ((decide ((l.getD k 0) ≤ z)) = false) (Ty.ref [(Ty.int (l.getD k 0))])) rfl (fun A B E G H d0 d1 d2=>guf G (eI d2) fun hg hp=>Jy Try.underlying26 Try.inf3 ((ef d0 rfl).1 hg) ((ef d1 rfl).1 hg) oM (Jw Ty.int l 0 k oM)) (gS rfl (fun A B E G H d0 d1=>gu G (eI d1) fun hg=>Jo Try.underlying3 rfl ((ef d0 rfl).1 hg) rfl) (gS rfl (fun A B E G H d0=>gu G (eI d0) fun hg=>Jc (kp (H 0 rfl) E q20)) (gS rfl (fun A B E G H d0 d1 d2=>gu G (eI d2) fun hg=>KJ ((ef d0 rfl).1 hg) ((ef d1 rfl).1 hg)) (gS rfl (fun A B E G H d0 d1=>rP (Jk (eI d0) rfl (eI d1))) (gS rfl (fun A B E G H d0 d1=>rP (Jc (eI d0))) (gT (Ty.grd (((decide ((l.getD k 0) ≤ z)) || (decide (n < (l.getD k 0)))) = false) (Ty.lst Ty.int l)) rfl (by intro A B E G H d0;refine Jd G rfl rfl dE (eI d0) (fun hg=>?_);obtain ⟨d3,d4⟩:=Xu hg;have d3:=Xw d3;have d4:=Xw d4;exact Jc (kp (H 1 rfl) E q21)) ?_))))))))))))))))
    refine gT (Ty.grd (((decide ((l.getD k 0) ≤ z)) || (decide (n < (l.getD k 0)))) = false) (Ty.nat k)) rfl (by intro A B E G H d0;refine Jd G rfl rfl dE (eI d0) (fun hg=>?_);obtain ⟨d5,d6⟩:=Xu hg;have d5:=Xw d5;have d6:=Xw d6;exact Jc (kp (H 6 rfl) E q18)) (gT (Ty.grd (((decide ((l.getD k 0) ≤ z)) || (decide (n < (l.getD k 0)))) = false) (Ty.ref [(Ty.int (l.getD k 0))])) rfl (by intro A B E G H d0 d1 d2;refine Jd G rfl rfl dE (eI d2) (fun hg=>?_);obtain ⟨d7,d8⟩:=Xu hg;have d7:=Xw d7;have d8:=Xw d8;exact Jy Try.underlying26 Try.inf3 ((ef d0 rfl).1 hg) ((ef d1 rfl).1 hg) oM (Jw Ty.int l 0 k oM)) (gT (Ty.grd (((decide ((l.getD k 0) ≤ z)) || (decide (n < (l.getD k 0)))) = false) (Ty.int (l.getD k 0))) rfl (by intro A B E G H d0 d1;refine Jd G rfl rfl dE (eI d1) (fun hg=>?_);obtain ⟨d9,d10⟩:=Xu hg;have d9:=Xw d9;have d10:=Xw d10;exact Jo Try.underlying3 rfl ((ef d0 rfl).1 hg) rfl) (gT (Ty.grd (((decide ((l.getD k 0) ≤ z)) || (decide (n < (l.getD k 0)))) = false) (Ty.int z)) rfl (by intro A B E G H d0;refine Jd G rfl rfl dE (eI d0) (fun hg=>?_);obtain ⟨d11,d12⟩:=Xu hg;have d11:=Xw d11;have d12:=Xw d12;exact Jc (kp (H 5 rfl) E q19)) ?_)))
    refine gT (Ty.grd (((decide ((l.getD k 0) ≤ z)) || (decide (n < (l.getD k 0)))) = false) (Ty.int ((l.getD k 0) - z))) rfl (by intro A B E G H d0 d1 d2;refine Jd G rfl rfl dE (eI d2) (fun hg=>?_);obtain ⟨d13,d14⟩:=Xu hg;have d13:=Xw d13;have d14:=Xw d14;exact Xn ((ef d0 rfl).1 hg) ((ef d1 rfl).1 hg) wX) (gT (Ty.grd (((decide ((l.getD k 0) ≤ z)) || (decide (n < (l.getD k 0)))) = false) (Ty.nat ((((l.getD k 0) - z)).toNat % 2))) rfl (by intro A B E G H d0 d1;refine Jd G rfl rfl dE (eI d1) (fun hg=>?_);obtain ⟨d15,d16⟩:=Xu hg;have d15:=Xw d15;have d16:=Xw d16;exact y_remN (toN (σ:=B) ((ef d0 rfl).1 hg) oM) (toN (σ:=B) rfl oM) oM) (gT (Ty.grd (((decide ((l.getD k 0) ≤ z)) || (decide (n < (l.getD k 0)))) = false) (Ty.bool (decide (((((((l.getD k 0) - z)).toNat % 2):Nat):Int) = (0:Int))))) rfl (by intro A B E G H d0 d1;refine Jd G rfl rfl dE (eI d1) (fun hg=>?_);obtain ⟨d17,d18⟩:=Xu hg;have d17:=Xw d17;have d18:=Xw d18;exact Qc ((ef d0 rfl).1 hg) rfl) (gS rfl (fun A B E G H d0 d1=>rP (Jk (eI d0) rfl (eI d1))) (gE ok7 fun a9 s7 ok8 D7=>?_))));have F8:=F7.step0 D7.stp;have q23:=D7.k q18;have q25:=D7.k q21;refine tn ?_
    refine JU (D7.m 23 rfl) (fun c3=>?_) (fun c3=>?_)
    ·
     simp only [Bool.or_eq_true,decide_eq_true_eq] at c3
     refine Ja ?_
     refine gI a9 s7 ok8 (gC (Ty.int (6:Int)) (gE ok8 fun a10 s8 ok9 D8=>?_));refine tn (Ji (tr (br (tr (tr (br (tr ?_)))))))
     exact QD rfl ok9 (F8.step0 D8.stp) (cvi (by (exact (chgMay_scan oM E oM oM).symm)) (D8.m 0 rfl))
    ·
     obtain ⟨d19,d20⟩:=Xu c3
     obtain ⟨d21,d22⟩:=Xu d19
     replace d21:=Xw d21
     replace d22:=Xw d22
     replace d20:=Xw d20
     refine Jf (tn ?_)
     refine gI a9 s7 ok8 (gM q25 (gM q23 (gT (Ty.ref [(Ty.int (l.getD k 0))]) rfl (fun A B E G H d0 d1=>rP (Jy Try.underlying26 Try.inf3 (eI d0) (eI d1) oM (Jw Ty.int l 0 k oM))) (gS rfl (fun A B E G H d0=>rP (Jo Try.underlying3 rfl (eI d0) rfl)) (gB 0 (gE ok8 fun a11 s9 ok10 D9=>?_))))));refine bn (tn ?_)
     refine gI a11 s9 ok10 (gM (D9.k q23) (gT (Ty.int (((k:Nat):Int) + (1:Int))) rfl (fun A B E G H d0=>rP (JA (eI d0) rfl wX)) (gB 0 (gE ok10 fun a12 s10 ok11 D10=>?_))))
     have d1_:=(Xw (Bool.or_eq_false_iff.1 c3).2)
     have d2_:=Xw (Bool.or_eq_false_iff.1 (Bool.or_eq_false_iff.1 c3).1).1
     have d3_:=Xw (Bool.or_eq_false_iff.1 (Bool.or_eq_false_iff.1 c3).1).2
     exact tn ⟨l.length - ((k+1)),by omega,s10,(k+1),(l.getD k 0),rfl,((F8.step0 D9.stp).step0 D10.stp),ok11,(cJ (D10.m 2 rfl)),(cJ (D10.k (D9.m 4 rfl))),(D10.k (D9.k (D7.k q20))),(D10.k (D9.k q25)),by omega,scan_step E oM oM oM d1_,by omega,rfl⟩
   ·
    have hk2:k = l.length:=oM
    refine Jv (tx (tx (bx (tn (Ja (Ja ?_))))))
    refine gI a8 s6 ok7 (gM q20 (gM q19 (gT (Ty.int (n - z)) rfl (fun A B E G H d0 d1=>rP (Xn (eI d0) (eI d1) wX)) (gT (Ty.nat (((n - z)).toNat % 2)) rfl (fun A B E G H d0=>rP (y_remN (toN (σ:=B) (eI d0) oM) (toN (σ:=B) rfl oM) oM)) (gS rfl (fun A B E G H d0=>rP (Qc (eI d0) rfl)) (gE ok7 fun a13 s11 ok12 D11=>?_))))));have F12:=F7.step0 D11.stp;refine tn ?_
    refine Jl (p:=((((((n - z)).toNat % 2):Nat):Int) = (1:Int))) (D11.m 4 rfl) (fun c4=>?_) (fun c4=>?_)
    ·
     refine Ja ?_
     refine gI a13 s11 ok12 (gC (Ty.int (6:Int)) (gE ok12 fun a14 s12 ok13 D12=>?_));refine tn (Ji (tr ?_))
     exact QD rfl ok13 (F12.step0 D12.stp) (cvi (by (exact (chgMay_odd oM (by rw [← hk2];exact E) oM).symm)) (D12.m 0 rfl))
    ·
     refine Jf (tn (Ja ?_))
     refine gI a13 s11 ok12 (gC (Ty.int (0:Int)) (gE ok12 fun a15 s13 ok14 D13=>?_));refine tn (Ji ?_)
     exact QD rfl ok14 (F12.step0 D13.stp) (cvi (by (exact (chgMay_ok oM (by rw [← hk2];exact E) oM).symm)) (D13.m 0 rfl))
theorem Try.inf9:Info Try.prog 9 (.string ByteArray.empty) 1 16:=by unfold Info;kernel_rfl
theorem Try.inf22:Info Try.prog 22 (.slice none 0 0) 1 24:=by unfold Info;kernel_rfl
theorem Try.fld24_0:KR Try.prog 24 0 = some (9,0):=by kernel_rfl
theorem Try.fld24_1:KR Try.prog 24 1 = some (3,1):=by kernel_rfl
theorem Try.fld24_2:KR Try.prog 24 2 = some (22,2):=by kernel_rfl
set_option maxHeartbeats 4000000 in
set_option maxRecDepth 100000 in
theorem rMethodMay_fn (nm:ByteArray) (n:Int) (l:List (List Int)) (σ:GW)  (v0:Value) (hv0:Ty.has (Ty.agg [(Ty.val (Value.string nm)),(Ty.int n),(Ty.lst Ty.ints l)]) σ v0)  (hnm:nm.size ≤ 1099511627776) (hn:-9223372036854775808 ≤ n∧n ≤ 9223372036854775807) :
    FnC J 41 #[v0] σ (Ty.int (KP nm n l)):=by
 refine JR Try.func41 rfl Try.ntmps41 (Xy rfl) (fun s0 a0 hle F0 ok0 hargs=>?_)
 have p0:=pA hle (hargs 0 _ rfl) hv0
 clear hargs;refine Ja ?_
 refine gI a0 s0 ok0 (gS rfl (fun A B E G H=>rP (QC (kp (H 0 rfl) E p0))) (gC (Ty.int (0:Int)) (gE ok0 fun a1 s1 ok1 D1=>?_)));have q1:=D1.m 0 rfl;refine tn (Ja ?_)
 refine gI a1 s1 ok1 (gS rfl (fun A B E G H=>rP (JG Try.fld24_0 Try.inf9 dE (kp (H 1 rfl) E q1) rfl)) (gS rfl (fun A B E G H d0=>rP (Jo Try.underlying9 rfl (eI d0) rfl)) (gS rfl (fun A B E G H d0=>rP (JB _ Try.func72 rfl rfl my1 (rIsName_fn (nm) _ _ (eI d0) oM))) (gB 0 (gE ok1 fun a2 s2 ok2 D2=>?_)))));refine tn (Ja (Ja ?_))
 refine gI a2 s2 ok2 (gM (D2.m 3 rfl) (gS rfl (fun A B E G H d0=>rP (y_not (eI d0))) (gE ok2 fun a3 s3 ok3 D3=>?_)));have F3:=((F0.step0 D1.stp).step0 D2.stp).step0 D3.stp;have q4:=D3.k (D2.k q1);refine tn ?_
 refine JU (D3.m 1 rfl) (fun c1=>?_) (fun c1=>?_)
 ·
  have hnn:nameL nm = false:=(by simpa using c1)
  refine Ja ?_
  refine gI a3 s3 ok3 (gC (Ty.int (7:Int)) (gE ok3 fun a4 s4 ok4 D4=>?_));refine tn (Ji (tr ?_))
  exact JJ rfl ok4 (F3.step0 D4.stp) (cvi (by (unfold KP;rw [if_pos hnn])) (D4.m 0 rfl))
 ·
  have hnn:¬ nameL nm = false:=(by simpa using c1)
  refine Jf (tn (Ja (Ja ?_)))
  refine gI a3 s3 ok3 (gS rfl (fun A B E G H=>rP (JG Try.fld24_1 Try.inf3 dE (kp (H 1 rfl) E q4) rfl)) (gS rfl (fun A B E G H d0=>rP (Jo Try.underlying3 rfl (eI d0) rfl)) (gS rfl (fun A B E G H d0=>rP (Jx (eI d0) rfl)) (gS rfl (fun A B E G H d0=>rP (Jc (eI d0))) (gS rfl (fun A B E G H d0=>guf G (eI d0) fun hg hp=>JG Try.fld24_1 Try.inf3 dE (kp (H 1 rfl) E q4) rfl) (gS rfl (fun A B E G H d0 d1=>gu G (eI d1) fun hg=>Jo Try.underlying3 rfl ((ef d0 rfl).1 hg) rfl) (gS rfl (fun A B E G H d0 d1=>gu G (eI d1) fun hg=>KJ ((ef d0 rfl).1 hg) rfl) (gS rfl (fun A B E G H d0 d1=>rP (Jk (eI d0) rfl (eI d1))) (gS rfl (fun A B E G H d0 d1=>rP (Jc (eI d0))) (gT (Ty.grd (((decide (n < (2:Int))) || (decide ((12:Int) < n))) = false) (Ty.ref [(Ty.lst Ty.ints l)])) rfl (by intro A B E G H d0;refine Jd G rfl rfl dE (eI d0) (fun hg=>?_);obtain ⟨d1,d2⟩:=Xu hg;have d1:=Xw d1;have d2:=Xw d2;exact JG Try.fld24_2 Try.inf22 dE (kp (H 1 rfl) E q4) rfl) (gT (Ty.grd (((decide (n < (2:Int))) || (decide ((12:Int) < n))) = false) (Ty.lst Ty.ints l)) rfl (by intro A B E G H d0 d1;refine Jd G rfl rfl dE (eI d1) (fun hg=>?_);obtain ⟨d3,d4⟩:=Xu hg;have d3:=Xw d3;have d4:=Xw d4;exact Jo Try.underlying22 rfl ((ef d0 rfl).1 hg) rfl) ?_)))))))))))
  refine gT (Ty.grd (((decide (n < (2:Int))) || (decide ((12:Int) < n))) = false) (Ty.nat (List.length l))) rfl (by intro A B E G H d0 d1;refine Jd G rfl rfl dE (eI d1) (fun hg=>?_);obtain ⟨d5,d6⟩:=Xu hg;have d5:=Xw d5;have d6:=Xw d6;exact Jt Try.underlying22 ((ef d0 rfl).1 hg)) (gT (Ty.grd (((decide (n < (2:Int))) || (decide ((12:Int) < n))) = false) (Ty.bool (decide ((((List.length l):Nat):Int) < (1:Int))))) rfl (by intro A B E G H d0 d1;refine Jd G rfl rfl dE (eI d1) (fun hg=>?_);obtain ⟨d7,d8⟩:=Xu hg;have d7:=Xw d7;have d8:=Xw d8;exact Jx ((ef d0 rfl).1 hg) rfl) (gS rfl (fun A B E G H d0 d1=>rP (Jk (eI d0) rfl (eI d1))) (gS rfl (fun A B E G H d0 d1=>rP (Jc (eI d0))) (gT (Ty.grd ((((decide (n < (2:Int))) || (decide ((12:Int) < n))) || (decide ((((List.length l):Nat):Int) < (1:Int)))) = false) (Ty.ref [(Ty.lst Ty.ints l)])) rfl (by intro A B E G H d0;refine Jd G rfl rfl dE (eI d0) (fun hg=>?_);obtain ⟨d9,d10⟩:=Xu hg;obtain ⟨d11,d12⟩:=Xu d9;have d11:=Xw d11;have d12:=Xw d12;have d10:=Xw d10;exact JG Try.fld24_2 Try.inf22 dE (kp (H 1 rfl) E q4) rfl) ?_))))
  refine gT (Ty.grd ((((decide (n < (2:Int))) || (decide ((12:Int) < n))) || (decide ((((List.length l):Nat):Int) < (1:Int)))) = false) (Ty.lst Ty.ints l)) rfl (by intro A B E G H d0 d1;refine Jd G rfl rfl dE (eI d1) (fun hg=>?_);obtain ⟨d13,d14⟩:=Xu hg;obtain ⟨d15,d16⟩:=Xu d13;have d15:=Xw d15;have d16:=Xw d16;have d14:=Xw d14;exact Jo Try.underlying22 rfl ((ef d0 rfl).1 hg) rfl) (gT (Ty.grd ((((decide (n < (2:Int))) || (decide ((12:Int) < n))) || (decide ((((List.length l):Nat):Int) < (1:Int)))) = false) (Ty.nat (List.length l))) rfl (by intro A B E G H d0 d1;refine Jd G rfl rfl dE (eI d1) (fun hg=>?_);obtain ⟨d17,d18⟩:=Xu hg;obtain ⟨d19,d20⟩:=Xu d17;have d19:=Xw d19;have d20:=Xw d20;have d18:=Xw d18;exact Jt Try.underlying22 ((ef d0 rfl).1 hg)) (gT (Ty.grd ((((decide (n < (2:Int))) || (decide ((12:Int) < n))) || (decide ((((List.length l):Nat):Int) < (1:Int)))) = false) (Ty.bool (decide ((200:Int) < (((List.length l):Nat):Int))))) rfl (by intro A B E G H d0 d1;refine Jd G rfl rfl dE (eI d1) (fun hg=>?_);obtain ⟨d21,d22⟩:=Xu hg;obtain ⟨d23,d24⟩:=Xu d21;have d23:=Xw d23;have d24:=Xw d24;have d22:=Xw d22;exact KJ ((ef d0 rfl).1 hg) rfl) (gS rfl (fun A B E G H d0 d1=>rP (Jk (eI d0) rfl (eI d1))) (gE ok3 fun a5 s5 ok5 D5=>?_))));have F5:=F3.step0 D5.stp;refine tn ?_
  refine JU (D5.m 19 rfl) (fun c2=>?_) (fun c2=>?_)
  ·
   simp only [Bool.or_eq_true,decide_eq_true_eq] at c2;have h4:n < 2 ∨ 12 < n ∨ l.length < 1 ∨ 200 < l.length:=oM
   refine Ja ?_
   refine gI a5 s5 ok5 (gC (Ty.int (1:Int)) (gE ok5 fun a6 s6 ok6 D6=>?_));refine tn (Ji (tr ?_))
   exact JJ rfl ok6 (F5.step0 D6.stp) (cvi (by (unfold KP;rw [if_neg hnn,if_pos h4])) (D6.m 0 rfl))
  ·
   obtain ⟨d25,d26⟩:=Xu c2
   obtain ⟨d27,d28⟩:=Xu d25
   obtain ⟨d29,d30⟩:=Xu d27
   replace d29:=Xw d29
   replace d30:=Xw d30
   replace d28:=Xw d28
   replace d26:=Xw d26
   have h4:¬ (n < 2 ∨ 12 < n ∨ l.length < 1 ∨ 200 < l.length):=(by simp only [Bool.or_eq_false_iff,decide_eq_false_iff_not] at c2;omega);have hmm:KP nm n l = KV n l:=(by unfold KP;rw [if_neg hnn,if_neg h4])
   refine Jf (tn (Ja (Ja ?_)))
   refine gI a5 s5 ok5 (gC (Ty.int (0:Int)) (gE ok5 fun a7 s7 ok7 D7=>?_));refine tn (Je ?_)
   refine JY (fun n1 a8 w1=>∃ (t1:GW) (k:Nat),t1.w = w1∧FromL [] s0 t1∧Ok 49 [] a8∧At (Ty.nat k) t1 a8 (.tmp 4)∧At (Ty.ref [(Ty.val (Value.string nm)),(Ty.int n),(Ty.lst Ty.ints l)]) t1 a8 (.tmp 1)∧(k ≤ l.length)∧(KV n (l.drop k) = KV n l)∧n1 = l.length - k) (l.length - (0)) ?_ ?_
   ·
    exact ⟨s7,0,rfl,(F5.step0 D7.stp),ok7,(cJ (D7.m 0 rfl)),(D7.k (D5.k q4)),by omega,rfl,rfl⟩
   ·
    rintro n2 a9 w2 ⟨t2,k,rfl,F8,ok8,q12,q13,hk,ha,rfl⟩
    refine Ja (Ja ?_)
    refine gI a9 t2 ok8 (gM q12 (gS rfl (fun A B E G H=>rP (JG Try.fld24_2 Try.inf22 dE (kp (H 1 rfl) E q13) rfl)) (gS rfl (fun A B E G H d0=>rP (Jo Try.underlying22 rfl (eI d0) rfl)) (gS rfl (fun A B E G H d0=>rP (Jt Try.underlying22 (eI d0))) (gS rfl (fun A B E G H d0 d1=>rP (Jx (eI d0) (eI d1))) (gE ok8 fun a10 s8 ok9 D8=>?_))))));have F9:=F8.step0 D8.stp;have q14:=D8.k q12;have q15:=D8.k q13;refine tn ?_
    refine Jl (p:=(((k:Nat):Int) < (((List.length l):Nat):Int))) (D8.m 4 rfl) (fun c3=>?_) (fun c3=>?_)
    ·
     refine Jf (tn (Ja (Je (Ja ?_))))
     refine gI a10 s8 ok9 (gS rfl (fun A B E G H=>rP (JG Try.fld24_1 Try.inf3 dE (kp (H 1 rfl) E q15) rfl)) (gS rfl (fun A B E G H d0=>rP (Jo Try.underlying3 rfl (eI d0) rfl)) (gS rfl (fun A B E G H=>rP (JG Try.fld24_2 Try.inf22 dE (kp (H 1 rfl) E q15) rfl)) (gS rfl (fun A B E G H d0=>rP (Jo Try.underlying22 rfl (eI d0) rfl)) (gM q14 (gT (Ty.ref [(Ty.lst Ty.int (l.getD k []))]) rfl (fun A B E G H d0 d1=>rP (Jy Try.underlying22 Try.inf26 (eI d0) (eI d1) oM (Jw Ty.ints l [] k oM))) (gS rfl (fun A B E G H d0=>rP (Jo Try.underlying26 rfl (eI d0) rfl)) (gS rfl (fun A B E G H d0 d1=>rP (JB _ Try.func43 rfl rfl my2 (rChangeMay_fn (n) ((l.getD k [])) _ _ _ (eI d0) (eI d1) oM))) (gB 0 (gE ok9 fun a11 s9 ok10 D9=>?_))))))))));have q19:=D9.m 8 rfl;refine tn (Ja ?_)
     refine gI a11 s9 ok10 (gM q19 (gS rfl (fun A B E G H d0=>rP (Qx (eI d0) rfl)) (gE ok10 fun a12 s10 ok11 D10=>?_)));have F11:=(F9.step0 D9.stp).step0 D10.stp;refine tn ?_
     refine Jl (p:=((Qh n ((l.getD k []))) ≠ (0:Int))) (D10.m 1 rfl) (fun c4=>?_) (fun c4=>?_)
     ·
      refine Ja ?_
      refine gI a12 s10 ok11 (gM (D10.k q19) (gB 0 (gE ok11 fun a13 s11 ok12 D11=>?_)));refine tn (Ji (br (tr (tr (br (tr ?_))))))
      exact JJ rfl ok12 (F11.step0 D11.stp) (cvi (by (rw [hmm];exact (allMay_stop ha oM c4).symm)) (D11.m 1 rfl))
     ·
      refine Jf (bn (tn ?_))
      refine gI a12 s10 ok11 (gM (D10.k (D9.k q14)) (gT (Ty.int (((k:Nat):Int) + (1:Int))) rfl (fun A B E G H d0=>rP (JA (eI d0) rfl wX)) (gB 0 (gE ok11 fun a14 s12 ok13 D12=>?_))))
      exact tn ⟨l.length - ((k+1)),by omega,s12,(k+1),rfl,(F11.step0 D12.stp),ok13,(cJ (D12.m 2 rfl)),(D12.k (D10.k (D9.k q15))),by omega,allMay_step ha oM c4,rfl⟩
    ·
     refine Jv (tx (tx (bx (tn (Ja ?_)))))
     refine gI a10 s8 ok9 (gC (Ty.int (0:Int)) (gE ok9 fun a15 s13 ok14 D13=>?_));refine tn (Ji ?_)
     exact JJ rfl ok14 (F9.step0 D13.stp) (cvi (by (rw [hmm];exact (allMay_end ha oM).symm)) (D13.m 0 rfl))
set_option maxHeartbeats 4000000 in
set_option maxRecDepth 100000 in
theorem rSignMay_fn (c:Int) (σ:GW)  (v0:Value) (hv0:Ty.has (Ty.val (Value.int .i32 c)) σ v0)   :
    FnC J 42 #[v0] σ (Ty.bool (QK c)):=by
 refine JR Try.func42 rfl Try.ntmps42 (Xy rfl) (fun s0 a0 hle F0 ok0 hargs=>?_)
 have p0:=pA hle (hargs 0 _ rfl) hv0
 clear hargs;refine Ja ?_
 refine gI a0 s0 ok0 (gC (Ty.bool false) (gE ok0 fun a1 s1 ok1 D1=>?_));have q1:=D1.k p0;refine tn (Ja ?_)
 refine gI a1 s1 ok1 (gM q1 (gS rfl (fun A B E G H d0=>rP (QB (eI d0) rfl)) (gS rfl (fun A B E G H d0=>rP (Jc (eI d0))) (gS rfl (fun A B E G H d0=>gu G (eI d0) fun hg=>Jc (kp (H 0 rfl) E q1)) (gS rfl (fun A B E G H d0 d1=>gu G (eI d1) fun hg=>y_leq ((ef d0 rfl).1 hg) rfl) (gS rfl (fun A B E G H d0 d1=>rP (Jr (eI d0) (eI d1) rfl)) (gB 0 (gE ok1 fun a2 s2 ok2 D2=>?_))))))));have q2:=D2.k q1;refine tn (Ja ?_)
 refine gI a2 s2 ok2 (gM q2 (gS rfl (fun A B E G H d0=>rP (QB (eI d0) rfl)) (gS rfl (fun A B E G H d0=>rP (Jc (eI d0))) (gS rfl (fun A B E G H d0=>gu G (eI d0) fun hg=>Jc (kp (H 0 rfl) E q2)) (gS rfl (fun A B E G H d0 d1=>gu G (eI d1) fun hg=>y_leq ((ef d0 rfl).1 hg) rfl) (gS rfl (fun A B E G H d0 d1=>rP (Jr (eI d0) (eI d1) rfl)) (gS rfl (fun A B E G H d0 d1=>rP (Jc (eI d0))) (gT (Ty.grd (((decide ((33:Int) ≤ c)) && (decide (c ≤ (12287:Int)))) = true) (Ty.bool ((decide ((48:Int) ≤ c)) && (decide (c ≤ (57:Int)))))) rfl (by intro A B E G H d0;refine Jd G rfl rfl dE (eI d0) (fun hg=>?_);obtain ⟨d1,d2⟩:=Xv hg;have d1:=Xx d1;have d2:=Xx d2;exact Jc (kp (H 3 rfl) E (D2.m 6 rfl))) (gT (Ty.grd (((decide ((33:Int) ≤ c)) && (decide (c ≤ (12287:Int)))) = true) (Ty.bool (!((decide ((48:Int) ≤ c)) && (decide (c ≤ (57:Int))))))) rfl (by intro A B E G H d0 d1;refine Jd G rfl rfl dE (eI d1) (fun hg=>?_);obtain ⟨d3,d4⟩:=Xv hg;have d3:=Xx d3;have d4:=Xx d4;exact y_not ((ef d0 rfl).1 hg)) (gS rfl (fun A B E G H d0 d1=>rP (Jr (eI d0) (eI d1) rfl)) (gS rfl (fun A B E G H d0 d1=>rP (Jc (eI d0))) ?_)))))))))))
 refine gT (Ty.grd ((((decide ((33:Int) ≤ c)) && (decide (c ≤ (12287:Int)))) && (!((decide ((48:Int) ≤ c)) && (decide (c ≤ (57:Int)))))) = true) (Ty.val (Value.int .i32 c))) rfl (by intro A B E G H d0;refine Jd G rfl rfl dE (eI d0) (fun hg=>?_);obtain ⟨d5,d6⟩:=Xv hg;obtain ⟨d7,d8⟩:=Xv d5;have d7:=Xx d7;have d8:=Xx d8;exact Jc (kp (H 0 rfl) E q2)) (gT (Ty.grd ((((decide ((33:Int) ≤ c)) && (decide (c ≤ (12287:Int)))) && (!((decide ((48:Int) ≤ c)) && (decide (c ≤ (57:Int)))))) = true) (Ty.bool (decide (c ≠ (40:Int))))) rfl (by intro A B E G H d0 d1;refine Jd G rfl rfl dE (eI d1) (fun hg=>?_);obtain ⟨d9,d10⟩:=Xv hg;obtain ⟨d11,d12⟩:=Xv d9;have d11:=Xx d11;have d12:=Xx d12;exact Qx ((ef d0 rfl).1 hg) rfl) (gS rfl (fun A B E G H d0 d1=>rP (Jr (eI d0) (eI d1) rfl)) (gS rfl (fun A B E G H d0 d1=>rP (Jc (eI d0))) (gT (Ty.grd (((((decide ((33:Int) ≤ c)) && (decide (c ≤ (12287:Int)))) && (!((decide ((48:Int) ≤ c)) && (decide (c ≤ (57:Int)))))) && (decide (c ≠ (40:Int)))) = true) (Ty.val (Value.int .i32 c))) rfl (by intro A B E G H d0;refine Jd G rfl rfl dE (eI d0) (fun hg=>?_);obtain ⟨d13,d14⟩:=Xv hg;obtain ⟨d15,d16⟩:=Xv d13;obtain ⟨d17,d18⟩:=Xv d15;have d17:=Xx d17;have d18:=Xx d18;have d14:=Xx d14;exact Jc (kp (H 0 rfl) E q2)) ?_))))
 refine gT (Ty.grd (((((decide ((33:Int) ≤ c)) && (decide (c ≤ (12287:Int)))) && (!((decide ((48:Int) ≤ c)) && (decide (c ≤ (57:Int)))))) && (decide (c ≠ (40:Int)))) = true) (Ty.bool (decide (c ≠ (41:Int))))) rfl (by intro A B E G H d0 d1;refine Jd G rfl rfl dE (eI d1) (fun hg=>?_);obtain ⟨d19,d20⟩:=Xv hg;obtain ⟨d21,d22⟩:=Xv d19;obtain ⟨d23,d24⟩:=Xv d21;have d23:=Xx d23;have d24:=Xx d24;have d20:=Xx d20;exact Qx ((ef d0 rfl).1 hg) rfl) (gS rfl (fun A B E G H d0 d1=>rP (Jr (eI d0) (eI d1) rfl)) (gS rfl (fun A B E G H d0 d1=>rP (Jc (eI d0))) (gT (Ty.grd ((((((decide ((33:Int) ≤ c)) && (decide (c ≤ (12287:Int)))) && (!((decide ((48:Int) ≤ c)) && (decide (c ≤ (57:Int)))))) && (decide (c ≠ (40:Int)))) && (decide (c ≠ (41:Int)))) = true) (Ty.val (Value.int .i32 c))) rfl (by intro A B E G H d0;refine Jd G rfl rfl dE (eI d0) (fun hg=>?_);obtain ⟨d25,d26⟩:=Xv hg;obtain ⟨d27,d28⟩:=Xv d25;obtain ⟨d29,d30⟩:=Xv d27;obtain ⟨d31,d32⟩:=Xv d29;have d31:=Xx d31;have d32:=Xx d32;have d28:=Xx d28;have d26:=Xx d26;exact Jc (kp (H 0 rfl) E q2)) ?_)))
 refine gT (Ty.grd ((((((decide ((33:Int) ≤ c)) && (decide (c ≤ (12287:Int)))) && (!((decide ((48:Int) ≤ c)) && (decide (c ≤ (57:Int)))))) && (decide (c ≠ (40:Int)))) && (decide (c ≠ (41:Int)))) = true) (Ty.bool (decide (c < (127:Int))))) rfl (by intro A B E G H d0 d1;refine Jd G rfl rfl dE (eI d1) (fun hg=>?_);obtain ⟨d33,d34⟩:=Xv hg;obtain ⟨d35,d36⟩:=Xv d33;obtain ⟨d37,d38⟩:=Xv d35;obtain ⟨d39,d40⟩:=Xv d37;have d39:=Xx d39;have d40:=Xx d40;have d36:=Xx d36;have d34:=Xx d34;exact Jx ((ef d0 rfl).1 hg) rfl) (gT (Ty.grd ((((((decide ((33:Int) ≤ c)) && (decide (c ≤ (12287:Int)))) && (!((decide ((48:Int) ≤ c)) && (decide (c ≤ (57:Int)))))) && (decide (c ≠ (40:Int)))) && (decide (c ≠ (41:Int)))) = true) (Ty.bool (decide (c < (127:Int))))) rfl (by intro A B E G H d0 d1 d2;refine Jd G rfl rfl dE (eI d1) (fun hg=>?_);obtain ⟨d41,d42⟩:=Xv hg;obtain ⟨d43,d44⟩:=Xv d41;obtain ⟨d45,d46⟩:=Xv d43;obtain ⟨d47,d48⟩:=Xv d45;have d47:=Xx d47;have d48:=Xx d48;have d44:=Xx d44;have d42:=Xx d42;exact Jc ((ef d0 rfl).1 hg)) (gS rfl (fun A B E G H d0=>gu2 G (eI d0) fun hg=>Jc (kp (H 0 rfl) E q2)) (gS rfl (fun A B E G H d0 d1=>gu2 G (eI d1) fun hg=>KJ ((ef d0 rfl).1 hg) rfl) ?_)))
 refine gT (Ty.grd ((((((decide ((33:Int) ≤ c)) && (decide (c ≤ (12287:Int)))) && (!((decide ((48:Int) ≤ c)) && (decide (c ≤ (57:Int)))))) && (decide (c ≠ (40:Int)))) && (decide (c ≠ (41:Int)))) = true) (Ty.bool ((decide (c < (127:Int))) || (decide ((160:Int) < c))))) rfl (by intro A B E G H d0 d1 d2;refine Jd G rfl rfl dE (eI d2) (fun hg=>?_);obtain ⟨d49,d50⟩:=Xv hg;obtain ⟨d51,d52⟩:=Xv d49;obtain ⟨d53,d54⟩:=Xv d51;obtain ⟨d55,d56⟩:=Xv d53;have d55:=Xx d55;have d56:=Xx d56;have d52:=Xx d52;have d50:=Xx d50;exact Jk ((ef d0 rfl).1 hg) rfl (KX hg (eI d1))) (gS rfl (fun A B E G H d0 d1=>rP (Jr (eI d0) (eI d1) rfl)) (gB 0 (gE ok2 fun a3 s3 ok3 D3=>?_)));refine tn (Ji ?_)
 exact JJ rfl ok3 (((F0.step0 D1.stp).step0 D2.stp).step0 D3.stp) (cvb (by (rw [Bool.eq_iff_iff];simp only [QK,Bool.and_eq_true,Bool.or_eq_true,decide_eq_true_eq,Bool.not_eq_true',Bool.and_eq_false_iff,decide_eq_false_iff_not];omega)) (D3.m 26 rfl))
theorem Try.inf21:Info Try.prog 21 (.int .i32 0) 1 4:=by unfold Info;kernel_rfl
theorem Try.fld51_0:KR Try.prog 51 0 = some (21,0):=by kernel_rfl
theorem Try.fld51_1:KR Try.prog 51 1 = some (22,1):=by kernel_rfl
set_option maxHeartbeats 4000000 in
set_option maxRecDepth 100000 in
theorem rCallsMay_fn (nm:ByteArray) (n:Int) (l:List (List Int)) (cs:List JL) (σ:GW)  (v0 v1:Value) (hv0:Ty.has (Ty.agg [(Ty.val (Value.string nm)),(Ty.int n),(Ty.lst Ty.ints l)]) σ v0) (hv1:Ty.has (Ty.lstc 2 Ky cs) σ v1)  (hnm:nm.size ≤ 1099511627776) (hn:-9223372036854775808 ≤ n∧n ≤ 9223372036854775807) :
    FnC J 21 #[v0,v1] σ (Ty.int (Kx nm n l cs)):=by
 refine JR Try.func21 rfl Try.ntmps21 (Xy rfl) (fun s0 a0 hle F0 ok0 hargs=>?_)
 have p0:=pA hle (hargs 0 _ rfl) hv0
 have p1:=pA hle (hargs 1 _ rfl) hv1
 have b1:=JI p1
 clear hargs;refine Ja ?_
 refine gI a0 s0 ok0 (gS rfl (fun A B E G H=>rP (QC (kp (H 0 rfl) E p0))) (gC (Ty.int (0:Int)) (gE ok0 fun a1 s1 ok1 D1=>?_)));have q2:=D1.m 0 rfl;refine tn (Ja ?_)
 refine gI a1 s1 ok1 (gS rfl (fun A B E G H=>rP (Qd Try.underlying24 Try.inf24 (kp (H 2 rfl) E q2))) (gS rfl (fun A B E G H d0=>rP (JB _ Try.func41 rfl rfl my1 (rMethodMay_fn (nm) (n) (l) _ _ (eI d0) oX oX))) (gB 0 (gE ok1 fun a2 s2 ok2 D2=>?_))));have q5:=D2.m 2 rfl;refine tn (Ja (Ja ?_))
 refine gI a2 s2 ok2 (gM q5 (gS rfl (fun A B E G H d0=>rP (Qx (eI d0) rfl)) (gE ok2 fun a3 s3 ok3 D3=>?_)));have F3:=((F0.step0 D1.stp).step0 D2.stp).step0 D3.stp;have q6:=D3.k (D2.k (D1.k p1));refine tn ?_
 refine Jl (p:=((KP nm n l) ≠ (0:Int))) (D3.m 1 rfl) (fun c1=>?_) (fun c1=>?_)
 ·
  have hm:=callsMay_meth (cs:=cs) c1
  refine Ja ?_
  refine gI a3 s3 ok3 (gM (D3.k q5) (gB 0 (gE ok3 fun a4 s4 ok4 D4=>?_)));refine tn (Ji (tr ?_))
  exact JJ rfl ok4 (F3.step0 D4.stp) (cvi (by (exact hm.symm)) (D4.m 1 rfl))
 ·
  refine Jf (tn (Ja (Ja ?_)))
  refine gI a3 s3 ok3 (gM q6 (gS rfl (fun A B E G H d0=>rP (Jt Try.underlying25 (eI d0))) (gS rfl (fun A B E G H d0=>rP (Jx (eI d0) rfl)) (gS rfl (fun A B E G H d0=>rP (Jc (eI d0))) (gS rfl (fun A B E G H d0=>gu G (eI d0) fun hg=>Jc (kp (H 1 rfl) E q6)) (gS rfl (fun A B E G H d0 d1=>gu G (eI d1) fun hg=>Jt Try.underlying25 ((ef d0 rfl).1 hg)) (gS rfl (fun A B E G H d0 d1=>gu G (eI d1) fun hg=>KJ ((ef d0 rfl).1 hg) rfl) (gS rfl (fun A B E G H d0 d1=>rP (Jk (eI d0) rfl (eI d1))) (gE ok3 fun a5 s5 ok5 D5=>?_)))))))));have F5:=F3.step0 D5.stp;refine tn ?_
  refine JU (D5.m 7 rfl) (fun c2=>?_) (fun c2=>?_)
  ·
   simp only [Bool.or_eq_true,decide_eq_true_eq] at c2;have hm:=callsMay_cnt (cs:=cs) c1 oM
   refine Ja ?_
   refine gI a5 s5 ok5 (gC (Ty.int (1:Int)) (gE ok5 fun a6 s6 ok6 D6=>?_));refine tn (Ji (tr ?_))
   exact JJ rfl ok6 (F5.step0 D6.stp) (cvi (by (exact hm.symm)) (D6.m 0 rfl))
  ·
   obtain ⟨d1,d2⟩:=Xu c2
   replace d1:=Xw d1
   replace d2:=Xw d2
   have hx2:¬ (cs.length < 1 ∨ 8 < cs.length):=(by simp only [Bool.or_eq_false_iff,decide_eq_false_iff_not] at c2;omega);have hm:=callsMay_all c1 hx2;have hl2:=(methMay_ok' (Classical.not_not.1 c1)).1.l2
   refine Jf (tn (Ja (Ja ?_)))
   refine gI a5 s5 ok5 (gC (Ty.int (0:Int)) (gE ok5 fun a7 s7 ok7 D7=>?_));refine tn (Je ?_)
   refine JY (fun n1 a8 w1=>∃ (t1:GW) (i:Nat),t1.w = w1∧FromL [] s0 t1∧Ok 88 [] a8∧At (Ty.nat i) t1 a8 (.tmp 6)∧At (Ty.lstc 2 Ky cs) t1 a8 (.tmp 1)∧At (Ty.ref [(Ty.val (Value.string nm)),(Ty.int n),(Ty.lst Ty.ints l)]) t1 a8 (.tmp 2)∧(i ≤ cs.length)∧(Qs n l.length ((cs.take i).map (·.1)) (cs.drop i) = Qs n l.length [] cs)∧n1 = cs.length - i) (cs.length - (0)) ?_ ?_
   ·
    exact ⟨s7,0,rfl,(F5.step0 D7.stp),ok7,(cJ (D7.m 0 rfl)),(D7.k (D5.k q6)),(D7.k (D5.k (D3.k (D2.k q2)))),by omega,rfl,rfl⟩
   ·
    rintro n2 a9 w2 ⟨t2,i,rfl,F8,ok8,q18,q19,q20,hi,hc,rfl⟩
    refine Ja (Ja ?_)
    refine gI a9 t2 ok8 (gM q18 (gM q19 (gS rfl (fun A B E G H d0=>rP (Jt Try.underlying25 (eI d0))) (gS rfl (fun A B E G H d0 d1=>rP (Jx (eI d0) (eI d1))) (gE ok8 fun a10 s8 ok9 D8=>?_)))));have F9:=F8.step0 D8.stp;have q21:=D8.k q18;have q22:=D8.k q19;refine tn ?_
    refine Jl (p:=(((i:Nat):Int) < (((List.length cs):Nat):Int))) (D8.m 3 rfl) (fun c3=>?_) (fun c3=>?_)
    ·
     refine Jf (tn (Ja (Je (Ja ?_))))
     refine gI a10 s8 ok9 (gM q22 (gM q21 (gT (Ty.ref [(Ty.val (Value.int .i32 ((cs.getD i D0)).1)),(Ty.lst Ty.ints ((cs.getD i D0)).2)]) rfl (fun A B E G H d0 d1=>rP (Qk (i:=((i:Nat):Int)) D0 Try.underlying25 Try.inf51 (eI d0) (eI d1) oM oM dE (fun _=>rfl))) (gS rfl (fun A B E G H d0=>rP (JG Try.fld51_0 Try.inf21 dE (eI d0) rfl)) (gS rfl (fun A B E G H d0=>rP (Jo Try.underlying21 rfl (eI d0) rfl)) (gS rfl (fun A B E G H d0=>rP (JB _ Try.func42 rfl rfl my1 (rSignMay_fn (((cs.getD i D0)).1) _ _ (cvi (σ:=B) oM (ef d0 rfl)) ))) (gB 0 (gE ok9 fun a11 s9 ok10 D9=>?_))))))));refine tn (Ja (Ja ?_))
     refine gI a11 s9 ok10 (gM (D9.m 6 rfl) (gS rfl (fun A B E G H d0=>rP (y_not (eI d0))) (gE ok10 fun a12 s10 ok11 D10=>?_)));have F11:=(F9.step0 D9.stp).step0 D10.stp;refine tn ?_
     refine JU (D10.m 1 rfl) (fun c4=>?_) (fun c4=>?_)
     ·
      have hs4:QK (cs.getD i D0).1 = false:=(by simpa using c4);have hv:=calls_at hc oM (step_sign hs4) dE
      refine Ja ?_
      refine gI a12 s10 ok11 (gC (Ty.int (4:Int)) (gE ok11 fun a13 s11 ok12 D11=>?_));refine tn (Ji (tr (br (tr (tr (br (tr ?_)))))))
      exact JJ rfl ok12 (F11.step0 D11.stp) (cvi (by (rw [hm];exact hv.symm)) (D11.m 0 rfl))
     ·
      have hs4:QK (cs.getD i D0).1 = true:=(by simpa using c4)
      refine Jf (tn (Ja (Ja ?_)))
      refine gI a12 s10 ok11 (gC (Ty.int (0:Int)) (gE ok11 fun a14 s12 ok13 D12=>?_));refine tn (Je ?_)
      refine JY (fun n3 a15 w3=>∃ (t3:GW) (k:Nat),t3.w = w3∧FromL [] s0 t3∧Ok 88 [] a15∧At (Ty.nat k) t3 a15 (.tmp 8)∧At (Ty.nat i) t3 a15 (.tmp 6)∧At (Ty.lstc 2 Ky cs) t3 a15 (.tmp 1)∧At (Ty.ref [(Ty.val (Value.string nm)),(Ty.int n),(Ty.lst Ty.ints l)]) t3 a15 (.tmp 2)∧(k ≤ i)∧(∀ j,j < k → (cs.getD j D0).1 ≠ (cs.getD i D0).1)∧n3 = i - k) (i - (0)) ?_ ?_
      ·
       exact ⟨s12,0,rfl,(F11.step0 D12.stp),ok13,(cJ (D12.m 0 rfl)),(D12.k (D10.k (D9.k q21))),(D12.k (D10.k (D9.k q22))),(D12.k (D10.k (D9.k (D8.k q20)))),by omega,fun j hj=>absurd hj (Nat.not_lt_zero j),rfl⟩
      ·
       rintro n4 a16 w4 ⟨t4,k,rfl,F14,ok14,q38,q39,q40,q41,hk,hno,rfl⟩
       refine Ja (Ja ?_)
       refine gI a16 t4 ok14 (gM q38 (gM q39 (gS rfl (fun A B E G H d0 d1=>rP (Jx (eI d0) (eI d1))) (gE ok14 fun a17 s13 ok15 D13=>?_))));have F15:=F14.step0 D13.stp;have q42:=D13.k q38;have q43:=D13.k q39;have q44:=D13.k q40;have q45:=D13.k q41;refine tn ?_
       refine Jl (p:=(((k:Nat):Int) < ((i:Nat):Int))) (D13.m 2 rfl) (fun c5=>?_) (fun c5=>?_)
       ·
        refine Jf (tn (Ja (Je (Ja ?_))))
        refine gI a17 s13 ok15 (gM q44 (gM q42 (gT (Ty.ref [(Ty.val (Value.int .i32 ((cs.getD k D0)).1)),(Ty.lst Ty.ints ((cs.getD k D0)).2)]) rfl (fun A B E G H d0 d1=>rP (Qk (i:=((k:Nat):Int)) D0 Try.underlying25 Try.inf51 (eI d0) (eI d1) oM oM dE (fun _=>rfl))) (gS rfl (fun A B E G H d0=>rP (JG Try.fld51_0 Try.inf21 dE (eI d0) rfl)) (gS rfl (fun A B E G H d0=>rP (Jo Try.underlying21 rfl (eI d0) rfl)) (gM q44 (gM q43 (gT (Ty.ref [(Ty.val (Value.int .i32 ((cs.getD i D0)).1)),(Ty.lst Ty.ints ((cs.getD i D0)).2)]) rfl (fun A B E G H d0 d1=>rP (Qk (i:=((i:Nat):Int)) D0 Try.underlying25 Try.inf51 (eI d0) (eI d1) oM oM dE (fun _=>rfl))) (gS rfl (fun A B E G H d0=>rP (JG Try.fld51_0 Try.inf21 dE (eI d0) rfl)) (gS rfl (fun A B E G H d0=>rP (Jo Try.underlying21 rfl (eI d0) rfl)) (gS rfl (fun A B E G H d0 d1=>rP (Qc (eI d0) (eI d1))) (gE ok15 fun a18 s14 ok16 D14=>?_))))))))))));have F16:=F15.step0 D14.stp;refine tn ?_
        refine Jl (p:=(((cs.getD k D0)).1 = ((cs.getD i D0)).1)) (D14.m 10 rfl) (fun c6=>?_) (fun c6=>?_)
        ·
         have hs5:(cs.getD i D0).1 ∈ ((cs.take i).map (·.1)):=pre_in oM oM c6;have hv:=calls_at hc oM (step_dbl hs4 hs5) dE
         refine Ja ?_
         refine gI a18 s14 ok16 (gC (Ty.int (8:Int)) (gE ok16 fun a19 s15 ok17 D15=>?_));refine tn (Ji (br (tr (tr (br (tr (br (tr (tr (br (tr ?_)))))))))))
         exact JJ rfl ok17 (F16.step0 D15.stp) (cvi (by (rw [hm];exact hv.symm)) (D15.m 0 rfl))
        ·
         refine Jf (bn (tn ?_))
         refine gI a18 s14 ok16 (gM (D14.k q42) (gT (Ty.nat (k + 1)) rfl (fun A B E G H d0=>rP ((JA (eI d0) rfl wX).mono (fun τ _ h=>cN (σ:=τ) h))) (gB 0 (gE ok16 fun a20 s16 ok18 D16=>?_))))
         exact tn ⟨i - ((k+1)),by omega,s16,(k+1),rfl,(F16.step0 D16.stp),ok18,(cJ (D16.m 2 rfl)),(D16.k (D14.k q43)),(D16.k (D14.k q44)),(D16.k (D14.k q45)),by omega,fun j hj=>by (by_cases e:j = k;subst e;assumption;exact hno j oM),rfl⟩
       ·
        have hs5:(cs.getD i D0).1 ∉ ((cs.take i).map (·.1)):=pre_out (fun j hj=>hno j oM)
        refine Jv (tx (tx (bx (tn (Ja (Ja ?_))))))
        refine gI a17 s13 ok15 (gM q44 (gM q43 (gT (Ty.ref [(Ty.val (Value.int .i32 ((cs.getD i D0)).1)),(Ty.lst Ty.ints ((cs.getD i D0)).2)]) rfl (fun A B E G H d0 d1=>rP (Qk (i:=((i:Nat):Int)) D0 Try.underlying25 Try.inf51 (eI d0) (eI d1) oM oM dE (fun _=>rfl))) (gS rfl (fun A B E G H d0=>rP (JG Try.fld51_1 Try.inf22 dE (eI d0) rfl)) (gS rfl (fun A B E G H d0=>rP (Jo Try.underlying22 rfl (eI d0) rfl)) (gS rfl (fun A B E G H d0=>rP (Jt Try.underlying22 (eI d0))) (gS rfl (fun A B E G H=>rP (JG Try.fld24_2 Try.inf22 dE (kp (H 2 rfl) E q45) rfl)) (gS rfl (fun A B E G H d0=>rP (Jo Try.underlying22 rfl (eI d0) rfl)) (gS rfl (fun A B E G H d0=>rP (Jt Try.underlying22 (eI d0))) (gS rfl (fun A B E G H d0 d1=>rP (KJ (eI d0) (eI d1))) (gE ok15 fun a21 s17 ok19 D17=>?_)))))))))));have F19:=F15.step0 D17.stp;refine tn ?_
        refine Jl (p:=((((List.length l):Nat):Int) < (((List.length ((cs.getD i D0)).2):Nat):Int))) (D17.m 9 rfl) (fun c7=>?_) (fun c7=>?_)
        ·
         have hs6:l.length < (cs.getD i D0).2.length:=oM;have hv:=calls_at hc oM (step_long hs4 hs5 hs6) dE
         refine Ja ?_
         refine gI a21 s17 ok19 (gC (Ty.int (1:Int)) (gE ok19 fun a22 s18 ok20 D18=>?_));refine tn (Ji (tr (br (tr (tr (br (tr ?_)))))))
         exact JJ rfl ok20 (F19.step0 D18.stp) (cvi (by (rw [hm];exact hv.symm)) (D18.m 0 rfl))
        ·
         have hs6:¬ l.length < (cs.getD i D0).2.length:=oM
         refine Jf (tn (Ja ?_))
         refine gI a21 s17 ok19 (gC (Ty.int (0:Int)) (gE ok19 fun a23 s19 ok21 D19=>?_));refine tn (Je ?_)
         refine JY (fun n5 a24 w5=>∃ (t5:GW) (k:Nat),t5.w = w5∧FromL [] s0 t5∧Ok 88 [] a24∧At (Ty.nat k) t5 a24 (.tmp 9)∧At (Ty.nat i) t5 a24 (.tmp 6)∧At (Ty.lstc 2 Ky cs) t5 a24 (.tmp 1)∧At (Ty.ref [(Ty.val (Value.string nm)),(Ty.int n),(Ty.lst Ty.ints l)]) t5 a24 (.tmp 2)∧(k ≤ (cs.getD i D0).2.length)∧(KV n ((cs.getD i D0).2.drop k) = KV n (cs.getD i D0).2)∧n5 = (cs.getD i D0).2.length - k) ((cs.getD i D0).2.length - (0)) ?_ ?_
         ·
          exact ⟨s19,0,rfl,(F19.step0 D19.stp),ok21,(cJ (D19.m 0 rfl)),(D19.k (D17.k q43)),(D19.k (D17.k q44)),(D19.k (D17.k q45)),by omega,rfl,rfl⟩
         ·
          rintro n6 a25 w6 ⟨t6,k,rfl,F22,ok22,q66,q67,q68,q69,hk,ha,rfl⟩
          refine Ja (Ja ?_)
          refine gI a25 t6 ok22 (gM q66 (gM q68 (gM q67 (gT (Ty.ref [(Ty.val (Value.int .i32 ((cs.getD i D0)).1)),(Ty.lst Ty.ints ((cs.getD i D0)).2)]) rfl (fun A B E G H d0 d1=>rP (Qk (i:=((i:Nat):Int)) D0 Try.underlying25 Try.inf51 (eI d0) (eI d1) oM oM dE (fun _=>rfl))) (gS rfl (fun A B E G H d0=>rP (JG Try.fld51_1 Try.inf22 dE (eI d0) rfl)) (gS rfl (fun A B E G H d0=>rP (Jo Try.underlying22 rfl (eI d0) rfl)) (gS rfl (fun A B E G H d0=>rP (Jt Try.underlying22 (eI d0))) (gS rfl (fun A B E G H d0 d1=>rP (Jx (eI d0) (eI d1))) (gE ok22 fun a26 s20 ok23 D20=>?_)))))))));have F23:=F22.step0 D20.stp;have q70:=D20.k q66;have q71:=D20.k q67;have q72:=D20.k q68;have q73:=D20.k q69;refine tn ?_
          refine Jl (p:=(((k:Nat):Int) < (((List.length ((cs.getD i D0)).2):Nat):Int))) (D20.m 7 rfl) (fun c8=>?_) (fun c8=>?_)
          ·
           refine Jf (tn (Ja (Je (Ja ?_))))
           refine gI a26 s20 ok23 (gS rfl (fun A B E G H=>rP (JG Try.fld24_1 Try.inf3 dE (kp (H 2 rfl) E q73) rfl)) (gS rfl (fun A B E G H d0=>rP (Jo Try.underlying3 rfl (eI d0) rfl)) (gM q72 (gM q71 (gT (Ty.ref [(Ty.val (Value.int .i32 ((cs.getD i D0)).1)),(Ty.lst Ty.ints ((cs.getD i D0)).2)]) rfl (fun A B E G H d0 d1=>rP (Qk (i:=((i:Nat):Int)) D0 Try.underlying25 Try.inf51 (eI d0) (eI d1) oM oM dE (fun _=>rfl))) (gS rfl (fun A B E G H d0=>rP (JG Try.fld51_1 Try.inf22 dE (eI d0) rfl)) (gS rfl (fun A B E G H d0=>rP (Jo Try.underlying22 rfl (eI d0) rfl)) (gM q70 (gT (Ty.ref [(Ty.lst Ty.int (((cs.getD i D0)).2.getD k []))]) rfl (fun A B E G H d0 d1=>rP (Jy Try.underlying22 Try.inf26 (eI d0) (eI d1) oM (Jw Ty.ints ((cs.getD i D0)).2 [] k oM))) (gS rfl (fun A B E G H d0=>rP (Jo Try.underlying26 rfl (eI d0) rfl)) (gS rfl (fun A B E G H d0 d1=>rP (JB _ Try.func43 rfl rfl my2 (rChangeMay_fn (n) ((((cs.getD i D0)).2.getD k [])) _ _ _ (eI d0) (eI d1) oM))) (gB 0 (gE ok23 fun a27 s21 ok24 D21=>?_)))))))))))));have q79:=D21.m 11 rfl;refine tn (Ja ?_)
           refine gI a27 s21 ok24 (gM q79 (gS rfl (fun A B E G H d0=>rP (Qx (eI d0) rfl)) (gE ok24 fun a28 s22 ok25 D22=>?_)));have F25:=(F23.step0 D21.stp).step0 D22.stp;refine tn ?_
           refine Jl (p:=((Qh n ((((cs.getD i D0)).2.getD k []))) ≠ (0:Int))) (D22.m 1 rfl) (fun c9=>?_) (fun c9=>?_)
           ·
            have hae:=allMay_stop ha oM c9;have hv:=calls_at hc oM ((step_all hs4 hs5 hs6).trans hae) c9
            refine Ja ?_
            refine gI a28 s22 ok25 (gM (D22.k q79) (gB 0 (gE ok25 fun a29 s23 ok26 D23=>?_)));refine tn (Ji (br (tr (tr (br (br (tr (tr (br (tr ?_))))))))))
            exact JJ rfl ok26 (F25.step0 D23.stp) (cvi (by (rw [hm];exact hv.symm)) (D23.m 1 rfl))
           ·
            refine Jf (bn (tn ?_))
            refine gI a28 s22 ok25 (gM (D22.k (D21.k q70)) (gT (Ty.nat (k + 1)) rfl (fun A B E G H d0=>rP ((JA (eI d0) rfl wX).mono (fun τ _ h=>cN (σ:=τ) h))) (gB 0 (gE ok25 fun a30 s24 ok27 D24=>?_))))
            exact tn ⟨(cs.getD i D0).2.length - ((k+1)),by omega,s24,(k+1),rfl,(F25.step0 D24.stp),ok27,(cJ (D24.m 2 rfl)),(D24.k (D22.k (D21.k q71))),(D24.k (D22.k (D21.k q72))),(D24.k (D22.k (D21.k q73))),by omega,allMay_step ha oM (by assumption),rfl⟩
          ·
           have ha0:=allMay_end ha oM
           refine Jv (tx (tx (bx (bn (tn ?_)))))
           refine gI a26 s20 ok23 (gM q71 (gT (Ty.nat (i + 1)) rfl (fun A B E G H d0=>rP ((JA (eI d0) rfl wX).mono (fun τ _ h=>cN (σ:=τ) h))) (gB 0 (gE ok23 fun a31 s25 ok28 D25=>?_))))
           exact tn ⟨cs.length - ((i+1)),by omega,s25,(i+1),rfl,(F23.step0 D25.stp),ok28,(cJ (D25.m 2 rfl)),(D25.k q72),(D25.k q73),by omega,calls_step hc oM (by rw [step_all hs4 hs5 hs6];exact ha0),rfl⟩
    ·
     refine Jv (tx (tx (bx (tn (Ja ?_)))))
     refine gI a10 s8 ok9 (gC (Ty.int (0:Int)) (gE ok9 fun a32 s26 ok29 D26=>?_));refine tn (Ji ?_)
     exact JJ rfl ok29 (F9.step0 D26.stp) (cvi (by (rw [hm];exact (calls_end hc oM).symm)) (D26.m 0 rfl))
end Go.Proofs.Ytodmoedmijfciaa
