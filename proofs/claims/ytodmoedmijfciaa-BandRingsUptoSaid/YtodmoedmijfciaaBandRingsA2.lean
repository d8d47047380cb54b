/- The functions that the law BandRings reaches, each by its contract. Part 2. -/
import Derived.Test.YtodmoedmijfciaaBandRingsA1
namespace Go.Proofs.Ytodmoedmijfciaa
open Go.KL
variable {J:Go.KL.JdOf Try.prog} [Go.KL.Al J]
set_option maxHeartbeats 4000000 in
set_option maxRecDepth 100000 in
theorem rSignMay_fn (c:Int) (σ:GW)  (v0:Value) (hv0:Ty.has (Ty.val (Value.int .i32 c)) σ v0)   :
    FnC J 42 #[v0] σ (Ty.bool (QD c)):=by
 refine JT Try.func42 rfl Try.ntmps42 (Xr rfl) (fun s0 a0 hle F0 ok0 hargs=>?_)
 have p0:=pA hle (hargs 0 _ rfl) hv0
 clear hargs;refine Ja ?_
 refine gI a0 s0 ok0 (gC (Ty.bool false) (gE ok0 fun a1 s1 ok1 D1=>?_));have q1:=D1.k p0;refine tn (Ja ?_)
 refine gI a1 s1 ok1 (gM q1 (gS rfl (fun A B E G H d0=>rP (Qv (eI d0) rfl)) (gS rfl (fun A B E G H d0=>rP (Jc (eI d0))) (gS rfl (fun A B E G H d0=>gu G (eI d0) fun hg=>Jc (kp (H 0 rfl) E q1)) (gS rfl (fun A B E G H d0 d1=>gu G (eI d1) fun hg=>y_leq ((ef d0 rfl).1 hg) rfl) (gS rfl (fun A B E G H d0 d1=>rP (Jp (eI d0) (eI d1) rfl)) (gB 0 (gE ok1 fun a2 s2 ok2 D2=>?_))))))));have q2:=D2.k q1;refine tn (Ja ?_)
 refine gI a2 s2 ok2 (gM q2 (gS rfl (fun A B E G H d0=>rP (Qv (eI d0) rfl)) (gS rfl (fun A B E G H d0=>rP (Jc (eI d0))) (gS rfl (fun A B E G H d0=>gu G (eI d0) fun hg=>Jc (kp (H 0 rfl) E q2)) (gS rfl (fun A B E G H d0 d1=>gu G (eI d1) fun hg=>y_leq ((ef d0 rfl).1 hg) rfl) (gS rfl (fun A B E G H d0 d1=>rP (Jp (eI d0) (eI d1) rfl)) (gS rfl (fun A B E G H d0 d1=>rP (Jc (eI d0))) (gT (Ty.grd (((decide ((33:Int) ≤ c)) && (decide (c ≤ (12287:Int)))) = true) (Ty.bool ((decide ((48:Int) ≤ c)) && (decide (c ≤ (57:Int)))))) rfl (by intro A B E G H d0;refine Jd G rfl rfl dE (eI d0) (fun hg=>?_);obtain ⟨d1,d2⟩:=Xo hg;have d1:=Xq d1;have d2:=Xq d2;exact Jc (kp (H 3 rfl) E (D2.m 6 rfl))) (gT (Ty.grd (((decide ((33:Int) ≤ c)) && (decide (c ≤ (12287:Int)))) = true) (Ty.bool (!((decide ((48:Int) ≤ c)) && (decide (c ≤ (57:Int))))))) rfl (by intro A B E G H d0 d1;refine Jd G rfl rfl dE (eI d1) (fun hg=>?_);obtain ⟨d3,d4⟩:=Xo hg;have d3:=Xq d3;have d4:=Xq d4;exact y_not ((ef d0 rfl).1 hg)) (gS rfl (fun A B E G H d0 d1=>rP (Jp (eI d0) (eI d1) rfl)) (gS rfl (fun A B E G H d0 d1=>rP (Jc (eI d0))) ?_)))))))))))
 refine gT (Ty.grd ((((decide ((33:Int) ≤ c)) && (decide (c ≤ (12287:Int)))) && (!((decide ((48:Int) ≤ c)) && (decide (c ≤ (57:Int)))))) = true) (Ty.val (Value.int .i32 c))) rfl (by intro A B E G H d0;refine Jd G rfl rfl dE (eI d0) (fun hg=>?_);obtain ⟨d5,d6⟩:=Xo hg;obtain ⟨d7,d8⟩:=Xo d5;have d7:=Xq d7;have d8:=Xq d8;exact Jc (kp (H 0 rfl) E q2)) (gT (Ty.grd ((((decide ((33:Int) ≤ c)) && (decide (c ≤ (12287:Int)))) && (!((decide ((48:Int) ≤ c)) && (decide (c ≤ (57:Int)))))) = true) (Ty.bool (decide (c ≠ (40:Int))))) rfl (by intro A B E G H d0 d1;refine Jd G rfl rfl dE (eI d1) (fun hg=>?_);obtain ⟨d9,d10⟩:=Xo hg;obtain ⟨d11,d12⟩:=Xo d9;have d11:=Xq d11;have d12:=Xq d12;exact Qq ((ef d0 rfl).1 hg) rfl) (gS rfl (fun A B E G H d0 d1=>rP (Jp (eI d0) (eI d1) rfl)) (gS rfl (fun A B E G H d0 d1=>rP (Jc (eI d0))) (gT (Ty.grd (((((decide ((33:Int) ≤ c)) && (decide (c ≤ (12287:Int)))) && (!((decide ((48:Int) ≤ c)) && (decide (c ≤ (57:Int)))))) && (decide (c ≠ (40:Int)))) = true) (Ty.val (Value.int .i32 c))) rfl (by intro A B E G H d0;refine Jd G rfl rfl dE (eI d0) (fun hg=>?_);obtain ⟨d13,d14⟩:=Xo hg;obtain ⟨d15,d16⟩:=Xo d13;obtain ⟨d17,d18⟩:=Xo d15;have d17:=Xq d17;have d18:=Xq d18;have d14:=Xq d14;exact Jc (kp (H 0 rfl) E q2)) ?_))))
 refine gT (Ty.grd (((((decide ((33:Int) ≤ c)) && (decide (c ≤ (12287:Int)))) && (!((decide ((48:Int) ≤ c)) && (decide (c ≤ (57:Int)))))) && (decide (c ≠ (40:Int)))) = true) (Ty.bool (decide (c ≠ (41:Int))))) rfl (by intro A B E G H d0 d1;refine Jd G rfl rfl dE (eI d1) (fun hg=>?_);obtain ⟨d19,d20⟩:=Xo hg;obtain ⟨d21,d22⟩:=Xo d19;obtain ⟨d23,d24⟩:=Xo d21;have d23:=Xq d23;have d24:=Xq d24;have d20:=Xq d20;exact Qq ((ef d0 rfl).1 hg) rfl) (gS rfl (fun A B E G H d0 d1=>rP (Jp (eI d0) (eI d1) rfl)) (gS rfl (fun A B E G H d0 d1=>rP (Jc (eI d0))) (gT (Ty.grd ((((((decide ((33:Int) ≤ c)) && (decide (c ≤ (12287:Int)))) && (!((decide ((48:Int) ≤ c)) && (decide (c ≤ (57:Int)))))) && (decide (c ≠ (40:Int)))) && (decide (c ≠ (41:Int)))) = true) (Ty.val (Value.int .i32 c))) rfl (by intro A B E G H d0;refine Jd G rfl rfl dE (eI d0) (fun hg=>?_);obtain ⟨d25,d26⟩:=Xo hg;obtain ⟨d27,d28⟩:=Xo d25;obtain ⟨d29,d30⟩:=Xo d27;obtain ⟨d31,d32⟩:=Xo d29;have d31:=Xq d31;have d32:=Xq d32;have d28:=Xq d28;have d26:=Xq d26;exact Jc (kp (H 0 rfl) E q2)) ?_)))
 refine gT (Ty.grd ((((((decide ((33:Int) ≤ c)) && (decide (c ≤ (12287:Int)))) && (!((decide ((48:Int) ≤ c)) && (decide (c ≤ (57:Int)))))) && (decide (c ≠ (40:Int)))) && (decide (c ≠ (41:Int)))) = true) (Ty.bool (decide (c < (127:Int))))) rfl (by intro A B E G H d0 d1;refine Jd G rfl rfl dE (eI d1) (fun hg=>?_);obtain ⟨d33,d34⟩:=Xo hg;obtain ⟨d35,d36⟩:=Xo d33;obtain ⟨d37,d38⟩:=Xo d35;obtain ⟨d39,d40⟩:=Xo d37;have d39:=Xq d39;have d40:=Xq d40;have d36:=Xq d36;have d34:=Xq d34;exact Jw ((ef d0 rfl).1 hg) rfl) (gT (Ty.grd ((((((decide ((33:Int) ≤ c)) && (decide (c ≤ (12287:Int)))) && (!((decide ((48:Int) ≤ c)) && (decide (c ≤ (57:Int)))))) && (decide (c ≠ (40:Int)))) && (decide (c ≠ (41:Int)))) = true) (Ty.bool (decide (c < (127:Int))))) rfl (by intro A B E G H d0 d1 d2;refine Jd G rfl rfl dE (eI d1) (fun hg=>?_);obtain ⟨d41,d42⟩:=Xo hg;obtain ⟨d43,d44⟩:=Xo d41;obtain ⟨d45,d46⟩:=Xo d43;obtain ⟨d47,d48⟩:=Xo d45;have d47:=Xq d47;have d48:=Xq d48;have d44:=Xq d44;have d42:=Xq d42;exact Jc ((ef d0 rfl).1 hg)) (gS rfl (fun A B E G H d0=>gu2 G (eI d0) fun hg=>Jc (kp (H 0 rfl) E q2)) (gS rfl (fun A B E G H d0 d1=>gu2 G (eI d1) fun hg=>KE ((ef d0 rfl).1 hg) rfl) ?_)))
 refine gT (Ty.grd ((((((decide ((33:Int) ≤ c)) && (decide (c ≤ (12287:Int)))) && (!((decide ((48:Int) ≤ c)) && (decide (c ≤ (57:Int)))))) && (decide (c ≠ (40:Int)))) && (decide (c ≠ (41:Int)))) = true) (Ty.bool ((decide (c < (127:Int))) || (decide ((160:Int) < c))))) rfl (by intro A B E G H d0 d1 d2;refine Jd G rfl rfl dE (eI d2) (fun hg=>?_);obtain ⟨d49,d50⟩:=Xo hg;obtain ⟨d51,d52⟩:=Xo d49;obtain ⟨d53,d54⟩:=Xo d51;obtain ⟨d55,d56⟩:=Xo d53;have d55:=Xq d55;have d56:=Xq d56;have d52:=Xq d52;have d50:=Xq d50;exact Jk ((ef d0 rfl).1 hg) rfl (KP hg (eI d1))) (gS rfl (fun A B E G H d0 d1=>rP (Jp (eI d0) (eI d1) rfl)) (gB 0 (gE ok2 fun a3 s3 ok3 D3=>?_)));refine tn (Jj ?_)
 exact JJ rfl ok3 (((F0.step0 D1.stp).step0 D2.stp).step0 D3.stp) (cvb (by (rw [Bool.eq_iff_iff];simp only [QD,Bool.and_eq_true,Bool.or_eq_true,decide_eq_true_eq,Bool.not_eq_true',Bool.and_eq_false_iff,decide_eq_false_iff_not];omega)) (D3.m 26 rfl))
theorem Try.inf21:Info Try.prog 21 (.int .i32 0) 1 4:=by unfold Info;kernel_rfl
theorem Try.inf24:Info Try.prog 24 (.agg #[.string ByteArray.empty,.int .i64 0,.slice none 0 0]) 3 48:=by unfold Info;kernel_rfl
theorem Try.inf51:Info Try.prog 51 (.agg #[.int .i32 0,.slice none 0 0]) 2 32:=by unfold Info;kernel_rfl
theorem Try.fld51_0:KI Try.prog 51 0 = some (21,0):=by kernel_rfl
theorem Try.fld51_1:KI Try.prog 51 1 = some (22,1):=by kernel_rfl
set_option maxHeartbeats 4000000 in
set_option maxRecDepth 100000 in
theorem rCallsMay_fn (nm:ByteArray) (n:Int) (l:List (List Int)) (cs:List JH) (σ:GW)  (v0 v1:Value) (hv0:Ty.has (Ty.agg [(Ty.val (Value.string nm)),(Ty.int n),(Ty.lst Ty.ints l)]) σ v0) (hv1:Ty.has (Ty.lstc 2 KY cs) σ v1)  (hnm:nm.size ≤ 1099511627776) (hn:-9223372036854775808 ≤ n∧n ≤ 9223372036854775807) :
    FnC J 21 #[v0,v1] σ (Ty.int (Ku nm n l cs)):=by
 refine JT Try.func21 rfl Try.ntmps21 (Xr rfl) (fun s0 a0 hle F0 ok0 hargs=>?_)
 have p0:=pA hle (hargs 0 _ rfl) hv0
 have p1:=pA hle (hargs 1 _ rfl) hv1
 have b1:=JS p1
 clear hargs;refine Ja ?_
 refine gI a0 s0 ok0 (gS rfl (fun A B E G H=>rP (Qw (kp (H 0 rfl) E p0))) (gC (Ty.int (0:Int)) (gE ok0 fun a1 s1 ok1 D1=>?_)));have q2:=D1.m 0 rfl;refine tn (Ja ?_)
 refine gI a1 s1 ok1 (gS rfl (fun A B E G H=>rP (KV Try.underlying24 Try.inf24 (kp (H 2 rfl) E q2))) (gS rfl (fun A B E G H d0=>rP (JP _ Try.func41 rfl rfl my1 (rMethodMay_fn (nm) (n) (l) _ _ (eI d0) oX oX))) (gB 0 (gE ok1 fun a2 s2 ok2 D2=>?_))));have q5:=D2.m 2 rfl;refine tn (Ja (Ja ?_))
 refine gI a2 s2 ok2 (gM q5 (gS rfl (fun A B E G H d0=>rP (Qq (eI d0) rfl)) (gE ok2 fun a3 s3 ok3 D3=>?_)));have F3:=((F0.step0 D1.stp).step0 D2.stp).step0 D3.stp;have q6:=D3.k (D2.k (D1.k p1));refine tn ?_
 refine Jl (p:=((KG nm n l) ≠ (0:Int))) (D3.m 1 rfl) (fun c1=>?_) (fun c1=>?_)
 ·
  have hm:=callsMay_meth (cs:=cs) c1
  refine Ja ?_
  refine gI a3 s3 ok3 (gM (D3.k q5) (gB 0 (gE ok3 fun a4 s4 ok4 D4=>?_)));refine tn (Jj (tr ?_))
  exact JJ rfl ok4 (F3.step0 D4.stp) (cvi (by (exact hm.symm)) (D4.m 1 rfl))
 ·
  refine Jf (tn (Ja (Ja ?_)))
  refine gI a3 s3 ok3 (gM q6 (gS rfl (fun A B E G H d0=>rP (Jt Try.underlying25 (eI d0))) (gS rfl (fun A B E G H d0=>rP (Jw (eI d0) rfl)) (gS rfl (fun A B E G H d0=>rP (Jc (eI d0))) (gS rfl (fun A B E G H d0=>gu G (eI d0) fun hg=>Jc (kp (H 1 rfl) E q6)) (gS rfl (fun A B E G H d0 d1=>gu G (eI d1) fun hg=>Jt Try.underlying25 ((ef d0 rfl).1 hg)) (gS rfl (fun A B E G H d0 d1=>gu G (eI d1) fun hg=>KE ((ef d0 rfl).1 hg) rfl) (gS rfl (fun A B E G H d0 d1=>rP (Jk (eI d0) rfl (eI d1))) (gE ok3 fun a5 s5 ok5 D5=>?_)))))))));have F5:=F3.step0 D5.stp;refine tn ?_
  refine JR (D5.m 7 rfl) (fun c2=>?_) (fun c2=>?_)
  ·
   simp only [Bool.or_eq_true,decide_eq_true_eq] at c2;have hm:=callsMay_cnt (cs:=cs) c1 oM
   refine Ja ?_
   refine gI a5 s5 ok5 (gC (Ty.int (1:Int)) (gE ok5 fun a6 s6 ok6 D6=>?_));refine tn (Jj (tr ?_))
   exact JJ rfl ok6 (F5.step0 D6.stp) (cvi (by (exact hm.symm)) (D6.m 0 rfl))
  ·
   obtain ⟨d1,d2⟩:=Xn c2
   replace d1:=Xp d1
   replace d2:=Xp d2
   have hx2:¬ (cs.length < 1 ∨ 8 < cs.length):=(by simp only [Bool.or_eq_false_iff,decide_eq_false_iff_not] at c2;omega);have hm:=callsMay_all c1 hx2;have hl2:=(methMay_ok' (Classical.not_not.1 c1)).1.l2
   refine Jf (tn (Ja (Ja ?_)))
   refine gI a5 s5 ok5 (gC (Ty.int (0:Int)) (gE ok5 fun a7 s7 ok7 D7=>?_));refine tn (Je ?_)
   refine Kf (fun n1 a8 w1=>∃ (t1:GW) (i:Nat),t1.w = w1∧FromL [] s0 t1∧Ok 88 [] a8∧At (Ty.nat i) t1 a8 (.tmp 6)∧At (Ty.lstc 2 KY cs) t1 a8 (.tmp 1)∧At (Ty.ref [(Ty.val (Value.string nm)),(Ty.int n),(Ty.lst Ty.ints l)]) t1 a8 (.tmp 2)∧(i ≤ cs.length)∧(Qj n l.length ((cs.take i).map (·.1)) (cs.drop i) = Qj n l.length [] cs)∧n1 = cs.length - i) (cs.length - (0)) ?_ ?_
   ·
    exact ⟨s7,0,rfl,(F5.step0 D7.stp),ok7,(cJ (D7.m 0 rfl)),(D7.k (D5.k q6)),(D7.k (D5.k (D3.k (D2.k q2)))),by omega,rfl,rfl⟩
   ·
    rintro n2 a9 w2 ⟨t2,i,rfl,F8,ok8,q18,q19,q20,hi,hc,rfl⟩
    refine Ja (Ja ?_)
    refine gI a9 t2 ok8 (gM q18 (gM q19 (gS rfl (fun A B E G H d0=>rP (Jt Try.underlying25 (eI d0))) (gS rfl (fun A B E G H d0 d1=>rP (Jw (eI d0) (eI d1))) (gE ok8 fun a10 s8 ok9 D8=>?_)))));have F9:=F8.step0 D8.stp;have q21:=D8.k q18;have q22:=D8.k q19;refine tn ?_
    refine Jl (p:=(((i:Nat):Int) < (((List.length cs):Nat):Int))) (D8.m 3 rfl) (fun c3=>?_) (fun c3=>?_)
    ·
     refine Jf (tn (Ja (Je (Ja ?_))))
     refine gI a10 s8 ok9 (gM q22 (gM q21 (gT (Ty.ref [(Ty.val (Value.int .i32 ((cs.getD i D0)).1)),(Ty.lst Ty.ints ((cs.getD i D0)).2)]) rfl (fun A B E G H d0 d1=>rP (Qa (i:=((i:Nat):Int)) D0 Try.underlying25 Try.inf51 (eI d0) (eI d1) oM oM dE (fun _=>rfl))) (gS rfl (fun A B E G H d0=>rP (JD Try.fld51_0 Try.inf21 dE (eI d0) rfl)) (gS rfl (fun A B E G H d0=>rP (Jm Try.underlying21 rfl (eI d0) rfl)) (gS rfl (fun A B E G H d0=>rP (JP _ Try.func42 rfl rfl my1 (rSignMay_fn (((cs.getD i D0)).1) _ _ (cvi (σ:=B) oM (ef d0 rfl)) ))) (gB 0 (gE ok9 fun a11 s9 ok10 D9=>?_))))))));refine tn (Ja (Ja ?_))
     refine gI a11 s9 ok10 (gM (D9.m 6 rfl) (gS rfl (fun A B E G H d0=>rP (y_not (eI d0))) (gE ok10 fun a12 s10 ok11 D10=>?_)));have F11:=(F9.step0 D9.stp).step0 D10.stp;refine tn ?_
     refine JR (D10.m 1 rfl) (fun c4=>?_) (fun c4=>?_)
     ·
      have hs4:QD (cs.getD i D0).1 = false:=(by simpa using c4);have hv:=calls_at hc oM (step_sign hs4) dE
      refine Ja ?_
      refine gI a12 s10 ok11 (gC (Ty.int (4:Int)) (gE ok11 fun a13 s11 ok12 D11=>?_));refine tn (Jj (tr (br (tr (tr (br (tr ?_)))))))
      exact JJ rfl ok12 (F11.step0 D11.stp) (cvi (by (rw [hm];exact hv.symm)) (D11.m 0 rfl))
     ·
      have hs4:QD (cs.getD i D0).1 = true:=(by simpa using c4)
      refine Jf (tn (Ja (Ja ?_)))
      refine gI a12 s10 ok11 (gC (Ty.int (0:Int)) (gE ok11 fun a14 s12 ok13 D12=>?_));refine tn (Je ?_)
      refine Kf (fun n3 a15 w3=>∃ (t3:GW) (k:Nat),t3.w = w3∧FromL [] s0 t3∧Ok 88 [] a15∧At (Ty.nat k) t3 a15 (.tmp 8)∧At (Ty.nat i) t3 a15 (.tmp 6)∧At (Ty.lstc 2 KY cs) t3 a15 (.tmp 1)∧At (Ty.ref [(Ty.val (Value.string nm)),(Ty.int n),(Ty.lst Ty.ints l)]) t3 a15 (.tmp 2)∧(k ≤ i)∧(∀ j,j < k → (cs.getD j D0).1 ≠ (cs.getD i D0).1)∧n3 = i - k) (i - (0)) ?_ ?_
      ·
       exact ⟨s12,0,rfl,(F11.step0 D12.stp),ok13,(cJ (D12.m 0 rfl)),(D12.k (D10.k (D9.k q21))),(D12.k (D10.k (D9.k q22))),(D12.k (D10.k (D9.k (D8.k q20)))),by omega,fun j hj=>absurd hj (Nat.not_lt_zero j),rfl⟩
      ·
       rintro n4 a16 w4 ⟨t4,k,rfl,F14,ok14,q38,q39,q40,q41,hk,hno,rfl⟩
       refine Ja (Ja ?_)
       refine gI a16 t4 ok14 (gM q38 (gM q39 (gS rfl (fun A B E G H d0 d1=>rP (Jw (eI d0) (eI d1))) (gE ok14 fun a17 s13 ok15 D13=>?_))));have F15:=F14.step0 D13.stp;have q42:=D13.k q38;have q43:=D13.k q39;have q44:=D13.k q40;have q45:=D13.k q41;refine tn ?_
       refine Jl (p:=(((k:Nat):Int) < ((i:Nat):Int))) (D13.m 2 rfl) (fun c5=>?_) (fun c5=>?_)
       ·
        refine Jf (tn (Ja (Je (Ja ?_))))
        refine gI a17 s13 ok15 (gM q44 (gM q42 (gT (Ty.ref [(Ty.val (Value.int .i32 ((cs.getD k D0)).1)),(Ty.lst Ty.ints ((cs.getD k D0)).2)]) rfl (fun A B E G H d0 d1=>rP (Qa (i:=((k:Nat):Int)) D0 Try.underlying25 Try.inf51 (eI d0) (eI d1) oM oM dE (fun _=>rfl))) (gS rfl (fun A B E G H d0=>rP (JD Try.fld51_0 Try.inf21 dE (eI d0) rfl)) (gS rfl (fun A B E G H d0=>rP (Jm Try.underlying21 rfl (eI d0) rfl)) (gM q44 (gM q43 (gT (Ty.ref [(Ty.val (Value.int .i32 ((cs.getD i D0)).1)),(Ty.lst Ty.ints ((cs.getD i D0)).2)]) rfl (fun A B E G H d0 d1=>rP (Qa (i:=((i:Nat):Int)) D0 Try.underlying25 Try.inf51 (eI d0) (eI d1) oM oM dE (fun _=>rfl))) (gS rfl (fun A B E G H d0=>rP (JD Try.fld51_0 Try.inf21 dE (eI d0) rfl)) (gS rfl (fun A B E G H d0=>rP (Jm Try.underlying21 rfl (eI d0) rfl)) (gS rfl (fun A B E G H d0 d1=>rP (Qb (eI d0) (eI d1))) (gE ok15 fun a18 s14 ok16 D14=>?_))))))))))));have F16:=F15.step0 D14.stp;refine tn ?_
        refine Jl (p:=(((cs.getD k D0)).1 = ((cs.getD i D0)).1)) (D14.m 10 rfl) (fun c6=>?_) (fun c6=>?_)
        ·
         have hs5:(cs.getD i D0).1 ∈ ((cs.take i).map (·.1)):=pre_in oM oM c6;have hv:=calls_at hc oM (step_dbl hs4 hs5) dE
         refine Ja ?_
         refine gI a18 s14 ok16 (gC (Ty.int (8:Int)) (gE ok16 fun a19 s15 ok17 D15=>?_));refine tn (Jj (br (tr (tr (br (tr (br (tr (tr (br (tr ?_)))))))))))
         exact JJ rfl ok17 (F16.step0 D15.stp) (cvi (by (rw [hm];exact hv.symm)) (D15.m 0 rfl))
        ·
         refine Jf (bn (tn ?_))
         refine gI a18 s14 ok16 (gM (D14.k q42) (gT (Ty.nat (k + 1)) rfl (fun A B E G H d0=>rP ((JF (eI d0) rfl wX).mono (fun τ _ h=>cN (σ:=τ) h))) (gB 0 (gE ok16 fun a20 s16 ok18 D16=>?_))))
         exact tn ⟨i - ((k+1)),by omega,s16,(k+1),rfl,(F16.step0 D16.stp),ok18,(cJ (D16.m 2 rfl)),(D16.k (D14.k q43)),(D16.k (D14.k q44)),(D16.k (D14.k q45)),by omega,fun j hj=>by (by_cases e:j = k;subst e;assumption;exact hno j oM),rfl⟩
       ·
        have hs5:(cs.getD i D0).1 ∉ ((cs.take i).map (·.1)):=pre_out (fun j hj=>hno j oM)
        refine Jv (tx (tx (bx (tn (Ja (Ja ?_))))))
        refine gI a17 s13 ok15 (gM q44 (gM q43 (gT (Ty.ref [(Ty.val (Value.int .i32 ((cs.getD i D0)).1)),(Ty.lst Ty.ints ((cs.getD i D0)).2)]) rfl (fun A B E G H d0 d1=>rP (Qa (i:=((i:Nat):Int)) D0 Try.underlying25 Try.inf51 (eI d0) (eI d1) oM oM dE (fun _=>rfl))) (gS rfl (fun A B E G H d0=>rP (JD Try.fld51_1 Try.inf22 dE (eI d0) rfl)) (gS rfl (fun A B E G H d0=>rP (Jm Try.underlying22 rfl (eI d0) rfl)) (gS rfl (fun A B E G H d0=>rP (Jt Try.underlying22 (eI d0))) (gS rfl (fun A B E G H=>rP (JD Try.fld24_2 Try.inf22 dE (kp (H 2 rfl) E q45) rfl)) (gS rfl (fun A B E G H d0=>rP (Jm Try.underlying22 rfl (eI d0) rfl)) (gS rfl (fun A B E G H d0=>rP (Jt Try.underlying22 (eI d0))) (gS rfl (fun A B E G H d0 d1=>rP (KE (eI d0) (eI d1))) (gE ok15 fun a21 s17 ok19 D17=>?_)))))))))));have F19:=F15.step0 D17.stp;refine tn ?_
        refine Jl (p:=((((List.length l):Nat):Int) < (((List.length ((cs.getD i D0)).2):Nat):Int))) (D17.m 9 rfl) (fun c7=>?_) (fun c7=>?_)
        ·
         have hs6:l.length < (cs.getD i D0).2.length:=oM;have hv:=calls_at hc oM (step_long hs4 hs5 hs6) dE
         refine Ja ?_
         refine gI a21 s17 ok19 (gC (Ty.int (1:Int)) (gE ok19 fun a22 s18 ok20 D18=>?_));refine tn (Jj (tr (br (tr (tr (br (tr ?_)))))))
         exact JJ rfl ok20 (F19.step0 D18.stp) (cvi (by (rw [hm];exact hv.symm)) (D18.m 0 rfl))
        ·
         have hs6:¬ l.length < (cs.getD i D0).2.length:=oM
         refine Jf (tn (Ja ?_))
         refine gI a21 s17 ok19 (gC (Ty.int (0:Int)) (gE ok19 fun a23 s19 ok21 D19=>?_));refine tn (Je ?_)
         refine Kf (fun n5 a24 w5=>∃ (t5:GW) (k:Nat),t5.w = w5∧FromL [] s0 t5∧Ok 88 [] a24∧At (Ty.nat k) t5 a24 (.tmp 9)∧At (Ty.nat i) t5 a24 (.tmp 6)∧At (Ty.lstc 2 KY cs) t5 a24 (.tmp 1)∧At (Ty.ref [(Ty.val (Value.string nm)),(Ty.int n),(Ty.lst Ty.ints l)]) t5 a24 (.tmp 2)∧(k ≤ (cs.getD i D0).2.length)∧(KN n ((cs.getD i D0).2.drop k) = KN n (cs.getD i D0).2)∧n5 = (cs.getD i D0).2.length - k) ((cs.getD i D0).2.length - (0)) ?_ ?_
         ·
          exact ⟨s19,0,rfl,(F19.step0 D19.stp),ok21,(cJ (D19.m 0 rfl)),(D19.k (D17.k q43)),(D19.k (D17.k q44)),(D19.k (D17.k q45)),by omega,rfl,rfl⟩
         ·
          rintro n6 a25 w6 ⟨t6,k,rfl,F22,ok22,q66,q67,q68,q69,hk,ha,rfl⟩
          refine Ja (Ja ?_)
          refine gI a25 t6 ok22 (gM q66 (gM q68 (gM q67 (gT (Ty.ref [(Ty.val (Value.int .i32 ((cs.getD i D0)).1)),(Ty.lst Ty.ints ((cs.getD i D0)).2)]) rfl (fun A B E G H d0 d1=>rP (Qa (i:=((i:Nat):Int)) D0 Try.underlying25 Try.inf51 (eI d0) (eI d1) oM oM dE (fun _=>rfl))) (gS rfl (fun A B E G H d0=>rP (JD Try.fld51_1 Try.inf22 dE (eI d0) rfl)) (gS rfl (fun A B E G H d0=>rP (Jm Try.underlying22 rfl (eI d0) rfl)) (gS rfl (fun A B E G H d0=>rP (Jt Try.underlying22 (eI d0))) (gS rfl (fun A B E G H d0 d1=>rP (Jw (eI d0) (eI d1))) (gE ok22 fun a26 s20 ok23 D20=>?_)))))))));have F23:=F22.step0 D20.stp;have q70:=D20.k q66;have q71:=D20.k q67;have q72:=D20.k q68;have q73:=D20.k q69;refine tn ?_
          refine Jl (p:=(((k:Nat):Int) < (((List.length ((cs.getD i D0)).2):Nat):Int))) (D20.m 7 rfl) (fun c8=>?_) (fun c8=>?_)
          ·
           refine Jf (tn (Ja (Je (Ja ?_))))
           refine gI a26 s20 ok23 (gS rfl (fun A B E G H=>rP (JD Try.fld24_1 Try.inf3 dE (kp (H 2 rfl) E q73) rfl)) (gS rfl (fun A B E G H d0=>rP (Jm Try.underlying3 rfl (eI d0) rfl)) (gM q72 (gM q71 (gT (Ty.ref [(Ty.val (Value.int .i32 ((cs.getD i D0)).1)),(Ty.lst Ty.ints ((cs.getD i D0)).2)]) rfl (fun A B E G H d0 d1=>rP (Qa (i:=((i:Nat):Int)) D0 Try.underlying25 Try.inf51 (eI d0) (eI d1) oM oM dE (fun _=>rfl))) (gS rfl (fun A B E G H d0=>rP (JD Try.fld51_1 Try.inf22 dE (eI d0) rfl)) (gS rfl (fun A B E G H d0=>rP (Jm Try.underlying22 rfl (eI d0) rfl)) (gM q70 (gT (Ty.ref [(Ty.lst Ty.int (((cs.getD i D0)).2.getD k []))]) rfl (fun A B E G H d0 d1=>rP (Jy Try.underlying22 Try.inf26 (eI d0) (eI d1) oM (Ju Ty.ints ((cs.getD i D0)).2 [] k oM))) (gS rfl (fun A B E G H d0=>rP (Jm Try.underlying26 rfl (eI d0) rfl)) (gS rfl (fun A B E G H d0 d1=>rP (JP _ Try.func43 rfl rfl my2 (rChangeMay_fn (n) ((((cs.getD i D0)).2.getD k [])) _ _ _ (eI d0) (eI d1) oM))) (gB 0 (gE ok23 fun a27 s21 ok24 D21=>?_)))))))))))));have q79:=D21.m 11 rfl;refine tn (Ja ?_)
           refine gI a27 s21 ok24 (gM q79 (gS rfl (fun A B E G H d0=>rP (Qq (eI d0) rfl)) (gE ok24 fun a28 s22 ok25 D22=>?_)));have F25:=(F23.step0 D21.stp).step0 D22.stp;refine tn ?_
           refine Jl (p:=((KX n ((((cs.getD i D0)).2.getD k []))) ≠ (0:Int))) (D22.m 1 rfl) (fun c9=>?_) (fun c9=>?_)
           ·
            have hae:=allMay_stop ha oM c9;have hv:=calls_at hc oM ((step_all hs4 hs5 hs6).trans hae) c9
            refine Ja ?_
            refine gI a28 s22 ok25 (gM (D22.k q79) (gB 0 (gE ok25 fun a29 s23 ok26 D23=>?_)));refine tn (Jj (br (tr (tr (br (br (tr (tr (br (tr ?_))))))))))
            exact JJ rfl ok26 (F25.step0 D23.stp) (cvi (by (rw [hm];exact hv.symm)) (D23.m 1 rfl))
           ·
            refine Jf (bn (tn ?_))
            refine gI a28 s22 ok25 (gM (D22.k (D21.k q70)) (gT (Ty.nat (k + 1)) rfl (fun A B E G H d0=>rP ((JF (eI d0) rfl wX).mono (fun τ _ h=>cN (σ:=τ) h))) (gB 0 (gE ok25 fun a30 s24 ok27 D24=>?_))))
            exact tn ⟨(cs.getD i D0).2.length - ((k+1)),by omega,s24,(k+1),rfl,(F25.step0 D24.stp),ok27,(cJ (D24.m 2 rfl)),(D24.k (D22.k (D21.k q71))),(D24.k (D22.k (D21.k q72))),(D24.k (D22.k (D21.k q73))),by omega,allMay_step ha oM (by assumption),rfl⟩
          ·
           have ha0:=allMay_end ha oM
           refine Jv (tx (tx (bx (bn (tn ?_)))))
           refine gI a26 s20 ok23 (gM q71 (gT (Ty.nat (i + 1)) rfl (fun A B E G H d0=>rP ((JF (eI d0) rfl wX).mono (fun τ _ h=>cN (σ:=τ) h))) (gB 0 (gE ok23 fun a31 s25 ok28 D25=>?_))))
           exact tn ⟨cs.length - ((i+1)),by omega,s25,(i+1),rfl,(F23.step0 D25.stp),ok28,(cJ (D25.m 2 rfl)),(D25.k q72),(D25.k q73),by omega,calls_step hc oM (by rw [step_all hs4 hs5 hs6];exact ha0),rfl⟩
    ·
     refine Jv (tx (tx (bx (tn (Ja ?_)))))
     refine gI a10 s8 ok9 (gC (Ty.int (0:Int)) (gE ok9 fun a32 s26 ok29 D26=>?_));refine tn (Jj ?_)
     exact JJ rfl ok29 (F9.step0 D26.stp) (cvi (by (rw [hm];exact (calls_end hc oM).symm)) (D26.m 0 rfl))
set_option maxHeartbeats 4000000 in
set_option maxRecDepth 100000 in
theorem rTouchMay_fn (nm:ByteArray) (n:Int) (l:List (List Int)) (cs:List JH) (leads:List Int) (σ:GW)  (v0 v1 v2:Value) (hv0:Ty.has (Ty.agg [(Ty.val (Value.string nm)),(Ty.int n),(Ty.lst Ty.ints l)]) σ v0) (hv1:Ty.has (Ty.lstc 2 KY cs) σ v1) (hv2:Ty.has (Ty.lst Ty.int leads) σ v2)  (hnm:nm.size ≤ 1099511627776) (hn:-9223372036854775808 ≤ n∧n ≤ 9223372036854775807) :
    FnC J 6 #[v0,v1,v2] σ (Ty.int (Kk nm n l cs leads)):=by
 refine JT Try.func6 rfl Try.ntmps6 (Xr rfl) (fun s0 a0 hle F0 ok0 hargs=>?_)
 have p0:=pA hle (hargs 0 _ rfl) hv0
 have p1:=pA hle (hargs 1 _ rfl) hv1
 have b1:=JS p1
 have p2:=pA hle (hargs 2 _ rfl) hv2
 have b2:=JS p2
 clear hargs;refine Ja ?_
 refine gI a0 s0 ok0 (gS rfl (fun A B E G H=>rP (Qw (kp (H 0 rfl) E p0))) (gC (Ty.int (0:Int)) (gE ok0 fun a1 s1 ok1 D1=>?_)));have q1:=D1.k p1;have q3:=D1.m 0 rfl;refine tn (Ja ?_)
 refine gI a1 s1 ok1 (gS rfl (fun A B E G H=>rP (KV Try.underlying24 Try.inf24 (kp (H 3 rfl) E q3))) (gM q1 (gS rfl (fun A B E G H d0 d1=>rP (JP _ Try.func21 rfl rfl my2 (rCallsMay_fn (nm) (n) (l) (cs) _ _ _ (eI d0) (eI d1) oX oX))) (gB 0 (gE ok1 fun a2 s2 ok2 D2=>?_)))));have q7:=D2.m 3 rfl;refine tn (Ja (Ja ?_))
 refine gI a2 s2 ok2 (gM q7 (gS rfl (fun A B E G H d0=>rP (Qq (eI d0) rfl)) (gE ok2 fun a3 s3 ok3 D3=>?_)));have F3:=((F0.step0 D1.stp).step0 D2.stp).step0 D3.stp;have q9:=D3.k (D2.k (D1.k p2));refine tn ?_
 refine Jl (p:=((Ku nm n l cs) ≠ (0:Int))) (D3.m 1 rfl) (fun c1=>?_) (fun c1=>?_)
 ·
  have hm:=touchMay_calls (leads:=leads) c1
  refine Ja ?_
  refine gI a3 s3 ok3 (gM (D3.k q7) (gB 0 (gE ok3 fun a4 s4 ok4 D4=>?_)));refine tn (Jj (tr ?_))
  exact JJ rfl ok4 (F3.step0 D4.stp) (cvi (by (exact hm.symm)) (D4.m 1 rfl))
 ·
  have h0:=Classical.not_not.1 c1;have hl2:=(callsMay_ok h0).1.meth.l2
  refine Jf (tn (Ja (Ja ?_)))
  refine gI a3 s3 ok3 (gM q9 (gS rfl (fun A B E G H d0=>rP (Jt Try.underlying26 (eI d0))) (gS rfl (fun A B E G H d0=>rP (Jw (eI d0) rfl)) (gS rfl (fun A B E G H d0=>rP (Jc (eI d0))) (gS rfl (fun A B E G H d0=>gu G (eI d0) fun hg=>Jc (kp (H 2 rfl) E q9)) (gS rfl (fun A B E G H d0 d1=>gu G (eI d1) fun hg=>Jt Try.underlying26 ((ef d0 rfl).1 hg)) (gS rfl (fun A B E G H d0 d1=>gu G (eI d1) fun hg=>KE ((ef d0 rfl).1 hg) rfl) (gS rfl (fun A B E G H d0 d1=>rP (Jk (eI d0) rfl (eI d1))) (gE ok3 fun a5 s5 ok5 D5=>?_)))))))));have F5:=F3.step0 D5.stp;refine tn ?_
  refine JR (D5.m 7 rfl) (fun c2=>?_) (fun c2=>?_)
  ·
   simp only [Bool.or_eq_true,decide_eq_true_eq] at c2;have hm:=touchMay_cnt h0 (leads:=leads) oM
   refine Ja ?_
   refine gI a5 s5 ok5 (gC (Ty.int (1:Int)) (gE ok5 fun a6 s6 ok6 D6=>?_));refine tn (Jj (tr ?_))
   exact JJ rfl ok6 (F5.step0 D6.stp) (cvi (by (exact hm.symm)) (D6.m 0 rfl))
  ·
   obtain ⟨d1,d2⟩:=Xn c2
   replace d1:=Xp d1
   replace d2:=Xp d2
   have hx2:¬ (leads.length < 1 ∨ 400 < leads.length):=(by simp only [Bool.or_eq_false_iff,decide_eq_false_iff_not] at c2;omega);have hmb:leads.length * l.length ≤ 400 * 200:=Nat.mul_le_mul oM hl2;have hmc:((leads.length:Nat):Int) * ((l.length:Nat):Int) = ((leads.length * l.length:Nat):Int):=(Int.natCast_mul _ _).symm
   refine Jf (tn (Ja (Ja ?_)))
   refine gI a5 s5 ok5 (gC (Ty.int (0:Int)) (gE ok5 fun a7 s7 ok7 D7=>?_));refine tn (Je ?_)
   refine Kf (fun n1 a8 w1=>∃ (t1:GW) (k:Nat),t1.w = w1∧FromL [] s0 t1∧Ok 50 [] a8∧At (Ty.nat k) t1 a8 (.tmp 8)∧At (Ty.lstc 2 KY cs) t1 a8 (.tmp 1)∧At (Ty.lst Ty.int leads) t1 a8 (.tmp 2)∧At (Ty.ref [(Ty.val (Value.string nm)),(Ty.int n),(Ty.lst Ty.ints l)]) t1 a8 (.tmp 3)∧(k ≤ leads.length)∧(∀ j,j < k → 0 ≤ leads.getD j 0∧leads.getD j 0 < cs.length)∧n1 = leads.length - k) (leads.length - (0)) ?_ ?_
   ·
    exact ⟨s7,0,rfl,(F5.step0 D7.stp),ok7,(cJ (D7.m 0 rfl)),(D7.k (D5.k (D3.k (D2.k q1)))),(D7.k (D5.k q9)),(D7.k (D5.k (D3.k (D2.k q3)))),by omega,fun j hj=>absurd hj (Nat.not_lt_zero j),rfl⟩
   ·
    rintro n2 a9 w2 ⟨t2,k,rfl,F8,ok8,q23,q24,q25,q26,hk,hin,rfl⟩
    refine Ja (Ja ?_)
    refine gI a9 t2 ok8 (gM q23 (gM q25 (gS rfl (fun A B E G H d0=>rP (Jt Try.underlying26 (eI d0))) (gS rfl (fun A B E G H d0 d1=>rP (Jw (eI d0) (eI d1))) (gE ok8 fun a10 s8 ok9 D8=>?_)))));have F9:=F8.step0 D8.stp;have q27:=D8.k q23;have q28:=D8.k q24;have q29:=D8.k q25;have q30:=D8.k q26;refine tn ?_
    refine Jl (p:=(((k:Nat):Int) < (((List.length leads):Nat):Int))) (D8.m 3 rfl) (fun c3=>?_) (fun c3=>?_)
    ·
     refine Jf (tn (Ja (Je (Ja ?_))))
     refine gI a10 s8 ok9 (gM q29 (gM q27 (gT (Ty.ref [(Ty.int (leads.getD k 0))]) rfl (fun A B E G H d0 d1=>rP (Jy Try.underlying26 Try.inf3 (eI d0) (eI d1) oM (Ju Ty.int leads 0 k oM))) (gS rfl (fun A B E G H d0=>rP (Jm Try.underlying3 rfl (eI d0) rfl)) (gS rfl (fun A B E G H d0=>rP (Jw (eI d0) rfl)) (gS rfl (fun A B E G H d0=>rP (Jc (eI d0))) (gS rfl (fun A B E G H d0=>gu G (eI d0) fun hg=>Jc (kp (H 2 rfl) E q29)) (gS rfl (fun A B E G H d0=>gu G (eI d0) fun hg=>Jc (kp (H 8 rfl) E q27)) (gT (Ty.grd ((decide ((leads.getD k 0) < (0:Int))) = false) (Ty.ref [(Ty.int (leads.getD k 0))])) rfl (fun A B E G H d0 d1 d2=>guf G (eI d2) fun hg hp=>Jy Try.underlying26 Try.inf3 ((ef d0 rfl).1 hg) ((ef d1 rfl).1 hg) oM (Ju Ty.int leads 0 k oM)) (gS rfl (fun A B E G H d0 d1=>gu G (eI d1) fun hg=>Jm Try.underlying3 rfl ((ef d0 rfl).1 hg) rfl) (gS rfl (fun A B E G H d0=>gu G (eI d0) fun hg=>Jc (kp (H 1 rfl) E q28)) (gS rfl (fun A B E G H d0 d1=>gu G (eI d1) fun hg=>Jt Try.underlying25 ((ef d0 rfl).1 hg)) (gS rfl (fun A B E G H d0 d1 d2=>gu G (eI d2) fun hg=>Qv ((ef d0 rfl).1 hg) ((ef d1 rfl).1 hg)) (gS rfl (fun A B E G H d0 d1=>rP (Jk (eI d0) rfl (eI d1))) (gE ok9 fun a11 s9 ok10 D9=>?_)))))))))))))));have F10:=F9.step0 D9.stp;refine tn ?_
     refine JR (D9.m 13 rfl) (fun c4=>?_) (fun c4=>?_)
     ·
      simp only [Bool.or_eq_true,decide_eq_true_eq] at c4;have hm:=touchMay_val h0 hx2 (k:=k) oM oM
      refine Ja ?_
      refine gI a11 s9 ok10 (gC (Ty.int (12:Int)) (gE ok10 fun a12 s10 ok11 D10=>?_));refine tn (Jj (br (tr (tr (br (tr ?_))))))
      exact JJ rfl ok11 (F10.step0 D10.stp) (cvi (by (exact hm.symm)) (D10.m 0 rfl))
     ·
      obtain ⟨d3,d4⟩:=Xn c4
      replace d3:=Xp d3
      replace d4:=Xp d4
      refine Jf (bn (tn ?_))
      refine gI a11 s9 ok10 (gM (D9.k q27) (gT (Ty.nat (k + 1)) rfl (fun A B E G H d0=>rP ((JF (eI d0) rfl wX).mono (fun τ _ h=>cN (σ:=τ) h))) (gB 0 (gE ok10 fun a13 s11 ok12 D11=>?_))))
      exact tn ⟨leads.length - ((k+1)),by omega,s11,(k+1),rfl,(F10.step0 D11.stp),ok12,(cJ (D11.m 2 rfl)),(D11.k (D9.k q28)),(D11.k (D9.k q29)),(D11.k (D9.k q30)),by omega,fun j hj=>by (by_cases e:j = k;subst e;simp only [Bool.or_eq_false_iff,decide_eq_false_iff_not] at c4;omega;exact hin j oM),rfl⟩
    ·
     have hin2:∀ j,j < leads.length → 0 ≤ leads.getD j 0∧leads.getD j 0 < cs.length:=fun j hj=>hin j oM
     refine Jv (tx (tx (bx (tn (Ja (Ja ?_))))))
     refine gI a10 s8 ok9 (gM q29 (gS rfl (fun A B E G H d0=>rP (Jt Try.underlying26 (eI d0))) (gS rfl (fun A B E G H=>rP (JD Try.fld24_2 Try.inf22 dE (kp (H 3 rfl) E q30) rfl)) (gS rfl (fun A B E G H d0=>rP (Jm Try.underlying22 rfl (eI d0) rfl)) (gS rfl (fun A B E G H d0=>rP (Jt Try.underlying22 (eI d0))) (gT (Ty.nat ((List.length leads) * (List.length l))) rfl (fun A B E G H d0 d1=>rP ((y_mul (eI d0) (eI d1) wX).mono (fun τ _ h=>cN (σ:=τ) h))) (gS rfl (fun A B E G H d0=>rP (KE (eI d0) rfl)) (gE ok9 fun a14 s12 ok13 D12=>?_))))))));have F13:=F9.step0 D12.stp;refine tn ?_
     refine Jl (p:=((20000:Int) < ((((List.length leads) * (List.length l)):Nat):Int))) (D12.m 6 rfl) (fun c5=>?_) (fun c5=>?_)
     ·
      have hm:=touchMay_lim h0 hx2 hin2 oM
      refine Ja ?_
      refine gI a14 s12 ok13 (gC (Ty.int (3:Int)) (gE ok13 fun a15 s13 ok14 D13=>?_));refine tn (Jj (tr ?_))
      exact JJ rfl ok14 (F13.step0 D13.stp) (cvi (by (exact hm.symm)) (D13.m 0 rfl))
     ·
      have hm:=touchMay_yes h0 hx2 hin2 oM
      refine Jf (tn (Ja ?_))
      refine gI a14 s12 ok13 (gC (Ty.int (0:Int)) (gE ok13 fun a16 s14 ok15 D14=>?_));refine tn (Jj ?_)
      exact JJ rfl ok15 (F13.step0 D14.stp) (cvi (by (exact hm.symm)) (D14.m 0 rfl))
set_option maxRecDepth 100000 in
theorem letter_fn (c:Int) (σ:GW) (v0:Value) (hv0:Ty.has (Ty.val (Value.int .i32 c)) σ v0)  :
    FnC J 90 #[v0] σ (Ty.bool (KT c)):=by
 refine KQ Try.func90 rfl Try.ntmps90 (Xr rfl) (fun s0 a0 hle F0 ok0 hargs=>?_)
 have p0:=pA hle (hargs 0 _ rfl) hv0
 clear hargs;refine Ja ?_
 refine gI a0 s0 ok0 (gC (Ty.bool false) (gE ok0 fun a1 s1 ok1 D1=>?_));have q1:=D1.k p0;refine tn (Ja ?_)
 refine gI a1 s1 ok1 (gM q1 (gS rfl (fun A B E G H d0=>rP (Qv (eI d0) rfl)) (gS rfl (fun A B E G H d0=>rP (Jc (eI d0))) (gS rfl (fun A B E G H d0=>gu G (eI d0) fun hg=>Jc (kp (H 0 rfl) E q1)) (gS rfl (fun A B E G H d0 d1=>gu G (eI d1) fun hg=>y_leq ((ef d0 rfl).1 hg) rfl) (gS rfl (fun A B E G H d0 d1=>rP (Jp (eI d0) (eI d1) rfl)) (gS rfl (fun A B E G H d0 d1=>rP (Jc (eI d0))) (gS rfl (fun A B E G H d0=>gu G (eI d0) fun hg=>Jc (kp (H 0 rfl) E q1)) (gS rfl (fun A B E G H d0 d1=>gu G (eI d1) fun hg=>Qv ((ef d0 rfl).1 hg) rfl) (gS rfl (fun A B E G H d0 d1 d2=>gu G (eI d1) fun hg=>y_mv ((ef d0 rfl).1 hg)) (gS rfl (fun A B E G H d0=>gu2 G (eI d0) fun hg=>Jc (kp (H 0 rfl) E q1)) (gS rfl (fun A B E G H d0 d1=>gu2 G (eI d1) fun hg=>y_leq ((ef d0 rfl).1 hg) rfl) (gS rfl (fun A B E G H d0 d1 d2=>gu G (eI d2) fun hg=>Jp ((ef d0 rfl).1 hg) (KP hg (eI d1)) rfl) (gS rfl (fun A B E G H d0 d1=>rP (Jk (eI d0) rfl (eI d1))) (gS rfl (fun A B E G H d0 d1=>rP (Jc (eI d0))) (gT (Ty.grd ((((decide ((65:Int) ≤ c)) && (decide (c ≤ (90:Int)))) || ((decide ((97:Int) ≤ c)) && (decide (c ≤ (122:Int))))) = false) (Ty.val (Value.int .i32 c))) rfl (by intro A B E G H d0;refine Jd G rfl rfl dE (eI d0) (fun hg=>?_);obtain ⟨d1,d2⟩:=Xn hg;exact Jc (kp (H 0 rfl) E q1)) ?_))))))))))))))))
 refine gT (Ty.grd ((((decide ((65:Int) ≤ c)) && (decide (c ≤ (90:Int)))) || ((decide ((97:Int) ≤ c)) && (decide (c ≤ (122:Int))))) = false) (Ty.bool (decide ((48:Int) ≤ c)))) rfl (by intro A B E G H d0 d1;refine Jd G rfl rfl dE (eI d1) (fun hg=>?_);obtain ⟨d3,d4⟩:=Xn hg;exact Qv ((ef d0 rfl).1 hg) rfl) (gT (Ty.grd ((((decide ((65:Int) ≤ c)) && (decide (c ≤ (90:Int)))) || ((decide ((97:Int) ≤ c)) && (decide (c ≤ (122:Int))))) = false) (Ty.bool (decide ((48:Int) ≤ c)))) rfl (by intro A B E G H d0 d1 d2;refine Jd G rfl rfl dE (eI d1) (fun hg=>?_);obtain ⟨d5,d6⟩:=Xn hg;exact Jc ((ef d0 rfl).1 hg)) (gS rfl (fun A B E G H d0=>gu2 G (eI d0) fun hg=>Jc (kp (H 0 rfl) E q1)) (gS rfl (fun A B E G H d0 d1=>gu2 G (eI d1) fun hg=>y_leq ((ef d0 rfl).1 hg) rfl) (gT (Ty.grd ((((decide ((65:Int) ≤ c)) && (decide (c ≤ (90:Int)))) || ((decide ((97:Int) ≤ c)) && (decide (c ≤ (122:Int))))) = false) (Ty.bool ((decide ((48:Int) ≤ c)) && (decide (c ≤ (57:Int)))))) rfl (by intro A B E G H d0 d1 d2;refine Jd G rfl rfl dE (eI d2) (fun hg=>?_);obtain ⟨d7,d8⟩:=Xn hg;exact Jp ((ef d0 rfl).1 hg) (KP hg (eI d1)) rfl) (gS rfl (fun A B E G H d0 d1=>rP (Jk (eI d0) rfl (eI d1))) (gS rfl (fun A B E G H d0 d1=>rP (Jc (eI d0))) ?_))))))
 refine gT (Ty.grd (((((decide ((65:Int) ≤ c)) && (decide (c ≤ (90:Int)))) || ((decide ((97:Int) ≤ c)) && (decide (c ≤ (122:Int))))) || ((decide ((48:Int) ≤ c)) && (decide (c ≤ (57:Int))))) = false) (Ty.val (Value.int .i32 c))) rfl (by intro A B E G H d0;refine Jd G rfl rfl dE (eI d0) (fun hg=>?_);obtain ⟨d9,d10⟩:=Xn hg;obtain ⟨d11,d12⟩:=Xn d9;exact Jc (kp (H 0 rfl) E q1)) (gT (Ty.grd (((((decide ((65:Int) ≤ c)) && (decide (c ≤ (90:Int)))) || ((decide ((97:Int) ≤ c)) && (decide (c ≤ (122:Int))))) || ((decide ((48:Int) ≤ c)) && (decide (c ≤ (57:Int))))) = false) (Ty.bool (decide (c = (32:Int))))) rfl (by intro A B E G H d0 d1;refine Jd G rfl rfl dE (eI d1) (fun hg=>?_);obtain ⟨d13,d14⟩:=Xn hg;obtain ⟨d15,d16⟩:=Xn d13;exact Qb ((ef d0 rfl).1 hg) rfl) (gS rfl (fun A B E G H d0 d1=>rP (Jk (eI d0) rfl (eI d1))) (gS rfl (fun A B E G H d0 d1=>rP (Jc (eI d0))) (gT (Ty.grd ((((((decide ((65:Int) ≤ c)) && (decide (c ≤ (90:Int)))) || ((decide ((97:Int) ≤ c)) && (decide (c ≤ (122:Int))))) || ((decide ((48:Int) ≤ c)) && (decide (c ≤ (57:Int))))) || (decide (c = (32:Int)))) = false) (Ty.val (Value.int .i32 c))) rfl (by intro A B E G H d0;refine Jd G rfl rfl dE (eI d0) (fun hg=>?_);obtain ⟨d17,d18⟩:=Xn hg;obtain ⟨d19,d20⟩:=Xn d17;obtain ⟨d21,d22⟩:=Xn d19;have d18:=Xp d18;exact Jc (kp (H 0 rfl) E q1)) ?_))))
 refine gT (Ty.grd ((((((decide ((65:Int) ≤ c)) && (decide (c ≤ (90:Int)))) || ((decide ((97:Int) ≤ c)) && (decide (c ≤ (122:Int))))) || ((decide ((48:Int) ≤ c)) && (decide (c ≤ (57:Int))))) || (decide (c = (32:Int)))) = false) (Ty.bool (decide ((192:Int) ≤ c)))) rfl (by intro A B E G H d0 d1;refine Jd G rfl rfl dE (eI d1) (fun hg=>?_);obtain ⟨d23,d24⟩:=Xn hg;obtain ⟨d25,d26⟩:=Xn d23;obtain ⟨d27,d28⟩:=Xn d25;have d24:=Xp d24;exact Qv ((ef d0 rfl).1 hg) rfl) (gT (Ty.grd ((((((decide ((65:Int) ≤ c)) && (decide (c ≤ (90:Int)))) || ((decide ((97:Int) ≤ c)) && (decide (c ≤ (122:Int))))) || ((decide ((48:Int) ≤ c)) && (decide (c ≤ (57:Int))))) || (decide (c = (32:Int)))) = false) (Ty.bool (decide ((192:Int) ≤ c)))) rfl (by intro A B E G H d0 d1 d2;refine Jd G rfl rfl dE (eI d1) (fun hg=>?_);obtain ⟨d29,d30⟩:=Xn hg;obtain ⟨d31,d32⟩:=Xn d29;obtain ⟨d33,d34⟩:=Xn d31;have d30:=Xp d30;exact Jc ((ef d0 rfl).1 hg)) (gS rfl (fun A B E G H d0=>gu2 G (eI d0) fun hg=>Jc (kp (H 0 rfl) E q1)) (gS rfl (fun A B E G H d0 d1=>gu2 G (eI d1) fun hg=>y_leq ((ef d0 rfl).1 hg) rfl) ?_)))
 refine gT (Ty.grd ((((((decide ((65:Int) ≤ c)) && (decide (c ≤ (90:Int)))) || ((decide ((97:Int) ≤ c)) && (decide (c ≤ (122:Int))))) || ((decide ((48:Int) ≤ c)) && (decide (c ≤ (57:Int))))) || (decide (c = (32:Int)))) = false) (Ty.bool ((decide ((192:Int) ≤ c)) && (decide (c ≤ (382:Int)))))) rfl (by intro A B E G H d0 d1 d2;refine Jd G rfl rfl dE (eI d2) (fun hg=>?_);obtain ⟨d35,d36⟩:=Xn hg;obtain ⟨d37,d38⟩:=Xn d35;obtain ⟨d39,d40⟩:=Xn d37;have d36:=Xp d36;exact Jp ((ef d0 rfl).1 hg) (KP hg (eI d1)) rfl) (gT (Ty.grd ((((((decide ((65:Int) ≤ c)) && (decide (c ≤ (90:Int)))) || ((decide ((97:Int) ≤ c)) && (decide (c ≤ (122:Int))))) || ((decide ((48:Int) ≤ c)) && (decide (c ≤ (57:Int))))) || (decide (c = (32:Int)))) = false) (Ty.bool ((decide ((192:Int) ≤ c)) && (decide (c ≤ (382:Int)))))) rfl (by intro A B E G H d0 d1 d2;refine Jd G rfl rfl dE (eI d2) (fun hg=>?_);obtain ⟨d41,d42⟩:=Xn hg;obtain ⟨d43,d44⟩:=Xn d41;obtain ⟨d45,d46⟩:=Xn d43;have d42:=Xp d42;exact Jc ((ef d0 rfl).1 hg)) (gT (Ty.grd (((((((decide ((65:Int) ≤ c)) && (decide (c ≤ (90:Int)))) || ((decide ((97:Int) ≤ c)) && (decide (c ≤ (122:Int))))) || ((decide ((48:Int) ≤ c)) && (decide (c ≤ (57:Int))))) || (decide (c = (32:Int)))) = false)∧((decide ((192:Int) ≤ c)) && (decide (c ≤ (382:Int)))) = true) (Ty.val (Value.int .i32 c))) rfl (by intro A B E G H d0;refine Qf G rfl rfl dE (eI d0) (fun hg=>?_);obtain ⟨d47,d48⟩:=Xo hg.2;have d47:=Xq d47;have d48:=Xq d48;exact Jc (kp (H 0 rfl) E q1)) ?_))
 refine gT (Ty.grd (((((((decide ((65:Int) ≤ c)) && (decide (c ≤ (90:Int)))) || ((decide ((97:Int) ≤ c)) && (decide (c ≤ (122:Int))))) || ((decide ((48:Int) ≤ c)) && (decide (c ≤ (57:Int))))) || (decide (c = (32:Int)))) = false)∧((decide ((192:Int) ≤ c)) && (decide (c ≤ (382:Int)))) = true) (Ty.bool (decide (c ≠ (215:Int))))) rfl (by intro A B E G H d0 d1;refine Qf G rfl rfl dE (eI d1) (fun hg=>?_);obtain ⟨d49,d50⟩:=Xo hg.2;have d49:=Xq d49;have d50:=Xq d50;exact Qq ((ef d0 rfl).1 hg) rfl) (gT (Ty.grd ((((((decide ((65:Int) ≤ c)) && (decide (c ≤ (90:Int)))) || ((decide ((97:Int) ≤ c)) && (decide (c ≤ (122:Int))))) || ((decide ((48:Int) ≤ c)) && (decide (c ≤ (57:Int))))) || (decide (c = (32:Int)))) = false) (Ty.bool (((decide ((192:Int) ≤ c)) && (decide (c ≤ (382:Int)))) && (decide (c ≠ (215:Int)))))) rfl (by intro A B E G H d0 d1 d2;refine Jd G rfl rfl dE (eI d2) (fun hg=>?_);obtain ⟨d51,d52⟩:=Xn hg;obtain ⟨d53,d54⟩:=Xn d51;obtain ⟨d55,d56⟩:=Xn d53;have d52:=Xp d52;exact Jp ((ef d0 rfl).1 hg) (KP hg (eI d1)) rfl) ?_)
 refine gT (Ty.grd ((((((decide ((65:Int) ≤ c)) && (decide (c ≤ (90:Int)))) || ((decide ((97:Int) ≤ c)) && (decide (c ≤ (122:Int))))) || ((decide ((48:Int) ≤ c)) && (decide (c ≤ (57:Int))))) || (decide (c = (32:Int)))) = false) (Ty.bool (((decide ((192:Int) ≤ c)) && (decide (c ≤ (382:Int)))) && (decide (c ≠ (215:Int)))))) rfl (by intro A B E G H d0 d1 d2;refine Jd G rfl rfl dE (eI d2) (fun hg=>?_);obtain ⟨d57,d58⟩:=Xn hg;obtain ⟨d59,d60⟩:=Xn d57;obtain ⟨d61,d62⟩:=Xn d59;have d58:=Xp d58;exact Jc ((ef d0 rfl).1 hg)) (gT (Ty.grd (((((((decide ((65:Int) ≤ c)) && (decide (c ≤ (90:Int)))) || ((decide ((97:Int) ≤ c)) && (decide (c ≤ (122:Int))))) || ((decide ((48:Int) ≤ c)) && (decide (c ≤ (57:Int))))) || (decide (c = (32:Int)))) = false)∧(((decide ((192:Int) ≤ c)) && (decide (c ≤ (382:Int)))) && (decide (c ≠ (215:Int)))) = true) (Ty.val (Value.int .i32 c))) rfl (by intro A B E G H d0;refine Qf G rfl rfl dE (eI d0) (fun hg=>?_);obtain ⟨d63,d64⟩:=Xo hg.2;obtain ⟨d65,d66⟩:=Xo d63;have d65:=Xq d65;have d66:=Xq d66;have d64:=Xq d64;exact Jc (kp (H 0 rfl) E q1)) ?_)
 refine gT (Ty.grd (((((((decide ((65:Int) ≤ c)) && (decide (c ≤ (90:Int)))) || ((decide ((97:Int) ≤ c)) && (decide (c ≤ (122:Int))))) || ((decide ((48:Int) ≤ c)) && (decide (c ≤ (57:Int))))) || (decide (c = (32:Int)))) = false)∧(((decide ((192:Int) ≤ c)) && (decide (c ≤ (382:Int)))) && (decide (c ≠ (215:Int)))) = true) (Ty.bool (decide (c ≠ (247:Int))))) rfl (by intro A B E G H d0 d1;refine Qf G rfl rfl dE (eI d1) (fun hg=>?_);obtain ⟨d67,d68⟩:=Xo hg.2;obtain ⟨d69,d70⟩:=Xo d67;have d69:=Xq d69;have d70:=Xq d70;have d68:=Xq d68;exact Qq ((ef d0 rfl).1 hg) rfl) (gT (Ty.grd ((((((decide ((65:Int) ≤ c)) && (decide (c ≤ (90:Int)))) || ((decide ((97:Int) ≤ c)) && (decide (c ≤ (122:Int))))) || ((decide ((48:Int) ≤ c)) && (decide (c ≤ (57:Int))))) || (decide (c = (32:Int)))) = false) (Ty.bool ((((decide ((192:Int) ≤ c)) && (decide (c ≤ (382:Int)))) && (decide (c ≠ (215:Int)))) && (decide (c ≠ (247:Int)))))) rfl (by intro A B E G H d0 d1 d2;refine Jd G rfl rfl dE (eI d2) (fun hg=>?_);obtain ⟨d71,d72⟩:=Xn hg;obtain ⟨d73,d74⟩:=Xn d71;obtain ⟨d75,d76⟩:=Xn d73;have d72:=Xp d72;exact Jp ((ef d0 rfl).1 hg) (KP hg (eI d1)) rfl) (gS rfl (fun A B E G H d0 d1=>rP (Jk (eI d0) rfl (eI d1))) (gB 0 (gE ok1 fun a2 s2 ok2 D2=>?_))));refine tn (Jj ?_)
 exact QS rfl ok2 ((F0.step0 D1.stp).step0 D2.stp) (cvb (by (rfl)) (D2.m 42 rfl))
set_option maxRecDepth 100000 in
theorem mName_fn (s:ByteArray) (σ:GW) (v0:Value) (hv0:Ty.has (Ty.val (Value.string s)) σ v0) (E:s.size ≤ 1099511627776) :
    FnC J 87 #[v0] σ (Ty.bool (nameL s)):=by
 refine KQ Try.func87 rfl Try.ntmps87 (Xr rfl) (fun s0 a0 hle F0 ok0 hargs=>?_)
 have p0:=pA hle (hargs 0 _ rfl) hv0
 clear hargs;refine Ja ?_
 refine gI a0 s0 ok0 (gC (Ty.bool false) (gE ok0 fun a1 s1 ok1 D1=>?_));refine tn (Ja ?_)
 refine gI a1 s1 ok1 (gC (Ty.int (0:Int)) (gE ok1 fun a2 s2 ok2 D2=>?_));have q2:=D2.k (D1.k p0);refine tn (Ja (Ja ?_))
 refine gI a2 s2 ok2 (gM q2 (gR (Pr.iter 7 s 0) rfl (by intro A B E G H d0;exact rP (y_range 7 Try.underlying9 (eI d0))) (gE ok2 fun a3 s3 ok3 D3=>?_)))
 have q6:(Pr.iter 7 s 0).has s3 (a3.eval (.tmp 7)):=D3.done 1
 refine tn (Je ?_)
 refine Kf (fun n1 a4 w1=>∃ (t1:GW) (xs:List Nat) (p:Nat) (f:Nat),t1.w = w1∧From s0 t1∧Ok 35 [] a4∧(Pr.iter 7 s p).has t1 (a4.eval (.tmp 7))∧At (Ty.nat xs.length) t1 a4 (.tmp 3)∧At (Ty.val (Value.string s)) t1 a4 (.tmp 0)∧(∀ c ∈ xs,KT ((c:Nat):Int) = true)∧(xs ++ runesF s f p = runesL s)∧(s.size ≤ f + p)∧(p ≤ s.size + 4)∧(xs.length ≤ p)∧(xs.length = 0 ∨ 0 < s.size)∧n1 = s.size + 8 - p) (s.size + 8 - (0)) ?_ ?_
 ·
  exact ⟨s3,([]:List Nat),0,s.size,rfl,(((F0.step0 D1.stp).step0 D2.stp).step0 D3.stp),ok3,(cvit oM q6),(cJ (D3.k (D2.m 0 rfl))),(D3.k q2),fun c hc=>by simp at hc,rfl,by omega,by omega,by simp,.inl rfl,rfl⟩
 ·
  rintro n2 a5 w2 ⟨t2,xs,p,f,rfl,F4,ok4,q7,q8,q9,hall,heq,hf,hp,hx,hz,rfl⟩
  have hw:=wid_pos s p
  have hw2:=wid_le s p
  refine Ja ?_
  refine gI a5 t2 ok4 (gE2 ok4 fun a6 s4 ok5 D4=>?_);have q10:=(Pr.iter 7 s p).up D4.stp q7
  have q11:a6.eval (.tmp 7) = a5.eval (.tmp 7):=D4.same 7 rfl
  refine Ks (m:=7) (R:=(fun v τ=>(Ty.nxt (decide (p < s.size)) p (run1 s p)).has τ v∧Iter τ 7 (a5.eval (.tmp 7)) s (stepTo s p))) rfl rfl dE ok5 (m_next dE q10 q11) (fun a7 s5 hs1 ok6 r1 sm1=>?_)
  have F6:=(F4.step0 D4.stp).step hs1 dE
  have q14:(Pr.iter 7 s (stepTo s p)).has s5 (a5.eval (.tmp 7)):=(r1).2
  have q15:=(sm1 7 dE).trans q11
  have q16:At (Ty.nat xs.length) s5 a7 (.tmp 3):=kpm hs1 dE (sm1 3 dE) (D4.k q8)
  have q17:At (Ty.val (Value.string s)) s5 a7 (.tmp 0):=kpm hs1 dE (sm1 0 dE) (D4.k q9)
  have q18:At (Ty.nxt (decide (p < s.size)) p (run1 s p)) s5 a7 (.tmp 8):=(r1).1
  refine Ks (m:=0) (R:=(fun v τ=>Pr.has (Ty.pr (Ty.bool (decide (p < s.size)))) τ v)) rfl rfl dE ok6 (Yld.toM (y_ext_n0 q18)) (fun a8 s6 hs2 ok7 r2 sm2=>?_)
  have F7:=F6.step hs2 dE;have q19:=Iter.keep q14 hs2 dE (.inl rfl);have q20:=(sm2 7 dE).trans q15
  have q21:At (Ty.nat xs.length) s6 a8 (.tmp 3):=kpm hs2 dE (sm2 3 dE) q16
  have q22:At (Ty.val (Value.string s)) s6 a8 (.tmp 0):=kpm hs2 dE (sm2 0 dE) q17
  have q23:At (Ty.nxt (decide (p < s.size)) p (run1 s p)) s6 a8 (.tmp 8):=kpm hs2 dE (sm2 8 dE) q18
  have q24:At (Ty.bool (decide (p < s.size))) s6 a8 (.tmp 9):=r2
  refine Jh ?_
  have q25:(Pr.iter 7 s (stepTo s p)).has s6 (a8.eval (.tmp 7)):=al q20 q19
  refine tn (Ja ?_)
  refine Jl (p:=(p < s.size)) q24 (fun c1=>?_) (fun c1=>?_)
  ·
   refine Jf (tn (Je (Ja ?_)))
   refine gI a8 s6 ok7 (gT (Ty.val (Value.int .i32 ((run1 s p:Nat):Int))) rfl (fun A B E G H=>rP (y_ext_n2 (kp (H 8 rfl) E q23) (decide_eq_true oM))) (gB 0 (gE ok7 fun a9 s7 ok8 D5=>?_)))
   have q26:(Pr.iter 7 s (stepTo s p)).has s7 (a9.eval (.tmp 7)):=D5.ko q25 rfl
   refine tn (Ja (Ja ?_))
   refine gI a9 s7 ok8 (gM (D5.m 1 rfl) (gS rfl (fun A B E G H d0=>rP (JP _ Try.func90 rfl rfl my1 (letter_fn (((run1 s p:Nat):Int)) _ _ (eI d0) ))) (gS rfl (fun A B E G H d0=>rP (y_not (eI d0))) (gE ok8 fun a10 s8 ok9 D6=>?_))));have F9:=(F7.step0 D5.stp).step0 D6.stp
   have q30:(Pr.iter 7 s (stepTo s p)).has s8 (a10.eval (.tmp 7)):=D6.ko q26 rfl
   refine tn ?_
   refine JR (D6.m 2 rfl) (fun c2=>?_) (fun c2=>?_)
   ·
    have hlet:KT (run1 s p:Nat) = false:=(by simpa using c2)
    refine Ja ?_
    refine gI a10 s8 ok9 (gC (Ty.bool false) (gE ok9 fun a11 s9 ok10 D7=>?_));refine tn (Jj (tr (br (tr (br (tr ?_))))))
    exact QS rfl ok10 (F9.step0 D7.stp) (cvb (by (exact (nameL_no heq oM oM hlet).symm)) (D7.m 0 rfl))
   ·
    have hlet:KT (run1 s p:Nat) = true:=(by simpa using c2)
    refine Jf (tn ?_)
    refine gI a10 s8 ok9 (gM (D6.k (D5.k q21)) (gT (Ty.int (((xs.length:Nat):Int) + (1:Int))) rfl (fun A B E G H d0=>rP (JF (eI d0) rfl wX)) (gB 0 (gE ok9 fun a12 s10 ok11 D8=>?_))))
    have q35:(Pr.iter 7 s (stepTo s p)).has s10 (a12.eval (.tmp 7)):=D8.ko q30 rfl
    refine bn ?_
    exact tn ⟨s.size + 8 - ((p + wid s p)),by omega,s10,(xs ++ [run1 s p]),(p + wid s p),(f - 1),rfl,(F9.step0 D8.stp),ok11,(cvit (by unfold stepTo;rw [if_pos oM]) q35),(cvi (by (simp)) (D8.m 2 rfl)),(D8.k (D6.k (D5.k q22))),fun c hc=>by (rcases List.mem_append.1 hc with h | h;exact hall c h;simp at h;subst h;exact hlet),runesF_step heq oM oM,by omega,by omega,by simp;omega,.inr oM,rfl⟩
  ·
   refine Jv (tx (tx (bx (tn (Ja ?_)))))
   refine gI a8 s6 ok7 (gM q21 (gS rfl (fun A B E G H d0=>rP (Qv (eI d0) rfl)) (gS rfl (fun A B E G H d0=>rP (Jc (eI d0))) (gS rfl (fun A B E G H d0=>gu G (eI d0) fun hg=>Jc (kp (H 3 rfl) E q21)) (gS rfl (fun A B E G H d0 d1=>gu G (eI d1) fun hg=>y_leq ((ef d0 rfl).1 hg) rfl) (gS rfl (fun A B E G H d0 d1=>rP (Jp (eI d0) (eI d1) rfl)) (gS rfl (fun A B E G H d0 d1=>rP (Jc (eI d0))) (gT (Ty.grd (((decide ((1:Int) ≤ ((xs.length:Nat):Int))) && (decide (((xs.length:Nat):Int) ≤ (20:Int)))) = true) (Ty.val (Value.string s))) rfl (by intro A B E G H d0;refine Jd G rfl rfl dE (eI d0) (fun hg=>?_);obtain ⟨d1,d2⟩:=Xo hg;have d1:=Xq d1;have d2:=Xq d2;exact Jc (kp (H 0 rfl) E q22)) (gT (Ty.grd (((decide ((1:Int) ≤ ((xs.length:Nat):Int))) && (decide (((xs.length:Nat):Int) ≤ (20:Int)))) = true) (Ty.val (Value.int .u8 (((s.get! ((0:Int)).toNat).toNat:Nat):Int)))) rfl (by intro A B E G H d0 d1;refine Jd G rfl rfl dE (eI d1) (fun hg=>?_);obtain ⟨d3,d4⟩:=Xo hg;have d3:=Xq d3;have d4:=Xq d4;exact y_sindex Try.underlying9 ((ef d0 rfl).1 hg) rfl oM oM) (gT (Ty.grd (((decide ((1:Int) ≤ ((xs.length:Nat):Int))) && (decide (((xs.length:Nat):Int) ≤ (20:Int)))) = true) (Ty.bool (decide ((((s.get! ((0:Int)).toNat).toNat:Nat):Int) ≠ (32:Int))))) rfl (by intro A B E G H d0 d1;refine Jd G rfl rfl dE (eI d1) (fun hg=>?_);obtain ⟨d5,d6⟩:=Xo hg;have d5:=Xq d5;have d6:=Xq d6;exact Qq ((ef d0 rfl).1 hg) rfl) ?_))))))))))
   refine gS rfl (fun A B E G H d0 d1=>rP (Jp (eI d0) (eI d1) rfl)) (gS rfl (fun A B E G H d0 d1=>rP (Jc (eI d0))) (gT (Ty.grd ((((decide ((1:Int) ≤ ((xs.length:Nat):Int))) && (decide (((xs.length:Nat):Int) ≤ (20:Int)))) && (decide ((((s.get! ((0:Int)).toNat).toNat:Nat):Int) ≠ (32:Int)))) = true) (Ty.val (Value.string s))) rfl (by intro A B E G H d0;refine Jd G rfl rfl dE (eI d0) (fun hg=>?_);obtain ⟨d7,d8⟩:=Xo hg;obtain ⟨d9,d10⟩:=Xo d7;have d9:=Xq d9;have d10:=Xq d10;have d8:=Xq d8;exact Jc (kp (H 0 rfl) E q22)) (gT (Ty.grd ((((decide ((1:Int) ≤ ((xs.length:Nat):Int))) && (decide (((xs.length:Nat):Int) ≤ (20:Int)))) && (decide ((((s.get! ((0:Int)).toNat).toNat:Nat):Int) ≠ (32:Int)))) = true) (Ty.val (Value.string s))) rfl (by intro A B E G H d0;refine Jd G rfl rfl dE (eI d0) (fun hg=>?_);obtain ⟨d11,d12⟩:=Xo hg;obtain ⟨d13,d14⟩:=Xo d11;have d13:=Xq d13;have d14:=Xq d14;have d12:=Xq d12;exact Jc (kp (H 0 rfl) E q22)) (gT (Ty.grd ((((decide ((1:Int) ≤ ((xs.length:Nat):Int))) && (decide (((xs.length:Nat):Int) ≤ (20:Int)))) && (decide ((((s.get! ((0:Int)).toNat).toNat:Nat):Int) ≠ (32:Int)))) = true) (Ty.nat (ByteArray.size s))) rfl (by intro A B E G H d0 d1;refine Jd G rfl rfl dE (eI d1) (fun hg=>?_);obtain ⟨d15,d16⟩:=Xo hg;obtain ⟨d17,d18⟩:=Xo d15;have d17:=Xq d17;have d18:=Xq d18;have d16:=Xq d16;exact y_len_str Try.underlying9 ((ef d0 rfl).1 hg)) ?_))))
   refine gT (Ty.grd ((((decide ((1:Int) ≤ ((xs.length:Nat):Int))) && (decide (((xs.length:Nat):Int) ≤ (20:Int)))) && (decide ((((s.get! ((0:Int)).toNat).toNat:Nat):Int) ≠ (32:Int)))) = true) (Ty.int ((((ByteArray.size s):Nat):Int) - (1:Int)))) rfl (by intro A B E G H d0 d1;refine Jd G rfl rfl dE (eI d1) (fun hg=>?_);obtain ⟨d19,d20⟩:=Xo hg;obtain ⟨d21,d22⟩:=Xo d19;have d21:=Xq d21;have d22:=Xq d22;have d20:=Xq d20;exact Xg ((ef d0 rfl).1 hg) rfl wX) (gT (Ty.grd ((((decide ((1:Int) ≤ ((xs.length:Nat):Int))) && (decide (((xs.length:Nat):Int) ≤ (20:Int)))) && (decide ((((s.get! ((0:Int)).toNat).toNat:Nat):Int) ≠ (32:Int)))) = true) (Ty.val (Value.int .u8 (((s.get! (((((ByteArray.size s):Nat):Int) - (1:Int))).toNat).toNat:Nat):Int)))) rfl (by intro A B E G H d0 d1 d2;refine Jd G rfl rfl dE (eI d2) (fun hg=>?_);obtain ⟨d23,d24⟩:=Xo hg;obtain ⟨d25,d26⟩:=Xo d23;have d25:=Xq d25;have d26:=Xq d26;have d24:=Xq d24;exact y_sindex Try.underlying9 ((ef d0 rfl).1 hg) ((ef d1 rfl).1 hg) oM oM) ?_)
   refine gT (Ty.grd ((((decide ((1:Int) ≤ ((xs.length:Nat):Int))) && (decide (((xs.length:Nat):Int) ≤ (20:Int)))) && (decide ((((s.get! ((0:Int)).toNat).toNat:Nat):Int) ≠ (32:Int)))) = true) (Ty.bool (decide ((((s.get! (((((ByteArray.size s):Nat):Int) - (1:Int))).toNat).toNat:Nat):Int) ≠ (32:Int))))) rfl (by intro A B E G H d0 d1;refine Jd G rfl rfl dE (eI d1) (fun hg=>?_);obtain ⟨d27,d28⟩:=Xo hg;obtain ⟨d29,d30⟩:=Xo d27;have d29:=Xq d29;have d30:=Xq d30;have d28:=Xq d28;exact Qq ((ef d0 rfl).1 hg) rfl) (gS rfl (fun A B E G H d0 d1=>rP (Jp (eI d0) (eI d1) rfl)) (gB 0 (gE ok7 fun a13 s11 ok12 D9=>?_)));refine tn (Jj ?_)
   exact QS rfl ok12 (F7.step0 D9.stp) (cvb (by (rw [runesF_end oM,List.append_nil] at heq;rw [nameL_all (by rw [← heq];exact hall),heq];simp)) (D9.m 19 rfl))
set_option maxRecDepth 100000 in
theorem pCheck_fn (n:Int) (l:List Int) (σ:GW) (v0 v1:Value) (hv0:Ty.has (Ty.int n) σ v0) (hv1:Ty.has (Ty.lst Ty.int l) σ v1) (hn:-9223372036854775808 ≤ n∧n ≤ 9223372036854775807) :
    FnC J 77 #[v0,v1] σ (Ty.int (KX n l)):=by
 refine KQ Try.func77 rfl Try.ntmps77 (Xr rfl) (fun s0 a0 hle F0 ok0 hargs=>?_)
 have p0:=pA hle (hargs 0 _ rfl) hv0
 have p1:=pA hle (hargs 1 _ rfl) hv1
 have b1:=JS p1
 clear hargs;refine Ja ?_
 refine gI a0 s0 ok0 (gC (Ty.int (0:Int)) (gE ok0 fun a1 s1 ok1 D1=>?_));have q1:=D1.k p0;refine tn (Ja (Ja ?_))
 refine gI a1 s1 ok1 (gM q1 (gS rfl (fun A B E G H d0=>rP (Jw (eI d0) rfl)) (gS rfl (fun A B E G H d0=>rP (Jc (eI d0))) (gS rfl (fun A B E G H d0=>gu G (eI d0) fun hg=>Jc (kp (H 0 rfl) E q1)) (gS rfl (fun A B E G H d0 d1=>gu G (eI d1) fun hg=>KE ((ef d0 rfl).1 hg) rfl) (gS rfl (fun A B E G H d0 d1=>rP (Jk (eI d0) rfl (eI d1))) (gE ok1 fun a2 s2 ok2 D2=>?_)))))));have F2:=(F0.step0 D1.stp).step0 D2.stp;refine tn ?_
 refine JR (D2.m 5 rfl) (fun c1=>?_) (fun c1=>?_)
 ·
  simp only [Bool.or_eq_true,decide_eq_true_eq] at c1
  refine Ja ?_
  refine gI a2 s2 ok2 (gC (Ty.int (1:Int)) (gE ok2 fun a3 s3 ok3 D3=>?_));refine tn (Jj (tr ?_))
  exact QS rfl ok3 (F2.step0 D3.stp) (cvi (by (exact (chgMay_cnt oM).symm)) (D3.m 0 rfl))
 ·
  obtain ⟨d1,d2⟩:=Xn c1
  replace d1:=Xp d1
  replace d2:=Xp d2
  refine Jf (tn (Ja ?_))
  refine gI a2 s2 ok2 (gC (Ty.int (0:Int)) (gE ok2 fun a4 s4 ok4 D4=>?_));refine tn (Ja (Ja ?_))
  refine gI a4 s4 ok4 (gM (D4.k (D2.k (D1.k p1))) (gS rfl (fun A B E G H d0=>rP (Jt Try.underlying26 (eI d0))) (gT (Ty.int (0:Int)) rfl (fun A B E G H=>rP (Jc rfl)) (gE ok4 fun a5 s5 ok5 D5=>?_))));refine tn (Je ?_)
  refine Kf (fun n1 a6 w1=>∃ (t1:GW) (k:Nat) (z:Int),t1.w = w1∧From s0 t1∧Ok 42 [] a6∧At (Ty.nat k) t1 a6 (.tmp 16)∧At (Ty.int z) t1 a6 (.tmp 5)∧At (Ty.int n) t1 a6 (.tmp 0)∧At (Ty.lst Ty.int l) t1 a6 (.tmp 14)∧At (Ty.nat (List.length l)) t1 a6 (.tmp 15)∧(k ≤ l.length)∧(QH n l k = some z)∧(0 ≤ z∧z ≤ n)∧n1 = l.length - k) (l.length - (0)) ?_ ?_
  ·
   exact ⟨s5,0,0,rfl,((F2.step0 D4.stp).step0 D5.stp),ok5,(cJ (D5.m 2 rfl)),(cJ (D5.k (D4.m 0 rfl))),(D5.k (D4.k (D2.k q1))),(D5.m 0 rfl),(D5.m 1 rfl),by omega,rfl,by omega,rfl⟩
  ·
   rintro n2 a7 w2 ⟨t2,k,z,rfl,F6,ok6,q15,q16,q17,q18,q19,hk,E,hz,rfl⟩
   refine Ja ?_
   refine gI a7 t2 ok6 (gS rfl (fun A B E G H=>rP (Jw (kp (H 16 rfl) E q15) (kp (H 15 rfl) E q19))) (gE ok6 fun a8 s6 ok7 D6=>?_));have F7:=F6.step0 D6.stp;have q20:=D6.k q15;have q21:=D6.k q16;have q22:=D6.k q17;have q23:=D6.k q18;refine tn (Ja ?_)
   refine Jl (p:=(((k:Nat):Int) < (((List.length l):Nat):Int))) (D6.m 0 rfl) (fun c2=>?_) (fun c2=>?_)
   ·
    refine Jf (tn (Ja (Je (Ja ?_))))
    refine gI a8 s6 ok7 (gT (Ty.ref [(Ty.int (l.getD k 0))]) rfl (fun A B E G H=>rP (Jy Try.underlying26 Try.inf3 (kp (H 14 rfl) E q23) (kp (H 16 rfl) E q20) oM (Ju Ty.int l 0 k oM))) (gS rfl (fun A B E G H d0=>rP (Jm Try.underlying3 rfl (eI d0) rfl)) (gB 0 (gE ok7 fun a9 s7 ok8 D7=>?_))));have q27:=D7.k q21;have q28:=D7.k q22;have q31:=D7.m 2 rfl;refine tn (Ja (Ja ?_))
    refine gI a9 s7 ok8 (gM q31 (gM q27 (gS rfl (fun A B E G H d0 d1=>rP (y_leq (eI d0) (eI d1))) (gS rfl (fun A B E G H d0=>rP (Jc (eI d0))) (gS rfl (fun A B E G H d0=>gu G (eI d0) fun hg=>Jc (kp (H 7 rfl) E q31)) (gS rfl (fun A B E G H d0=>gu G (eI d0) fun hg=>Jc (kp (H 0 rfl) E q28)) (gS rfl (fun A B E G H d0 d1 d2=>gu G (eI d2) fun hg=>KE ((ef d0 rfl).1 hg) ((ef d1 rfl).1 hg)) (gS rfl (fun A B E G H d0 d1=>rP (Jk (eI d0) rfl (eI d1))) (gS rfl (fun A B E G H d0 d1=>rP (Jc (eI d0))) (gT (Ty.grd (((decide ((l.getD k 0) ≤ z)) || (decide (n < (l.getD k 0)))) = false) (Ty.int (l.getD k 0))) rfl (by intro A B E G H d0;refine Jd G rfl rfl dE (eI d0) (fun hg=>?_);obtain ⟨d3,d4⟩:=Xn hg;have d3:=Xp d3;have d4:=Xp d4;exact Jc (kp (H 7 rfl) E q31)) (gT (Ty.grd (((decide ((l.getD k 0) ≤ z)) || (decide (n < (l.getD k 0)))) = false) (Ty.int z)) rfl (by intro A B E G H d0;refine Jd G rfl rfl dE (eI d0) (fun hg=>?_);obtain ⟨d5,d6⟩:=Xn hg;have d5:=Xp d5;have d6:=Xp d6;exact Jc (kp (H 5 rfl) E q27)) (gT (Ty.grd (((decide ((l.getD k 0) ≤ z)) || (decide (n < (l.getD k 0)))) = false) (Ty.int ((l.getD k 0) - z))) rfl (by intro A B E G H d0 d1 d2;refine Jd G rfl rfl dE (eI d2) (fun hg=>?_);obtain ⟨d7,d8⟩:=Xn hg;have d7:=Xp d7;have d8:=Xp d8;exact Xg ((ef d0 rfl).1 hg) ((ef d1 rfl).1 hg) wX) ?_))))))))))))
    refine gT (Ty.grd (((decide ((l.getD k 0) ≤ z)) || (decide (n < (l.getD k 0)))) = false) (Ty.nat ((((l.getD k 0) - z)).toNat % 2))) rfl (by intro A B E G H d0 d1;refine Jd G rfl rfl dE (eI d1) (fun hg=>?_);obtain ⟨d9,d10⟩:=Xn hg;have d9:=Xp d9;have d10:=Xp d10;exact y_remN (toN (σ:=B) ((ef d0 rfl).1 hg) oM) (toN (σ:=B) rfl oM) oM) (gT (Ty.grd (((decide ((l.getD k 0) ≤ z)) || (decide (n < (l.getD k 0)))) = false) (Ty.bool (decide (((((((l.getD k 0) - z)).toNat % 2):Nat):Int) = (0:Int))))) rfl (by intro A B E G H d0 d1;refine Jd G rfl rfl dE (eI d1) (fun hg=>?_);obtain ⟨d11,d12⟩:=Xn hg;have d11:=Xp d11;have d12:=Xp d12;exact Qb ((ef d0 rfl).1 hg) rfl) (gS rfl (fun A B E G H d0 d1=>rP (Jk (eI d0) rfl (eI d1))) (gE ok8 fun a10 s8 ok9 D8=>?_)));have F9:=(F7.step0 D7.stp).step0 D8.stp;refine tn ?_
    refine JR (D8.m 14 rfl) (fun c3=>?_) (fun c3=>?_)
    ·
     simp only [Bool.or_eq_true,decide_eq_true_eq] at c3
     refine Ja ?_
     refine gI a10 s8 ok9 (gC (Ty.int (6:Int)) (gE ok9 fun a11 s9 ok10 D9=>?_));refine tn (Jj (tr (br (tr (tr (br (tr ?_)))))))
     exact QS rfl ok10 (F9.step0 D9.stp) (cvi (by (exact (chgMay_scan oM E oM oM).symm)) (D9.m 0 rfl))
    ·
     obtain ⟨d13,d14⟩:=Xn c3
     obtain ⟨d15,d16⟩:=Xn d13
     replace d15:=Xp d15
     replace d16:=Xp d16
     replace d14:=Xp d14
     refine Jf (tn ?_)
     refine gI a10 s8 ok9 (gM (D8.k q31) (gB 0 (gE ok9 fun a12 s10 ok11 D10=>?_)));refine bn (tn ?_)
     refine gI a12 s10 ok11 (gT (Ty.int (((k:Nat):Int) + (1:Int))) rfl (fun A B E G H=>rP (JF (kp (H 16 rfl) E (D10.k (D8.k (D7.k q20)))) rfl wX)) (gS rfl (fun A B E G H d0=>rP (Jc (eI d0))) (gE ok11 fun a13 s11 ok12 D11=>?_)))
     have d1_:=(Xp (Bool.or_eq_false_iff.1 c3).2)
     have d2_:=Xp (Bool.or_eq_false_iff.1 (Bool.or_eq_false_iff.1 c3).1).1
     have d3_:=Xp (Bool.or_eq_false_iff.1 (Bool.or_eq_false_iff.1 c3).1).2
     exact tn ⟨l.length - ((k+1)),by omega,s11,(k+1),(l.getD k 0),rfl,((F9.step0 D10.stp).step0 D11.stp),ok12,(cJ (D11.m 1 rfl)),(cJ (D11.k (D10.m 1 rfl))),(D11.k (D10.k (D8.k q28))),(D11.k (D10.k (D8.k (D7.k q23)))),(D11.k (D10.k (D8.k (D7.k (D6.k q19))))),by omega,scan_step E oM oM oM d1_,by omega,rfl⟩
   ·
    have hk2:k = l.length:=oM
    refine Jv (tx (tx (bx (tn (Ja (Ja ?_))))))
    refine gI a8 s6 ok7 (gM q22 (gM q21 (gT (Ty.int (n - z)) rfl (fun A B E G H d0 d1=>rP (Xg (eI d0) (eI d1) wX)) (gT (Ty.nat (((n - z)).toNat % 2)) rfl (fun A B E G H d0=>rP (y_remN (toN (σ:=B) (eI d0) oM) (toN (σ:=B) rfl oM) oM)) (gS rfl (fun A B E G H d0=>rP (Qb (eI d0) rfl)) (gE ok7 fun a14 s12 ok13 D12=>?_))))));have F13:=F7.step0 D12.stp;refine tn ?_
    refine Jl (p:=((((((n - z)).toNat % 2):Nat):Int) = (1:Int))) (D12.m 4 rfl) (fun c4=>?_) (fun c4=>?_)
    ·
     refine Ja ?_
     refine gI a14 s12 ok13 (gC (Ty.int (6:Int)) (gE ok13 fun a15 s13 ok14 D13=>?_));refine tn (Jj (tr ?_))
     exact QS rfl ok14 (F13.step0 D13.stp) (cvi (by (exact (chgMay_odd oM (by rw [← hk2];exact E) oM).symm)) (D13.m 0 rfl))
    ·
     refine Jf (tn (Ja ?_))
     refine gI a14 s12 ok13 (gC (Ty.int (0:Int)) (gE ok13 fun a16 s14 ok15 D14=>?_));refine tn (Jj ?_)
     exact QS rfl ok15 (F13.step0 D14.stp) (cvi (by (exact (chgMay_ok oM (by rw [← hk2];exact E) oM).symm)) (D14.m 0 rfl))
end Go.Proofs.Ytodmoedmijfciaa
