/- The functions that the law BandRings reaches, each by its contract. Part 3. -/
import Derived.Test.YtodmoedmijfciaaBandRingsA2
namespace Go.Proofs.Ytodmoedmijfciaa
open Go.KL
variable {J:Go.KL.JdOf Try.prog} [Go.KL.Al J]
set_option maxRecDepth 100000 in
theorem mCheck_fn (nm:ByteArray) (n:Int) (l:List (List Int)) (σ:GW) (v0:Value) (hv0:Ty.has (Ty.agg [(Ty.val (Value.string nm)),(Ty.int n),(Ty.lst Ty.ints l)]) σ v0) (hnm:nm.size ≤ 1099511627776) (hn:-9223372036854775808 ≤ n∧n ≤ 9223372036854775807) :
    FnC J 73 #[v0] σ (Ty.int (KG nm n l)):=by
 refine KQ Try.func73 rfl Try.ntmps73 (Xr rfl) (fun s0 a0 hle F0 ok0 hargs=>?_)
 have p0:=pA hle (hargs 0 _ rfl) hv0
 clear hargs;refine Ja ?_
 refine gI a0 s0 ok0 (gS rfl (fun A B E G H=>rP (Qw (kp (H 0 rfl) E p0))) (gC (Ty.int (0:Int)) (gE ok0 fun a1 s1 ok1 D1=>?_)));have q1:=D1.m 0 rfl;refine tn (Ja (Je (Ja ?_)))
 refine gI a1 s1 ok1 (gS rfl (fun A B E G H=>rP (JD Try.fld24_0 Try.inf9 dE (kp (H 1 rfl) E q1) rfl)) (gS rfl (fun A B E G H d0=>rP (Jm Try.underlying9 rfl (eI d0) rfl)) (gS rfl (fun A B E G H d0=>rP (JP _ Try.func87 rfl rfl my1 (mName_fn (nm) _ _ (eI d0) oX))) (gS rfl (fun A B E G H d0=>rP (y_not (eI d0))) (gB 0 (gE ok1 fun a2 s2 ok2 D2=>?_))))));have F2:=(F0.step0 D1.stp).step0 D2.stp;have q2:=D2.k q1;refine tn ?_
 refine JR (D2.m 4 rfl) (fun c1=>?_) (fun c1=>?_)
 ·
  have hnn:nameL nm = false:=(by simpa using c1)
  refine Ja ?_
  refine gI a2 s2 ok2 (gC (Ty.int (7:Int)) (gE ok2 fun a3 s3 ok3 D3=>?_));refine tn (Jj (br (tr ?_)))
  exact QS rfl ok3 (F2.step0 D3.stp) (cvi (by (unfold KG;rw [if_pos hnn])) (D3.m 0 rfl))
 ·
  have hnn:¬ nameL nm = false:=(by simpa using c1)
  refine Ja ?_
  refine gI a2 s2 ok2 (gS rfl (fun A B E G H=>rP (JD Try.fld24_1 Try.inf3 dE (kp (H 1 rfl) E q2) rfl)) (gS rfl (fun A B E G H d0=>rP (Jm Try.underlying3 rfl (eI d0) rfl)) (gS rfl (fun A B E G H d0=>rP (Jw (eI d0) rfl)) (gS rfl (fun A B E G H d0=>rP (Jc (eI d0))) (gS rfl (fun A B E G H d0=>guf G (eI d0) fun hg hp=>JD Try.fld24_1 Try.inf3 dE (kp (H 1 rfl) E q2) rfl) (gS rfl (fun A B E G H d0 d1=>gu G (eI d1) fun hg=>Jm Try.underlying3 rfl ((ef d0 rfl).1 hg) rfl) (gS rfl (fun A B E G H d0 d1=>gu G (eI d1) fun hg=>KE ((ef d0 rfl).1 hg) rfl) (gS rfl (fun A B E G H d0 d1=>rP (Jk (eI d0) rfl (eI d1))) (gS rfl (fun A B E G H d0 d1=>rP (Jc (eI d0))) (gT (Ty.grd (((decide (n < (2:Int))) || (decide ((12:Int) < n))) = false) (Ty.ref [(Ty.lst Ty.ints l)])) rfl (by intro A B E G H d0;refine Jd G rfl rfl dE (eI d0) (fun hg=>?_);obtain ⟨d1,d2⟩:=Xn hg;have d1:=Xp d1;have d2:=Xp d2;exact JD Try.fld24_2 Try.inf22 dE (kp (H 1 rfl) E q2) rfl) (gT (Ty.grd (((decide (n < (2:Int))) || (decide ((12:Int) < n))) = false) (Ty.lst Ty.ints l)) rfl (by intro A B E G H d0 d1;refine Jd G rfl rfl dE (eI d1) (fun hg=>?_);obtain ⟨d3,d4⟩:=Xn hg;have d3:=Xp d3;have d4:=Xp d4;exact Jm Try.underlying22 rfl ((ef d0 rfl).1 hg) rfl) ?_)))))))))))
  refine gT (Ty.grd (((decide (n < (2:Int))) || (decide ((12:Int) < n))) = false) (Ty.nat (List.length l))) rfl (by intro A B E G H d0 d1;refine Jd G rfl rfl dE (eI d1) (fun hg=>?_);obtain ⟨d5,d6⟩:=Xn hg;have d5:=Xp d5;have d6:=Xp d6;exact Jt Try.underlying22 ((ef d0 rfl).1 hg)) (gT (Ty.grd (((decide (n < (2:Int))) || (decide ((12:Int) < n))) = false) (Ty.bool (decide ((((List.length l):Nat):Int) < (1:Int))))) rfl (by intro A B E G H d0 d1;refine Jd G rfl rfl dE (eI d1) (fun hg=>?_);obtain ⟨d7,d8⟩:=Xn hg;have d7:=Xp d7;have d8:=Xp d8;exact Jw ((ef d0 rfl).1 hg) rfl) (gS rfl (fun A B E G H d0 d1=>rP (Jk (eI d0) rfl (eI d1))) (gS rfl (fun A B E G H d0 d1=>rP (Jc (eI d0))) (gT (Ty.grd ((((decide (n < (2:Int))) || (decide ((12:Int) < n))) || (decide ((((List.length l):Nat):Int) < (1:Int)))) = false) (Ty.ref [(Ty.lst Ty.ints l)])) rfl (by intro A B E G H d0;refine Jd G rfl rfl dE (eI d0) (fun hg=>?_);obtain ⟨d9,d10⟩:=Xn hg;obtain ⟨d11,d12⟩:=Xn d9;have d11:=Xp d11;have d12:=Xp d12;have d10:=Xp d10;exact JD Try.fld24_2 Try.inf22 dE (kp (H 1 rfl) E q2) rfl) ?_))))
  refine gT (Ty.grd ((((decide (n < (2:Int))) || (decide ((12:Int) < n))) || (decide ((((List.length l):Nat):Int) < (1:Int)))) = false) (Ty.lst Ty.ints l)) rfl (by intro A B E G H d0 d1;refine Jd G rfl rfl dE (eI d1) (fun hg=>?_);obtain ⟨d13,d14⟩:=Xn hg;obtain ⟨d15,d16⟩:=Xn d13;have d15:=Xp d15;have d16:=Xp d16;have d14:=Xp d14;exact Jm Try.underlying22 rfl ((ef d0 rfl).1 hg) rfl) (gT (Ty.grd ((((decide (n < (2:Int))) || (decide ((12:Int) < n))) || (decide ((((List.length l):Nat):Int) < (1:Int)))) = false) (Ty.nat (List.length l))) rfl (by intro A B E G H d0 d1;refine Jd G rfl rfl dE (eI d1) (fun hg=>?_);obtain ⟨d17,d18⟩:=Xn hg;obtain ⟨d19,d20⟩:=Xn d17;have d19:=Xp d19;have d20:=Xp d20;have d18:=Xp d18;exact Jt Try.underlying22 ((ef d0 rfl).1 hg)) (gT (Ty.grd ((((decide (n < (2:Int))) || (decide ((12:Int) < n))) || (decide ((((List.length l):Nat):Int) < (1:Int)))) = false) (Ty.bool (decide ((200:Int) < (((List.length l):Nat):Int))))) rfl (by intro A B E G H d0 d1;refine Jd G rfl rfl dE (eI d1) (fun hg=>?_);obtain ⟨d21,d22⟩:=Xn hg;obtain ⟨d23,d24⟩:=Xn d21;have d23:=Xp d23;have d24:=Xp d24;have d22:=Xp d22;exact KE ((ef d0 rfl).1 hg) rfl) (gS rfl (fun A B E G H d0 d1=>rP (Jk (eI d0) rfl (eI d1))) (gB 0 (gE ok2 fun a4 s4 ok4 D4=>?_)))));have F4:=F2.step0 D4.stp;have q5:=D4.k q2;refine tn ?_
  refine JR (D4.m 20 rfl) (fun c2=>?_) (fun c2=>?_)
  ·
   simp only [Bool.or_eq_true,decide_eq_true_eq] at c2;have h4:n < 2 ∨ 12 < n ∨ l.length < 1 ∨ 200 < l.length:=oM
   refine Ja ?_
   refine gI a4 s4 ok4 (gC (Ty.int (1:Int)) (gE ok4 fun a5 s5 ok5 D5=>?_));refine tn (Jj (br (tr ?_)))
   exact QS rfl ok5 (F4.step0 D5.stp) (cvi (by (unfold KG;rw [if_neg hnn,if_pos h4])) (D5.m 0 rfl))
  ·
   obtain ⟨d25,d26⟩:=Xn c2
   obtain ⟨d27,d28⟩:=Xn d25
   obtain ⟨d29,d30⟩:=Xn d27
   replace d29:=Xp d29
   replace d30:=Xp d30
   replace d28:=Xp d28
   replace d26:=Xp d26
   have h4:¬ (n < 2 ∨ 12 < n ∨ l.length < 1 ∨ 200 < l.length):=(by simp only [Bool.or_eq_false_iff,decide_eq_false_iff_not] at c2;omega);have hmm:KG nm n l = KN n l:=(by unfold KG;rw [if_neg hnn,if_neg h4])
   refine Jf (bn (tn (Ja (Ja ?_))))
   refine gI a4 s4 ok4 (gS rfl (fun A B E G H=>rP (JD Try.fld24_2 Try.inf22 dE (kp (H 1 rfl) E q5) rfl)) (gS rfl (fun A B E G H d0=>rP (Jm Try.underlying22 rfl (eI d0) rfl)) (gS rfl (fun A B E G H d0=>rP (Jt Try.underlying22 (eI d0))) (gT (Ty.int (0:Int)) rfl (fun A B E G H=>rP (Jc rfl)) (gE ok4 fun a6 s6 ok6 D6=>?_)))));have q9:=D6.m 1 rfl
   have b1:=JS q9
   refine tn (Je ?_)
   refine Kf (fun n1 a7 w1=>∃ (t1:GW) (k:Nat),t1.w = w1∧From s0 t1∧Ok 47 [] a7∧At (Ty.nat k) t1 a7 (.tmp 35)∧At (Ty.ref [(Ty.val (Value.string nm)),(Ty.int n),(Ty.lst Ty.ints l)]) t1 a7 (.tmp 1)∧At (Ty.lst Ty.ints l) t1 a7 (.tmp 33)∧At (Ty.nat (List.length l)) t1 a7 (.tmp 34)∧(k ≤ l.length)∧(KN n (l.drop k) = KN n l)∧n1 = l.length - k) (l.length - (0)) ?_ ?_
   ·
    exact ⟨s6,0,rfl,(F4.step0 D6.stp),ok6,(cJ (D6.m 3 rfl)),(D6.k q5),q9,(D6.m 2 rfl),by omega,rfl,rfl⟩
   ·
    rintro n2 a8 w2 ⟨t2,k,rfl,F7,ok7,q12,q13,q14,q15,hk,ha,rfl⟩
    refine Ja ?_
    refine gI a8 t2 ok7 (gS rfl (fun A B E G H=>rP (Jw (kp (H 35 rfl) E q12) (kp (H 34 rfl) E q15))) (gE ok7 fun a9 s7 ok8 D7=>?_));have F8:=F7.step0 D7.stp;have q16:=D7.k q12;have q18:=D7.k q14;refine tn (Ja ?_)
    refine Jl (p:=(((k:Nat):Int) < (((List.length l):Nat):Int))) (D7.m 0 rfl) (fun c3=>?_) (fun c3=>?_)
    ·
     refine Jf (tn (Ja (Je (Ja ?_))))
     refine gI a9 s7 ok8 (gT (Ty.ref [(Ty.lst Ty.int (l.getD k []))]) rfl (fun A B E G H=>rP (Jy Try.underlying22 Try.inf26 (kp (H 33 rfl) E q18) (kp (H 35 rfl) E q16) oM (Ju Ty.ints l [] k oM))) (gS rfl (fun A B E G H d0=>rP (Jm Try.underlying26 rfl (eI d0) rfl)) (gB 0 (gE ok8 fun a10 s8 ok9 D8=>?_))));have q22:=D8.k (D7.k q13);refine tn (Ja ?_)
     refine gI a10 s8 ok9 (gS rfl (fun A B E G H=>rP (JD Try.fld24_1 Try.inf3 dE (kp (H 1 rfl) E q22) rfl)) (gS rfl (fun A B E G H d0=>rP (Jm Try.underlying3 rfl (eI d0) rfl)) (gM (D8.m 2 rfl) (gS rfl (fun A B E G H d0 d1=>rP (JP _ Try.func77 rfl rfl my2 (pCheck_fn (n) ((l.getD k [])) _ _ _ (eI d0) (eI d1) oM))) (gB 0 (gE ok9 fun a11 s9 ok10 D9=>?_))))));have q30:=D9.m 4 rfl;refine tn (Ja ?_)
     refine gI a11 s9 ok10 (gM q30 (gS rfl (fun A B E G H d0=>rP (Qq (eI d0) rfl)) (gE ok10 fun a12 s10 ok11 D10=>?_)));have F11:=((F8.step0 D8.stp).step0 D9.stp).step0 D10.stp;refine tn ?_
     refine Jl (p:=((KX n ((l.getD k []))) ≠ (0:Int))) (D10.m 1 rfl) (fun c4=>?_) (fun c4=>?_)
     ·
      refine Ja ?_
      refine gI a12 s10 ok11 (gM (D10.k q30) (gB 0 (gE ok11 fun a13 s11 ok12 D11=>?_)));refine tn (Jj (br (tr (tr (br (tr ?_))))))
      exact QS rfl ok12 (F11.step0 D11.stp) (cvi (by (rw [hmm];exact (allMay_stop ha oM c4).symm)) (D11.m 1 rfl))
     ·
      refine Jf (bn (tn ?_))
      refine gI a12 s10 ok11 (gT (Ty.int (((k:Nat):Int) + (1:Int))) rfl (fun A B E G H=>rP (JF (kp (H 35 rfl) E (D10.k (D9.k (D8.k q16)))) rfl wX)) (gS rfl (fun A B E G H d0=>rP (Jc (eI d0))) (gE ok11 fun a14 s12 ok13 D12=>?_)))
      exact tn ⟨l.length - ((k+1)),by omega,s12,(k+1),rfl,(F11.step0 D12.stp),ok13,(cJ (D12.m 1 rfl)),(D12.k (D10.k (D9.k q22))),(D12.k (D10.k (D9.k (D8.k q18)))),(D12.k (D10.k (D9.k (D8.k (D7.k q15))))),by omega,allMay_step ha oM c4,rfl⟩
    ·
     refine Jv (tx (tx (bx (tn (Ja ?_)))))
     refine gI a9 s7 ok8 (gC (Ty.int (0:Int)) (gE ok8 fun a15 s13 ok14 D13=>?_));refine tn (Jj ?_)
     exact QS rfl ok14 (F8.step0 D13.stp) (cvi (by (rw [hmm];exact (allMay_end ha oM).symm)) (D13.m 0 rfl))
set_option maxHeartbeats 4000000 in
set_option maxRecDepth 100000 in
theorem callSign_fn (c:Int) (σ:GW)  (v0:Value) (hv0:Ty.has (Ty.val (Value.int .i32 c)) σ v0)   :
    FnC J 74 #[v0] σ (Ty.bool (QD c)):=by
 refine JT Try.func74 rfl Try.ntmps74 (Xr rfl) (fun s0 a0 hle F0 ok0 hargs=>?_)
 have p0:=pA hle (hargs 0 _ rfl) hv0
 clear hargs;refine Ja ?_
 refine gI a0 s0 ok0 (gC (Ty.bool false) (gE ok0 fun a1 s1 ok1 D1=>?_));have q1:=D1.k p0;refine tn (Ja ?_)
 refine gI a1 s1 ok1 (gM q1 (gS rfl (fun A B E G H d0=>rP (KE (eI d0) rfl)) (gS rfl (fun A B E G H d0=>rP (Jc (eI d0))) (gS rfl (fun A B E G H d0=>gu G (eI d0) fun hg=>Jc (kp (H 0 rfl) E q1)) (gS rfl (fun A B E G H d0 d1=>gu G (eI d1) fun hg=>Jw ((ef d0 rfl).1 hg) rfl) (gS rfl (fun A B E G H d0 d1=>rP (Jp (eI d0) (eI d1) rfl)) (gS rfl (fun A B E G H d0 d1=>rP (Jc (eI d0))) (gT (Ty.grd (((decide ((32:Int) < c)) && (decide (c < (12288:Int)))) = true) (Ty.val (Value.int .i32 c))) rfl (by intro A B E G H d0;refine Jd G rfl rfl dE (eI d0) (fun hg=>?_);obtain ⟨d1,d2⟩:=Xo hg;have d1:=Xq d1;have d2:=Xq d2;exact Jc (kp (H 0 rfl) E q1)) (gT (Ty.grd (((decide ((32:Int) < c)) && (decide (c < (12288:Int)))) = true) (Ty.bool (decide (c ≠ (40:Int))))) rfl (by intro A B E G H d0 d1;refine Jd G rfl rfl dE (eI d1) (fun hg=>?_);obtain ⟨d3,d4⟩:=Xo hg;have d3:=Xq d3;have d4:=Xq d4;exact Qq ((ef d0 rfl).1 hg) rfl) (gS rfl (fun A B E G H d0 d1=>rP (Jp (eI d0) (eI d1) rfl)) (gS rfl (fun A B E G H d0 d1=>rP (Jc (eI d0))) ?_)))))))))))
 refine gT (Ty.grd ((((decide ((32:Int) < c)) && (decide (c < (12288:Int)))) && (decide (c ≠ (40:Int)))) = true) (Ty.val (Value.int .i32 c))) rfl (by intro A B E G H d0;refine Jd G rfl rfl dE (eI d0) (fun hg=>?_);obtain ⟨d5,d6⟩:=Xo hg;obtain ⟨d7,d8⟩:=Xo d5;have d7:=Xq d7;have d8:=Xq d8;have d6:=Xq d6;exact Jc (kp (H 0 rfl) E q1)) (gT (Ty.grd ((((decide ((32:Int) < c)) && (decide (c < (12288:Int)))) && (decide (c ≠ (40:Int)))) = true) (Ty.bool (decide (c ≠ (41:Int))))) rfl (by intro A B E G H d0 d1;refine Jd G rfl rfl dE (eI d1) (fun hg=>?_);obtain ⟨d9,d10⟩:=Xo hg;obtain ⟨d11,d12⟩:=Xo d9;have d11:=Xq d11;have d12:=Xq d12;have d10:=Xq d10;exact Qq ((ef d0 rfl).1 hg) rfl) (gS rfl (fun A B E G H d0 d1=>rP (Jp (eI d0) (eI d1) rfl)) (gS rfl (fun A B E G H d0 d1=>rP (Jc (eI d0))) (gT (Ty.grd (((((decide ((32:Int) < c)) && (decide (c < (12288:Int)))) && (decide (c ≠ (40:Int)))) && (decide (c ≠ (41:Int)))) = true) (Ty.val (Value.int .i32 c))) rfl (by intro A B E G H d0;refine Jd G rfl rfl dE (eI d0) (fun hg=>?_);obtain ⟨d13,d14⟩:=Xo hg;obtain ⟨d15,d16⟩:=Xo d13;obtain ⟨d17,d18⟩:=Xo d15;have d17:=Xq d17;have d18:=Xq d18;have d16:=Xq d16;have d14:=Xq d14;exact Jc (kp (H 0 rfl) E q1)) ?_))))
 refine gT (Ty.grd (((((decide ((32:Int) < c)) && (decide (c < (12288:Int)))) && (decide (c ≠ (40:Int)))) && (decide (c ≠ (41:Int)))) = true) (Ty.bool (decide (c < (48:Int))))) rfl (by intro A B E G H d0 d1;refine Jd G rfl rfl dE (eI d1) (fun hg=>?_);obtain ⟨d19,d20⟩:=Xo hg;obtain ⟨d21,d22⟩:=Xo d19;obtain ⟨d23,d24⟩:=Xo d21;have d23:=Xq d23;have d24:=Xq d24;have d22:=Xq d22;have d20:=Xq d20;exact Jw ((ef d0 rfl).1 hg) rfl) (gT (Ty.grd (((((decide ((32:Int) < c)) && (decide (c < (12288:Int)))) && (decide (c ≠ (40:Int)))) && (decide (c ≠ (41:Int)))) = true) (Ty.bool (decide (c < (48:Int))))) rfl (by intro A B E G H d0 d1 d2;refine Jd G rfl rfl dE (eI d1) (fun hg=>?_);obtain ⟨d25,d26⟩:=Xo hg;obtain ⟨d27,d28⟩:=Xo d25;obtain ⟨d29,d30⟩:=Xo d27;have d29:=Xq d29;have d30:=Xq d30;have d28:=Xq d28;have d26:=Xq d26;exact Jc ((ef d0 rfl).1 hg)) (gS rfl (fun A B E G H d0=>gu2 G (eI d0) fun hg=>Jc (kp (H 0 rfl) E q1)) (gS rfl (fun A B E G H d0 d1=>gu2 G (eI d1) fun hg=>KE ((ef d0 rfl).1 hg) rfl) ?_)))
 refine gT (Ty.grd (((((decide ((32:Int) < c)) && (decide (c < (12288:Int)))) && (decide (c ≠ (40:Int)))) && (decide (c ≠ (41:Int)))) = true) (Ty.bool ((decide (c < (48:Int))) || (decide ((57:Int) < c))))) rfl (by intro A B E G H d0 d1 d2;refine Jd G rfl rfl dE (eI d2) (fun hg=>?_);obtain ⟨d31,d32⟩:=Xo hg;obtain ⟨d33,d34⟩:=Xo d31;obtain ⟨d35,d36⟩:=Xo d33;have d35:=Xq d35;have d36:=Xq d36;have d34:=Xq d34;have d32:=Xq d32;exact Jk ((ef d0 rfl).1 hg) rfl (KP hg (eI d1))) (gS rfl (fun A B E G H d0 d1=>rP (Jp (eI d0) (eI d1) rfl)) (gS rfl (fun A B E G H d0 d1=>rP (Jc (eI d0))) (gT (Ty.grd ((((((decide ((32:Int) < c)) && (decide (c < (12288:Int)))) && (decide (c ≠ (40:Int)))) && (decide (c ≠ (41:Int)))) && ((decide (c < (48:Int))) || (decide ((57:Int) < c)))) = true) (Ty.val (Value.int .i32 c))) rfl (by intro A B E G H d0;refine Jd G rfl rfl dE (eI d0) (fun hg=>?_);obtain ⟨d37,d38⟩:=Xo hg;obtain ⟨d39,d40⟩:=Xo d37;obtain ⟨d41,d42⟩:=Xo d39;obtain ⟨d43,d44⟩:=Xo d41;have d43:=Xq d43;have d44:=Xq d44;have d42:=Xq d42;have d40:=Xq d40;exact Jc (kp (H 0 rfl) E q1)) ?_)))
 refine gT (Ty.grd ((((((decide ((32:Int) < c)) && (decide (c < (12288:Int)))) && (decide (c ≠ (40:Int)))) && (decide (c ≠ (41:Int)))) && ((decide (c < (48:Int))) || (decide ((57:Int) < c)))) = true) (Ty.bool (decide (c < (127:Int))))) rfl (by intro A B E G H d0 d1;refine Jd G rfl rfl dE (eI d1) (fun hg=>?_);obtain ⟨d45,d46⟩:=Xo hg;obtain ⟨d47,d48⟩:=Xo d45;obtain ⟨d49,d50⟩:=Xo d47;obtain ⟨d51,d52⟩:=Xo d49;have d51:=Xq d51;have d52:=Xq d52;have d50:=Xq d50;have d48:=Xq d48;exact Jw ((ef d0 rfl).1 hg) rfl) (gT (Ty.grd ((((((decide ((32:Int) < c)) && (decide (c < (12288:Int)))) && (decide (c ≠ (40:Int)))) && (decide (c ≠ (41:Int)))) && ((decide (c < (48:Int))) || (decide ((57:Int) < c)))) = true) (Ty.bool (decide (c < (127:Int))))) rfl (by intro A B E G H d0 d1 d2;refine Jd G rfl rfl dE (eI d1) (fun hg=>?_);obtain ⟨d53,d54⟩:=Xo hg;obtain ⟨d55,d56⟩:=Xo d53;obtain ⟨d57,d58⟩:=Xo d55;obtain ⟨d59,d60⟩:=Xo d57;have d59:=Xq d59;have d60:=Xq d60;have d58:=Xq d58;have d56:=Xq d56;exact Jc ((ef d0 rfl).1 hg)) (gS rfl (fun A B E G H d0=>gu2 G (eI d0) fun hg=>Jc (kp (H 0 rfl) E q1)) (gS rfl (fun A B E G H d0 d1=>gu2 G (eI d1) fun hg=>Qv ((ef d0 rfl).1 hg) rfl) ?_)))
 refine gT (Ty.grd ((((((decide ((32:Int) < c)) && (decide (c < (12288:Int)))) && (decide (c ≠ (40:Int)))) && (decide (c ≠ (41:Int)))) && ((decide (c < (48:Int))) || (decide ((57:Int) < c)))) = true) (Ty.bool ((decide (c < (127:Int))) || (decide ((161:Int) ≤ c))))) rfl (by intro A B E G H d0 d1 d2;refine Jd G rfl rfl dE (eI d2) (fun hg=>?_);obtain ⟨d61,d62⟩:=Xo hg;obtain ⟨d63,d64⟩:=Xo d61;obtain ⟨d65,d66⟩:=Xo d63;obtain ⟨d67,d68⟩:=Xo d65;have d67:=Xq d67;have d68:=Xq d68;have d66:=Xq d66;have d64:=Xq d64;exact Jk ((ef d0 rfl).1 hg) rfl (KP hg (eI d1))) (gS rfl (fun A B E G H d0 d1=>rP (Jp (eI d0) (eI d1) rfl)) (gB 0 (gE ok1 fun a2 s2 ok2 D2=>?_)));refine tn (Jj ?_)
 exact JJ rfl ok2 ((F0.step0 D1.stp).step0 D2.stp) (cvb (by (rw [Bool.eq_iff_iff];simp only [QD,Bool.and_eq_true,Bool.or_eq_true,decide_eq_true_eq];omega)) (D2.m 30 rfl))
set_option maxHeartbeats 4000000 in
set_option maxRecDepth 100000 in
theorem callChk1_fn (sx:Int) (lx:List (List Int)) (sc:Int) (lc:List (List Int)) (σ:GW)  (v0 v1:Value) (hv0:Ty.has (Ty.agg [(Ty.val (Value.int .i32 sx)),(Ty.lst Ty.ints lx)]) σ v0) (hv1:Ty.has (Ty.ref [(Ty.val (Value.int .i32 sc)),(Ty.lst Ty.ints lc)]) σ v1)   :
    FnC J 76 #[v0,v1] σ (Ty.bool (decide (sx = sc))):=by
 refine JT Try.func76 rfl Try.ntmps76 (Xr rfl) (fun s0 a0 hle F0 ok0 hargs=>?_)
 have p0:=pA hle (hargs 0 _ rfl) hv0
 have p1:=pA hle (hargs 1 _ rfl) hv1
 clear hargs;refine Ja ?_
 refine gI a0 s0 ok0 (gS rfl (fun A B E G H=>rP (Qw (kp (H 0 rfl) E p0))) (gC (Ty.bool false) (gE ok0 fun a1 s1 ok1 D1=>?_)));refine tn (Ja ?_)
 refine gI a1 s1 ok1 (gS rfl (fun A B E G H=>rP (JD Try.fld51_0 Try.inf21 dE (kp (H 2 rfl) E (D1.m 0 rfl)) rfl)) (gS rfl (fun A B E G H d0=>rP (Jm Try.underlying21 rfl (eI d0) rfl)) (gS rfl (fun A B E G H=>rP (JD Try.fld51_0 Try.inf21 dE (kp (H 1 rfl) E (D1.k p1)) rfl)) (gS rfl (fun A B E G H d0=>rP (Jm Try.underlying21 rfl (eI d0) rfl)) (gS rfl (fun A B E G H d0 d1=>rP (Qb (eI d0) (eI d1))) (gB 0 (gE ok1 fun a2 s2 ok2 D2=>?_)))))));refine tn (Jj ?_)
 exact JJ rfl ok2 ((F0.step0 D1.stp).step0 D2.stp) (D2.m 5 rfl)
set_option maxHeartbeats 4000000 in
set_option maxRecDepth 100000 in
theorem idxCall_fn (cs:List JH) (sc:Int) (lc:List (List Int)) (σ:GW)  (v0 v1:Value) (hv0:Ty.has (Ty.lstc 2 KY cs) σ v0) (hv1:Ty.has (Ty.clo 76 [(Ty.val (Value.int .i32 sc)),(Ty.lst Ty.ints lc)]) σ v1)   :
    FnC J 88 #[v0,v1] σ (Ty.int (indexL (cs.map (·.1)) sc)):=by
 refine JT Try.func88 rfl Try.ntmps88 (Xr rfl) (fun s0 a0 hle F0 ok0 hargs=>?_)
 have p0:=pA hle (hargs 0 _ rfl) hv0
 have b1:=JS p0
 have p1:=pA hle (hargs 1 _ rfl) hv1
 clear hargs;refine Ja ?_
 refine gI a0 s0 ok0 (gC (Ty.int (0:Int)) (gE ok0 fun a1 s1 ok1 D1=>?_));have q1:=D1.k p0;refine tn (Ja (Ja ?_))
 refine gI a1 s1 ok1 (gM q1 (gS rfl (fun A B E G H d0=>rP (Jt Try.underlying25 (eI d0))) (gT (Ty.int (0:Int)) rfl (fun A B E G H=>rP (Jc rfl)) (gE ok1 fun a2 s2 ok2 D2=>?_))));refine tn (Je ?_)
 refine Kf (fun n1 a3 w1=>∃ (t1:GW) (i:Nat),t1.w = w1∧FromL [] s0 t1∧Ok 19 [] a3∧At (Ty.nat i) t1 a3 (.tmp 8)∧At (Ty.lstc 2 KY cs) t1 a3 (.tmp 0)∧At (Ty.clo 76 [(Ty.val (Value.int .i32 sc)),(Ty.lst Ty.ints lc)]) t1 a3 (.tmp 1)∧At (Ty.nat (List.length cs)) t1 a3 (.tmp 7)∧(i ≤ cs.length)∧(∀ j,j < i → (cs.getD j D0).1 ≠ sc)∧n1 = cs.length - i) (cs.length - (0)) ?_ ?_
 ·
  exact ⟨s2,0,rfl,((F0.step0 D1.stp).step0 D2.stp),ok2,(cJ (D2.m 2 rfl)),(D2.k q1),(D2.k (D1.k p1)),(D2.m 1 rfl),by omega,fun j hj=>absurd hj (Nat.not_lt_zero j),rfl⟩
 ·
  rintro n2 a4 w2 ⟨t2,i,rfl,F3,ok3,q7,q8,q9,q10,hi,hno,rfl⟩
  refine Ja ?_
  refine gI a4 t2 ok3 (gS rfl (fun A B E G H=>rP (Jw (kp (H 8 rfl) E q7) (kp (H 7 rfl) E q10))) (gE ok3 fun a5 s3 ok4 D3=>?_));have F4:=F3.step0 D3.stp;have q11:=D3.k q7;refine tn (Ja ?_)
  refine Jl (p:=(((i:Nat):Int) < (((List.length cs):Nat):Int))) (D3.m 0 rfl) (fun c1=>?_) (fun c1=>?_)
  ·
   refine Jf (tn (Ja (Je (Ja ?_))))
   refine gI a5 s3 ok4 (gM q11 (gB 0 (gE ok4 fun a6 s4 ok5 D4=>?_)));have q17:=D4.k (D3.k q8);have q18:=D4.k (D3.k q9);have q20:=D4.m 1 rfl;refine tn (Ja ?_)
   refine gI a6 s4 ok5 (gM q18 (gM q17 (gM q20 (gT (Ty.ref [(Ty.val (Value.int .i32 ((cs.getD i D0)).1)),(Ty.lst Ty.ints ((cs.getD i D0)).2)]) rfl (fun A B E G H d0 d1=>rP (Qa (i:=((i:Nat):Int)) D0 Try.underlying25 Try.inf51 (eI d0) (eI d1) oM oM dE (fun _=>rfl))) (gS rfl (fun A B E G H d0=>rP (KV Try.underlying51 Try.inf51 (eI d0))) (gT (Ty.bool (decide ((((cs.getD i D0)).1) = sc))) rfl (fun A B E G H d0 d1=>rP (y_callv (fun p_=>#[A.eval (.tmp 15),p_]) (eI d0) Try.func76 rfl rfl (fun p_=>by simp only [List.map_toArray,List.map_cons,List.map_nil,List.append_toArray,List.cons_append,List.nil_append]) (fun p_ hp_=>callChk1_fn (((cs.getD i D0)).1) (((cs.getD i D0)).2) (sc) (lc) _ _ _ (eI d1) hp_ ))) (gE ok5 fun a7 s5 ok6 D5=>?_)))))));have F6:=(F4.step0 D4.stp).step0 D5.stp;refine tn ?_
   refine Jl (p:=((((cs.getD i D0)).1) = sc)) (D5.m 5 rfl) (fun c2=>?_) (fun c2=>?_)
   ·
    refine Ja ?_
    refine gI a7 s5 ok6 (gM (D5.k q20) (gB 0 (gE ok6 fun a8 s6 ok7 D6=>?_)));refine tn (Jj (br (tr (tr (br (tr ?_))))))
    exact JJ rfl ok7 (F6.step0 D6.stp) (cvi (by (exact (idxC_yes oM (by assumption) hno).symm)) (D6.m 1 rfl))
   ·
    refine Jf (bn (tn ?_))
    refine gI a7 s5 ok6 (gT (Ty.int (((i:Nat):Int) + (1:Int))) rfl (fun A B E G H=>rP (JF (kp (H 8 rfl) E (D5.k (D4.k q11))) rfl wX)) (gS rfl (fun A B E G H d0=>rP (Jc (eI d0))) (gE ok6 fun a9 s7 ok8 D7=>?_)))
    exact tn ⟨cs.length - ((i+1)),by omega,s7,(i+1),rfl,(F6.step0 D7.stp),ok8,(cJ (D7.m 1 rfl)),(D7.k (D5.k q17)),(D7.k (D5.k q18)),(D7.k (D5.k (D4.k (D3.k q10)))),by omega,fun j hj=>by (by_cases e:j = i;subst e;assumption;exact hno j oM),rfl⟩
  ·
   refine Jv (tx (tx (bx (tn (Ja ?_)))))
   refine gI a5 s3 ok4 (gC (Ty.int (-1:Int)) (gE ok4 fun a10 s8 ok9 D8=>?_));refine tn (Jj ?_)
   exact JJ rfl ok9 (F4.step0 D8.stp) (cvi (by (exact (idxC_no (fun j hj=>hno j oM)).symm)) (D8.m 0 rfl))
set_option maxHeartbeats 4000000 in
set_option maxRecDepth 100000 in
theorem hasCall_fn (cs:List JH) (sc:Int) (lc:List (List Int)) (σ:GW)  (v0 v1:Value) (hv0:Ty.has (Ty.lstc 2 KY cs) σ v0) (hv1:Ty.has (Ty.clo 76 [(Ty.val (Value.int .i32 sc)),(Ty.lst Ty.ints lc)]) σ v1)   :
    FnC J 75 #[v0,v1] σ (Ty.bool (decide (sc ∈ cs.map (·.1)))):=by
 refine JT Try.func75 rfl Try.ntmps75 (Xr rfl) (fun s0 a0 hle F0 ok0 hargs=>?_)
 have p0:=pA hle (hargs 0 _ rfl) hv0
 have b1:=JS p0
 have p1:=pA hle (hargs 1 _ rfl) hv1
 clear hargs;refine Ja ?_
 refine gI a0 s0 ok0 (gC (Ty.bool false) (gE ok0 fun a1 s1 ok1 D1=>?_));refine tn (Ja ?_)
 refine gI a1 s1 ok1 (gM (D1.k p0) (gM (D1.k p1) (gS rfl (fun A B E G H d0 d1=>rP (JP _ Try.func88 rfl rfl my2 (idxCall_fn (cs) (sc) (lc) _ _ _ (eI d0) (eI d1) ))) (gS rfl (fun A B E G H d0=>rP (Qv (eI d0) rfl)) (gB 0 (gE ok1 fun a2 s2 ok2 D2=>?_))))));refine tn (Jj ?_)
 exact JJ rfl ok2 ((F0.step0 D1.stp).step0 D2.stp) (cvb (by (rw [decide_eq_decide];exact indexL_iff)) (D2.m 4 rfl))
set_option maxHeartbeats 4000000 in
set_option maxRecDepth 100000 in
theorem callCheck_fn (nm:ByteArray) (n:Int) (l:List (List Int)) (cs:List JH) (σ:GW)  (v0 v1:Value) (hv0:Ty.has (Ty.agg [(Ty.val (Value.string nm)),(Ty.int n),(Ty.lst Ty.ints l)]) σ v0) (hv1:Ty.has (Ty.lstc 2 KY cs) σ v1)  (hnm:nm.size ≤ 1099511627776) (hn:-9223372036854775808 ≤ n∧n ≤ 9223372036854775807) :
    FnC J 44 #[v0,v1] σ (Ty.int (Ku nm n l cs)):=by
 refine JT Try.func44 rfl Try.ntmps44 (Xr rfl) (fun s0 a0 hle F0 ok0 hargs=>?_)
 have p0:=pA hle (hargs 0 _ rfl) hv0
 have p1:=pA hle (hargs 1 _ rfl) hv1
 have b1:=JS p1
 clear hargs;refine Ja ?_
 refine gI a0 s0 ok0 (gS rfl (fun A B E G H=>rP (Qw (kp (H 0 rfl) E p0))) (gC (Ty.int (0:Int)) (gE ok0 fun a1 s1 ok1 D1=>?_)));have q2:=D1.m 0 rfl;refine tn (Ja (Ja ?_))
 refine gI a1 s1 ok1 (gS rfl (fun A B E G H=>rP (KV Try.underlying24 Try.inf24 (kp (H 2 rfl) E q2))) (gS rfl (fun A B E G H d0=>rP (JP _ Try.func73 rfl rfl my1 (mCheck_fn (nm) (n) (l) _ _ (eI d0) oX oX))) (gB 0 (gE ok1 fun a2 s2 ok2 D2=>?_))));have q5:=D2.m 2 rfl;refine tn (Ja ?_)
 refine gI a2 s2 ok2 (gM q5 (gS rfl (fun A B E G H d0=>rP (Qq (eI d0) rfl)) (gE ok2 fun a3 s3 ok3 D3=>?_)));have F3:=((F0.step0 D1.stp).step0 D2.stp).step0 D3.stp;have q6:=D3.k (D2.k (D1.k p1));refine tn ?_
 refine Jl (p:=((KG nm n l) ≠ (0:Int))) (D3.m 1 rfl) (fun c1=>?_) (fun c1=>?_)
 ·
  have hm:=callsMay_meth (cs:=cs) c1
  refine Ja ?_
  refine gI a3 s3 ok3 (gM (D3.k q5) (gB 0 (gE ok3 fun a4 s4 ok4 D4=>?_)));refine tn (Jj (tr ?_))
  exact JJ rfl ok4 (F3.step0 D4.stp) (cvi (by (exact hm.symm)) (D4.m 1 rfl))
 ·
  refine Jf (tn (Ja (Ja ?_)))
  refine gI a3 s3 ok3 (gM q6 (gS rfl (fun A B E G H d0=>rP (Jt Try.underlying25 (eI d0))) (gS rfl (fun A B E G H d0=>rP (Jw (eI d0) rfl)) (gS rfl (fun A B E G H d0=>rP (Jc (eI d0))) (gS rfl (fun A B E G H d0=>gu G (eI d0) fun hg=>Jc (kp (H 1 rfl) E q6)) (gS rfl (fun A B E G H d0 d1=>gu G (eI d1) fun hg=>Jt Try.underlying25 ((ef d0 rfl).1 hg)) (gS rfl (fun A B E G H d0 d1=>gu G (eI d1) fun hg=>KE ((ef d0 rfl).1 hg) rfl) (gS rfl (fun A B E G H d0 d1=>rP (Jk (eI d0) rfl (eI d1))) (gE ok3 fun a5 s5 ok5 D5=>?_)))))))));have F5:=F3.step0 D5.stp;have q11:=D5.k q6;refine tn ?_
  refine JR (D5.m 7 rfl) (fun c2=>?_) (fun c2=>?_)
  ·
   simp only [Bool.or_eq_true,decide_eq_true_eq] at c2;have hm:=callsMay_cnt (cs:=cs) c1 oM
   refine Ja ?_
   refine gI a5 s5 ok5 (gC (Ty.int (1:Int)) (gE ok5 fun a6 s6 ok6 D6=>?_));refine tn (Jj (tr ?_))
   exact JJ rfl ok6 (F5.step0 D6.stp) (cvi (by (exact hm.symm)) (D6.m 0 rfl))
  ·
   obtain ⟨d1,d2⟩:=Xn c2
   replace d1:=Xp d1
   replace d2:=Xp d2
   have hx2:¬ (cs.length < 1 ∨ 8 < cs.length):=(by simp only [Bool.or_eq_false_iff,decide_eq_false_iff_not] at c2;omega);have hm:=callsMay_all c1 hx2
   refine Jf (tn (Ja (Ja ?_)))
   refine gI a5 s5 ok5 (gM q11 (gS rfl (fun A B E G H d0=>rP (Jt Try.underlying25 (eI d0))) (gT (Ty.int (0:Int)) rfl (fun A B E G H=>rP (Jc rfl)) (gE ok5 fun a7 s7 ok7 D7=>?_))));refine tn (Je ?_)
   refine Kf (fun n1 a8 w1=>∃ (t1:GW) (i:Nat),t1.w = w1∧FromL [] s0 t1∧Ok 66 [] a8∧At (Ty.nat i) t1 a8 (.tmp 26)∧At (Ty.lstc 2 KY cs) t1 a8 (.tmp 1)∧At (Ty.ref [(Ty.val (Value.string nm)),(Ty.int n),(Ty.lst Ty.ints l)]) t1 a8 (.tmp 2)∧At (Ty.lstc 2 KY cs) t1 a8 (.tmp 24)∧At (Ty.nat (List.length cs)) t1 a8 (.tmp 25)∧(i ≤ cs.length)∧(Qj n l.length ((cs.take i).map (·.1)) (cs.drop i) = Qj n l.length [] cs)∧n1 = cs.length - i) (cs.length - (0)) ?_ ?_
   ·
    exact ⟨s7,0,rfl,(F5.step0 D7.stp),ok7,(cJ (D7.m 2 rfl)),(D7.k q11),(D7.k (D5.k (D3.k (D2.k q2)))),(D7.m 0 rfl),(D7.m 1 rfl),by omega,rfl,rfl⟩
   ·
    rintro n2 a9 w2 ⟨t2,i,rfl,F8,ok8,q20,q21,q22,q23,q24,hi,hc,rfl⟩
    refine Ja ?_
    refine gI a9 t2 ok8 (gS rfl (fun A B E G H=>rP (Jw (kp (H 26 rfl) E q20) (kp (H 25 rfl) E q24))) (gE ok8 fun a10 s8 ok9 D8=>?_));have F9:=F8.step0 D8.stp;have q25:=D8.k q20;have q28:=D8.k q23;refine tn (Ja ?_)
    refine Jl (p:=(((i:Nat):Int) < (((List.length cs):Nat):Int))) (D8.m 0 rfl) (fun c3=>?_) (fun c3=>?_)
    ·
     refine Jf (tn (Ja (Je (Ja ?_))))
     refine gI a10 s8 ok9 (gM q25 (gT (Ty.ref [(Ty.val (Value.int .i32 ((cs.getD i D0)).1)),(Ty.lst Ty.ints ((cs.getD i D0)).2)]) rfl (fun A B E G H=>rP (Qa (i:=((i:Nat):Int)) D0 Try.underlying25 Try.inf51 (kp (H 24 rfl) E q28) (kp (H 26 rfl) E q25) oM oM dE (fun _=>rfl))) (gS rfl (fun A B E G H d0=>rP (KV Try.underlying51 Try.inf51 (eI d0))) (gR (Pr.ownp 5 [(Ty.val (Value.int .i32 0)),(Ty.val (Value.slice none 0 0))]) rfl (by intro A B E G H;exact rP (y_alloc Try.inf51 rfl (Kr (vs:=[.int .i32 0,.slice none 0 0]) rfl))) (gB 0 (gE2 ok9 fun a11 s9 ok10 D9=>?_))))))
     obtain ⟨x1,hx1⟩:∃ x,a11.eval (.tmp 7) = x:=⟨_,rfl⟩
     have q37:At (Ty.val x1) s9 a11 (.tmp 7):=hx1
     have o1:=al2 (R:=(Pr.ownp 5 [(Ty.val (Value.int .i32 0)),(Ty.val (Value.slice none 0 0))])) hx1 (D9.done 3 dE)
     refine Xh (L:=[5]) (R:=(fun _ τ=>OwnP τ 5 x1 [(Ty.val (Value.int .i32 ((cs.getD i D0)).1)),(Ty.lst Ty.ints ((cs.getD i D0)).2)])) rfl rfl (YldM.toL (QZ Try.inf51 dE o1 q37 rfl (D9.m 2 rfl) (by intro U hU;simp only [List.mem_cons,List.not_mem_nil,or_false] at hU;rcases hU with rfl | rfl <;> first | exact Jq rfl | exact Qg | exact one_flt | exact one_cx | exact one_ref))) (fun v1 s10 hs1 r1=>?_)
     have q39:=kpL hs1 dE rfl (D9.k q25);have q40:=kpL hs1 dE rfl (D9.k (D8.k q21));have q41:=kpL hs1 dE rfl (D9.k (D8.k q22));have q42:=kpL hs1 dE rfl (D9.k q28);have q43:=kpL hs1 dE rfl (D9.k (D8.k q24));have q44:=kpL hs1 dE rfl q37;have q45:=kpL hs1 dE rfl (D9.m 4 rfl)
     have o2:OwnP s10 5 x1 [(Ty.val (Value.int .i32 ((cs.getD i D0)).1)),(Ty.lst Ty.ints ((cs.getD i D0)).2)]:=r1
     clear r1;refine Jh (tn (Ja (Je (Ja ?_))))
     refine gI a11 s10 ok10 (gT (Ty.val (JZ x1 0)) rfl (fun A B E G H=>rP (Jn Try.fld51_0 Try.inf21 dE (OwnP.k0 o2 E) (kp (H 7 rfl) E q44))) (gS rfl (fun A B E G H d0=>rP (Jo Try.underlying21 rfl (OwnP.k0 o2 E) (eI d0) rfl)) (gS rfl (fun A B E G H d0=>rP (JP _ Try.func74 rfl rfl my1 (callSign_fn (((cs.getD i D0)).1) _ _ (cvi (σ:=B) oM (ef d0 rfl)) ))) (gS rfl (fun A B E G H d0=>rP (y_not (eI d0))) (gB 0 (gE ok10 fun a12 s11 ok11 D10=>?_))))));have F12:=((F9.step0 D9.stp).sl hs1).step0 D10.stp;have o3:=OwnP.k0 o2 D10.stp;have q54:=D10.m 4 rfl;refine tn ?_
     refine JR q54 (fun c4=>?_) (fun c4=>?_)
     ·
      have hs4:QD (cs.getD i D0).1 = false:=(by simpa using c4);have hv:=calls_at hc oM (step_sign hs4) dE
      refine Ja ?_
      refine gI a12 s11 ok11 (gC (Ty.int (4:Int)) (gE ok11 fun a13 s12 ok12 D11=>?_));have o4:=OwnP.k0 o3 D11.stp;refine tn (Jj (br (tr (br (tr (tr (br (tr ?_))))))))
      exact JJ rfl ok12 (F12.step0 D11.stp) (cvi (by (rw [hm];exact hv.symm)) (D11.m 0 rfl))
     ·
      have hs4:QD (cs.getD i D0).1 = true:=(by simpa using c4)
      refine Ja ?_
      obtain ⟨t3,e1,h1,q56⟩:=OwnP.seal o3 dE
      rw [← e1]
      have F14:=F12.step h1 dE;have q57:=Ty.up (Ty.nat i) (h1.le dE) (D10.k q39);have q58:=Ty.up (Ty.lstc 2 KY cs) (h1.le dE) (D10.k q40);have q59:=Ty.up (Ty.ref [(Ty.val (Value.string nm)),(Ty.int n),(Ty.lst Ty.ints l)]) (h1.le dE) (D10.k q41);have q60:=Ty.up (Ty.lstc 2 KY cs) (h1.le dE) (D10.k q42);have q61:=Ty.up (Ty.nat (List.length cs)) (h1.le dE) (D10.k q43)
      have q62:At (Ty.ref [(Ty.val (Value.int .i32 ((cs.getD i D0)).1)),(Ty.lst Ty.ints ((cs.getD i D0)).2)]) t3 a12 (.tmp 7):=by have e:a12.eval (.tmp 7) = x1:=(D10.k q44);show Ty.has _ _ _;rw [e];exact q56
      have q63:=Ty.up (Ty.nat i) (h1.le dE) (D10.k q45);have q64:=Ty.up (Ty.bool (!(QD (((cs.getD i D0)).1)))) (h1.le dE) q54
      refine gI a12 t3 ok11 (gM q58 (gM q63 (gT (Ty.lstc 2 KY (cs.take i)) rfl (fun A B E G H d0 d1=>rP (y_takec Try.underlying25 Try.inf51 (eI d0) (eI d1) oM (fun _=>rfl))) (gT (Ty.clo 76 [(Ty.val (Value.int .i32 ((cs.getD i D0)).1)),(Ty.lst Ty.ints ((cs.getD i D0)).2)]) rfl (fun A B E G H=>rP (y_clo (kp (H 7 rfl) E q62))) (gS rfl (fun A B E G H d0 d1=>rP (JP _ Try.func75 rfl rfl my2 (hasCall_fn ((cs.take i)) (((cs.getD i D0)).1) (((cs.getD i D0)).2) _ _ _ (eI d0) (eI d1) ))) (gB 0 (gE ok11 fun a14 s13 ok13 D12=>?_)))))));have F15:=F14.step0 D12.stp;have q67:=D12.k q59;have q70:=D12.k q62;refine tn ?_
      refine JR (D12.m 5 rfl) (fun c5=>?_) (fun c5=>?_)
      ·
       have hs5:(cs.getD i D0).1 ∈ ((cs.take i).map (·.1)):=(by simpa using c5);have hv:=calls_at hc oM (step_dbl hs4 hs5) dE
       refine Ja ?_
       refine gI a14 s13 ok13 (gC (Ty.int (8:Int)) (gE ok13 fun a15 s14 ok14 D13=>?_));refine tn (Jj (br (tr (br (tr (tr (br (tr ?_))))))))
       exact JJ rfl ok14 (F15.step0 D13.stp) (cvi (by (rw [hm];exact hv.symm)) (D13.m 0 rfl))
      ·
       have hs5:(cs.getD i D0).1 ∉ ((cs.take i).map (·.1)):=(by simpa using c5)
       refine Ja ?_
       refine gI a14 s13 ok13 (gS rfl (fun A B E G H=>rP (JD Try.fld51_1 Try.inf22 dE (kp (H 7 rfl) E q70) rfl)) (gS rfl (fun A B E G H d0=>rP (Jm Try.underlying22 rfl (eI d0) rfl)) (gS rfl (fun A B E G H d0=>rP (Jt Try.underlying22 (eI d0))) (gS rfl (fun A B E G H=>rP (JD Try.fld24_2 Try.inf22 dE (kp (H 2 rfl) E q67) rfl)) (gS rfl (fun A B E G H d0=>rP (Jm Try.underlying22 rfl (eI d0) rfl)) (gS rfl (fun A B E G H d0=>rP (Jt Try.underlying22 (eI d0))) (gS rfl (fun A B E G H d0 d1=>rP (KE (eI d0) (eI d1))) (gB 0 (gE ok13 fun a16 s15 ok15 D14=>?_)))))))));have F17:=F15.step0 D14.stp;refine tn ?_
       refine Jl (p:=((((List.length l):Nat):Int) < (((List.length ((cs.getD i D0)).2):Nat):Int))) (D14.m 7 rfl) (fun c6=>?_) (fun c6=>?_)
       ·
        have hs6:l.length < (cs.getD i D0).2.length:=oM;have hv:=calls_at hc oM (step_long hs4 hs5 hs6) dE
        refine Ja ?_
        refine gI a16 s15 ok15 (gC (Ty.int (1:Int)) (gE ok15 fun a17 s16 ok16 D15=>?_));refine tn (Jj (br (tr (br (tr (tr (br (tr ?_))))))))
        exact JJ rfl ok16 (F17.step0 D15.stp) (cvi (by (rw [hm];exact hv.symm)) (D15.m 0 rfl))
       ·
        have hs6:¬ l.length < (cs.getD i D0).2.length:=oM
        refine Jf (bn (tn (Ja ?_)))
        refine gI a16 s15 ok15 (gS rfl (fun A B E G H=>rP (JD Try.fld51_1 Try.inf22 dE (kp (H 7 rfl) E (D14.k q70)) rfl)) (gS rfl (fun A B E G H d0=>rP (Jm Try.underlying22 rfl (eI d0) rfl)) (gS rfl (fun A B E G H d0=>rP (Jt Try.underlying22 (eI d0))) (gT (Ty.int (0:Int)) rfl (fun A B E G H=>rP (Jc rfl)) (gE ok15 fun a18 s17 ok17 D16=>?_)))));have q86:=D16.m 1 rfl
        have b2:=JS q86
        refine tn (Je ?_)
        refine Kf (fun n3 a19 w3=>∃ (t4:GW) (k:Nat),t4.w = w3∧FromL [] s0 t4∧Ok 66 [] a19∧At (Ty.nat k) t4 a19 (.tmp 53)∧At (Ty.nat i) t4 a19 (.tmp 26)∧At (Ty.lstc 2 KY cs) t4 a19 (.tmp 1)∧At (Ty.ref [(Ty.val (Value.string nm)),(Ty.int n),(Ty.lst Ty.ints l)]) t4 a19 (.tmp 2)∧At (Ty.lstc 2 KY cs) t4 a19 (.tmp 24)∧At (Ty.nat (List.length cs)) t4 a19 (.tmp 25)∧At (Ty.lst Ty.ints ((cs.getD i D0)).2) t4 a19 (.tmp 51)∧At (Ty.nat (List.length ((cs.getD i D0)).2)) t4 a19 (.tmp 52)∧(k ≤ (cs.getD i D0).2.length)∧(KN n ((cs.getD i D0).2.drop k) = KN n (cs.getD i D0).2)∧n3 = (cs.getD i D0).2.length - k) ((cs.getD i D0).2.length - (0)) ?_ ?_
        ·
         exact ⟨s17,0,rfl,(F17.step0 D16.stp),ok17,(cJ (D16.m 3 rfl)),(D16.k (D14.k (D12.k q57))),(D16.k (D14.k (D12.k q58))),(D16.k (D14.k q67)),(D16.k (D14.k (D12.k q60))),(D16.k (D14.k (D12.k q61))),q86,(D16.m 2 rfl),by omega,rfl,rfl⟩
        ·
         rintro n4 a20 w4 ⟨t5,k,rfl,F20,ok18,q89,q90,q91,q92,q93,q94,q95,q96,hk,ha,rfl⟩
         refine Ja ?_
         refine gI a20 t5 ok18 (gS rfl (fun A B E G H=>rP (Jw (kp (H 53 rfl) E q89) (kp (H 52 rfl) E q96))) (gE ok18 fun a21 s18 ok19 D17=>?_));have F21:=F20.step0 D17.stp;have q97:=D17.k q89;have q98:=D17.k q90;have q99:=D17.k q91;have q100:=D17.k q92;have q101:=D17.k q93;have q102:=D17.k q94;have q103:=D17.k q95;refine tn (Ja ?_)
         refine Jl (p:=(((k:Nat):Int) < (((List.length ((cs.getD i D0)).2):Nat):Int))) (D17.m 0 rfl) (fun c7=>?_) (fun c7=>?_)
         ·
          refine Jf (tn (Ja (Je (Ja ?_))))
          refine gI a21 s18 ok19 (gT (Ty.ref [(Ty.lst Ty.int (((cs.getD i D0)).2.getD k []))]) rfl (fun A B E G H=>rP (Jy Try.underlying22 Try.inf26 (kp (H 51 rfl) E q103) (kp (H 53 rfl) E q97) oM (Ju Ty.ints ((cs.getD i D0)).2 [] k oM))) (gS rfl (fun A B E G H d0=>rP (Jm Try.underlying26 rfl (eI d0) rfl)) (gB 0 (gE ok19 fun a22 s19 ok20 D18=>?_))));have q109:=D18.k q100;refine tn (Ja ?_)
          refine gI a22 s19 ok20 (gS rfl (fun A B E G H=>rP (JD Try.fld24_1 Try.inf3 dE (kp (H 2 rfl) E q109) rfl)) (gS rfl (fun A B E G H d0=>rP (Jm Try.underlying3 rfl (eI d0) rfl)) (gM (D18.m 2 rfl) (gS rfl (fun A B E G H d0 d1=>rP (JP _ Try.func77 rfl rfl my2 (pCheck_fn (n) ((((cs.getD i D0)).2.getD k [])) _ _ _ (eI d0) (eI d1) oM))) (gB 0 (gE ok20 fun a23 s20 ok21 D19=>?_))))));have q123:=D19.m 4 rfl;refine tn (Ja ?_)
          refine gI a23 s20 ok21 (gM q123 (gS rfl (fun A B E G H d0=>rP (Qq (eI d0) rfl)) (gE ok21 fun a24 s21 ok22 D20=>?_)));have F24:=((F21.step0 D18.stp).step0 D19.stp).step0 D20.stp;refine tn ?_
          refine Jl (p:=((KX n ((((cs.getD i D0)).2.getD k []))) ≠ (0:Int))) (D20.m 1 rfl) (fun c8=>?_) (fun c8=>?_)
          ·
           have hae:=allMay_stop ha oM c8;have hv:=calls_at hc oM ((step_all hs4 hs5 hs6).trans hae) c8
           refine Ja ?_
           refine gI a24 s21 ok22 (gM (D20.k q123) (gB 0 (gE ok22 fun a25 s22 ok23 D21=>?_)));refine tn (Jj (br (tr (tr (br (br (tr (tr (br (tr ?_))))))))))
           exact JJ rfl ok23 (F24.step0 D21.stp) (cvi (by (rw [hm];exact hv.symm)) (D21.m 1 rfl))
          ·
           refine Jf (bn (tn ?_))
           refine gI a24 s21 ok22 (gT (Ty.nat (k + 1)) rfl (fun A B E G H=>rP ((JF (kp (H 53 rfl) E (D20.k (D19.k (D18.k q97)))) rfl wX).mono (fun τ _ h=>cN (σ:=τ) h))) (gS rfl (fun A B E G H d0=>rP (Jc (eI d0))) (gE ok22 fun a26 s23 ok24 D22=>?_)))
           exact tn ⟨(cs.getD i D0).2.length - ((k+1)),by omega,s23,(k+1),rfl,(F24.step0 D22.stp),ok24,(cJ (D22.m 1 rfl)),(D22.k (D20.k (D19.k (D18.k q98)))),(D22.k (D20.k (D19.k (D18.k q99)))),(D22.k (D20.k (D19.k q109))),(D22.k (D20.k (D19.k (D18.k q101)))),(D22.k (D20.k (D19.k (D18.k q102)))),(D22.k (D20.k (D19.k (D18.k q103)))),(D22.k (D20.k (D19.k (D18.k (D17.k q96))))),by omega,allMay_step ha oM (by assumption),rfl⟩
         ·
          have ha0:=allMay_end ha oM
          refine Jv (tx (tx (bx (bn (tn ?_)))))
          refine gI a21 s18 ok19 (gT (Ty.nat (i + 1)) rfl (fun A B E G H=>rP ((JF (kp (H 26 rfl) E q98) rfl wX).mono (fun τ _ h=>cN (σ:=τ) h))) (gS rfl (fun A B E G H d0=>rP (Jc (eI d0))) (gE ok19 fun a27 s24 ok25 D23=>?_)))
          exact tn ⟨cs.length - ((i+1)),by omega,s24,(i+1),rfl,(F21.step0 D23.stp),ok25,(cJ (D23.m 1 rfl)),(D23.k q99),(D23.k q100),(D23.k q101),(D23.k q102),by omega,calls_step hc oM (by rw [step_all hs4 hs5 hs6];exact ha0),rfl⟩
    ·
     refine Jv (tx (tx (bx (tn (Ja ?_)))))
     refine gI a10 s8 ok9 (gC (Ty.int (0:Int)) (gE ok9 fun a28 s25 ok26 D24=>?_));refine tn (Jj ?_)
     exact JJ rfl ok26 (F9.step0 D24.stp) (cvi (by (rw [hm];exact (calls_end hc oM).symm)) (D24.m 0 rfl))
set_option maxHeartbeats 4000000 in
set_option maxRecDepth 100000 in
theorem callMay_fn (nm:ByteArray) (n:Int) (l:List (List Int)) (cs:List JH) (leads:List Int) (σ:GW)  (v0 v1 v2:Value) (hv0:Ty.has (Ty.agg [(Ty.val (Value.string nm)),(Ty.int n),(Ty.lst Ty.ints l)]) σ v0) (hv1:Ty.has (Ty.lstc 2 KY cs) σ v1) (hv2:Ty.has (Ty.lst Ty.int leads) σ v2)  (hnm:nm.size ≤ 1099511627776) (hn:-9223372036854775808 ≤ n∧n ≤ 9223372036854775807) :
    FnC J 22 #[v0,v1,v2] σ (Ty.int (Kk nm n l cs leads)):=by
 refine JT Try.func22 rfl Try.ntmps22 (Xr rfl) (fun s0 a0 hle F0 ok0 hargs=>?_)
 have p0:=pA hle (hargs 0 _ rfl) hv0
 have p1:=pA hle (hargs 1 _ rfl) hv1
 have b1:=JS p1
 have p2:=pA hle (hargs 2 _ rfl) hv2
 have b2:=JS p2
 clear hargs;refine Ja ?_
 refine gI a0 s0 ok0 (gS rfl (fun A B E G H=>rP (Qw (kp (H 0 rfl) E p0))) (gC (Ty.int (0:Int)) (gE ok0 fun a1 s1 ok1 D1=>?_)));have q1:=D1.k p1;have q3:=D1.m 0 rfl;refine tn (Ja (Ja ?_))
 refine gI a1 s1 ok1 (gS rfl (fun A B E G H=>rP (KV Try.underlying24 Try.inf24 (kp (H 3 rfl) E q3))) (gM q1 (gS rfl (fun A B E G H d0 d1=>rP (JP _ Try.func44 rfl rfl my2 (callCheck_fn (nm) (n) (l) (cs) _ _ _ (eI d0) (eI d1) oX oX))) (gB 0 (gE ok1 fun a2 s2 ok2 D2=>?_)))));have q7:=D2.m 3 rfl;refine tn (Ja ?_)
 refine gI a2 s2 ok2 (gM q7 (gS rfl (fun A B E G H d0=>rP (Qq (eI d0) rfl)) (gE ok2 fun a3 s3 ok3 D3=>?_)));have F3:=((F0.step0 D1.stp).step0 D2.stp).step0 D3.stp;have q9:=D3.k (D2.k (D1.k p2));refine tn ?_
 refine Jl (p:=((Ku nm n l cs) ≠ (0:Int))) (D3.m 1 rfl) (fun c1=>?_) (fun c1=>?_)
 ·
  have hm:=touchMay_calls (leads:=leads) c1
  refine Ja ?_
  refine gI a3 s3 ok3 (gM (D3.k q7) (gB 0 (gE ok3 fun a4 s4 ok4 D4=>?_)));refine tn (Jj (tr ?_))
  exact JJ rfl ok4 (F3.step0 D4.stp) (cvi (by (exact hm.symm)) (D4.m 1 rfl))
 ·
  have h0:=Classical.not_not.1 c1;have hl2:=(callsMay_ok h0).1.meth.l2
  refine Jf (tn (Ja (Ja ?_)))
  refine gI a3 s3 ok3 (gM q9 (gS rfl (fun A B E G H d0=>rP (Jt Try.underlying26 (eI d0))) (gS rfl (fun A B E G H d0=>rP (Jw (eI d0) rfl)) (gS rfl (fun A B E G H d0=>rP (Jc (eI d0))) (gS rfl (fun A B E G H d0=>gu G (eI d0) fun hg=>Jc (kp (H 2 rfl) E q9)) (gS rfl (fun A B E G H d0 d1=>gu G (eI d1) fun hg=>Jt Try.underlying26 ((ef d0 rfl).1 hg)) (gS rfl (fun A B E G H d0 d1=>gu G (eI d1) fun hg=>KE ((ef d0 rfl).1 hg) rfl) (gS rfl (fun A B E G H d0 d1=>rP (Jk (eI d0) rfl (eI d1))) (gE ok3 fun a5 s5 ok5 D5=>?_)))))))));have F5:=F3.step0 D5.stp;have q15:=D5.k q9;refine tn ?_
  refine JR (D5.m 7 rfl) (fun c2=>?_) (fun c2=>?_)
  ·
   simp only [Bool.or_eq_true,decide_eq_true_eq] at c2;have hm:=touchMay_cnt h0 (leads:=leads) oM
   refine Ja ?_
   refine gI a5 s5 ok5 (gC (Ty.int (1:Int)) (gE ok5 fun a6 s6 ok6 D6=>?_));refine tn (Jj (tr ?_))
   exact JJ rfl ok6 (F5.step0 D6.stp) (cvi (by (exact hm.symm)) (D6.m 0 rfl))
  ·
   obtain ⟨d1,d2⟩:=Xn c2
   replace d1:=Xp d1
   replace d2:=Xp d2
   have hx2:¬ (leads.length < 1 ∨ 400 < leads.length):=(by simp only [Bool.or_eq_false_iff,decide_eq_false_iff_not] at c2;omega);have hmb:leads.length * l.length ≤ 400 * 200:=Nat.mul_le_mul oM hl2;have hmc:((leads.length:Nat):Int) * ((l.length:Nat):Int) = ((leads.length * l.length:Nat):Int):=(Int.natCast_mul _ _).symm
   refine Jf (tn (Ja (Ja ?_)))
   refine gI a5 s5 ok5 (gM q15 (gS rfl (fun A B E G H d0=>rP (Jt Try.underlying26 (eI d0))) (gT (Ty.int (0:Int)) rfl (fun A B E G H=>rP (Jc rfl)) (gE ok5 fun a7 s7 ok7 D7=>?_))));refine tn (Je ?_)
   refine Kf (fun n1 a8 w1=>∃ (t1:GW) (k:Nat),t1.w = w1∧FromL [] s0 t1∧Ok 46 [] a8∧At (Ty.nat k) t1 a8 (.tmp 26)∧At (Ty.lstc 2 KY cs) t1 a8 (.tmp 1)∧At (Ty.lst Ty.int leads) t1 a8 (.tmp 2)∧At (Ty.ref [(Ty.val (Value.string nm)),(Ty.int n),(Ty.lst Ty.ints l)]) t1 a8 (.tmp 3)∧At (Ty.lst Ty.int leads) t1 a8 (.tmp 24)∧At (Ty.nat (List.length leads)) t1 a8 (.tmp 25)∧(k ≤ leads.length)∧(∀ j,j < k → 0 ≤ leads.getD j 0∧leads.getD j 0 < cs.length)∧n1 = leads.length - k) (leads.length - (0)) ?_ ?_
   ·
    exact ⟨s7,0,rfl,(F5.step0 D7.stp),ok7,(cJ (D7.m 2 rfl)),(D7.k (D5.k (D3.k (D2.k q1)))),(D7.k q15),(D7.k (D5.k (D3.k (D2.k q3)))),(D7.m 0 rfl),(D7.m 1 rfl),by omega,fun j hj=>absurd hj (Nat.not_lt_zero j),rfl⟩
   ·
    rintro n2 a9 w2 ⟨t2,k,rfl,F8,ok8,q25,q26,q27,q28,q29,q30,hk,hin,rfl⟩
    refine Ja ?_
    refine gI a9 t2 ok8 (gS rfl (fun A B E G H=>rP (Jw (kp (H 26 rfl) E q25) (kp (H 25 rfl) E q30))) (gE ok8 fun a10 s8 ok9 D8=>?_));have F9:=F8.step0 D8.stp;have q31:=D8.k q25;have q33:=D8.k q27;have q34:=D8.k q28;have q35:=D8.k q29;refine tn (Ja ?_)
    refine Jl (p:=(((k:Nat):Int) < (((List.length leads):Nat):Int))) (D8.m 0 rfl) (fun c3=>?_) (fun c3=>?_)
    ·
     refine Jf (tn (Ja (Je (Ja ?_))))
     refine gI a10 s8 ok9 (gT (Ty.ref [(Ty.int (leads.getD k 0))]) rfl (fun A B E G H=>rP (Jy Try.underlying26 Try.inf3 (kp (H 24 rfl) E q35) (kp (H 26 rfl) E q31) oM (Ju Ty.int leads 0 k oM))) (gS rfl (fun A B E G H d0=>rP (Jm Try.underlying3 rfl (eI d0) rfl)) (gB 0 (gE ok9 fun a11 s9 ok10 D9=>?_))));have q39:=D9.k (D8.k q26);have q44:=D9.m 2 rfl;refine tn (Ja ?_)
     refine gI a11 s9 ok10 (gM q44 (gS rfl (fun A B E G H d0=>rP (Jw (eI d0) rfl)) (gS rfl (fun A B E G H d0=>rP (Jc (eI d0))) (gS rfl (fun A B E G H d0=>gu G (eI d0) fun hg=>Jc (kp (H 9 rfl) E q44)) (gS rfl (fun A B E G H d0=>gu G (eI d0) fun hg=>Jc (kp (H 1 rfl) E q39)) (gS rfl (fun A B E G H d0 d1=>gu G (eI d1) fun hg=>Jt Try.underlying25 ((ef d0 rfl).1 hg)) (gS rfl (fun A B E G H d0 d1 d2=>gu G (eI d2) fun hg=>Qv ((ef d0 rfl).1 hg) ((ef d1 rfl).1 hg)) (gS rfl (fun A B E G H d0 d1=>rP (Jk (eI d0) rfl (eI d1))) (gE ok10 fun a12 s10 ok11 D10=>?_)))))))));have F11:=(F9.step0 D9.stp).step0 D10.stp;refine tn ?_
     refine JR (D10.m 7 rfl) (fun c4=>?_) (fun c4=>?_)
     ·
      simp only [Bool.or_eq_true,decide_eq_true_eq] at c4;have hm:=touchMay_val h0 hx2 (k:=k) oM oM
      refine Ja ?_
      refine gI a12 s10 ok11 (gC (Ty.int (12:Int)) (gE ok11 fun a13 s11 ok12 D11=>?_));refine tn (Jj (br (tr (tr (br (tr ?_))))))
      exact JJ rfl ok12 (F11.step0 D11.stp) (cvi (by (exact hm.symm)) (D11.m 0 rfl))
     ·
      obtain ⟨d3,d4⟩:=Xn c4
      replace d3:=Xp d3
      replace d4:=Xp d4
      refine Jf (bn (tn ?_))
      refine gI a12 s10 ok11 (gT (Ty.nat (k + 1)) rfl (fun A B E G H=>rP ((JF (kp (H 26 rfl) E (D10.k (D9.k q31))) rfl wX).mono (fun τ _ h=>cN (σ:=τ) h))) (gS rfl (fun A B E G H d0=>rP (Jc (eI d0))) (gE ok11 fun a14 s12 ok13 D12=>?_)))
      exact tn ⟨leads.length - ((k+1)),by omega,s12,(k+1),rfl,(F11.step0 D12.stp),ok13,(cJ (D12.m 1 rfl)),(D12.k (D10.k q39)),(D12.k (D10.k (D9.k q33))),(D12.k (D10.k (D9.k q34))),(D12.k (D10.k (D9.k q35))),(D12.k (D10.k (D9.k (D8.k q30)))),by omega,fun j hj=>by (by_cases e:j = k;subst e;simp only [Bool.or_eq_false_iff,decide_eq_false_iff_not] at c4;omega;exact hin j oM),rfl⟩
    ·
     have hin2:∀ j,j < leads.length → 0 ≤ leads.getD j 0∧leads.getD j 0 < cs.length:=fun j hj=>hin j oM
     refine Jv (tx (tx (bx (tn (Ja (Ja ?_))))))
     refine gI a10 s8 ok9 (gM q33 (gS rfl (fun A B E G H d0=>rP (Jt Try.underlying26 (eI d0))) (gS rfl (fun A B E G H=>rP (JD Try.fld24_2 Try.inf22 dE (kp (H 3 rfl) E q34) rfl)) (gS rfl (fun A B E G H d0=>rP (Jm Try.underlying22 rfl (eI d0) rfl)) (gS rfl (fun A B E G H d0=>rP (Jt Try.underlying22 (eI d0))) (gT (Ty.nat ((List.length leads) * (List.length l))) rfl (fun A B E G H d0 d1=>rP ((y_mul (eI d0) (eI d1) wX).mono (fun τ _ h=>cN (σ:=τ) h))) (gS rfl (fun A B E G H d0=>rP (KE (eI d0) rfl)) (gE ok9 fun a15 s13 ok14 D13=>?_))))))));have F14:=F9.step0 D13.stp;refine tn ?_
     refine Jl (p:=((20000:Int) < ((((List.length leads) * (List.length l)):Nat):Int))) (D13.m 6 rfl) (fun c5=>?_) (fun c5=>?_)
     ·
      have hm:=touchMay_lim h0 hx2 hin2 oM
      refine Ja ?_
      refine gI a15 s13 ok14 (gC (Ty.int (3:Int)) (gE ok14 fun a16 s14 ok15 D14=>?_));refine tn (Jj (tr ?_))
      exact JJ rfl ok15 (F14.step0 D14.stp) (cvi (by (exact hm.symm)) (D14.m 0 rfl))
     ·
      have hm:=touchMay_yes h0 hx2 hin2 oM
      refine Jf (tn (Ja ?_))
      refine gI a15 s13 ok14 (gC (Ty.int (0:Int)) (gE ok14 fun a17 s15 ok16 D15=>?_));refine tn (Jj ?_)
      exact JJ rfl ok16 (F14.step0 D15.stp) (cvi (by (exact hm.symm)) (D15.m 0 rfl))
set_option maxHeartbeats 4000000 in
set_option maxRecDepth 100000 in
theorem grow_fn (n:Nat) (σ:GW) (hlow:Low [] σ) (v0 v1:Value) (hv0:Ty.has (Ty.val (Value.slice none 0 0)) σ v0) (hv1:Ty.has (Ty.nat n) σ v1)  (hn:1 ≤ n) (hl:n ≤ 1000000) :
    FnL J 78 #[v0,v1] σ [] (fun v τ=>∃ (z:Value),(Ty.has (Ty.val z) τ v)∧(Own τ 42 26 1 z 0 (List.map Ty.ints ([]:List (List Int))))):=by
 refine fn_introL hlow Try.func78 rfl Try.ntmps78 (Xr rfl) (fun a0 F0 ok0 hargs=>?_)
 have p0:=pB (hargs 0 _ rfl) hv0
 have p1:=pB (hargs 1 _ rfl) hv1
 clear hargs;refine Ja ?_
 refine gI a0 σ ok0 (gC (Ty.val (Value.slice none 0 0)) (gE ok0 fun a1 s1 ok1 D1=>?_));have q2:=D1.k p1;refine tn (Ja (Ja ?_))
 refine gI a1 s1 ok1 (gM q2 (gS rfl (fun A B E G H d0=>rP (Jw (eI d0) rfl)) (gE ok1 fun a2 s2 ok2 D2=>?_)));have q3:=D2.k (D1.k p0);refine tn ?_
 refine Jl (p:=(((n:Nat):Int) < (0:Int))) (D2.m 1 rfl) (fun c1=>?_) (fun c1=>?_)
 ·
  exfalso
  omega
 ·
  refine Jf (tn (Ja (Ja ?_)))
  refine gI a2 s2 ok2 (gM (D2.k q2) (gM q3 (gT (Ty.nat 0) rfl (fun A B E G H d0=>rP (y_capnil Try.underlying22 (eI d0))) (gM q3 (gS rfl (fun A B E G H d0=>rP (Jt (c:=1) (ts:=[]) Try.underlying22 (nil_sl (eI d0)))) (gT (Ty.int (((0:Nat):Int) - ((0:Nat):Int))) rfl (fun A B E G H d0 d1=>rP (Xg (eI d0) (eI d1) wX)) (gT (Ty.int (((n:Nat):Int) - (((0:Nat):Int) - ((0:Nat):Int)))) rfl (fun A B E G H d0 d1=>rP (Xg (eI d0) (eI d1) wX)) (gB 0 (gE ok2 fun a3 s3 ok3 D3=>?_)))))))));have q7:=D3.m 7 rfl;refine tn (Ja ?_)
  refine gI a3 s3 ok3 (gM q7 (gS rfl (fun A B E G H d0=>rP (KE (eI d0) rfl)) (gE ok3 fun a4 s4 ok4 D4=>?_)));have q8:=D4.k (D3.k q3);refine tn ?_
  refine Jl (p:=((0:Int) < (((n:Nat):Int) - (((0:Nat):Int) - ((0:Nat):Int))))) (D4.m 1 rfl) (fun c2=>?_) (fun c2=>?_)
  ·
   refine gI a4 s4 ok4 (gM q8 (gM q8 (gT (Ty.nat 0) rfl (fun A B E G H d0=>rP (y_capnil Try.underlying22 (eI d0))) (gT (Ty.val (Value.slice none 0 0)) rfl (fun A B E G H d0 d1=>rP (y_slicenil Try.underlying22 Try.inf26 (eI d0) (eI d1))) (gM (D4.k q7) (gE2 ok4 fun a5 s5 ok5 D5=>?_))))))
   refine tL (R:=(fun v τ=>Own τ 42 26 1 v ((((n:Nat):Int) - (((0:Nat):Int) - ((0:Nat):Int)))).toNat (List.replicate ((((n:Nat):Int) - (((0:Nat):Int) - ((0:Nat):Int)))).toNat (Ty.ints [])))) ok5 (YldM.toL (m_appendn (k:=42) (T:=Ty.ints []) Try.underlying22 Try.underlying3 Try.inf26 rfl (fun _=>sl_nil) (D5.m 3 rfl) (toN (σ:=s5) (D5.m 4 rfl) oM) oM oM oM)) fun a6 s6 hs1 ok6 r1 sm1=>?_
   have q14:=kq hs1 sm1 0 (D5.k q8)
   obtain ⟨x1,hx1⟩:∃ x,a6.eval (.tmp 22) = x:=⟨_,rfl⟩
   have q15:At (Ty.val x1) s6 a6 (.tmp 22):=hx1
   have o1:=al2 (R:=(Pr.own 42 26 1 ((((n:Nat):Int) - (((0:Nat):Int) - ((0:Nat):Int)))).toNat (List.map Ty.ints (List.replicate ((((n:Nat):Int) - (((0:Nat):Int) - ((0:Nat):Int)))).toNat [])))) hx1 (cvo rfl (by simp) r1)
   clear r1
   refine tL ok6 (Yld.toL (y_mv q14)) fun a7 s7 hs2 ok7 r2 sm2=>?_
   have q18:At (Ty.val (Value.slice none 0 0)) s7 a7 (.tmp 23):=r2
   clear r2
   refine tL (R:=(fun v τ=>Pr.has (Ty.pr (Ty.nat 0)) τ v)) ok7 (Yld.toL (Jt (c:=1) (ts:=[]) Try.underlying22 (nil_sl q18))) fun a8 s8 hs3 ok8 r3 sm3=>?_
   have o3:=Own.kl (Own.kl o1 hs2) hs3
   have q21:At (Ty.nat 0) s8 a8 (.tmp 24):=r3
   clear r3
   refine tL (R:=(fun v τ=>Pr.has (Pr.own 42 26 1 (List.length ((List.replicate ((((n:Nat):Int) - (((0:Nat):Int) - ((0:Nat):Int)))).toNat []).take 0)) (List.map Ty.ints ((List.replicate ((((n:Nat):Int) - (((0:Nat):Int) - ((0:Nat):Int)))).toNat []).take 0))) τ v)) ok8 (Yld.toL ((y_otake (h:=0) Try.underlying22 Try.inf26 o3 (kq hs3 sm3 22 (kq hs2 sm2 22 q15)) q21 oM).mono (fun _ _ h=>own_lst_take oM h))) fun a9 s9 hs4 ok9 r4 sm4=>?_
   have q22:=kq hs4 sm4 0 (kq hs3 sm3 0 (kq hs2 sm2 0 q14))
   obtain ⟨x2,hx2⟩:∃ x,a9.eval (.tmp 25) = x:=⟨_,rfl⟩
   have q23:At (Ty.val x2) s9 a9 (.tmp 25):=hx2
   have o4:=al2 (R:=(Pr.own 42 26 1 (List.length ((List.replicate ((((n:Nat):Int) - (((0:Nat):Int) - ((0:Nat):Int)))).toNat []).take 0)) (List.map Ty.ints ((List.replicate ((((n:Nat):Int) - (((0:Nat):Int) - ((0:Nat):Int)))).toNat []).take 0)))) hx2 r4
   clear r4
   refine tL ok9 (Yld.toL (y_as q23)) fun a10 s10 hs5 ok10 r5 sm5=>?_
   have o6:=Own.kl (Own.kl o3 hs4) hs5
   have q24:At (Ty.val x2) s10 a10 (.tmp 0):=r5
   clear r5;refine Jh (tn (Ja ?_))
   refine gI a10 s10 ok10 (gM q24 (gB 0 (gE ok10 fun a11 s11 ok11 D6=>?_)));have o8:=Own.k0 (Own.kl o4 hs5) D6.stp
   have q25:At (Ty.val x2) s11 a11 (.tmp 4):=D6.done 1
   refine tn (Jj ?_)
   exact JJ rfl ok11 (((((((((((F0.step0 D1.stp).step0 D2.stp).step0 D3.stp).step0 D4.stp).step0 D5.stp).sl hs1).sl hs2).sl hs3).sl hs4).sl hs5).step0 D6.stp) ⟨x2,q25,(cvo (by (simp)) (by (simp)) o8)⟩
  ·
   exfalso
   omega
set_option maxHeartbeats 4000000 in
set_option maxRecDepth 100000 in
theorem concat_fn (xss:List (List (List Int))) (σ:GW)  (v0:Value) (hv0:Ty.has (Ty.lst Ty.rows xss) σ v0)  (hp:1 ≤ xss.flatten.length) (hl:xss.flatten.length ≤ 1000000) :
    FnC J 45 #[v0] σ (Ty.lst Ty.ints xss.flatten):=by
 refine JT Try.func45 rfl Try.ntmps45 (Xr rfl) (fun s0 a0 hle F0 ok0 hargs=>?_)
 have p0:=pA hle (hargs 0 _ rfl) hv0
 have b1:=JS p0
 clear hargs;refine Ja ?_
 refine gI a0 s0 ok0 (gC (Ty.val (Value.slice none 0 0)) (gE ok0 fun a1 s1 ok1 D1=>?_));refine tn (Ja ?_)
 refine gI a1 s1 ok1 (gC (Ty.int (0:Int)) (gE ok1 fun a2 s2 ok2 D2=>?_));have q2:=D2.k (D1.k p0);refine tn (Ja (Ja ?_))
 refine gI a2 s2 ok2 (gM q2 (gS rfl (fun A B E G H d0=>rP (Jt Try.underlying49 (eI d0))) (gT (Ty.int (0:Int)) rfl (fun A B E G H=>rP (Jc rfl)) (gE ok2 fun a3 s3 ok3 D3=>?_))));refine tn (Je ?_)
 refine Kf (fun n1 a4 w1=>∃ (t1:GW) (k:Nat),t1.w = w1∧FromL [] s0 t1∧Ok 36 [] a4∧At (Ty.nat k) t1 a4 (.tmp 11)∧At (Ty.nat ((xss.take k).flatten.length)) t1 a4 (.tmp 3)∧At (Ty.lst Ty.rows xss) t1 a4 (.tmp 0)∧At (Ty.lst Ty.rows xss) t1 a4 (.tmp 9)∧At (Ty.nat (List.length xss)) t1 a4 (.tmp 10)∧(k ≤ xss.length)∧n1 = xss.length - k) (xss.length - (0)) ?_ ?_
 ·
  exact ⟨s3,0,rfl,(((F0.step0 D1.stp).step0 D2.stp).step0 D3.stp),ok3,(cJ (D3.m 2 rfl)),(cvi (by (rfl)) (D3.k (D2.m 0 rfl))),(D3.k q2),(D3.m 0 rfl),(D3.m 1 rfl),by omega,rfl⟩
 ·
  rintro n2 a5 w2 ⟨t2,k,rfl,F4,ok4,q9,q10,q11,q12,q13,hk,rfl⟩
  have hfl:=flatten_le xss k
  refine Ja ?_
  refine gI a5 t2 ok4 (gS rfl (fun A B E G H=>rP (Jw (kp (H 11 rfl) E q9) (kp (H 10 rfl) E q13))) (gE ok4 fun a6 s4 ok5 D4=>?_));have F5:=F4.step0 D4.stp;have q14:=D4.k q9;have q15:=D4.k q10;have q16:=D4.k q11;have q17:=D4.k q12;refine tn (Ja ?_)
  refine Jl (p:=(((k:Nat):Int) < (((List.length xss):Nat):Int))) (D4.m 0 rfl) (fun c1=>?_) (fun c1=>?_)
  ·
   have hfs:=Xm (xss:=xss) (k:=k) oM;have hf2:=flatten_le xss (k + 1);rw [hfs,List.length_append] at hf2
   refine Jf (tn (Ja (Je (Ja ?_))))
   refine gI a6 s4 ok5 (gT (Ty.ref [(Ty.lst Ty.ints (xss.getD k []))]) rfl (fun A B E G H=>rP (Jy Try.underlying49 Try.inf22 (kp (H 9 rfl) E q17) (kp (H 11 rfl) E q14) oM (Ju Ty.rows xss [] k oM))) (gS rfl (fun A B E G H d0=>rP (Jm Try.underlying22 rfl (eI d0) rfl)) (gB 0 (gE ok5 fun a7 s5 ok6 D5=>?_))));refine tn (Ja ?_)
   refine gI a7 s5 ok6 (gM (D5.k q15) (gM (D5.m 2 rfl) (gS rfl (fun A B E G H d0=>rP (Jt Try.underlying22 (eI d0))) (gT (Ty.nat (((xss.take k).flatten.length) + (List.length (xss.getD k [])))) rfl (fun A B E G H d0 d1=>rP ((JF (eI d0) (eI d1) wX).mono (fun τ _ h=>cN (σ:=τ) h))) (gB 0 (gE ok6 fun a8 s6 ok7 D6=>?_))))));have q30:=D6.m 4 rfl;refine tn (Ja ?_)
   refine gI a8 s6 ok7 (gM q30 (gS rfl (fun A B E G H d0=>rP (Jw (eI d0) rfl)) (gE ok7 fun a9 s7 ok8 D7=>?_)));refine tn ?_
   refine Jl (p:=((((((xss.take k).flatten.length) + (List.length (xss.getD k []))):Nat):Int) < (0:Int))) (D7.m 1 rfl) (fun c2=>?_) (fun c2=>?_)
   ·
    exfalso
    omega
   ·
    refine Jf (bn (tn ?_))
    refine gI a9 s7 ok8 (gT (Ty.nat (k + 1)) rfl (fun A B E G H=>rP ((JF (kp (H 11 rfl) E (D7.k (D6.k (D5.k q14)))) rfl wX).mono (fun τ _ h=>cN (σ:=τ) h))) (gS rfl (fun A B E G H d0=>rP (Jc (eI d0))) (gE ok8 fun a10 s8 ok9 D8=>?_)))
    exact tn ⟨xss.length - ((k+1)),by omega,s8,(k+1),rfl,((((F5.step0 D5.stp).step0 D6.stp).step0 D7.stp).step0 D8.stp),ok9,(cJ (D8.m 1 rfl)),(cvi (by (rw [Xm oM,List.length_append])) (D8.k (D7.k q30))),(D8.k (D7.k (D6.k (D5.k q16)))),(D8.k (D7.k (D6.k (D5.k q17)))),(D8.k (D7.k (D6.k (D5.k (D4.k q13))))),by omega,rfl⟩
  ·
   have q42:At (Ty.nat (xss.flatten.length)) s4 a6 (.tmp 3):=cvt (T:=(Ty.nat ((xss.take k).flatten.length))) (U:=(Ty.nat (xss.flatten.length))) (by rw [show k = xss.length by omega,List.take_length]) q15
   refine Jv (tx (tx (bx (tn (Ja ?_)))))
   refine gI a6 s4 ok5 (gM q42 (gE2 ok5 fun a11 s9 ok10 D9=>?_))
   refine tL ok10 (y_callL (L:=[]) [] [(42,5)] #[a11.eval ((Operand.const (Value.slice none 0 0))),a11.eval (.tmp 23)] rfl dE Try.func78 rfl rfl my2 (grow_fn ((xss.flatten.length)) _ lW _ _ (uL rfl) (uL (cvi (σ:=s9) oM (D9.m 0 rfl)))  oM oM)) fun a12 s10 hs1 ok11 r1 sm1=>?_
   obtain ⟨t3,⟨x1,hT1,o1⟩,B1⟩:=r1
   have q46:At (Ty.val x1) s10 a12 (.tmp 24):=Ty.up _ B1.le hT1
   have o2:Own s10 5 26 1 x1 0 (List.map Ty.ints ([]:List (List Int))):=Own.ren o1 (B1.ren dE rfl)
   refine tL ok11 (Yld.toL (y_as q46)) fun a13 s11 hs2 ok12 r2 sm2=>?_
   have q48:At (Ty.val x1) s11 a13 (.tmp 6):=r2
   clear r2;refine Jh (tn (Ja (Ja ?_)))
   refine gI a13 s11 ok12 (gM (kq hs2 sm2 0 (kq hs1 sm1 0 (D9.k q16))) (gS rfl (fun A B E G H d0=>rP (Jt Try.underlying49 (eI d0))) (gT (Ty.int (0:Int)) rfl (fun A B E G H=>rP (Jc rfl)) (gE ok12 fun a14 s12 ok13 D10=>?_))));have o4:=Own.k0 (Own.kl o2 hs2) D10.stp;refine tn (Je ?_)
   refine Kf (fun n3 a15 w3=>∃ (t4:GW) (k:Nat) (x6_1:Value),t4.w = w3∧FromL [] s0 t4∧Ok 36 [] a15∧At (Ty.nat k) t4 a15 (.tmp 27)∧At (Ty.val x6_1) t4 a15 (.tmp 6)∧At (Ty.lst Ty.rows xss) t4 a15 (.tmp 25)∧At (Ty.nat (List.length xss)) t4 a15 (.tmp 26)∧Own t4 5 26 1 x6_1 (List.length (xss.take k).flatten) (List.map Ty.ints (xss.take k).flatten)∧(k ≤ xss.length)∧n3 = xss.length - k) (xss.length - (0)) ?_ ?_
   ·
    exact ⟨s12,0,x1,rfl,((((F5.step0 D9.stp).sl hs1).sl hs2).step0 D10.stp),ok13,(cJ (D10.m 2 rfl)),(D10.k q48),(D10.m 0 rfl),(D10.m 1 rfl),(cvo (by (simp)) (by (simp)) o4),by omega,rfl⟩
   ·
    rintro n4 a16 w4 ⟨t5,k,x6_1,rfl,F14,ok14,q53,q54,q55,q56,o5,hk,rfl⟩
    have hfl:=flatten_le xss k
    refine Ja ?_
    refine gI a16 t5 ok14 (gS rfl (fun A B E G H=>rP (Jw (kp (H 27 rfl) E q53) (kp (H 26 rfl) E q56))) (gE ok14 fun a17 s13 ok15 D11=>?_));have F15:=F14.step0 D11.stp;have q57:=D11.k q53;have q58:=D11.k q54;have q59:=D11.k q55;have o6:=Own.k0 o5 D11.stp;refine tn (Ja ?_)
    refine Jl (p:=(((k:Nat):Int) < (((List.length xss):Nat):Int))) (D11.m 0 rfl) (fun c3=>?_) (fun c3=>?_)
    ·
     have hfs:=Xm (xss:=xss) (k:=k) oM;have hf2:=flatten_le xss (k + 1);rw [hfs,List.length_append] at hf2
     refine Jf (tn (Ja (Je (Ja ?_))))
     refine gI a17 s13 ok15 (gT (Ty.ref [(Ty.lst Ty.ints (xss.getD k []))]) rfl (fun A B E G H=>rP (Jy Try.underlying49 Try.inf22 (kp (H 25 rfl) E q59) (kp (H 27 rfl) E q57) oM (Ju Ty.rows xss [] k oM))) (gS rfl (fun A B E G H d0=>rP (Jm Try.underlying22 rfl (eI d0) rfl)) (gB 0 (gE ok15 fun a18 s14 ok16 D12=>?_))));have q63:=D12.k q58;have o7:=Own.k0 o6 D12.stp;refine tn ?_
     refine gI a18 s14 ok16 (gM q63 (gM (D12.m 2 rfl) (gE2 ok16 fun a19 s15 ok17 D13=>?_)));have o8:=Own.k0 o7 D13.stp
     have q71:At (Ty.val x6_1) s15 a19 (.tmp 31):=D13.done 0 dE
     refine tL ok17 (YldM.toL (KC Try.underlying22 Try.inf26 dE rfl dE (al (R:=(Pr.own 5 26 1 (List.length (xss.take k).flatten) (List.map Ty.ints (xss.take k).flatten))) q71 o8) (D13.m 1 rfl) (one_map (fun _=>Qg)) oM oM)) fun a20 s16 hs3 ok18 r3 sm3=>?_
     have q74:=kq hs3 sm3 6 (D13.k q63)
     obtain ⟨x2,hx1⟩:∃ x,a20.eval (.tmp 33) = x:=⟨_,rfl⟩
     have q77:At (Ty.val x2) s16 a20 (.tmp 33):=hx1
     have o9:=al2 (R:=(Pr.own 5 26 1 (List.length ((xss.take k).flatten ++ (xss.getD k []))) (List.map Ty.ints ((xss.take k).flatten ++ (xss.getD k []))))) hx1 (cvo (by simp) (by first | (rw [List.map_append];rfl) | simp) r3)
     clear r3
     refine tL ok18 (Yld.toL (y_as q77)) fun a21 s17 hs4 ok19 r4 sm4=>?_
     have q81:At (Ty.val x2) s17 a21 (.tmp 6):=r4
     clear r4;refine Jh (bn (tn ?_))
     refine gI a21 s17 ok19 (gT (Ty.nat (k + 1)) rfl (fun A B E G H=>rP ((JF (kp (H 27 rfl) E (kq hs4 sm4 27 (kq hs3 sm3 27 (D13.k (D12.k q57))))) rfl wX).mono (fun τ _ h=>cN (σ:=τ) h))) (gS rfl (fun A B E G H d0=>rP (Jc (eI d0))) (gE ok19 fun a22 s18 ok20 D14=>?_)));have o11:=Own.k0 (Own.kl o9 hs4) D14.stp
     exact tn ⟨xss.length - ((k+1)),by omega,s18,(k+1),x2,rfl,(((((F15.step0 D12.stp).step0 D13.stp).sl hs3).sl hs4).step0 D14.stp),ok20,(cJ (D14.m 1 rfl)),(D14.k q81),(D14.k (kq hs4 sm4 25 (kq hs3 sm3 25 (D13.k (D12.k q59))))),(D14.k (kq hs4 sm4 26 (kq hs3 sm3 26 (D13.k (D12.k (D11.k q56)))))),(cvo (by (rw [Xm oM])) (by (rw [Xm oM])) o11),by omega,rfl⟩
    ·
     have hke2:k = xss.length:=oM
     refine Jv (tx (tx (bx (tn (Ja ?_)))))
     refine gI a17 s13 ok15 (gM q58 (gB 0 (gE ok15 fun a23 s19 ok21 D15=>?_)));have o12:=Own.k0 o6 D15.stp
     have q86:At (Ty.val x6_1) s19 a23 (.tmp 2):=D15.done 1
     refine tn (Jj ?_)
     obtain ⟨t6,e1,h1,q87⟩:=Own.seal o12 dE
     rw [← e1]
     have F22:=(F15.step0 D15.stp).step h1 dE
     have q88:At (Ty.lst Ty.ints (xss.take k).flatten) t6 a23 (.tmp 2):=by have e:a23.eval (.tmp 2) = x6_1:=q86;show Ty.has _ _ _;rw [e];exact q87
     exact JJ rfl ok21 F22 (cvt (by (rw [hke2,List.take_length])) q88)
set_option maxHeartbeats 4000000 in
set_option maxRecDepth 100000 in
theorem changes_fn (nm:ByteArray) (n:Int) (l:List (List Int)) (sx:Int) (lx:List (List Int)) (σ:GW)  (v0 v1:Value) (hv0:Ty.has (Ty.agg [(Ty.val (Value.string nm)),(Ty.int n),(Ty.lst Ty.ints l)]) σ v0) (hv1:Ty.has (Ty.agg [(Ty.val (Value.int .i32 sx)),(Ty.lst Ty.ints lx)]) σ v1)  (hx:lx.length ≤ l.length) (hl1:1 ≤ l.length) (hl2:l.length ≤ 200) :
    FnC J 23 #[v0,v1] σ (Ty.lst Ty.ints (endsL l (sx,lx))):=by
 refine JT Try.func23 rfl Try.ntmps23 (Xr rfl) (fun s0 a0 hle F0 ok0 hargs=>?_)
 have p0:=pA hle (hargs 0 _ rfl) hv0
 have p1:=pA hle (hargs 1 _ rfl) hv1
 clear hargs;refine Ja ?_
 refine gI a0 s0 ok0 (gS rfl (fun A B E G H=>rP (Qw (kp (H 0 rfl) E p0))) (gS rfl (fun A B E G H=>rP (Qw (kp (H 1 rfl) E p1))) (gC (Ty.val (Value.slice none 0 0)) (gE ok0 fun a1 s1 ok1 D1=>?_))));have q1:=D1.m 0 rfl;have q2:=D1.m 1 rfl;refine tn (Ja ?_)
 refine gI a1 s1 ok1 (gS rfl (fun A B E G H=>rP (JD Try.fld24_2 Try.inf22 dE (kp (H 2 rfl) E q1) rfl)) (gS rfl (fun A B E G H d0=>rP (Jm Try.underlying22 rfl (eI d0) rfl)) (gS rfl (fun A B E G H=>rP (JD Try.fld24_2 Try.inf22 dE (kp (H 2 rfl) E q1) rfl)) (gS rfl (fun A B E G H d0=>rP (Jm Try.underlying22 rfl (eI d0) rfl)) (gS rfl (fun A B E G H d0=>rP (Jt Try.underlying22 (eI d0))) (gS rfl (fun A B E G H=>rP (JD Try.fld51_1 Try.inf22 dE (kp (H 3 rfl) E q2) rfl)) (gS rfl (fun A B E G H d0=>rP (Jm Try.underlying22 rfl (eI d0) rfl)) (gS rfl (fun A B E G H d0=>rP (Jt Try.underlying22 (eI d0))) (gT (Ty.int ((((List.length l):Nat):Int) - (((List.length lx):Nat):Int))) rfl (fun A B E G H d0 d1=>rP (Xg (eI d0) (eI d1) wX)) (gT (Ty.lst Ty.ints (l.take (((((List.length l):Nat):Int) - (((List.length lx):Nat):Int))).toNat)) rfl (fun A B E G H d0 d1=>rP (y_take Try.underlying22 Try.inf26 (eI d0) (toN (σ:=B) (eI d1) oM) oM)) (gS rfl (fun A B E G H=>rP (JD Try.fld51_1 Try.inf22 dE (kp (H 3 rfl) E q2) rfl)) (gS rfl (fun A B E G H d0=>rP (Jm Try.underlying22 rfl (eI d0) rfl)) (gT (Ty.sl 1 2 [(Ty.lst Ty.ints (l.take (((((List.length l):Nat):Int) - (((List.length lx):Nat):Int))).toNat)),(Ty.lst Ty.ints lx)]) rfl (fun A B E G H d0 d1=>rP (y_build2 Try.underlying49 Try.inf22 rfl (Qg) (Qg) (eI d0) (eI d1))) ?_)))))))))))))
 refine gS rfl (fun A B E G H d0=>rP (JP _ Try.func45 rfl rfl my1 (concat_fn ([(l.take (((((List.length l):Nat):Int) - (((List.length lx):Nat):Int))).toNat),lx]) _ _ (eI d0) (by first | omega | (simp only [List.flatten_cons,List.flatten_nil,List.length_append,List.length_nil,List.length_take];omega)) (by first | omega | (simp only [List.flatten_cons,List.flatten_nil,List.length_append,List.length_nil,List.length_take];omega))))) (gB 0 (gE ok1 fun a2 s2 ok2 D2=>?_));refine tn (Jj ?_)
 exact JJ rfl ok2 ((F0.step0 D1.stp).step0 D2.stp) (cvt (by (simp only [endsL,List.flatten_cons,List.flatten_nil,List.append_nil,Int.toNat_sub])) (D2.m 14 rfl))
set_option maxRecDepth 100000 in
theorem index_fn (xs:List Int) (x:Int) (σ:GW) (v0 v1:Value) (hv0:Ty.has (Ty.lst Ty.int xs) σ v0) (hv1:Ty.has (Ty.int x) σ v1)  :
    FnC J 79 #[v0,v1] σ (Ty.int (indexL xs x)):=by
 refine KQ Try.func79 rfl Try.ntmps79 (Xr rfl) (fun s0 a0 hle F0 ok0 hargs=>?_)
 have p0:=pA hle (hargs 0 _ rfl) hv0
 have b1:=JS p0
 have p1:=pA hle (hargs 1 _ rfl) hv1
 clear hargs;refine Ja ?_
 refine gI a0 s0 ok0 (gC (Ty.int (0:Int)) (gE ok0 fun a1 s1 ok1 D1=>?_));have q1:=D1.k p0;refine tn (Ja (Ja ?_))
 refine gI a1 s1 ok1 (gM q1 (gS rfl (fun A B E G H d0=>rP (Jt Try.underlying26 (eI d0))) (gT (Ty.int (0:Int)) rfl (fun A B E G H=>rP (Jc rfl)) (gE ok1 fun a2 s2 ok2 D2=>?_))));refine tn (Je ?_)
 refine Kf (fun n1 a3 w1=>∃ (t1:GW) (k:Nat),t1.w = w1∧From s0 t1∧Ok 19 [] a3∧At (Ty.nat k) t1 a3 (.tmp 8)∧At (Ty.lst Ty.int xs) t1 a3 (.tmp 0)∧At (Ty.int x) t1 a3 (.tmp 1)∧At (Ty.nat (List.length xs)) t1 a3 (.tmp 7)∧(k ≤ xs.length)∧(∀ j,j < k → xs.getD j 0 ≠ x)∧n1 = xs.length - k) (xs.length - (0)) ?_ ?_
 ·
  exact ⟨s2,0,rfl,((F0.step0 D1.stp).step0 D2.stp),ok2,(cJ (D2.m 2 rfl)),(D2.k q1),(D2.k (D1.k p1)),(D2.m 1 rfl),by omega,fun j hj=>absurd hj (Nat.not_lt_zero j),rfl⟩
 ·
  rintro n2 a4 w2 ⟨t2,k,rfl,F3,ok3,q7,q8,q9,q10,hk,hno,rfl⟩
  refine Ja ?_
  refine gI a4 t2 ok3 (gS rfl (fun A B E G H=>rP (Jw (kp (H 8 rfl) E q7) (kp (H 7 rfl) E q10))) (gE ok3 fun a5 s3 ok4 D3=>?_));have F4:=F3.step0 D3.stp;have q11:=D3.k q7;refine tn (Ja ?_)
  refine Jl (p:=(((k:Nat):Int) < (((List.length xs):Nat):Int))) (D3.m 0 rfl) (fun c1=>?_) (fun c1=>?_)
  ·
   refine Jf (tn (Ja (Je (Ja ?_))))
   refine gI a5 s3 ok4 (gM q11 (gB 0 (gE ok4 fun a6 s4 ok5 D4=>?_)));have q17:=D4.k (D3.k q8);have q18:=D4.k (D3.k q9);have q20:=D4.m 1 rfl;refine tn (Ja ?_)
   refine gI a6 s4 ok5 (gM q18 (gM q17 (gM q20 (gT (Ty.ref [(Ty.int (xs.getD k 0))]) rfl (fun A B E G H d0 d1=>rP (Jy Try.underlying26 Try.inf3 (eI d0) (eI d1) oM (Ju Ty.int xs 0 k oM))) (gS rfl (fun A B E G H d0=>rP (Jm Try.underlying3 rfl (eI d0) rfl)) (gS rfl (fun A B E G H d0 d1=>rP (Qb (eI d0) (eI d1))) (gE ok5 fun a7 s5 ok6 D5=>?_)))))));have F6:=(F4.step0 D4.stp).step0 D5.stp;refine tn ?_
   refine Jl (p:=(x = (xs.getD k 0))) (D5.m 5 rfl) (fun c2=>?_) (fun c2=>?_)
   ·
    refine Ja ?_
    refine gI a7 s5 ok6 (gM (D5.k q20) (gB 0 (gE ok6 fun a8 s6 ok7 D6=>?_)));refine tn (Jj (br (tr (tr (br (tr ?_))))))
    exact QS rfl ok7 (F6.step0 D6.stp) (cvi (by (exact (indexL_yes oM (by assumption) hno).symm)) (D6.m 1 rfl))
   ·
    refine Jf (bn (tn ?_))
    refine gI a7 s5 ok6 (gT (Ty.int (((k:Nat):Int) + (1:Int))) rfl (fun A B E G H=>rP (JF (kp (H 8 rfl) E (D5.k (D4.k q11))) rfl wX)) (gS rfl (fun A B E G H d0=>rP (Jc (eI d0))) (gE ok6 fun a9 s7 ok8 D7=>?_)))
    exact tn ⟨xs.length - ((k+1)),by omega,s7,(k+1),rfl,(F6.step0 D7.stp),ok8,(cJ (D7.m 1 rfl)),(D7.k (D5.k q17)),(D7.k (D5.k q18)),(D7.k (D5.k (D4.k (D3.k q10)))),by omega,fun j hj=>by (by_cases e:j = k;subst e;exact fun h=>c2 h.symm;exact hno j oM),rfl⟩
  ·
   refine Jv (tx (tx (bx (tn (Ja ?_)))))
   refine gI a5 s3 ok4 (gC (Ty.int (-1:Int)) (gE ok4 fun a10 s8 ok9 D8=>?_));refine tn (Jj ?_)
   exact QS rfl ok9 (F4.step0 D8.stp) (cvi (by (exact (indexL_no (fun j hj=>hno j oM)).symm)) (D8.m 0 rfl))
set_option maxRecDepth 100000 in
theorem contains_fn (xs:List Int) (x:Int) (σ:GW) (v0 v1:Value) (hv0:Ty.has (Ty.lst Ty.int xs) σ v0) (hv1:Ty.has (Ty.int x) σ v1)  :
    FnC J 46 #[v0,v1] σ (Ty.bool (decide (x ∈ xs))):=by
 refine KQ Try.func46 rfl Try.ntmps46 (Xr rfl) (fun s0 a0 hle F0 ok0 hargs=>?_)
 have p0:=pA hle (hargs 0 _ rfl) hv0
 have b1:=JS p0
 have p1:=pA hle (hargs 1 _ rfl) hv1
 clear hargs;refine Ja ?_
 refine gI a0 s0 ok0 (gC (Ty.bool false) (gE ok0 fun a1 s1 ok1 D1=>?_));refine tn (Ja ?_)
 refine gI a1 s1 ok1 (gM (D1.k p0) (gM (D1.k p1) (gS rfl (fun A B E G H d0 d1=>rP (JP _ Try.func79 rfl rfl my2 (index_fn (xs) (x) _ _ _ (eI d0) (eI d1) ))) (gS rfl (fun A B E G H d0=>rP (Qv (eI d0) rfl)) (gB 0 (gE ok1 fun a2 s2 ok2 D2=>?_))))));refine tn (Jj ?_)
 exact QS rfl ok2 ((F0.step0 D1.stp).step0 D2.stp) (cvb (by (rw [decide_eq_decide];exact indexL_iff)) (D2.m 4 rfl))
set_option maxRecDepth 100000 in
theorem pChange_fn (n:Nat) (l:List Int) (σ:GW) (v0 v1:Value) (hv0:Ty.has (Ty.nat n) σ v0) (hv1:Ty.has (Ty.lst Ty.int l) σ v1) (hn:n ≤ 12) (ho:okL 0 l n) :
    FnC J 24 #[v0,v1] σ (Ty.lst Ty.int (JN n l)):=by
 refine KQ Try.func24 rfl Try.ntmps24 (Xr rfl) (fun s0 a0 hle F0 ok0 hargs=>?_)
 have p0:=pA hle (hargs 0 _ rfl) hv0
 have p1:=pA hle (hargs 1 _ rfl) hv1
 have b1:=JS p1
 clear hargs;refine Ja ?_
 refine gI a0 s0 ok0 (gC (Ty.val (Value.slice none 0 0)) (gE ok0 fun a1 s1 ok1 D1=>?_));have q1:=D1.k p0;refine tn (Ja ?_)
 refine gI a1 s1 ok1 (gM q1 (gR (Pr.own 11 3 1 n (List.map Ty.int (List.replicate n 0))) rfl (by intro A B E G H d0 d1;have e0:=ed d0 rfl rfl rfl;exact rP ((y_make (k:=11) (T:=Ty.int 0) (n:=n) Try.underlying26 Try.inf3 rfl (fun _=>rfl) e0 e0 oM oM).mono (fun _ _ h=>cvo (by simp) (by simp) h))) (gR (Pr.own 11 3 1 n (List.map Ty.int (List.replicate n 0))) rfl (by intro A B E G H d0 d1 d2;have e1:(Pr.own 11 3 1 n (List.map Ty.int (List.replicate n 0))).has B (A.eval (.tmp 8)):=d0 rfl;exact rP (Qk e1)) (gE ok1 fun a2 s2 ok2 D2=>?_))))
 have q5:(Pr.own 11 3 1 n (List.map Ty.int (List.replicate n 0))).has s2 (a2.eval (.tmp 5)):=D2.done 2
 refine tn (Ja (Ja ?_))
 refine gI a2 s2 ok2 (gC (Ty.int (0:Int)) (gE ok2 fun a3 s3 ok3 D3=>?_))
 have q8:(Pr.own 11 3 1 n (List.map Ty.int (List.replicate n 0))).has s3 (a3.eval (.tmp 5)):=D3.ko q5 rfl
 refine tn (Je ?_)
 refine Kf (fun n1 a4 w1=>∃ (t1:GW) (xs:List Int) (f:Nat),t1.w = w1∧From s0 t1∧Ok 35 [] a4∧(Pr.own 11 3 1 (List.length (Ka n xs)) (List.map Ty.int (Ka n xs))).has t1 (a4.eval (.tmp 5))∧At (Ty.nat xs.length) t1 a4 (.tmp 6)∧At (Ty.nat n) t1 a4 (.tmp 0)∧At (Ty.lst Ty.int l) t1 a4 (.tmp 1)∧(AtC n l xs.length)∧(n ≤ f + xs.length)∧(xs ++ rowF l n f xs.length = JN n l)∧n1 = n + 1 - xs.length) (n + 1 - (([]:List Int)).length) ?_ ?_
 ·
  exact ⟨s3,([]:List Int),n,rfl,(((F0.step0 D1.stp).step0 D2.stp).step0 D3.stp),ok3,(cvo (by (simp [padTo_nil])) (by (simp [padTo_nil])) q8),(cJ (D3.m 0 rfl)),(D3.k (D2.k q1)),(D3.k (D2.k (D1.k p1))),AtC.zero ho,by simp,rfl,rfl⟩
 ·
  rintro n2 a5 w2 ⟨t2,xs,f,rfl,F4,ok4,q10,q11,q12,q13,ha,hf,heq,rfl⟩
  have hal:=ha.le
  have hpl:=padTo_len hal
  refine Ja (Ja ?_)
  refine gI a5 t2 ok4 (gM q11 (gM q12 (gS rfl (fun A B E G H d0 d1=>rP (Jw (eI d0) (eI d1))) (gE ok4 fun a6 s4 ok5 D4=>?_))));have F5:=F4.step0 D4.stp
  have q14:(Pr.own 11 3 1 (List.length (Ka n xs)) (List.map Ty.int (Ka n xs))).has s4 (a6.eval (.tmp 5)):=D4.ko q10 rfl
  have q15:=D4.k q11;have q17:=D4.k q13;refine tn ?_
  refine Jl (p:=(((xs.length:Nat):Int) < ((n:Nat):Int))) (D4.m 2 rfl) (fun c1=>?_) (fun c1=>?_)
  ·
   refine Jf (tn (Ja (Je (Ja (Ja ?_)))))
   refine gI a6 s4 ok5 (gM q17 (gM q15 (gT (Ty.int (((xs.length:Nat):Int) + (1:Int))) rfl (fun A B E G H d0=>rP (JF (eI d0) rfl wX)) (gS rfl (fun A B E G H d0 d1=>rP (JP _ Try.func46 rfl rfl my2 (contains_fn (l) ((((xs.length:Nat):Int) + (1:Int))) _ _ _ (eI d0) (eI d1) ))) (gE ok5 fun a7 s5 ok6 D5=>?_)))));have F6:=F5.step0 D5.stp
   have q19:(Pr.own 11 3 1 (List.length (Ka n xs)) (List.map Ty.int (Ka n xs))).has s5 (a7.eval (.tmp 5)):=D5.ko q14 rfl
   have q20:=D5.k q15;have q21:=D5.k (D4.k q12);have q22:=D5.k q17;refine tn ?_
   refine JR (D5.m 3 rfl) (fun c2=>?_) (fun c2=>?_)
   ·
    have c2:=Xq c2
    refine Ja ?_
    refine gI a7 s5 ok6 (gT (Ty.val (a7.eval (.tmp 5))) rfl (fun A B E G H=>rP (Jc (H 5 rfl))) (gM q20 (gM q20 (gT (Ty.val (JU (a7.eval (.tmp 5)) xs.length)) rfl (fun A B E G H d0 d1 d2 d3 d4=>rP (Kn (i:=((xs.length:Nat):Int)) Try.underlying26 Try.inf3 ((Pr.own 11 3 1 (List.length (Ka n xs)) (List.map Ty.int (Ka n xs))).up E q19) (eI d0) (eI d1) oM oM)) (gE2 ok6 fun a8 s6 ok7 D6=>?_)))));have q24:=(Pr.own 11 3 1 (List.length (Ka n xs)) (List.map Ty.int (Ka n xs))).up D6.stp q19
    have q25:a8.eval (.tmp 5) = a7.eval (.tmp 5):=D6.same 5 rfl
    have q29:=D6.m 2 rfl
    refine tail_step0 (m:=11) (R:=(fun _ τ=>Own τ 11 3 1 (a7.eval (.tmp 5)) (List.length (Ka n xs)) ((List.map Ty.int (Ka n xs)).set xs.length (Ty.nat xs.length)))) rfl rfl (m_store Try.inf3 dE q24 (D6.m 3 rfl) (by simp only [List.length_map,List.length_set];omega) q29 (Jq rfl)) (fun v1 s7 hs1 r1=>?_)
    have F8:=(F6.step0 D6.stp).step hs1 dE
    have q31:At (Ty.nat xs.length) s7 a8 (.tmp 6):=kpm hs1 dE rfl (D6.k q20)
    have q32:At (Ty.nat n) s7 a8 (.tmp 0):=kpm hs1 dE rfl (D6.k q21)
    have q33:At (Ty.lst Ty.int l) s7 a8 (.tmp 1):=kpm hs1 dE rfl (D6.k q22)
    have q34:At (Ty.nat xs.length) s7 a8 (.tmp 20):=kpm hs1 dE rfl q29
    have q35:(Pr.own 11 3 1 (List.length ((Ka n xs).set xs.length ((xs.length:Nat):Int))) (List.map Ty.int ((Ka n xs).set xs.length ((xs.length:Nat):Int)))).has s7 (a7.eval (.tmp 5)):=(cvo (by simp) (by simp) r1)
    refine Jh ?_
    have q36:(Pr.own 11 3 1 (List.length ((Ka n xs).set xs.length ((xs.length:Nat):Int))) (List.map Ty.int ((Ka n xs).set xs.length ((xs.length:Nat):Int)))).has s7 (a8.eval (.tmp 5)):=al q25 q35
    refine tn (Jv (tx (bx (tn ?_))))
    refine gI a8 s7 ok7 (gM q31 (gT (Ty.int (((xs.length:Nat):Int) + (1:Int))) rfl (fun A B E G H d0=>rP (JF (eI d0) rfl wX)) (gB 0 (gE ok7 fun a10 s8 ok9 D7=>?_))))
    have q37:(Pr.own 11 3 1 (List.length ((Ka n xs).set xs.length ((xs.length:Nat):Int))) (List.map Ty.int ((Ka n xs).set xs.length ((xs.length:Nat):Int)))).has s8 (a10.eval (.tmp 5)):=D7.ko q36 rfl
    exact tn ⟨n + 1 - ((xs ++ [((xs.length:Nat):Int)])).length,by simp;omega,s8,(xs ++ [((xs.length:Nat):Int)]),(f-1),rfl,(F8.step0 D7.stp),ok9,(cvo (by (rw [padTo_set oM _ (by first | rfl | omega)])) (by (rw [padTo_set oM _ (by first | rfl | omega)])) q37),(cvi (by (simp)) (D7.m 2 rfl)),(D7.k q32),(D7.k q33),by rw [List.length_append];exact ha.yes c2,by simp;omega,by rw [List.length_append];exact rowF_yes heq oM hf c2,rfl⟩
   ·
    have c2:=Xp c2;have han:=ha.no oM c2
    refine Jf (tn (Ja ?_))
    refine gI a7 s5 ok6 (gT (Ty.val (a7.eval (.tmp 5))) rfl (fun A B E G H=>rP (Jc (H 5 rfl))) (gM q20 (gT (Ty.val (a7.eval (.tmp 5))) rfl (fun A B E G H d0=>rP (Jc (H 5 rfl))) (gM q20 (gT (Ty.int (((xs.length:Nat):Int) + (1:Int))) rfl (fun A B E G H d0 d1=>rP (JF (eI d0) rfl wX)) (gM q20 (gT (Ty.int (((xs.length:Nat):Int) + (1:Int))) rfl (fun A B E G H d0=>rP (JF (eI d0) rfl wX)) (gM q20 (gT (Ty.val (JU (a7.eval (.tmp 5)) xs.length)) rfl (fun A B E G H d0 d1 d2 d3 d4 d5 d6 d7 d8 d9=>rP (Kn (i:=((xs.length:Nat):Int)) Try.underlying26 Try.inf3 ((Pr.own 11 3 1 (List.length (Ka n xs)) (List.map Ty.int (Ka n xs))).up E q19) (eI d0) (eI d1) oM oM)) (gE2 ok6 fun a11 s9 ok10 D8=>?_))))))))));have q41:=(Pr.own 11 3 1 (List.length (Ka n xs)) (List.map Ty.int (Ka n xs))).up D8.stp q19
    have q42:a11.eval (.tmp 5) = a7.eval (.tmp 5):=D8.same 5 rfl
    have q46:=D8.m 2 rfl;have q48:=D8.m 6 rfl;have q50:=D8.m 8 rfl
    refine tail_step0 (m:=11) (R:=(fun _ τ=>Own τ 11 3 1 (a7.eval (.tmp 5)) (List.length (Ka n xs)) ((List.map Ty.int (Ka n xs)).set xs.length (Ty.int (((xs.length:Nat):Int) + (1:Int)))))) rfl rfl (m_store Try.inf3 dE q41 q50 (by simp only [List.length_map,List.length_set];omega) q48 (Jq rfl)) (fun v2 s10 hs2 r2=>?_)
    have F11:=(F6.step0 D8.stp).step hs2 dE
    have q51:At (Ty.nat xs.length) s10 a11 (.tmp 6):=kpm hs2 dE rfl (D8.k q20)
    have q52:At (Ty.nat n) s10 a11 (.tmp 0):=kpm hs2 dE rfl (D8.k q21)
    have q53:At (Ty.lst Ty.int l) s10 a11 (.tmp 1):=kpm hs2 dE rfl (D8.k q22)
    have q54:At (Ty.int (((xs.length:Nat):Int) + (1:Int))) s10 a11 (.tmp 26):=kpm hs2 dE rfl (D8.m 4 rfl)
    have q55:At (Ty.int (((xs.length:Nat):Int) + (1:Int))) s10 a11 (.tmp 28):=kpm hs2 dE rfl q48
    have q56:At (Ty.nat xs.length) s10 a11 (.tmp 29):=kpm hs2 dE rfl (D8.m 7 rfl)
    have q57:(Pr.own 11 3 1 (List.length ((Ka n xs).set xs.length (((xs.length:Nat):Int) + (1:Int)))) (List.map Ty.int ((Ka n xs).set xs.length (((xs.length:Nat):Int) + (1:Int))))).has s10 (a7.eval (.tmp 5)):=(cvo (by simp) (by simp) r2)
    refine Ks (m:=0) (R:=(fun v τ=>Pr.has (Ty.pr (Ty.val (JU (a7.eval (.tmp 5)) ((((xs.length:Nat):Int) + (1:Int))).toNat))) τ v)) rfl rfl dE ok10 (Yld.toM (Kn (i:=(((xs.length:Nat):Int) + (1:Int))) Try.underlying26 Try.inf3 q57 q46 q54 oM (by simp only [List.length_set];omega))) (fun a13 s11 hs3 ok12 r3 sm3=>?_)
    have F12:=F11.step hs3 dE;have q58:=Own.keep q57 hs3 dE (.inl rfl);have q59:=(sm3 5 dE).trans q42
    have q60:At (Ty.nat xs.length) s11 a13 (.tmp 6):=kpm hs3 dE (sm3 6 dE) q51
    have q61:At (Ty.nat n) s11 a13 (.tmp 0):=kpm hs3 dE (sm3 0 dE) q52
    have q62:At (Ty.lst Ty.int l) s11 a13 (.tmp 1):=kpm hs3 dE (sm3 1 dE) q53
    have q63:=(sm3 24 dE).trans q46
    have q64:At (Ty.int (((xs.length:Nat):Int) + (1:Int))) s11 a13 (.tmp 26):=kpm hs3 dE (sm3 26 dE) q54
    have q65:At (Ty.int (((xs.length:Nat):Int) + (1:Int))) s11 a13 (.tmp 28):=kpm hs3 dE (sm3 28 dE) q55
    have q66:At (Ty.nat xs.length) s11 a13 (.tmp 29):=kpm hs3 dE (sm3 29 dE) q56
    have q67:=(sm3 30 dE).trans q50
    have q68:At (Ty.val (JU (a7.eval (.tmp 5)) ((((xs.length:Nat):Int) + (1:Int))).toNat)) s11 a13 (.tmp 31):=r3
    refine tail_step0 (m:=11) (R:=(fun _ τ=>Own τ 11 3 1 (a7.eval (.tmp 5)) (List.length ((Ka n xs).set xs.length (((xs.length:Nat):Int) + (1:Int)))) ((List.map Ty.int ((Ka n xs).set xs.length (((xs.length:Nat):Int) + (1:Int)))).set ((((xs.length:Nat):Int) + (1:Int))).toNat (Ty.nat xs.length)))) rfl rfl (m_store Try.inf3 dE q58 q68 (by simp only [List.length_map,List.length_set];omega) q66 (Jq rfl)) (fun v3 s12 hs4 r4=>?_)
    have F13:=F12.step hs4 dE
    have q69:At (Ty.nat xs.length) s12 a13 (.tmp 6):=kpm hs4 dE rfl q60
    have q70:At (Ty.nat n) s12 a13 (.tmp 0):=kpm hs4 dE rfl q61
    have q71:At (Ty.lst Ty.int l) s12 a13 (.tmp 1):=kpm hs4 dE rfl q62
    have q72:At (Ty.int (((xs.length:Nat):Int) + (1:Int))) s12 a13 (.tmp 26):=kpm hs4 dE rfl q64
    have q73:At (Ty.int (((xs.length:Nat):Int) + (1:Int))) s12 a13 (.tmp 28):=kpm hs4 dE rfl q65
    have q74:At (Ty.nat xs.length) s12 a13 (.tmp 29):=kpm hs4 dE rfl q66
    have q75:(Pr.own 11 3 1 (List.length (((Ka n xs).set xs.length (((xs.length:Nat):Int) + (1:Int))).set ((((xs.length:Nat):Int) + (1:Int))).toNat ((xs.length:Nat):Int))) (List.map Ty.int (((Ka n xs).set xs.length (((xs.length:Nat):Int) + (1:Int))).set ((((xs.length:Nat):Int) + (1:Int))).toNat ((xs.length:Nat):Int)))).has s12 (a7.eval (.tmp 5)):=(cvo (by simp) (by simp) r4)
    refine Jh ?_
    have q76:(Pr.own 11 3 1 (List.length (((Ka n xs).set xs.length (((xs.length:Nat):Int) + (1:Int))).set ((((xs.length:Nat):Int) + (1:Int))).toNat ((xs.length:Nat):Int))) (List.map Ty.int (((Ka n xs).set xs.length (((xs.length:Nat):Int) + (1:Int))).set ((((xs.length:Nat):Int) + (1:Int))).toNat ((xs.length:Nat):Int)))).has s12 (a13.eval (.tmp 5)):=al q59 q75
    refine tn ?_
    refine gI a13 s12 ok12 (gM q69 (gT (Ty.int (((xs.length:Nat):Int) + (1:Int))) rfl (fun A B E G H d0=>rP (JF (eI d0) rfl wX)) (gB 0 (gE ok12 fun a15 s13 ok14 D9=>?_))))
    have q77:(Pr.own 11 3 1 (List.length (((Ka n xs).set xs.length (((xs.length:Nat):Int) + (1:Int))).set ((((xs.length:Nat):Int) + (1:Int))).toNat ((xs.length:Nat):Int))) (List.map Ty.int (((Ka n xs).set xs.length (((xs.length:Nat):Int) + (1:Int))).set ((((xs.length:Nat):Int) + (1:Int))).toNat ((xs.length:Nat):Int)))).has s13 (a15.eval (.tmp 5)):=D9.ko q76 rfl
    refine bn (tn ?_)
    refine gI a15 s13 ok14 (gM (D9.m 2 rfl) (gT (Ty.int ((((xs.length:Nat):Int) + (1:Int)) + (1:Int))) rfl (fun A B E G H d0=>rP (JF (eI d0) rfl wX)) (gB 0 (gE ok14 fun a16 s14 ok15 D10=>?_))))
    have q81:(Pr.own 11 3 1 (List.length (((Ka n xs).set xs.length (((xs.length:Nat):Int) + (1:Int))).set ((((xs.length:Nat):Int) + (1:Int))).toNat ((xs.length:Nat):Int))) (List.map Ty.int (((Ka n xs).set xs.length (((xs.length:Nat):Int) + (1:Int))).set ((((xs.length:Nat):Int) + (1:Int))).toNat ((xs.length:Nat):Int)))).has s14 (a16.eval (.tmp 5)):=D10.ko q77 rfl
    exact tn ⟨n + 1 - ((xs ++ [((xs.length:Nat):Int) + 1,((xs.length:Nat):Int)])).length,by simp;omega,s14,(xs ++ [((xs.length:Nat):Int) + 1,((xs.length:Nat):Int)]),(f-1),rfl,((F13.step0 D9.stp).step0 D10.stp),ok15,(cvo (by (rw [padTo_set oM _ oM,padTo_set (by simp;omega) _ (by simp)];simp)) (by (rw [padTo_set oM _ oM,padTo_set (by simp;omega) _ (by simp)];simp)) q81),(cvi (by (simp;omega)) (D10.m 2 rfl)),(D10.k (D9.k q70)),(D10.k (D9.k q71)),by rw [List.length_append];exact han.2,by simp;omega,by rw [List.length_append];exact rowF_no heq oM hf c2,rfl⟩
  ·
   refine Jv (tx (tx (bx (tn (Ja ?_)))))
   refine gI a6 s4 ok5 (gT (Ty.val (a6.eval (.tmp 5))) rfl (fun A B E G H=>rP (Jc (H 5 rfl))) (gB 0 (gE ok5 fun a17 s15 ok16 D11=>?_)))
   have q85:(Pr.own 11 3 1 (List.length (Ka n xs)) (List.map Ty.int (Ka n xs))).has s15 (a17.eval (.tmp 4)):=al (show _ = _ from D11.done 1) ((Pr.own 11 3 1 (List.length (Ka n xs)) (List.map Ty.int (Ka n xs))).up D11.stp q14)
   refine tn (Jj ?_)
   obtain ⟨t3,e1,h1,q86⟩:=Own.seal q85 dE
   rw [← e1]
   have F17:=(F5.step0 D11.stp).step h1 dE
   exact QS rfl ok16 F17 (cvt (by (rw [rowF_end oM,List.append_nil] at heq;rw [heq,padTo_full (QK ho)])) q86)
end Go.Proofs.Ytodmoedmijfciaa
