/- The functions that the law BandRings reaches, each by its contract (beside leavers, and in company). Part 1. -/
import Derived.Test.YtodmoedmijfciaaBandRingsQ
import Derived.Test.YtodmoedmijfciaaBandRingsK3
import Derived.Test.YtodmoedmijfciaaBandRingsK4
import Derived.Test.YtodmoedmijfciaaBandRingsK2
namespace Go.Proofs.Ytodmoedmijfciaa
open Go.KL
variable {J:Go.KL.JdOf Try.prog} [Go.KL.Al J]
theorem Try.inf46:Info Try.prog 46 (.agg #[.int .i64 0,.int .i64 0,.int .i64 0]) 3 24:=by unfold Info;kernel_rfl
theorem Try.fld46_0:KI Try.prog 46 0 = some (3,0):=by kernel_rfl
theorem Try.fld46_1:KI Try.prog 46 1 = some (3,1):=by kernel_rfl
theorem Try.fld46_2:KI Try.prog 46 2 = some (3,2):=by kernel_rfl
set_option maxHeartbeats 4000000 in
set_option maxRecDepth 100000 in
theorem rSlipsMay_fn (sl:List Qz) (bells:Int) (rows:Int) (σ:GW)  (v0 v1 v2:Value) (hv0:Ty.has (Ty.lstc 3 Qd sl) σ v0) (hv1:Ty.has (Ty.int bells) σ v1) (hv2:Ty.has (Ty.int rows) σ v2)   :
    FnC J 7 #[v0,v1,v2] σ (Ty.int (KO sl bells rows)):=by
 refine JT Try.func7 rfl Try.ntmps7 (Xr rfl) (fun s0 a0 hle F0 ok0 hargs=>?_)
 have p0:=pA hle (hargs 0 _ rfl) hv0
 have b1:=JS p0
 have p1:=pA hle (hargs 1 _ rfl) hv1
 have p2:=pA hle (hargs 2 _ rfl) hv2
 clear hargs;refine Ja ?_
 refine gI a0 s0 ok0 (gC (Ty.int (0:Int)) (gE ok0 fun a1 s1 ok1 D1=>?_));have q1:=D1.k p0;refine tn (Ja (Ja ?_))
 refine gI a1 s1 ok1 (gM q1 (gS rfl (fun A B E G H d0=>rP (Jt Try.underlying27 (eI d0))) (gS rfl (fun A B E G H d0=>rP (KE (eI d0) rfl)) (gE ok1 fun a2 s2 ok2 D2=>?_))));have F2:=(F0.step0 D1.stp).step0 D2.stp;refine tn ?_
 refine Jl (p:=((20:Int) < (((List.length sl):Nat):Int))) (D2.m 2 rfl) (fun c1=>?_) (fun c1=>?_)
 ·
  refine Ja ?_
  refine gI a2 s2 ok2 (gC (Ty.int (1:Int)) (gE ok2 fun a3 s3 ok3 D3=>?_));refine tn (Jj (tr ?_))
  exact JJ rfl ok3 (F2.step0 D3.stp) (cvi (by (exact (slipsMay_cnt oM).symm)) (D3.m 0 rfl))
 ·
  refine Jf (tn (Ja (Ja ?_)))
  refine gI a2 s2 ok2 (gC (Ty.int (0:Int)) (gE ok2 fun a4 s4 ok4 D4=>?_));refine tn (Je ?_)
  refine Kf (fun n1 a5 w1=>∃ (t1:GW) (i:Nat),t1.w = w1∧FromL [] s0 t1∧Ok 52 [] a5∧At (Ty.nat i) t1 a5 (.tmp 7)∧At (Ty.lstc 3 Qd sl) t1 a5 (.tmp 0)∧At (Ty.int bells) t1 a5 (.tmp 1)∧At (Ty.int rows) t1 a5 (.tmp 2)∧(i ≤ sl.length)∧(∀ j,j < i → ¬ KA bells rows (sl.getD j Sl0))∧n1 = sl.length - i) (sl.length - (0)) ?_ ?_
  ·
   exact ⟨s4,0,rfl,(F2.step0 D4.stp),ok4,(cJ (D4.m 0 rfl)),(D4.k (D2.k q1)),(D4.k (D2.k (D1.k p1))),(D4.k (D2.k (D1.k p2))),by omega,fun j hj=>absurd hj (Nat.not_lt_zero j),rfl⟩
  ·
   rintro n2 a6 w2 ⟨t2,i,rfl,F5,ok5,q13,q14,q15,q16,hi,ho,rfl⟩
   refine Ja (Ja ?_)
   refine gI a6 t2 ok5 (gM q13 (gM q14 (gS rfl (fun A B E G H d0=>rP (Jt Try.underlying27 (eI d0))) (gS rfl (fun A B E G H d0 d1=>rP (Jw (eI d0) (eI d1))) (gE ok5 fun a7 s5 ok6 D5=>?_)))));have F6:=F5.step0 D5.stp;have q17:=D5.k q13;have q18:=D5.k q14;refine tn ?_
   refine Jl (p:=(((i:Nat):Int) < (((List.length sl):Nat):Int))) (D5.m 3 rfl) (fun c2=>?_) (fun c2=>?_)
   ·
    refine Jf (tn (Ja (Je (Ja ?_))))
    refine gI a7 s5 ok6 (gM q18 (gM q17 (gT (Ty.ref [(Ty.int ((sl.getD i Sl0)).1),(Ty.int ((sl.getD i Sl0)).2.1),(Ty.int ((sl.getD i Sl0)).2.2)]) rfl (fun A B E G H d0 d1=>rP (Qa (i:=((i:Nat):Int)) Sl0 Try.underlying27 Try.inf46 (eI d0) (eI d1) oM oM dE (fun _=>rfl))) (gS rfl (fun A B E G H d0=>rP (KV Try.underlying46 Try.inf46 (eI d0))) (gR (Pr.ownp 61 [(Ty.int (0:Int)),(Ty.int (0:Int)),(Ty.int (0:Int))]) rfl (by intro A B E G H;exact rP (y_alloc Try.inf46 rfl (Kr (vs:=[.int .i64 0,.int .i64 0,.int .i64 0]) rfl))) (gE2 ok6 fun a8 s6 ok7 D6=>?_))))))
    obtain ⟨x1,hx1⟩:∃ x,a8.eval (.tmp 8) = x:=⟨_,rfl⟩
    have q27:At (Ty.val x1) s6 a8 (.tmp 8):=hx1
    have o1:=al2 (R:=(Pr.ownp 61 [(Ty.int (0:Int)),(Ty.int (0:Int)),(Ty.int (0:Int))])) hx1 (D6.done 4 dE)
    refine Xh (L:=[61]) (R:=(fun _ τ=>OwnP τ 61 x1 [(Ty.int ((sl.getD i Sl0)).1),(Ty.int ((sl.getD i Sl0)).2.1),(Ty.int ((sl.getD i Sl0)).2.2)])) rfl rfl (YldM.toL (QZ Try.inf46 dE o1 q27 rfl (D6.m 3 rfl) (by intro U hU;simp only [List.mem_cons,List.not_mem_nil,or_false] at hU;rcases hU with rfl | rfl | rfl <;> first | exact Jq rfl | exact Qg | exact one_flt | exact one_cx | exact one_ref))) (fun v1 s7 hs1 r1=>?_)
    have q28:=kpL hs1 dE rfl (D6.k q17);have q29:=kpL hs1 dE rfl (D6.k q18);have q30:=kpL hs1 dE rfl (D6.k (D5.k q15));have q31:=kpL hs1 dE rfl (D6.k (D5.k q16));have q32:=kpL hs1 dE rfl q27
    have o2:OwnP s7 61 x1 [(Ty.int ((sl.getD i Sl0)).1),(Ty.int ((sl.getD i Sl0)).2.1),(Ty.int ((sl.getD i Sl0)).2.2)]:=r1
    clear r1;refine Jh (tn (Ja ?_))
    refine gI a8 s7 ok7 (gT (Ty.val (JZ x1 0)) rfl (fun A B E G H=>rP (Jn Try.fld46_0 Try.inf3 dE (OwnP.k0 o2 E) (kp (H 8 rfl) E q32))) (gS rfl (fun A B E G H d0=>rP (Jo Try.underlying3 rfl (OwnP.k0 o2 E) (eI d0) rfl)) (gS rfl (fun A B E G H d0=>rP (Jw (eI d0) rfl)) (gS rfl (fun A B E G H d0=>rP (Jc (eI d0))) (gT (Ty.grd ((decide (((sl.getD i Sl0)).1 < (0:Int))) = false) (Ty.val (JZ x1 0))) rfl (fun A B E G H d0=>guf G (eI d0) fun hg hp=>Jn Try.fld46_0 Try.inf3 dE (OwnP.k0 o2 E) (kp (H 8 rfl) E q32)) (gS rfl (fun A B E G H d0 d1=>gu G (eI d1) fun hg=>Jo Try.underlying3 rfl (OwnP.k0 o2 E) ((ef d0 rfl).1 hg) rfl) (gS rfl (fun A B E G H d0=>gu G (eI d0) fun hg=>Jc (kp (H 2 rfl) E q31)) (gS rfl (fun A B E G H d0 d1 d2=>gu G (eI d2) fun hg=>KE ((ef d0 rfl).1 hg) ((ef d1 rfl).1 hg)) (gS rfl (fun A B E G H d0 d1=>rP (Jk (eI d0) rfl (eI d1))) (gS rfl (fun A B E G H d0 d1=>rP (Jc (eI d0))) (gT (Ty.grd (((decide (((sl.getD i Sl0)).1 < (0:Int))) || (decide (rows < ((sl.getD i Sl0)).1))) = false) (Ty.val (JZ x1 1))) rfl (by intro A B E G H d0;refine Jd G rfl rfl dE (eI d0) (fun hg=>?_);obtain ⟨d1,d2⟩:=Xn hg;have d1:=Xp d1;have d2:=Xp d2;exact Jn Try.fld46_1 Try.inf3 dE (OwnP.k0 o2 E) (kp (H 8 rfl) E q32)) ?_)))))))))))
    refine gT (Ty.grd (((decide (((sl.getD i Sl0)).1 < (0:Int))) || (decide (rows < ((sl.getD i Sl0)).1))) = false) (Ty.int ((sl.getD i Sl0)).2.1)) rfl (by intro A B E G H d0 d1;refine Jd G rfl rfl dE (eI d1) (fun hg=>?_);obtain ⟨d3,d4⟩:=Xn hg;have d3:=Xp d3;have d4:=Xp d4;exact Jo Try.underlying3 rfl (OwnP.k0 o2 E) ((ef d0 rfl).1 hg) rfl) (gT (Ty.grd (((decide (((sl.getD i Sl0)).1 < (0:Int))) || (decide (rows < ((sl.getD i Sl0)).1))) = false) (Ty.bool (decide (((sl.getD i Sl0)).2.1 < (1:Int))))) rfl (by intro A B E G H d0 d1;refine Jd G rfl rfl dE (eI d1) (fun hg=>?_);obtain ⟨d5,d6⟩:=Xn hg;have d5:=Xp d5;have d6:=Xp d6;exact Jw ((ef d0 rfl).1 hg) rfl) (gS rfl (fun A B E G H d0 d1=>rP (Jk (eI d0) rfl (eI d1))) (gS rfl (fun A B E G H d0 d1=>rP (Jc (eI d0))) (gT (Ty.grd ((((decide (((sl.getD i Sl0)).1 < (0:Int))) || (decide (rows < ((sl.getD i Sl0)).1))) || (decide (((sl.getD i Sl0)).2.1 < (1:Int)))) = false) (Ty.val (JZ x1 1))) rfl (by intro A B E G H d0;refine Jd G rfl rfl dE (eI d0) (fun hg=>?_);obtain ⟨d7,d8⟩:=Xn hg;obtain ⟨d9,d10⟩:=Xn d7;have d9:=Xp d9;have d10:=Xp d10;have d8:=Xp d8;exact Jn Try.fld46_1 Try.inf3 dE (OwnP.k0 o2 E) (kp (H 8 rfl) E q32)) ?_))))
    refine gT (Ty.grd ((((decide (((sl.getD i Sl0)).1 < (0:Int))) || (decide (rows < ((sl.getD i Sl0)).1))) || (decide (((sl.getD i Sl0)).2.1 < (1:Int)))) = false) (Ty.int ((sl.getD i Sl0)).2.1)) rfl (by intro A B E G H d0 d1;refine Jd G rfl rfl dE (eI d1) (fun hg=>?_);obtain ⟨d11,d12⟩:=Xn hg;obtain ⟨d13,d14⟩:=Xn d11;have d13:=Xp d13;have d14:=Xp d14;have d12:=Xp d12;exact Jo Try.underlying3 rfl (OwnP.k0 o2 E) ((ef d0 rfl).1 hg) rfl) (gT (Ty.grd ((((decide (((sl.getD i Sl0)).1 < (0:Int))) || (decide (rows < ((sl.getD i Sl0)).1))) || (decide (((sl.getD i Sl0)).2.1 < (1:Int)))) = false) (Ty.int bells)) rfl (by intro A B E G H d0;refine Jd G rfl rfl dE (eI d0) (fun hg=>?_);obtain ⟨d15,d16⟩:=Xn hg;obtain ⟨d17,d18⟩:=Xn d15;have d17:=Xp d17;have d18:=Xp d18;have d16:=Xp d16;exact Jc (kp (H 1 rfl) E q30)) (gT (Ty.grd ((((decide (((sl.getD i Sl0)).1 < (0:Int))) || (decide (rows < ((sl.getD i Sl0)).1))) || (decide (((sl.getD i Sl0)).2.1 < (1:Int)))) = false) (Ty.bool (decide (bells ≤ ((sl.getD i Sl0)).2.1)))) rfl (by intro A B E G H d0 d1 d2;refine Jd G rfl rfl dE (eI d2) (fun hg=>?_);obtain ⟨d19,d20⟩:=Xn hg;obtain ⟨d21,d22⟩:=Xn d19;have d21:=Xp d21;have d22:=Xp d22;have d20:=Xp d20;exact Qv ((ef d0 rfl).1 hg) ((ef d1 rfl).1 hg)) (gS rfl (fun A B E G H d0 d1=>rP (Jk (eI d0) rfl (eI d1))) (gS rfl (fun A B E G H d0 d1=>rP (Jc (eI d0))) ?_))))
    refine gT (Ty.grd (((((decide (((sl.getD i Sl0)).1 < (0:Int))) || (decide (rows < ((sl.getD i Sl0)).1))) || (decide (((sl.getD i Sl0)).2.1 < (1:Int)))) || (decide (bells ≤ ((sl.getD i Sl0)).2.1))) = false) (Ty.val (JZ x1 2))) rfl (by intro A B E G H d0;refine Jd G rfl rfl dE (eI d0) (fun hg=>?_);obtain ⟨d23,d24⟩:=Xn hg;obtain ⟨d25,d26⟩:=Xn d23;obtain ⟨d27,d28⟩:=Xn d25;have d27:=Xp d27;have d28:=Xp d28;have d26:=Xp d26;have d24:=Xp d24;exact Jn Try.fld46_2 Try.inf3 dE (OwnP.k0 o2 E) (kp (H 8 rfl) E q32)) (gT (Ty.grd (((((decide (((sl.getD i Sl0)).1 < (0:Int))) || (decide (rows < ((sl.getD i Sl0)).1))) || (decide (((sl.getD i Sl0)).2.1 < (1:Int)))) || (decide (bells ≤ ((sl.getD i Sl0)).2.1))) = false) (Ty.int ((sl.getD i Sl0)).2.2)) rfl (by intro A B E G H d0 d1;refine Jd G rfl rfl dE (eI d1) (fun hg=>?_);obtain ⟨d29,d30⟩:=Xn hg;obtain ⟨d31,d32⟩:=Xn d29;obtain ⟨d33,d34⟩:=Xn d31;have d33:=Xp d33;have d34:=Xp d34;have d32:=Xp d32;have d30:=Xp d30;exact Jo Try.underlying3 rfl (OwnP.k0 o2 E) ((ef d0 rfl).1 hg) rfl) ?_)
    refine gT (Ty.grd (((((decide (((sl.getD i Sl0)).1 < (0:Int))) || (decide (rows < ((sl.getD i Sl0)).1))) || (decide (((sl.getD i Sl0)).2.1 < (1:Int)))) || (decide (bells ≤ ((sl.getD i Sl0)).2.1))) = false) (Ty.bool (decide (((sl.getD i Sl0)).2.2 < (1:Int))))) rfl (by intro A B E G H d0 d1;refine Jd G rfl rfl dE (eI d1) (fun hg=>?_);obtain ⟨d35,d36⟩:=Xn hg;obtain ⟨d37,d38⟩:=Xn d35;obtain ⟨d39,d40⟩:=Xn d37;have d39:=Xp d39;have d40:=Xp d40;have d38:=Xp d38;have d36:=Xp d36;exact Jw ((ef d0 rfl).1 hg) rfl) (gS rfl (fun A B E G H d0 d1=>rP (Jk (eI d0) rfl (eI d1))) (gS rfl (fun A B E G H d0 d1=>rP (Jc (eI d0))) (gT (Ty.grd ((((((decide (((sl.getD i Sl0)).1 < (0:Int))) || (decide (rows < ((sl.getD i Sl0)).1))) || (decide (((sl.getD i Sl0)).2.1 < (1:Int)))) || (decide (bells ≤ ((sl.getD i Sl0)).2.1))) || (decide (((sl.getD i Sl0)).2.2 < (1:Int)))) = false) (Ty.val (JZ x1 2))) rfl (by intro A B E G H d0;refine Jd G rfl rfl dE (eI d0) (fun hg=>?_);obtain ⟨d41,d42⟩:=Xn hg;obtain ⟨d43,d44⟩:=Xn d41;obtain ⟨d45,d46⟩:=Xn d43;obtain ⟨d47,d48⟩:=Xn d45;have d47:=Xp d47;have d48:=Xp d48;have d46:=Xp d46;have d44:=Xp d44;have d42:=Xp d42;exact Jn Try.fld46_2 Try.inf3 dE (OwnP.k0 o2 E) (kp (H 8 rfl) E q32)) ?_)))
    refine gT (Ty.grd ((((((decide (((sl.getD i Sl0)).1 < (0:Int))) || (decide (rows < ((sl.getD i Sl0)).1))) || (decide (((sl.getD i Sl0)).2.1 < (1:Int)))) || (decide (bells ≤ ((sl.getD i Sl0)).2.1))) || (decide (((sl.getD i Sl0)).2.2 < (1:Int)))) = false) (Ty.int ((sl.getD i Sl0)).2.2)) rfl (by intro A B E G H d0 d1;refine Jd G rfl rfl dE (eI d1) (fun hg=>?_);obtain ⟨d49,d50⟩:=Xn hg;obtain ⟨d51,d52⟩:=Xn d49;obtain ⟨d53,d54⟩:=Xn d51;obtain ⟨d55,d56⟩:=Xn d53;have d55:=Xp d55;have d56:=Xp d56;have d54:=Xp d54;have d52:=Xp d52;have d50:=Xp d50;exact Jo Try.underlying3 rfl (OwnP.k0 o2 E) ((ef d0 rfl).1 hg) rfl) (gT (Ty.grd ((((((decide (((sl.getD i Sl0)).1 < (0:Int))) || (decide (rows < ((sl.getD i Sl0)).1))) || (decide (((sl.getD i Sl0)).2.1 < (1:Int)))) || (decide (bells ≤ ((sl.getD i Sl0)).2.1))) || (decide (((sl.getD i Sl0)).2.2 < (1:Int)))) = false) (Ty.bool (decide ((20000:Int) < ((sl.getD i Sl0)).2.2)))) rfl (by intro A B E G H d0 d1;refine Jd G rfl rfl dE (eI d1) (fun hg=>?_);obtain ⟨d57,d58⟩:=Xn hg;obtain ⟨d59,d60⟩:=Xn d57;obtain ⟨d61,d62⟩:=Xn d59;obtain ⟨d63,d64⟩:=Xn d61;have d63:=Xp d63;have d64:=Xp d64;have d62:=Xp d62;have d60:=Xp d60;have d58:=Xp d58;exact KE ((ef d0 rfl).1 hg) rfl) (gS rfl (fun A B E G H d0 d1=>rP (Jk (eI d0) rfl (eI d1))) (gE ok7 fun a9 s8 ok8 D7=>?_)));have F9:=((F6.step0 D6.stp).sl hs1).step0 D7.stp;have o3:=OwnP.k0 o2 D7.stp;refine tn ?_
    refine JR (D7.m 29 rfl) (fun c3=>?_) (fun c3=>?_)
    ·
     have hb_:KA bells rows (sl.getD i Sl0):=(by simp only [Bool.or_eq_true,decide_eq_true_eq] at c3;unfold KA;omega)
     refine Ja ?_
     refine gI a9 s8 ok8 (gC (Ty.int (12:Int)) (gE ok8 fun a10 s9 ok9 D8=>?_));refine tn (Jj (br (tr (tr (br (tr ?_))))))
     exact JJ rfl ok9 (F9.step0 D8.stp) (cvi (by (exact (slipsMay_bad oM oM hb_).symm)) (D8.m 0 rfl))
    ·
     obtain ⟨d65,d66⟩:=Xn c3
     obtain ⟨d67,d68⟩:=Xn d65
     obtain ⟨d69,d70⟩:=Xn d67
     obtain ⟨d71,d72⟩:=Xn d69
     obtain ⟨d73,d74⟩:=Xn d71
     replace d73:=Xp d73
     replace d74:=Xp d74
     replace d72:=Xp d72
     replace d70:=Xp d70
     replace d68:=Xp d68
     replace d66:=Xp d66
     have hb_:¬ KA bells rows (sl.getD i Sl0):=(by simp only [Bool.or_eq_false_iff,decide_eq_false_iff_not] at c3;unfold KA;omega)
     refine Jf (bn (tn ?_))
     refine gI a9 s8 ok8 (gM (D7.k q28) (gT (Ty.nat (i + 1)) rfl (fun A B E G H d0=>rP ((JF (eI d0) rfl wX).mono (fun τ _ h=>cN (σ:=τ) h))) (gB 0 (gE ok8 fun a11 s10 ok10 D9=>?_))))
     exact tn ⟨sl.length - ((i+1)),by omega,s10,(i+1),rfl,(F9.step0 D9.stp),ok10,(cJ (D9.m 2 rfl)),(D9.k (D7.k q29)),(D9.k (D7.k q30)),(D9.k (D7.k q31)),by omega,fun j hj=>by (by_cases e:j = i;subst e;exact hb_;exact ho j oM),rfl⟩
   ·
    refine Jv (tx (tx (bx (tn (Ja ?_)))))
    refine gI a7 s5 ok6 (gC (Ty.int (0:Int)) (gE ok6 fun a12 s11 ok11 D10=>?_));refine tn (Jj ?_)
    exact JJ rfl ok11 (F6.step0 D10.stp) (cvi (by (exact (slipsMay_no oM (fun j hj=>ho j oM)).symm)) (D10.m 0 rfl))
set_option maxHeartbeats 4000000 in
set_option maxRecDepth 100000 in
theorem bMay_fn (sl:List Qz) (bells:Int) (rows:Int) (σ:GW)  (v0 v1 v2:Value) (hv0:Ty.has (Ty.lstc 3 Qd sl) σ v0) (hv1:Ty.has (Ty.int bells) σ v1) (hv2:Ty.has (Ty.int rows) σ v2)   :
    FnC J 8 #[v0,v1,v2] σ (Ty.int (KO sl bells rows)):=by
 refine JT Try.func8 rfl Try.ntmps8 (Xr rfl) (fun s0 a0 hle F0 ok0 hargs=>?_)
 have p0:=pA hle (hargs 0 _ rfl) hv0
 have b1:=JS p0
 have p1:=pA hle (hargs 1 _ rfl) hv1
 have p2:=pA hle (hargs 2 _ rfl) hv2
 clear hargs;refine Ja ?_
 refine gI a0 s0 ok0 (gC (Ty.int (0:Int)) (gE ok0 fun a1 s1 ok1 D1=>?_));have q1:=D1.k p0;refine tn (Ja (Ja ?_))
 refine gI a1 s1 ok1 (gM q1 (gS rfl (fun A B E G H d0=>rP (Jt Try.underlying27 (eI d0))) (gS rfl (fun A B E G H d0=>rP (KE (eI d0) rfl)) (gE ok1 fun a2 s2 ok2 D2=>?_))));have F2:=(F0.step0 D1.stp).step0 D2.stp;refine tn ?_
 refine Jl (p:=((20:Int) < (((List.length sl):Nat):Int))) (D2.m 2 rfl) (fun c1=>?_) (fun c1=>?_)
 ·
  refine Ja ?_
  refine gI a2 s2 ok2 (gC (Ty.int (1:Int)) (gE ok2 fun a3 s3 ok3 D3=>?_));refine tn (Jj (tr ?_))
  exact JJ rfl ok3 (F2.step0 D3.stp) (cvi (by (exact (slipsMay_cnt oM).symm)) (D3.m 0 rfl))
 ·
  refine Jf (tn (Ja (Ja ?_)))
  refine gI a2 s2 ok2 (gM (D2.k q1) (gS rfl (fun A B E G H d0=>rP (Jt Try.underlying27 (eI d0))) (gT (Ty.int (0:Int)) rfl (fun A B E G H=>rP (Jc rfl)) (gE ok2 fun a4 s4 ok4 D4=>?_))));refine tn (Je ?_)
  refine Kf (fun n1 a5 w1=>∃ (t1:GW) (i:Nat),t1.w = w1∧FromL [] s0 t1∧Ok 49 [] a5∧At (Ty.nat i) t1 a5 (.tmp 14)∧At (Ty.int bells) t1 a5 (.tmp 1)∧At (Ty.int rows) t1 a5 (.tmp 2)∧At (Ty.lstc 3 Qd sl) t1 a5 (.tmp 12)∧At (Ty.nat (List.length sl)) t1 a5 (.tmp 13)∧(i ≤ sl.length)∧(∀ j,j < i → ¬ KA bells rows (sl.getD j Sl0))∧n1 = sl.length - i) (sl.length - (0)) ?_ ?_
  ·
   exact ⟨s4,0,rfl,(F2.step0 D4.stp),ok4,(cJ (D4.m 2 rfl)),(D4.k (D2.k (D1.k p1))),(D4.k (D2.k (D1.k p2))),(D4.m 0 rfl),(D4.m 1 rfl),by omega,fun j hj=>absurd hj (Nat.not_lt_zero j),rfl⟩
  ·
   rintro n2 a6 w2 ⟨t2,i,rfl,F5,ok5,q14,q15,q16,q17,q18,hi,ho,rfl⟩
   refine Ja ?_
   refine gI a6 t2 ok5 (gS rfl (fun A B E G H=>rP (Jw (kp (H 14 rfl) E q14) (kp (H 13 rfl) E q18))) (gE ok5 fun a7 s5 ok6 D5=>?_));have F6:=F5.step0 D5.stp;have q19:=D5.k q14;have q22:=D5.k q17;refine tn (Ja ?_)
   refine Jl (p:=(((i:Nat):Int) < (((List.length sl):Nat):Int))) (D5.m 0 rfl) (fun c2=>?_) (fun c2=>?_)
   ·
    refine Jf (tn (Ja (Je (Ja ?_))))
    refine gI a7 s5 ok6 (gT (Ty.ref [(Ty.int ((sl.getD i Sl0)).1),(Ty.int ((sl.getD i Sl0)).2.1),(Ty.int ((sl.getD i Sl0)).2.2)]) rfl (fun A B E G H=>rP (Qa (i:=((i:Nat):Int)) Sl0 Try.underlying27 Try.inf46 (kp (H 12 rfl) E q22) (kp (H 14 rfl) E q19) oM oM dE (fun _=>rfl))) (gS rfl (fun A B E G H d0=>rP (KV Try.underlying46 Try.inf46 (eI d0))) (gR (Pr.ownp 61 [(Ty.int (0:Int)),(Ty.int (0:Int)),(Ty.int (0:Int))]) rfl (by intro A B E G H;exact rP (y_alloc Try.inf46 rfl (Kr (vs:=[.int .i64 0,.int .i64 0,.int .i64 0]) rfl))) (gE2 ok6 fun a8 s6 ok7 D6=>?_))))
    obtain ⟨x1,hx1⟩:∃ x,a8.eval (.tmp 8) = x:=⟨_,rfl⟩
    have q31:At (Ty.val x1) s6 a8 (.tmp 8):=hx1
    have o1:=al2 (R:=(Pr.ownp 61 [(Ty.int (0:Int)),(Ty.int (0:Int)),(Ty.int (0:Int))])) hx1 (D6.done 2 dE)
    refine Xh (L:=[61]) (R:=(fun _ τ=>OwnP τ 61 x1 [(Ty.int ((sl.getD i Sl0)).1),(Ty.int ((sl.getD i Sl0)).2.1),(Ty.int ((sl.getD i Sl0)).2.2)])) rfl rfl (YldM.toL (QZ Try.inf46 dE o1 q31 rfl (D6.m 1 rfl) (by intro U hU;simp only [List.mem_cons,List.not_mem_nil,or_false] at hU;rcases hU with rfl | rfl | rfl <;> first | exact Jq rfl | exact Qg | exact one_flt | exact one_cx | exact one_ref))) (fun v1 s7 hs1 r1=>?_)
    have q32:=kpL hs1 dE rfl (D6.k q19);have q33:=kpL hs1 dE rfl (D6.k (D5.k q15));have q34:=kpL hs1 dE rfl (D6.k (D5.k q16));have q35:=kpL hs1 dE rfl (D6.k q22);have q36:=kpL hs1 dE rfl (D6.k (D5.k q18));have q37:=kpL hs1 dE rfl q31
    have o2:OwnP s7 61 x1 [(Ty.int ((sl.getD i Sl0)).1),(Ty.int ((sl.getD i Sl0)).2.1),(Ty.int ((sl.getD i Sl0)).2.2)]:=r1
    clear r1;refine Jh (tn (Ja ?_))
    refine gI a8 s7 ok7 (gT (Ty.val (JZ x1 0)) rfl (fun A B E G H=>rP (Jn Try.fld46_0 Try.inf3 dE (OwnP.k0 o2 E) (kp (H 8 rfl) E q37))) (gS rfl (fun A B E G H d0=>rP (Jo Try.underlying3 rfl (OwnP.k0 o2 E) (eI d0) rfl)) (gS rfl (fun A B E G H d0=>rP (Jw (eI d0) rfl)) (gS rfl (fun A B E G H d0=>rP (Jc (eI d0))) (gT (Ty.grd ((decide (((sl.getD i Sl0)).1 < (0:Int))) = false) (Ty.val (JZ x1 0))) rfl (fun A B E G H d0=>guf G (eI d0) fun hg hp=>Jn Try.fld46_0 Try.inf3 dE (OwnP.k0 o2 E) (kp (H 8 rfl) E q37)) (gS rfl (fun A B E G H d0 d1=>gu G (eI d1) fun hg=>Jo Try.underlying3 rfl (OwnP.k0 o2 E) ((ef d0 rfl).1 hg) rfl) (gS rfl (fun A B E G H d0=>gu G (eI d0) fun hg=>Jc (kp (H 2 rfl) E q34)) (gS rfl (fun A B E G H d0 d1 d2=>gu G (eI d2) fun hg=>KE ((ef d0 rfl).1 hg) ((ef d1 rfl).1 hg)) (gS rfl (fun A B E G H d0 d1=>rP (Jk (eI d0) rfl (eI d1))) (gS rfl (fun A B E G H d0 d1=>rP (Jc (eI d0))) (gT (Ty.grd (((decide (((sl.getD i Sl0)).1 < (0:Int))) || (decide (rows < ((sl.getD i Sl0)).1))) = false) (Ty.val (JZ x1 1))) rfl (by intro A B E G H d0;refine Jd G rfl rfl dE (eI d0) (fun hg=>?_);obtain ⟨d1,d2⟩:=Xn hg;have d1:=Xp d1;have d2:=Xp d2;exact Jn Try.fld46_1 Try.inf3 dE (OwnP.k0 o2 E) (kp (H 8 rfl) E q37)) ?_)))))))))))
    refine gT (Ty.grd (((decide (((sl.getD i Sl0)).1 < (0:Int))) || (decide (rows < ((sl.getD i Sl0)).1))) = false) (Ty.int ((sl.getD i Sl0)).2.1)) rfl (by intro A B E G H d0 d1;refine Jd G rfl rfl dE (eI d1) (fun hg=>?_);obtain ⟨d3,d4⟩:=Xn hg;have d3:=Xp d3;have d4:=Xp d4;exact Jo Try.underlying3 rfl (OwnP.k0 o2 E) ((ef d0 rfl).1 hg) rfl) (gT (Ty.grd (((decide (((sl.getD i Sl0)).1 < (0:Int))) || (decide (rows < ((sl.getD i Sl0)).1))) = false) (Ty.bool (decide (((sl.getD i Sl0)).2.1 < (1:Int))))) rfl (by intro A B E G H d0 d1;refine Jd G rfl rfl dE (eI d1) (fun hg=>?_);obtain ⟨d5,d6⟩:=Xn hg;have d5:=Xp d5;have d6:=Xp d6;exact Jw ((ef d0 rfl).1 hg) rfl) (gS rfl (fun A B E G H d0 d1=>rP (Jk (eI d0) rfl (eI d1))) (gS rfl (fun A B E G H d0 d1=>rP (Jc (eI d0))) (gT (Ty.grd ((((decide (((sl.getD i Sl0)).1 < (0:Int))) || (decide (rows < ((sl.getD i Sl0)).1))) || (decide (((sl.getD i Sl0)).2.1 < (1:Int)))) = false) (Ty.val (JZ x1 1))) rfl (by intro A B E G H d0;refine Jd G rfl rfl dE (eI d0) (fun hg=>?_);obtain ⟨d7,d8⟩:=Xn hg;obtain ⟨d9,d10⟩:=Xn d7;have d9:=Xp d9;have d10:=Xp d10;have d8:=Xp d8;exact Jn Try.fld46_1 Try.inf3 dE (OwnP.k0 o2 E) (kp (H 8 rfl) E q37)) ?_))))
    refine gT (Ty.grd ((((decide (((sl.getD i Sl0)).1 < (0:Int))) || (decide (rows < ((sl.getD i Sl0)).1))) || (decide (((sl.getD i Sl0)).2.1 < (1:Int)))) = false) (Ty.int ((sl.getD i Sl0)).2.1)) rfl (by intro A B E G H d0 d1;refine Jd G rfl rfl dE (eI d1) (fun hg=>?_);obtain ⟨d11,d12⟩:=Xn hg;obtain ⟨d13,d14⟩:=Xn d11;have d13:=Xp d13;have d14:=Xp d14;have d12:=Xp d12;exact Jo Try.underlying3 rfl (OwnP.k0 o2 E) ((ef d0 rfl).1 hg) rfl) (gT (Ty.grd ((((decide (((sl.getD i Sl0)).1 < (0:Int))) || (decide (rows < ((sl.getD i Sl0)).1))) || (decide (((sl.getD i Sl0)).2.1 < (1:Int)))) = false) (Ty.int bells)) rfl (by intro A B E G H d0;refine Jd G rfl rfl dE (eI d0) (fun hg=>?_);obtain ⟨d15,d16⟩:=Xn hg;obtain ⟨d17,d18⟩:=Xn d15;have d17:=Xp d17;have d18:=Xp d18;have d16:=Xp d16;exact Jc (kp (H 1 rfl) E q33)) (gT (Ty.grd ((((decide (((sl.getD i Sl0)).1 < (0:Int))) || (decide (rows < ((sl.getD i Sl0)).1))) || (decide (((sl.getD i Sl0)).2.1 < (1:Int)))) = false) (Ty.bool (decide (bells ≤ ((sl.getD i Sl0)).2.1)))) rfl (by intro A B E G H d0 d1 d2;refine Jd G rfl rfl dE (eI d2) (fun hg=>?_);obtain ⟨d19,d20⟩:=Xn hg;obtain ⟨d21,d22⟩:=Xn d19;have d21:=Xp d21;have d22:=Xp d22;have d20:=Xp d20;exact Qv ((ef d0 rfl).1 hg) ((ef d1 rfl).1 hg)) (gS rfl (fun A B E G H d0 d1=>rP (Jk (eI d0) rfl (eI d1))) (gS rfl (fun A B E G H d0 d1=>rP (Jc (eI d0))) ?_))))
    refine gT (Ty.grd (((((decide (((sl.getD i Sl0)).1 < (0:Int))) || (decide (rows < ((sl.getD i Sl0)).1))) || (decide (((sl.getD i Sl0)).2.1 < (1:Int)))) || (decide (bells ≤ ((sl.getD i Sl0)).2.1))) = false) (Ty.val (JZ x1 2))) rfl (by intro A B E G H d0;refine Jd G rfl rfl dE (eI d0) (fun hg=>?_);obtain ⟨d23,d24⟩:=Xn hg;obtain ⟨d25,d26⟩:=Xn d23;obtain ⟨d27,d28⟩:=Xn d25;have d27:=Xp d27;have d28:=Xp d28;have d26:=Xp d26;have d24:=Xp d24;exact Jn Try.fld46_2 Try.inf3 dE (OwnP.k0 o2 E) (kp (H 8 rfl) E q37)) (gT (Ty.grd (((((decide (((sl.getD i Sl0)).1 < (0:Int))) || (decide (rows < ((sl.getD i Sl0)).1))) || (decide (((sl.getD i Sl0)).2.1 < (1:Int)))) || (decide (bells ≤ ((sl.getD i Sl0)).2.1))) = false) (Ty.int ((sl.getD i Sl0)).2.2)) rfl (by intro A B E G H d0 d1;refine Jd G rfl rfl dE (eI d1) (fun hg=>?_);obtain ⟨d29,d30⟩:=Xn hg;obtain ⟨d31,d32⟩:=Xn d29;obtain ⟨d33,d34⟩:=Xn d31;have d33:=Xp d33;have d34:=Xp d34;have d32:=Xp d32;have d30:=Xp d30;exact Jo Try.underlying3 rfl (OwnP.k0 o2 E) ((ef d0 rfl).1 hg) rfl) ?_)
    refine gT (Ty.grd (((((decide (((sl.getD i Sl0)).1 < (0:Int))) || (decide (rows < ((sl.getD i Sl0)).1))) || (decide (((sl.getD i Sl0)).2.1 < (1:Int)))) || (decide (bells ≤ ((sl.getD i Sl0)).2.1))) = false) (Ty.bool (decide (((sl.getD i Sl0)).2.2 < (1:Int))))) rfl (by intro A B E G H d0 d1;refine Jd G rfl rfl dE (eI d1) (fun hg=>?_);obtain ⟨d35,d36⟩:=Xn hg;obtain ⟨d37,d38⟩:=Xn d35;obtain ⟨d39,d40⟩:=Xn d37;have d39:=Xp d39;have d40:=Xp d40;have d38:=Xp d38;have d36:=Xp d36;exact Jw ((ef d0 rfl).1 hg) rfl) (gS rfl (fun A B E G H d0 d1=>rP (Jk (eI d0) rfl (eI d1))) (gS rfl (fun A B E G H d0 d1=>rP (Jc (eI d0))) (gT (Ty.grd ((((((decide (((sl.getD i Sl0)).1 < (0:Int))) || (decide (rows < ((sl.getD i Sl0)).1))) || (decide (((sl.getD i Sl0)).2.1 < (1:Int)))) || (decide (bells ≤ ((sl.getD i Sl0)).2.1))) || (decide (((sl.getD i Sl0)).2.2 < (1:Int)))) = false) (Ty.val (JZ x1 2))) rfl (by intro A B E G H d0;refine Jd G rfl rfl dE (eI d0) (fun hg=>?_);obtain ⟨d41,d42⟩:=Xn hg;obtain ⟨d43,d44⟩:=Xn d41;obtain ⟨d45,d46⟩:=Xn d43;obtain ⟨d47,d48⟩:=Xn d45;have d47:=Xp d47;have d48:=Xp d48;have d46:=Xp d46;have d44:=Xp d44;have d42:=Xp d42;exact Jn Try.fld46_2 Try.inf3 dE (OwnP.k0 o2 E) (kp (H 8 rfl) E q37)) ?_)))
    refine gT (Ty.grd ((((((decide (((sl.getD i Sl0)).1 < (0:Int))) || (decide (rows < ((sl.getD i Sl0)).1))) || (decide (((sl.getD i Sl0)).2.1 < (1:Int)))) || (decide (bells ≤ ((sl.getD i Sl0)).2.1))) || (decide (((sl.getD i Sl0)).2.2 < (1:Int)))) = false) (Ty.int ((sl.getD i Sl0)).2.2)) rfl (by intro A B E G H d0 d1;refine Jd G rfl rfl dE (eI d1) (fun hg=>?_);obtain ⟨d49,d50⟩:=Xn hg;obtain ⟨d51,d52⟩:=Xn d49;obtain ⟨d53,d54⟩:=Xn d51;obtain ⟨d55,d56⟩:=Xn d53;have d55:=Xp d55;have d56:=Xp d56;have d54:=Xp d54;have d52:=Xp d52;have d50:=Xp d50;exact Jo Try.underlying3 rfl (OwnP.k0 o2 E) ((ef d0 rfl).1 hg) rfl) (gT (Ty.grd ((((((decide (((sl.getD i Sl0)).1 < (0:Int))) || (decide (rows < ((sl.getD i Sl0)).1))) || (decide (((sl.getD i Sl0)).2.1 < (1:Int)))) || (decide (bells ≤ ((sl.getD i Sl0)).2.1))) || (decide (((sl.getD i Sl0)).2.2 < (1:Int)))) = false) (Ty.bool (decide ((20000:Int) < ((sl.getD i Sl0)).2.2)))) rfl (by intro A B E G H d0 d1;refine Jd G rfl rfl dE (eI d1) (fun hg=>?_);obtain ⟨d57,d58⟩:=Xn hg;obtain ⟨d59,d60⟩:=Xn d57;obtain ⟨d61,d62⟩:=Xn d59;obtain ⟨d63,d64⟩:=Xn d61;have d63:=Xp d63;have d64:=Xp d64;have d62:=Xp d62;have d60:=Xp d60;have d58:=Xp d58;exact KE ((ef d0 rfl).1 hg) rfl) (gS rfl (fun A B E G H d0 d1=>rP (Jk (eI d0) rfl (eI d1))) (gE ok7 fun a9 s8 ok8 D7=>?_)));have F9:=((F6.step0 D6.stp).sl hs1).step0 D7.stp;have o3:=OwnP.k0 o2 D7.stp;refine tn ?_
    refine JR (D7.m 29 rfl) (fun c3=>?_) (fun c3=>?_)
    ·
     have hb_:KA bells rows (sl.getD i Sl0):=(by simp only [Bool.or_eq_true,decide_eq_true_eq] at c3;unfold KA;omega)
     refine Ja ?_
     refine gI a9 s8 ok8 (gC (Ty.int (12:Int)) (gE ok8 fun a10 s9 ok9 D8=>?_));refine tn (Jj (br (tr (tr (br (tr ?_))))))
     exact JJ rfl ok9 (F9.step0 D8.stp) (cvi (by (exact (slipsMay_bad oM oM hb_).symm)) (D8.m 0 rfl))
    ·
     obtain ⟨d65,d66⟩:=Xn c3
     obtain ⟨d67,d68⟩:=Xn d65
     obtain ⟨d69,d70⟩:=Xn d67
     obtain ⟨d71,d72⟩:=Xn d69
     obtain ⟨d73,d74⟩:=Xn d71
     replace d73:=Xp d73
     replace d74:=Xp d74
     replace d72:=Xp d72
     replace d70:=Xp d70
     replace d68:=Xp d68
     replace d66:=Xp d66
     have hb_:¬ KA bells rows (sl.getD i Sl0):=(by simp only [Bool.or_eq_false_iff,decide_eq_false_iff_not] at c3;unfold KA;omega)
     refine Jf (bn (tn ?_))
     refine gI a9 s8 ok8 (gT (Ty.nat (i + 1)) rfl (fun A B E G H=>rP ((JF (kp (H 14 rfl) E (D7.k q32)) rfl wX).mono (fun τ _ h=>cN (σ:=τ) h))) (gS rfl (fun A B E G H d0=>rP (Jc (eI d0))) (gE ok8 fun a11 s10 ok10 D9=>?_)))
     exact tn ⟨sl.length - ((i+1)),by omega,s10,(i+1),rfl,(F9.step0 D9.stp),ok10,(cJ (D9.m 1 rfl)),(D9.k (D7.k q33)),(D9.k (D7.k q34)),(D9.k (D7.k q35)),(D9.k (D7.k q36)),by omega,fun j hj=>by (by_cases e:j = i;subst e;exact hb_;exact ho j oM),rfl⟩
   ·
    refine Jv (tx (tx (bx (tn (Ja ?_)))))
    refine gI a7 s5 ok6 (gC (Ty.int (0:Int)) (gE ok6 fun a12 s11 ok11 D10=>?_));refine tn (Jj ?_)
    exact JJ rfl ok11 (F6.step0 D10.stp) (cvi (by (exact (slipsMay_no oM (fun j hj=>ho j oM)).symm)) (D10.m 0 rfl))
theorem Try.inf68:Info Try.prog 68 (.pointer none) 1 8:=by unfold Info;kernel_rfl
theorem Try.fld106_0:KI Try.prog 106 0 = some (3,0):=by kernel_rfl
theorem Try.fld106_1:KI Try.prog 106 1 = some (3,1):=by kernel_rfl
set_option maxHeartbeats 4000000 in
set_option maxRecDepth 100000 in
theorem listen_fn [Go.ConcR.Payload] {c:Co} {W:World} {Post:Value → World → Prop} {Z:UInt8 → Obj} (ch:List Ch) (t:Nat) (rs:Value) (σ:GW) (hlow:Low [40,999] σ) (v0 v1 v2:Value) (hv0:Ty.has (Ty.val rs) σ v0) (hv1:Ty.has (Ty.val (chv c.heard)) σ v1) (hv2:Ty.has (Ty.nat t) σ v2) (ho_rs:Own σ 40 68 1 rs (List.length (JC ch)) (List.map Ty.val (JC ch))) (ho_PL:PlM c (.goes t 0) ch σ) (hn:ch.length = c.n) (hn0:0 < c.n) (hn1:c.n < 1000000) (hP:PlOk c) (hzs:c.zs = .agg #[.int .i64 0,.int .i64 0]) (ht:t < 4611686018427387904) :
    FnL (cj Try.prog c W Post Z) 30 #[v0,v1,v2] σ [40,999] (fun v τ=>∃ (row:List Int),∃ (r:Value),(Ty.has (Ty.val r) τ v)∧(Own τ 40 68 1 rs (List.length (JC ch)) (List.map Ty.val (JC ch)))∧(Own τ 41 3 1 r (List.length row) (List.map Ty.int row))∧(PlM c (c.nRow (t + 1)) ch τ)∧(RowAt c t row)):=by
 have hpl_:=ptrs_len ch
 refine fn_introL hlow Try.func30 rfl Try.ntmps30 (Xr rfl) (fun a0 F0 ok0 hargs=>?_)
 have p0:=pB (hargs 0 _ rfl) hv0
 have p1:=pB (hargs 1 _ rfl) hv1
 have p2:=pB (hargs 2 _ rfl) hv2
 clear hargs;refine Ja ?_
 refine gI a0 σ ok0 (gC (Ty.val (Value.slice none 0 0)) (gE ok0 fun a1 s1 ok1 D1=>?_));have q1:=D1.k p0;have o1:=Own.k0 ho_rs D1.stp;have o2:=PlM.k0 ho_PL D1.stp;refine tn (Ja (Ja ?_))
 refine gI a1 s1 ok1 (gM q1 (gT (Ty.nat (List.length (JC ch))) rfl (fun A B E G H d0=>rP (own_len Try.underlying54 (al (R:=(Pr.own 40 68 1 (List.length (JC ch)) (List.map Ty.val (JC ch)))) (eI d0) (Own.k0 o1 E)))) (gT (Ty.int (0:Int)) rfl (fun A B E G H=>rP (Jc rfl)) (gE ok1 fun a2 s2 ok2 D2=>?_))));have o3:=Own.k0 o1 D2.stp;have o4:=PlM.k0 o2 D2.stp;refine tn (Je ?_)
 refine Kf (fun n1 a3 w1=>∃ (t1:GW) (i:Nat),t1.w = w1∧FromL [40,999] σ t1∧Ok 40 [] a3∧At (Ty.nat i) t1 a3 (.tmp 13)∧At (Ty.val rs) t1 a3 (.tmp 0)∧At (Ty.val (chv c.heard)) t1 a3 (.tmp 1)∧At (Ty.nat t) t1 a3 (.tmp 2)∧At (Ty.val rs) t1 a3 (.tmp 11)∧At (Ty.nat (List.length (JC ch))) t1 a3 (.tmp 12)∧PlM c (c.nGoes t i) ch t1∧Own t1 40 68 1 rs (List.length (JC ch)) (List.map Ty.val (JC ch))∧(i ≤ c.n)∧n1 = c.n - i) (c.n - (0)) ?_ ?_
 ·
  exact ⟨s2,0,rfl,((F0.step0 D1.stp).step0 D2.stp),ok2,(cJ (D2.m 2 rfl)),(D2.k q1),(D2.k (D1.k p1)),(D2.k (D1.k p2)),(D2.m 0 rfl),(D2.m 1 rfl),(Qy (by exact (if_pos hn0).symm) rfl o4),o3,by omega,rfl⟩
 ·
  rintro n2 a4 w2 ⟨t2,i,rfl,F3,ok3,q10,q11,q12,q13,q14,q15,o5,o6,hi,rfl⟩
  refine Ja ?_
  refine gI a4 t2 ok3 (gS rfl (fun A B E G H=>rP (Jw (kp (H 13 rfl) E q10) (kp (H 12 rfl) E q15))) (gE ok3 fun a5 s3 ok4 D3=>?_));have F4:=F3.step0 D3.stp;have q16:=D3.k q10;have q17:=D3.k q11;have q18:=D3.k q12;have q20:=D3.k q14;have o7:=PlM.k0 o5 D3.stp;have o8:=Own.k0 o6 D3.stp;refine tn (Ja ?_)
  refine Jl (p:=(((i:Nat):Int) < (((List.length (JC ch)):Nat):Int))) (D3.m 0 rfl) (fun c1=>?_) (fun c1=>?_)
  ·
   obtain ⟨h,hh⟩:∃ h,ch[i]? = some h:=⟨_,List.getElem?_eq_getElem (show i < ch.length by omega)⟩
   refine Jf (tn (Ja (Je (Ja ?_))))
   refine gI a5 s3 ok4 (gT (Ty.val (JU rs i)) rfl (fun A B E G H=>rP (Kn (i:=((i:Nat):Int)) Try.underlying54 Try.inf68 (Own.k0 o8 E) (kp (H 11 rfl) E q20) (kp (H 13 rfl) E q16) oM oM)) (gS rfl (fun A B E G H d0=>rP (QT Try.underlying68 rfl (Own.k0 o8 E) (eI d0) (Ju Ty.val (JC ch) undef i oM))) (gB 0 (gE ok4 fun a6 s4 ok5 D4=>?_))));have q26:=D4.k (D3.k q13);have o9:=PlM.k0 o7 D4.stp;have o10:=Own.k0 o8 D4.stp
   have q30:At (Ty.val (Jg h.S 0)) s4 a6 (.tmp 8):=(cvt (by (rw [ptrs_at hh])) (D4.m 2 rfl))
   refine tn ?_
   have o11:PlM c (.goes t i) ch s4:=Qy (by exact if_pos oM) rfl o9
   refine regX (a:=a6) (σ:=s4) rfl 5 (fun i_=>List.getD [(Ty.pr (Ty.val (Jg h.S 0))),(Ty.pr (Ty.val (Jg h.S 0))),(Ty.pr (Ty.val (Jg h.S 3))),(Ty.pr (Ty.val (chv h.goes))),(Ty.pr (Ty.nat t))] i_ Pr.any) ok5 rfl dE rfl (by rfl) ⟨?_,?_,?_,?_,?_,trivial⟩ ?_
   · intro A B E G H;exact rP (Jc (kp (H 8 rfl) E q30))
   · intro A B E G H d0;exact rP (KS (eI d0))
   · intro A B E G H d0;exact rP (JY Try.fld71_3 Try.inf69 dE (eI d0) rfl)
   · intro A B E G H d0
     exact cj_ldS Try.underlying69 rfl (PlM.k0 o11 E) (eI d0) hh dE rfl
   · intro A B E G H;exact rP (Jc (kp (H 2 rfl) E q26))
   intro a7 s5 D5;have ok6:=D5.ok
   have o12:PlM c (.goes t i) ch s5:=PlM.k0 o11 D5.stp
   have o13:Own s5 40 68 1 rs (List.length (JC ch)) (List.map Ty.val (JC ch)):=Own.k0 o10 D5.stp
   refine xm_goes (j:=t) (r:=i) ok6 rfl (by intro e_ h_;cases h_ <;> decide) o12 hh (D5.m 3 rfl) (D5.m 4 rfl) ?_
   intro a8 t3 hs1 ho1 hst1 ok7 hu1 sm1;have F7:=((F4.step0 D4.stp).step0 D5.stp).step hs1 dE
   have q39:At (Ty.nat i) t3 a8 (.tmp 13):=kp9 hs1 (sm1 13 dE) (D5.k (D4.k q16))
   have q40:At (Ty.val rs) t3 a8 (.tmp 0):=kp9 hs1 (sm1 0 dE) (D5.k (D4.k q17))
   have q41:At (Ty.val (chv c.heard)) t3 a8 (.tmp 1):=kp9 hs1 (sm1 1 dE) (D5.k (D4.k q18))
   have q42:At (Ty.nat t) t3 a8 (.tmp 2):=kp9 hs1 (sm1 2 dE) (D5.k q26)
   have q43:At (Ty.val rs) t3 a8 (.tmp 11):=kp9 hs1 (sm1 11 dE) (D5.k (D4.k q20))
   have q44:At (Ty.nat (List.length (JC ch))) t3 a8 (.tmp 12):=kp9 hs1 (sm1 12 dE) (D5.k (D4.k (D3.k q15)))
   have o14:Own t3 40 68 1 rs (List.length (JC ch)) (List.map Ty.val (JC ch)):=Own.keepL o13 (hs1.toL (L:=[999]) (by simp)) dE dE
   have o15:PlM c (c.nGoes t (i + 1)) ch t3:=(o12).to hst1 ho1
   refine XT.fin ?_
   refine bn (tn ?_)
   refine gI a8 t3 ok7 (gT (Ty.nat (i + 1)) rfl (fun A B E G H=>rP ((JF (kp (H 13 rfl) E q39) rfl wX).mono (fun τ _ h=>cN (σ:=τ) h))) (gS rfl (fun A B E G H d0=>rP (Jc (eI d0))) (gE ok7 fun a9 s6 ok8 D6=>?_)));have o16:=Own.k0 o14 D6.stp;have o17:=PlM.k0 o15 D6.stp
   exact tn ⟨c.n - ((i+1)),by omega,s6,(i+1),rfl,(F7.step0 D6.stp),ok8,(cJ (D6.m 1 rfl)),(D6.k q40),(D6.k q41),(D6.k q42),(D6.k q43),(D6.k q44),(Qy (by rfl) rfl o17),o16,by omega,rfl⟩
  ·
   refine Jv (tx (tx (bx (tn (Ja ?_)))))
   refine gI a5 s3 ok4 (gM q17 (gT (Ty.nat (List.length (JC ch))) rfl (fun A B E G H d0=>rP (own_len Try.underlying54 (al (R:=(Pr.own 40 68 1 (List.length (JC ch)) (List.map Ty.val (JC ch)))) (eI d0) (Own.k0 o8 E)))) (gR (Pr.own 41 3 1 (List.length (JC ch)) (List.map Ty.int (List.replicate (List.length (JC ch)) 0))) rfl (by intro A B E G H d0 d1;have e1:=ed d0 rfl rfl rfl;exact rP ((y_make (k:=41) (T:=Ty.int 0) (n:=(List.length (JC ch))) Try.underlying26 Try.inf3 rfl (fun _=>rfl) e1 e1 oM oM).mono (fun _ _ h=>cvo (by simp) (by simp) h))) (gE2 ok4 fun a10 s7 ok9 D7=>?_))));have o18:=PlM.k0 o7 D7.stp;have o19:=Own.k0 o8 D7.stp
   obtain ⟨x1,hx1⟩:∃ x,a10.eval (.tmp 25) = x:=⟨_,rfl⟩
   have q53:At (Ty.val x1) s7 a10 (.tmp 25):=hx1
   have o20:=al2 (R:=(Pr.own 41 3 1 (List.length (JC ch)) (List.map Ty.int (List.replicate (List.length (JC ch)) 0)))) hx1 (D7.done 2 dE)
   refine tL ok9 (Yld.toL (y_as q53)) fun a11 s8 hs2 ok10 r1 sm2=>?_
   have o21:=PlM.keepL o18 hs2 dE dE;have o22:=Own.kl o19 hs2
   have q56:At (Ty.val x1) s8 a11 (.tmp 9):=r1
   clear r1;refine Jh (tn (Ja (Ja ?_)))
   refine gI a11 s8 ok10 (gM (kq hs2 sm2 0 (D7.k q17)) (gT (Ty.nat (List.length (JC ch))) rfl (fun A B E G H d0=>rP (own_len Try.underlying54 (al (R:=(Pr.own 40 68 1 (List.length (JC ch)) (List.map Ty.val (JC ch)))) (eI d0) (Own.k0 o22 E)))) (gT (Ty.int (0:Int)) rfl (fun A B E G H=>rP (Jc rfl)) (gE ok10 fun a12 s9 ok11 D8=>?_))));have o24:=PlM.k0 o21 D8.stp;have o25:=Own.k0 o22 D8.stp;have o26:=Own.k0 (Own.kl o20 hs2) D8.stp;refine tn (Je ?_)
   refine Kf (fun n3 a13 w3=>∃ (t4:GW) (hl:List Nat) (row:List Int) (x9_1:Value),t4.w = w3∧FromL [40,999] σ t4∧Ok 40 [] a13∧At (Ty.nat hl.length) t4 a13 (.tmp 28)∧At (Ty.val x9_1) t4 a13 (.tmp 9)∧At (Ty.val (chv c.heard)) t4 a13 (.tmp 1)∧At (Ty.nat (List.length (JC ch))) t4 a13 (.tmp 27)∧Own t4 41 3 1 x9_1 (List.length row) (List.map Ty.int row)∧PlM c (c.nListen t hl) ch t4∧Own t4 40 68 1 rs (List.length (JC ch)) (List.map Ty.val (JC ch))∧(LsI c t hl row)∧n3 = c.n - hl.length) (c.n - (([]:List Nat)).length) ?_ ?_
   ·
    exact ⟨s9,([]:List Nat),(List.replicate c.n (0:Int)),x1,rfl,(((F4.step0 D7.stp).sl hs2).step0 D8.stp),ok11,(cJ (D8.m 2 rfl)),(D8.k q56),(D8.k (kq hs2 sm2 1 (D7.k q18))),(D8.m 1 rfl),(cvo (by (simp [hpl_,hn])) (by (simp [hpl_,hn])) o26),(Qy (by unfold Co.nGoes Co.nListen;rw [show i = c.n by omega,if_neg (Nat.lt_irrefl _)];exact (if_pos hn0).symm) rfl o24),o25,LsI.zero c t,rfl⟩
   ·
    rintro n4 a14 w4 ⟨t5,hl,row,x9_1,rfl,F12,ok12,q61,q62,q63,q64,o27,o28,o29,hL,rfl⟩
    have hle_:=hL.le
    have hlr2_:=hL.len
    refine Ja ?_
    refine gI a14 t5 ok12 (gS rfl (fun A B E G H=>rP (Jw (kp (H 28 rfl) E q61) (kp (H 27 rfl) E q64))) (gE ok12 fun a15 s10 ok13 D9=>?_));have F13:=F12.step0 D9.stp;have q66:=D9.k q62;have q67:=D9.k q63;have o30:=Own.k0 o27 D9.stp;have o31:=PlM.k0 o28 D9.stp;have o32:=Own.k0 o29 D9.stp;refine tn (Ja ?_)
    refine Jl (p:=(((hl.length:Nat):Int) < (((List.length (JC ch)):Nat):Int))) (D9.m 0 rfl) (fun c2=>?_) (fun c2=>?_)
    ·
     refine Jf (tn (Ja (Je (Ja ?_))))
     have o33:PlM c (.listen t hl) ch s10:=Qy (by exact if_pos oM) rfl o31
     refine regX (a:=a15) (σ:=s10) rfl 1 (fun i_=>List.getD [(Ty.pr (Ty.val (chv c.heard)))] i_ Pr.any) ok13 rfl dE rfl (by rfl) ⟨?_,trivial⟩ ?_
     · intro A B E G H;exact rP (Jc (kp (H 1 rfl) E q67))
     intro a16 s11 D10;have ok14:=D10.ok
     have o34:Own s11 41 3 1 x9_1 (List.length row) (List.map Ty.int row):=Own.k0 o30 D10.stp
     have o35:PlM c (.listen t hl) ch s11:=PlM.k0 o33 D10.stp
     have o36:Own s11 40 68 1 rs (List.length (JC ch)) (List.map Ty.val (JC ch)):=Own.k0 o32 D10.stp
     refine xm_listen (j:=t) (hs:=hl) ok14 rfl (by intro e_ h_;cases h_ <;> decide) Try.underlying67 (by rw [hzs];exact Try.inf106) o35 (D10.m 0 rfl) (fun kb_ hkn hkm=>?_)
     have hlt_:=hP.lt kb_ t hkn
     have hlr_:=hL.len
     intro a17 t6 hs3 ho2 hst2 ok15 hu2 sm3;have F15:=(F13.step0 D10.stp).step hs3 dE
     have q75:At (Ty.nat hl.length) t6 a17 (.tmp 28):=kp9 hs3 (sm3 28 dE) (D10.k (D9.k q61))
     have q76:At (Ty.val x9_1) t6 a17 (.tmp 9):=kp9 hs3 (sm3 9 dE) (D10.k q66)
     have q77:At (Ty.val (chv c.heard)) t6 a17 (.tmp 1):=kp9 hs3 (sm3 1 dE) (D10.k q67)
     have q78:At (Ty.nat (List.length (JC ch))) t6 a17 (.tmp 27):=kp9 hs3 (sm3 27 dE) (D10.k (D9.k q64))
     have o37:Own t6 41 3 1 x9_1 (List.length row) (List.map Ty.int row):=Own.keepL o34 (hs3.toL (L:=[999]) (by simp)) dE dE
     have o38:Own t6 40 68 1 rs (List.length (JC ch)) (List.map Ty.val (JC ch)):=Own.keepL o36 (hs3.toL (L:=[999]) (by simp)) dE dE
     have o39:PlM c (c.nListen t (hl ++ [kb_])) ch t6:=(o35).to hst2 ho2
     have q79:At (Ty.agg [(Ty.nat kb_),(Ty.nat (c.pl kb_ t))]) t6 a17 (.tmp 31):=hasAgg2 (hu2 31 rfl) rfl rfl
     refine XT.tail (fun t7 hs4=>?_) (by rfl)
     have F16:=F15.step0 hs4
     have q80:At (Ty.nat hl.length) t7 a17 (.tmp 28):=Ty.up _ hs4.le0 q75
     have q81:At (Ty.val x9_1) t7 a17 (.tmp 9):=Ty.up _ hs4.le0 q76
     have q82:At (Ty.val (chv c.heard)) t7 a17 (.tmp 1):=Ty.up _ hs4.le0 q77
     have q83:At (Ty.nat (List.length (JC ch))) t7 a17 (.tmp 27):=Ty.up _ hs4.le0 q78
     have q84:At (Ty.agg [(Ty.nat kb_),(Ty.nat (c.pl kb_ t))]) t7 a17 (.tmp 31):=Ty.up _ hs4.le0 q79
     have o40:Own t7 41 3 1 x9_1 (List.length row) (List.map Ty.int row):=Own.k0 o37 hs4
     have o41:Own t7 40 68 1 rs (List.length (JC ch)) (List.map Ty.val (JC ch)):=Own.k0 o38 hs4
     have o42:PlM c (c.nListen t (hl ++ [kb_])) ch t7:=PlM.k0 o39 hs4
     refine tL (R:=(fun v τ=>Pr.has (Pr.ownp 42 [(Ty.int (0:Int)),(Ty.int (0:Int))]) τ v)) ok15 (Yld.toL (y_alloc Try.inf106 rfl (Kr (vs:=[.int .i64 0,.int .i64 0]) rfl))) fun a18 s12 hs5 ok16 r2 sm4=>?_
     have o46:=PlM.keepL o42 hs5 dE dE
     obtain ⟨x2,hx2⟩:∃ x,a18.eval (.tmp 10) = x:=⟨_,rfl⟩
     have q90:At (Ty.val x2) s12 a18 (.tmp 10):=hx2
     have o43:=al2 (R:=(Pr.ownp 42 [(Ty.int (0:Int)),(Ty.int (0:Int))])) hx2 r2
     clear r2
     refine Xh (L:=[42]) (R:=(fun _ τ=>OwnP τ 42 x2 [(Ty.nat kb_),(Ty.nat (c.pl kb_ t))])) rfl rfl (YldM.toL (QZ Try.inf106 dE o43 q90 rfl (kq hs5 sm4 31 q84) (by intro U hU;simp only [List.mem_cons,List.not_mem_nil,or_false] at hU;rcases hU with rfl | rfl <;> first | exact Jq rfl | exact Qg | exact one_flt | exact one_cx | exact one_ref))) (fun v1 s13 hs6 r3=>?_)
     have q91:=kpL hs6 dE rfl (kq hs5 sm4 28 q80);have q92:=kpL hs6 dE rfl (kq hs5 sm4 9 q81);have q93:=kpL hs6 dE rfl (kq hs5 sm4 1 q82);have q94:=kpL hs6 dE rfl (kq hs5 sm4 27 q83);have q95:=kpL hs6 dE rfl q90;have o48:=Own.kl (Own.kl o40 hs5) hs6;have o50:=PlM.keepL o46 hs6 dE dE
     have o47:OwnP s13 42 x2 [(Ty.nat kb_),(Ty.nat (c.pl kb_ t))]:=r3
     clear r3;refine Jh (tn ?_)
     refine gI a18 s13 ok16 (gM q92 (gT (Ty.val (JZ x2 1)) rfl (fun A B E G H=>rP (Jn Try.fld106_1 Try.inf3 dE (OwnP.k0 o47 E) (kp (H 10 rfl) E q95))) (gS rfl (fun A B E G H d0=>rP (Jo Try.underlying3 rfl (OwnP.k0 o47 E) (eI d0) rfl)) (gT (Ty.val (JZ x2 0)) rfl (fun A B E G H=>rP (Jn Try.fld106_0 Try.inf3 dE (OwnP.k0 o47 E) (kp (H 10 rfl) E q95))) (gS rfl (fun A B E G H d0=>rP (Jo Try.underlying3 rfl (OwnP.k0 o47 E) (eI d0) rfl)) (gT (Ty.val (JU x9_1 (c.pl kb_ t))) rfl (fun A B E G H d0 d1 d2 d3 d4 d5 d6=>rP (Kn (i:=(((c.pl kb_ t):Nat):Int)) Try.underlying26 Try.inf3 (Own.k0 o48 E) (eI d0) (eI d1) oM oM)) (gE2 ok16 fun a19 s14 ok17 D11=>?_)))))));have o51:=Own.k0 o48 D11.stp;have o52:=Own.k0 (Own.kl (Own.kl o41 hs5) hs6) D11.stp;have o53:=PlM.k0 o50 D11.stp;have o54:=OwnP.k0 o47 D11.stp
     refine Xh (L:=[41]) (R:=(fun _ τ=>Own τ 41 3 1 x9_1 (List.length row) ((List.map Ty.int row).set (c.pl kb_ t) (Ty.nat kb_)))) rfl rfl (YldM.toL (m_store Try.inf3 dE o51 (D11.m 5 rfl) (by simp only [List.length_map,List.length_set];omega) (D11.m 4 rfl) (Jq rfl))) (fun v2 s15 hs7 r4=>?_)
     have q103:=kpL hs7 dE rfl (D11.k q91);have q104:=kpL hs7 dE rfl (D11.k q92);have q105:=kpL hs7 dE rfl (D11.k q93);have q106:=kpL hs7 dE rfl (D11.k q94);have o57:=PlM.keepL o53 hs7 dE dE;have o58:=OwnP.kl o54 hs7
     have o55:Own s15 41 3 1 x9_1 (List.length (row.set (c.pl kb_ t) ((kb_:Nat):Int))) (List.map Ty.int (row.set (c.pl kb_ t) ((kb_:Nat):Int))):=(cvo (by simp) (by first | (simp;done) | (rw [List.map_set];done) | (rw [List.map_set];rfl)) r4)
     clear r4;refine Jh (bn (tn ?_))
     refine gI a19 s15 ok17 (gT (Ty.nat (hl.length + 1)) rfl (fun A B E G H=>rP ((JF (kp (H 28 rfl) E q103) rfl wX).mono (fun τ _ h=>cN (σ:=τ) h))) (gS rfl (fun A B E G H d0=>rP (Jc (eI d0))) (gE ok17 fun a20 s16 ok18 D12=>?_)));have o59:=Own.k0 (Own.kl o52 hs7) D12.stp;have o60:=PlM.k0 o57 D12.stp;have o61:=Own.k0 o55 D12.stp
     exact tn ⟨c.n - ((hl ++ [kb_])).length,by (rw [List.length_append,List.length_singleton];omega),s16,(hl ++ [kb_]),(row.set (c.pl kb_ t) kb_),x9_1,rfl,(((((F16.sl hs5).sl hs6).step0 D11.stp).sl hs7).step0 D12.stp),ok18,(cJ (D12.m 1 rfl)),(D12.k q104),(D12.k q105),(D12.k q106),(cvo (by (simp)) (by (simp)) o61),(Qy (by rfl) rfl o60),o59,hL.step hP hkn hkm,rfl⟩
    ·
     refine Jv (tx (tx (bx (tn (Ja ?_)))))
     refine gI a15 s10 ok13 (gM q66 (gB 0 (gE ok13 fun a21 s17 ok19 D13=>?_)));have o62:=Own.k0 o30 D13.stp;have o63:=PlM.k0 o31 D13.stp;have o64:=Own.k0 o32 D13.stp
     have q112:At (Ty.val x9_1) s17 a21 (.tmp 6):=D13.done 1
     refine tn (Jj ?_)
     exact JJ rfl ok19 (F13.step0 D13.stp) ⟨row,x9_1,q112,o64,o62,(Qy (by unfold Co.nListen;rw [if_neg oM]) rfl o63),(by exact hL.all oM)⟩
set_option maxHeartbeats 4000000 in
set_option maxRecDepth 100000 in
theorem slip_fn (ov:Value) (us:List Value) (xss:List (List Int)) (sl:List Qz) (nb:Nat) (rows:Int) (σ:GW) (hlow:Low [40,41] σ) (v0 v1:Value) (hv0:Ty.has (Ty.val ov) σ v0) (hv1:Ty.has (Ty.lstc 3 Qd sl) σ v1) (ho_ov:Own σ 40 26 1 ov (List.length us) (List.map Ty.val us)) (ho_gr:RowsI σ 41 3 us xss) (hxl:xss.length ≤ 1000000) (hxr:∀ i,i < xss.length → (xss.getD i []).length = nb) (hsl:∀ i,i < sl.length → ¬ KA ((nb:Nat):Int) rows (sl.getD i Sl0)) (hrw:rows ≤ 1000000) (hnb:nb ≤ 1000) :
    FnL J 32 #[v0,v1] σ [40,41] (fun v τ=>True∧(Own τ 40 26 1 ov (List.length us) (List.map Ty.val us))∧(RowsI τ 41 3 us (Qr xss sl))):=by
 refine fn_introL hlow Try.func32 rfl Try.ntmps32 (Xr rfl) (fun a0 F0 ok0 hargs=>?_)
 have p0:=pB (hargs 0 _ rfl) hv0
 have p1:=pB (hargs 1 _ rfl) hv1
 have b1:=JS p1
 clear hargs;refine Ja ?_
 refine gI a0 σ ok0 (gM p1 (gS rfl (fun A B E G H d0=>rP (Jt Try.underlying27 (eI d0))) (gT (Ty.int (0:Int)) rfl (fun A B E G H=>rP (Jc rfl)) (gE ok0 fun a1 s1 ok1 D1=>?_))));have o1:=Own.k0 ho_ov D1.stp;have o2:=RowsI.k0 ho_gr D1.stp;refine tn (Je ?_)
 refine Kf (fun n1 a2 w1=>∃ (t1:GW) (k:Nat),t1.w = w1∧FromL [40,41] σ t1∧Ok 53 [] a2∧At (Ty.nat k) t1 a2 (.tmp 10)∧At (Ty.val ov) t1 a2 (.tmp 0)∧At (Ty.lstc 3 Qd sl) t1 a2 (.tmp 8)∧At (Ty.nat (List.length sl)) t1 a2 (.tmp 9)∧RowsI t1 41 3 us (Qr xss (sl.take k))∧Own t1 40 26 1 ov (List.length us) (List.map Ty.val us)∧(k ≤ sl.length)∧n1 = sl.length - k) (sl.length - (0)) ?_ ?_
 ·
  exact ⟨s1,0,rfl,(F0.step0 D1.stp),ok1,(cJ (D1.m 2 rfl)),(D1.k p0),(D1.m 0 rfl),(D1.m 1 rfl),(cvgI (by (first | rfl | simp [Qr])) (by (first | rfl | simp [Qr])) o2),o1,by omega,rfl⟩
 ·
  rintro n2 a3 w2 ⟨t2,k,rfl,F2,ok2,q5,q6,q7,q8,o3,o4,hk,rfl⟩
  refine Ja ?_
  refine gI a3 t2 ok2 (gS rfl (fun A B E G H=>rP (Jw (kp (H 10 rfl) E q5) (kp (H 9 rfl) E q8))) (gE ok2 fun a4 s2 ok3 D2=>?_));have F3:=F2.step0 D2.stp;have q9:=D2.k q5;have q11:=D2.k q7;have o5:=RowsI.k0 o3 D2.stp;have o6:=Own.k0 o4 D2.stp;refine tn (Ja ?_)
  refine Jl (p:=(((k:Nat):Int) < (((List.length sl):Nat):Int))) (D2.m 0 rfl) (fun c1=>?_) (fun c1=>?_)
  ·
   obtain ⟨X,hX⟩:∃ X,X = Qr xss (sl.take k):=⟨_,rfl⟩;obtain ⟨hXl,hXr⟩:=slipsE_row (sl:=sl.take k) hxr;rw [← hX] at hXl hXr;have hsb:=hsl k oM;unfold KA at hsb
   refine Jf (tn (Ja (Je (Ja ?_))))
   refine gI a4 s2 ok3 (gT (Ty.ref [(Ty.int ((sl.getD k Sl0)).1),(Ty.int ((sl.getD k Sl0)).2.1),(Ty.int ((sl.getD k Sl0)).2.2)]) rfl (fun A B E G H=>rP (Qa (i:=((k:Nat):Int)) Sl0 Try.underlying27 Try.inf46 (kp (H 8 rfl) E q11) (kp (H 10 rfl) E q9) oM oM dE (fun _=>rfl))) (gS rfl (fun A B E G H d0=>rP (KV Try.underlying46 Try.inf46 (eI d0))) (gR (Pr.ownp 43 [(Ty.int (0:Int)),(Ty.int (0:Int)),(Ty.int (0:Int))]) rfl (by intro A B E G H;exact rP (y_alloc Try.inf46 rfl (Kr (vs:=[.int .i64 0,.int .i64 0,.int .i64 0]) rfl))) (gE2 ok3 fun a5 s3 ok4 D3=>?_))));have o7:=RowsI.k0 o5 D3.stp;have o8:=Own.k0 o6 D3.stp
   obtain ⟨x1,hx1⟩:∃ x,a5.eval (.tmp 5) = x:=⟨_,rfl⟩
   have q19:At (Ty.val x1) s3 a5 (.tmp 5):=hx1
   have o9:=al2 (R:=(Pr.ownp 43 [(Ty.int (0:Int)),(Ty.int (0:Int)),(Ty.int (0:Int))])) hx1 (D3.done 2 dE)
   refine Xh (L:=[43]) (R:=(fun _ τ=>OwnP τ 43 x1 [(Ty.int ((sl.getD k Sl0)).1),(Ty.int ((sl.getD k Sl0)).2.1),(Ty.int ((sl.getD k Sl0)).2.2)])) rfl rfl (YldM.toL (QZ Try.inf46 dE o9 q19 rfl (D3.m 1 rfl) (by intro U hU;simp only [List.mem_cons,List.not_mem_nil,or_false] at hU;rcases hU with rfl | rfl | rfl <;> first | exact Jq rfl | exact Qg | exact one_flt | exact one_cx | exact one_ref))) (fun v1 s4 hs1 r1=>?_)
   have q20:=kpL hs1 dE rfl (D3.k q9);have q21:=kpL hs1 dE rfl (D3.k (D2.k q6));have q22:=kpL hs1 dE rfl (D3.k q11);have q23:=kpL hs1 dE rfl (D3.k (D2.k q8));have q24:=kpL hs1 dE rfl q19;have o11:=RowsI.keepL o7 hs1 dE dE
   have o10:OwnP s4 43 x1 [(Ty.int ((sl.getD k Sl0)).1),(Ty.int ((sl.getD k Sl0)).2.1),(Ty.int ((sl.getD k Sl0)).2.2)]:=r1
   clear r1;refine Jh (tn (Ja ?_))
   refine gI a5 s4 ok4 (gT (Ty.val (JZ x1 0)) rfl (fun A B E G H=>rP (Jn Try.fld46_0 Try.inf3 dE (OwnP.k0 o10 E) (kp (H 5 rfl) E q24))) (gS rfl (fun A B E G H d0=>rP (Jo Try.underlying3 rfl (OwnP.k0 o10 E) (eI d0) rfl)) (gB 0 (gE ok4 fun a6 s5 ok5 D4=>?_))));have o13:=RowsI.k0 o11 D4.stp;have o14:=Own.k0 (Own.kl o8 hs1) D4.stp;have o15:=OwnP.k0 o10 D4.stp;refine tn (Je ?_)
   refine Kf (fun n3 a7 w3=>∃ (t3:GW) (j:Nat),t3.w = w3∧FromL [40,41] σ t3∧Ok 53 [] a7∧At (Ty.nat j) t3 a7 (.tmp 6)∧At (Ty.nat k) t3 a7 (.tmp 10)∧At (Ty.val ov) t3 a7 (.tmp 0)∧At (Ty.lstc 3 Qd sl) t3 a7 (.tmp 8)∧At (Ty.nat (List.length sl)) t3 a7 (.tmp 9)∧At (Ty.val x1) t3 a7 (.tmp 5)∧RowsI t3 41 3 us (JM X (sl.getD k Sl0) j)∧Own t3 40 26 1 ov (List.length us) (List.map Ty.val us)∧OwnP t3 43 x1 [(Ty.int ((sl.getD k Sl0)).1),(Ty.int ((sl.getD k Sl0)).2.1),(Ty.int ((sl.getD k Sl0)).2.2)]∧((sl.getD k Sl0).1.toNat ≤ j)∧(j ≤ ((sl.getD k Sl0).1 + (sl.getD k Sl0).2.2).toNat)∧n3 = X.length - j) (X.length - ((sl.getD k Sl0).1.toNat)) ?_ ?_
   ·
    exact ⟨s5,(sl.getD k Sl0).1.toNat,rfl,(((F3.step0 D3.stp).sl hs1).step0 D4.stp),ok5,(cJ (D4.m 2 rfl)),(D4.k q20),(D4.k q21),(D4.k q22),(D4.k q23),(D4.k q24),(cvgI (by (first | rfl | (rw [← hX];exact (slipTo_start (Nat.le_refl _)).symm))) (by (first | rfl | (rw [← hX];exact (slipTo_start (Nat.le_refl _)).symm))) o13),o14,o15,by omega,by omega,rfl⟩
   ·
    rintro n4 a8 w4 ⟨t4,j,rfl,F7,ok6,q32,q33,q34,q35,q36,q37,o16,o17,o18,hj1,hj2,rfl⟩
    refine Ja (Ja ?_)
    have hul_:=o16.1
    rw [slipTo_len] at hul_
    refine gI a8 t4 ok6 (gM q32 (gM q34 (gT (Ty.nat (List.length us)) rfl (fun A B E G H d0=>rP (own_len Try.underlying22 (al (R:=(Pr.own 40 26 1 (List.length us) (List.map Ty.val us))) (eI d0) (Own.k0 o17 E)))) (gT (Ty.val (JZ x1 0)) rfl (fun A B E G H=>rP (Jn Try.fld46_0 Try.inf3 dE (OwnP.k0 o18 E) (kp (H 5 rfl) E q37))) (gS rfl (fun A B E G H d0=>rP (Jo Try.underlying3 rfl (OwnP.k0 o18 E) (eI d0) rfl)) (gT (Ty.val (JZ x1 2)) rfl (fun A B E G H=>rP (Jn Try.fld46_2 Try.inf3 dE (OwnP.k0 o18 E) (kp (H 5 rfl) E q37))) (gS rfl (fun A B E G H d0=>rP (Jo Try.underlying3 rfl (OwnP.k0 o18 E) (eI d0) rfl)) (gT (Ty.int (((sl.getD k Sl0)).1 + ((sl.getD k Sl0)).2.2)) rfl (fun A B E G H d0 d1=>rP (JF (eI d0) (eI d1) wX)) (gT (Ty.int (min (((List.length us):Nat):Int) (((sl.getD k Sl0)).1 + ((sl.getD k Sl0)).2.2))) rfl (fun A B E G H d0 d1=>rP (y_min (eI d0) (eI d1))) (gS rfl (fun A B E G H d0 d1=>rP (Jw (eI d0) (eI d1))) (gE ok6 fun a9 s6 ok7 D5=>?_)))))))))));have F8:=F7.step0 D5.stp;have q38:=D5.k q32;have q39:=D5.k q33;have q40:=D5.k q34;have q41:=D5.k q35;have q42:=D5.k q36;have o19:=RowsI.k0 o16 D5.stp;have o20:=Own.k0 o17 D5.stp;have o21:=OwnP.k0 o18 D5.stp;refine tn ?_
    refine Jl (p:=(((j:Nat):Int) < (min (((List.length us):Nat):Int) (((sl.getD k Sl0)).1 + ((sl.getD k Sl0)).2.2)))) (D5.m 9 rfl) (fun c2=>?_) (fun c2=>?_)
    ·
     refine Jf (tn (Ja (Je (Ja ?_))))
     refine gI a9 s6 ok7 (gM q40 (gM q38 (gT (Ty.val (JU ov j)) rfl (fun A B E G H d0 d1=>rP (Kn (i:=((j:Nat):Int)) Try.underlying22 Try.inf26 (Own.k0 o20 E) (eI d0) (eI d1) oM oM)) (gS rfl (fun A B E G H d0=>rP (QT Try.underlying26 rfl (Own.k0 o20 E) (eI d0) (Ju Ty.val us undef j oM))) (gB 0 (gE ok7 fun a10 s7 ok8 D6=>?_))))));have o22:=RowsI.k0 o19 D6.stp;have o23:=Own.k0 o20 D6.stp;have o24:=OwnP.k0 o21 D6.stp;refine tn ?_
     have hul1:=o22.1
     obtain ⟨t5,e1,h1,o25,o26⟩:=RowsI.focus o22 (i:=j) (by have h_:=o22.1;rw [slipTo_len] at h_;omega) dE 42 dE
     rw [← e1]
     have F10:=(F8.step0 D6.stp).step h1 dE
     have q52:At (Ty.nat j) t5 a10 (.tmp 6):=Ty.up _ (h1.le dE) (D6.k q38)
     have q53:At (Ty.nat k) t5 a10 (.tmp 10):=Ty.up _ (h1.le dE) (D6.k q39)
     have q54:At (Ty.val ov) t5 a10 (.tmp 0):=Ty.up _ (h1.le dE) (D6.k q40)
     have q55:At (Ty.lstc 3 Qd sl) t5 a10 (.tmp 8):=Ty.up _ (h1.le dE) (D6.k q41)
     have q56:At (Ty.nat (List.length sl)) t5 a10 (.tmp 9):=Ty.up _ (h1.le dE) (D6.k q42)
     have q57:At (Ty.val x1) t5 a10 (.tmp 5):=Ty.up _ (h1.le dE) (D6.k (D5.k q37))
     have q58:At (Ty.val (us.getD j undef)) t5 a10 (.tmp 7):=Ty.up _ (h1.le dE) (D6.m 4 rfl)
     have o27:=Own.keepL o23 (h1.toL (L:=[41]) (by simp)) dE dE;have o28:=OwnP.keepL o24 (h1.toL (L:=[41]) (by simp)) dE dE
     have hrl_:((JM X (sl.getD k Sl0) j).getD j []).length = nb:=(by rw [slipTo_get];exact hXr j oM)
     have at1:At0 ov (List.length us):=Own.at0 o27
     have at2:At0 (us.getD j undef) (List.length ((JM X (sl.getD k Sl0) j).getD j [])):=Own.at0 o25
     refine reg9 (a:=a10) (σ:=t5) rfl 20 19 [42] dE (Pr.st 42 3 1 (us.getD j undef) (List.length ((JM X (sl.getD k Sl0) j).getD j [])) ((List.map Ty.int ((JM X (sl.getD k Sl0) j).getD j [])).set ((((sl.getD k Sl0)).2.1 - (1:Int))).toNat (Ty.int (((JM X (sl.getD k Sl0) j).getD j []).getD (((sl.getD k Sl0)).2.1).toNat 0)))) (fun i_=>List.getD [(Ty.val (us.getD j undef)),(Ty.val (JZ x1 1)),(Ty.int ((sl.getD k Sl0)).2.1),(Ty.int (((sl.getD k Sl0)).2.1 - (1:Int))),(Ty.val (us.getD j undef)),(Ty.val (JZ x1 1)),(Ty.int ((sl.getD k Sl0)).2.1),(Ty.val (us.getD j undef)),(Ty.val (JZ x1 1)),(Ty.int ((sl.getD k Sl0)).2.1),(Ty.val (JU (us.getD j undef) (((sl.getD k Sl0)).2.1).toNat)),(Ty.int (((JM X (sl.getD k Sl0) j).getD j []).getD (((sl.getD k Sl0)).2.1).toNat 0)),(Ty.val (us.getD j undef)),(Ty.val (JZ x1 1)),(Ty.int ((sl.getD k Sl0)).2.1),(Ty.int (((sl.getD k Sl0)).2.1 - (1:Int))),(Ty.val (JU (us.getD j undef) ((((sl.getD k Sl0)).2.1 - (1:Int))).toNat)),(Ty.int (((JM X (sl.getD k Sl0) j).getD j []).getD ((((sl.getD k Sl0)).2.1 - (1:Int))).toNat 0)),(Ty.val (JU (us.getD j undef) ((((sl.getD k Sl0)).2.1 - (1:Int))).toNat)),Ty.any] i_ Ty.any) ok8 rfl dE rfl dE rfl rfl ⟨?_,?_,?_,?_,?_,?_,?_,?_,?_,?_,?_,?_,?_,?_,?_,?_,?_,?_,?_,?_,trivial⟩ ?_
     · refine ob9e dE (by rfl) ?_
       intro A B E G H
       exact rP (Jc (kp (H 7 rfl) E q58))
     · refine ob9e dE (by rfl) ?_
       intro A B E G H
       exact rP (Jn Try.fld46_1 Try.inf3 dE (OwnP.k0 o28 E) (kp (H 5 rfl) E q57))
     · refine ob9e dE (by rfl) ?_
       intro A B E G H d0
       have e1:At (Ty.val (JZ x1 1)) B A (.tmp 33):=d0 rfl
       exact rP (Jo Try.underlying3 rfl (OwnP.k0 o28 E) e1 rfl)
     · refine ob9e dE (by rfl) ?_
       intro A B E G H d0
       have e2:At (Ty.int ((sl.getD k Sl0)).2.1) B A (.tmp 34):=d0 rfl
       exact rP (Xg e2 rfl wX)
     · refine ob9 dE (by rfl) ?_
       intro A B E G H d0
       exact rP (Jc (kpL E dE (H 7 rfl) q58))
     · refine ob9 dE (by rfl) ?_
       intro A B E G H d0
       exact rP (Jn Try.fld46_1 Try.inf3 dE (OwnP.keepL o28 E dE dE) (kpL E dE (H 5 rfl) q57))
     · refine ob9 dE (by rfl) ?_
       intro A B E G H d0 d1
       have e5:At (Ty.val (JZ x1 1)) B A (.tmp 37):=d0 rfl
       exact rP (Jo Try.underlying3 rfl (OwnP.keepL o28 E dE dE) e5 rfl)
     · refine ob9e dE (by rfl) ?_
       intro A B E G H
       exact rP (Jc (kp (H 7 rfl) E q58))
     · refine ob9e dE (by rfl) ?_
       intro A B E G H
       exact rP (Jn Try.fld46_1 Try.inf3 dE (OwnP.k0 o28 E) (kp (H 5 rfl) E q57))
     · refine ob9e dE (by rfl) ?_
       intro A B E G H d0
       have e8:At (Ty.val (JZ x1 1)) B A (.tmp 40):=d0 rfl
       exact rP (Jo Try.underlying3 rfl (OwnP.k0 o28 E) e8 rfl)
     · refine ob9e dE (by rfl) ?_
       intro A B E G H d0 d1
       have e7:At (Ty.val (us.getD j undef)) B A (.tmp 39):=d0 rfl
       have e9:At (Ty.int ((sl.getD k Sl0)).2.1) B A (.tmp 41):=d1 rfl
       exact rP (y_indexF (i:=((sl.getD k Sl0)).2.1) Try.underlying26 Try.inf3 at2 e7 e9 oM oM)
     · refine ob9e dE (by rfl) ?_
       intro A B E G H d0
       have e10:At (Ty.val (JU (us.getD j undef) (((sl.getD k Sl0)).2.1).toNat)) B A (.tmp 42):=d0 rfl
       exact rP (QT Try.underlying3 rfl (Own.k0 o25 E) e10 (Ju Ty.int ((JM X (sl.getD k Sl0) j).getD j []) 0 (((sl.getD k Sl0)).2.1).toNat oM))
     · refine ob9e dE (by rfl) ?_
       intro A B E G H
       exact rP (Jc (kp (H 7 rfl) E q58))
     · refine ob9e dE (by rfl) ?_
       intro A B E G H
       exact rP (Jn Try.fld46_1 Try.inf3 dE (OwnP.k0 o28 E) (kp (H 5 rfl) E q57))
     · refine ob9e dE (by rfl) ?_
       intro A B E G H d0
       have e13:At (Ty.val (JZ x1 1)) B A (.tmp 45):=d0 rfl
       exact rP (Jo Try.underlying3 rfl (OwnP.k0 o28 E) e13 rfl)
     · refine ob9e dE (by rfl) ?_
       intro A B E G H d0
       have e14:At (Ty.int ((sl.getD k Sl0)).2.1) B A (.tmp 46):=d0 rfl
       exact rP (Xg e14 rfl wX)
     · refine ob9e dE (by rfl) ?_
       intro A B E G H d0 d1
       have e12:At (Ty.val (us.getD j undef)) B A (.tmp 44):=d0 rfl
       have e15:At (Ty.int (((sl.getD k Sl0)).2.1 - (1:Int))) B A (.tmp 47):=d1 rfl
       exact rP (y_indexF (i:=(((sl.getD k Sl0)).2.1 - (1:Int))) Try.underlying26 Try.inf3 at2 e12 e15 oM oM)
     · refine ob9e dE (by rfl) ?_
       intro A B E G H d0
       have e16:At (Ty.val (JU (us.getD j undef) ((((sl.getD k Sl0)).2.1 - (1:Int))).toNat)) B A (.tmp 48):=d0 rfl
       exact rP (QT Try.underlying3 rfl (Own.k0 o25 E) e16 (Ju Ty.int ((JM X (sl.getD k Sl0) j).getD j []) 0 ((((sl.getD k Sl0)).2.1 - (1:Int))).toNat oM))
     · refine ob9e dE (by rfl) ?_
       intro A B E G H d0 d1 d2 d3 d4 d5 d6 d7 d8 d9 d10 d11 d12 d13 d14 d15 d16 d17 d18 d19
       have e0:At (Ty.val (us.getD j undef)) B A (.tmp 32):=d0 rfl
       have e3:At (Ty.int (((sl.getD k Sl0)).2.1 - (1:Int))) B A (.tmp 35):=d1 rfl
       exact rP (y_indexF (i:=(((sl.getD k Sl0)).2.1 - (1:Int))) Try.underlying26 Try.inf3 at2 e0 e3 oM oM)
     · refine obR3w rfl ?_
       intro A B E G H d0 d1 d2 d3 d4 d5 d6 d7 d8 d9 d10 d11 d12 d13 d14 d15 d16 d17 d18 d19
       have e18:At (Ty.val (JU (us.getD j undef) ((((sl.getD k Sl0)).2.1 - (1:Int))).toNat)) B A (.tmp 50):=d0 rfl
       have e11:At (Ty.int (((JM X (sl.getD k Sl0) j).getD j []).getD (((sl.getD k Sl0)).2.1).toNat 0)) B A (.tmp 43):=d1 rfl
       exact YldM.toL (m_store Try.inf3 dE (Own.k0 o25 E) e18 (by simp only [List.length_map,List.length_set];omega) e11 (Jq rfl))
     intro a11 s8 D7;have ok9:=D7.ok;have F11:=F10.stepL D7.stp dE
     have q59:At (Ty.nat j) s8 a11 (.tmp 6):=D7.kt dE q52 rfl
     have q60:At (Ty.nat k) s8 a11 (.tmp 10):=D7.kt dE q53 rfl
     have q61:At (Ty.val ov) s8 a11 (.tmp 0):=D7.kt dE q54 rfl
     have q62:At (Ty.lstc 3 Qd sl) s8 a11 (.tmp 8):=D7.kt dE q55 rfl
     have q63:At (Ty.nat (List.length sl)) s8 a11 (.tmp 9):=D7.kt dE q56 rfl
     have q64:At (Ty.val x1) s8 a11 (.tmp 5):=D7.kt dE q57 rfl
     have o30:=Own.keepL o27 D7.stp dE dE;have o31:=OwnP.keepL o28 D7.stp dE dE;have o32:=RestI.keepL o26 D7.stp dE dE
     have q65:At (Ty.val (us.getD j undef)) s8 a11 (.tmp 36):=D7.done 4 dE
     have q66:At (Ty.int ((sl.getD k Sl0)).2.1) s8 a11 (.tmp 38):=D7.done 6 dE
     have q67:At (Ty.int (((JM X (sl.getD k Sl0) j).getD j []).getD ((((sl.getD k Sl0)).2.1 - (1:Int))).toNat 0)) s8 a11 (.tmp 49):=D7.done 17 dE
     have o29:Own s8 42 3 1 (us.getD j undef) (List.length (((JM X (sl.getD k Sl0) j).getD j []).set ((((sl.getD k Sl0)).2.1 - (1:Int))).toNat (((JM X (sl.getD k Sl0) j).getD j []).getD (((sl.getD k Sl0)).2.1).toNat 0))) (List.map Ty.int (((JM X (sl.getD k Sl0) j).getD j []).set ((((sl.getD k Sl0)).2.1 - (1:Int))).toNat (((JM X (sl.getD k Sl0) j).getD j []).getD (((sl.getD k Sl0)).2.1).toNat 0))):=(cvo (by simp) (by first | (simp;done) | (rw [List.map_set];done) | (rw [List.map_set];rfl)) D7.donep)
     refine tL (R:=(fun v τ=>Pr.has (Ty.pr (Ty.val (JU (us.getD j undef) (((sl.getD k Sl0)).2.1).toNat))) τ v)) ok9 (Yld.toL (Kn (i:=((sl.getD k Sl0)).2.1) Try.underlying26 Try.inf3 o29 q65 q66 oM (by simp only [List.length_set];omega))) fun a12 s9 hs2 ok10 r2 sm1=>?_
     have o35:=RestI.keepL o32 hs2 dE dE
     have q76:At (Ty.val (JU (us.getD j undef) (((sl.getD k Sl0)).2.1).toNat)) s9 a12 (.tmp 51):=r2
     clear r2
     refine Xh (L:=[42]) (R:=(fun _ τ=>Own τ 42 3 1 (us.getD j undef) (List.length (((JM X (sl.getD k Sl0) j).getD j []).set ((((sl.getD k Sl0)).2.1 - (1:Int))).toNat (((JM X (sl.getD k Sl0) j).getD j []).getD (((sl.getD k Sl0)).2.1).toNat 0))) ((List.map Ty.int (((JM X (sl.getD k Sl0) j).getD j []).set ((((sl.getD k Sl0)).2.1 - (1:Int))).toNat (((JM X (sl.getD k Sl0) j).getD j []).getD (((sl.getD k Sl0)).2.1).toNat 0))).set (((sl.getD k Sl0)).2.1).toNat (Ty.int (((JM X (sl.getD k Sl0) j).getD j []).getD ((((sl.getD k Sl0)).2.1 - (1:Int))).toNat 0))))) rfl rfl (YldM.toL (m_store Try.inf3 dE (Own.kl o29 hs2) q76 (by simp only [List.length_map,List.length_set];omega) (kq hs2 sm1 49 q67) (Jq rfl))) (fun v2 s10 hs3 r3=>?_)
     have q77:=kpL hs3 dE rfl (kq hs2 sm1 6 q59);have q78:=kpL hs3 dE rfl (kq hs2 sm1 10 q60);have q79:=kpL hs3 dE rfl (kq hs2 sm1 0 q61);have q80:=kpL hs3 dE rfl (kq hs2 sm1 8 q62);have q81:=kpL hs3 dE rfl (kq hs2 sm1 9 q63);have q82:=kpL hs3 dE rfl (kq hs2 sm1 5 q64);have o40:=RestI.keepL o35 hs3 dE dE
     have o37:Own s10 42 3 1 (us.getD j undef) (List.length ((((JM X (sl.getD k Sl0) j).getD j []).set ((((sl.getD k Sl0)).2.1 - (1:Int))).toNat (((JM X (sl.getD k Sl0) j).getD j []).getD (((sl.getD k Sl0)).2.1).toNat 0)).set (((sl.getD k Sl0)).2.1).toNat (((JM X (sl.getD k Sl0) j).getD j []).getD ((((sl.getD k Sl0)).2.1 - (1:Int))).toNat 0))) (List.map Ty.int ((((JM X (sl.getD k Sl0) j).getD j []).set ((((sl.getD k Sl0)).2.1 - (1:Int))).toNat (((JM X (sl.getD k Sl0) j).getD j []).getD (((sl.getD k Sl0)).2.1).toNat 0)).set (((sl.getD k Sl0)).2.1).toNat (((JM X (sl.getD k Sl0) j).getD j []).getD ((((sl.getD k Sl0)).2.1 - (1:Int))).toNat 0))):=(cvo (by simp) (by first | (simp;done) | (rw [List.map_set];done) | (rw [List.map_set];rfl)) r3)
     clear r3;refine Jh ?_
     obtain ⟨t6,e2,h2,o41⟩:=RestI.unfocus (ys:=((((JM X (sl.getD k Sl0) j).getD j []).set ((((sl.getD k Sl0)).2.1 - (1:Int))).toNat (((JM X (sl.getD k Sl0) j).getD j []).getD (((sl.getD k Sl0)).2.1).toNat 0)).set (((sl.getD k Sl0)).2.1).toNat (((JM X (sl.getD k Sl0) j).getD j []).getD ((((sl.getD k Sl0)).2.1 - (1:Int))).toNat 0))) o40 o37 (by first | rfl | simp) (by first | rfl | simp) dE dE dE
     rw [← e2]
     have F14:=((F11.sl hs2).sl hs3).step h2 dE
     have q84:At (Ty.nat j) t6 a12 (.tmp 6):=Ty.up _ (h2.le dE) q77
     have q85:At (Ty.nat k) t6 a12 (.tmp 10):=Ty.up _ (h2.le dE) q78
     have q86:At (Ty.val ov) t6 a12 (.tmp 0):=Ty.up _ (h2.le dE) q79
     have q87:At (Ty.lstc 3 Qd sl) t6 a12 (.tmp 8):=Ty.up _ (h2.le dE) q80
     have q88:At (Ty.nat (List.length sl)) t6 a12 (.tmp 9):=Ty.up _ (h2.le dE) q81
     have q89:At (Ty.val x1) t6 a12 (.tmp 5):=Ty.up _ (h2.le dE) q82
     have o42:=Own.keepL (Own.kl (Own.kl o30 hs2) hs3) (h2.toL (L:=[42]) (by simp)) dE dE;have o43:=OwnP.keepL (OwnP.kl (OwnP.kl o31 hs2) hs3) (h2.toL (L:=[42]) (by simp)) dE dE
     have o44:RowsI t6 41 3 us ((JM X (sl.getD k Sl0) j).set j ((((JM X (sl.getD k Sl0) j).getD j []).set ((((sl.getD k Sl0)).2.1 - (1:Int))).toNat (((JM X (sl.getD k Sl0) j).getD j []).getD (((sl.getD k Sl0)).2.1).toNat 0)).set (((sl.getD k Sl0)).2.1).toNat (((JM X (sl.getD k Sl0) j).getD j []).getD ((((sl.getD k Sl0)).2.1 - (1:Int))).toNat 0))):=cvgI (set_getD_self undef) rfl o41
     refine bn (tn ?_)
     refine gI a12 t6 ok10 (gM q84 (gT (Ty.nat (j + 1)) rfl (fun A B E G H d0=>rP ((JF (eI d0) rfl wX).mono (fun τ _ h=>cN (σ:=τ) h))) (gB 0 (gE ok10 fun a13 s11 ok11 D8=>?_))));have o45:=Own.k0 o42 D8.stp;have o46:=OwnP.k0 o43 D8.stp;have o47:=RowsI.k0 o44 D8.stp
     exact tn ⟨X.length - ((j + 1)),by omega,s11,(j + 1),rfl,(F14.step0 D8.stp),ok11,(cJ (D8.m 2 rfl)),(D8.k q85),(D8.k q86),(D8.k q87),(D8.k q88),(D8.k q89),(cvgI (by (first | rfl | exact slipTo_set hj1 oM (by simp only [Xi];rw [show ((sl.getD k Sl0).2.1 - (1:Int)).toNat = (sl.getD k Sl0).2.1.toNat - 1 by omega]))) (by (first | rfl | exact slipTo_set hj1 oM (by simp only [Xi];rw [show ((sl.getD k Sl0).2.1 - (1:Int)).toNat = (sl.getD k Sl0).2.1.toNat - 1 by omega]))) o47),o45,o46,by omega,by omega,rfl⟩
    ·
     refine Jv (tx (tx (bx (bn (tn ?_)))))
     refine gI a9 s6 ok7 (gT (Ty.nat (k + 1)) rfl (fun A B E G H=>rP ((JF (kp (H 10 rfl) E q39) rfl wX).mono (fun τ _ h=>cN (σ:=τ) h))) (gS rfl (fun A B E G H d0=>rP (Jc (eI d0))) (gE ok7 fun a14 s12 ok12 D9=>?_)));have o48:=RowsI.k0 o19 D9.stp;have o49:=Own.k0 o20 D9.stp;have o50:=OwnP.k0 o21 D9.stp
     exact tn ⟨sl.length - ((k+1)),by omega,s12,(k+1),rfl,(F8.step0 D9.stp),ok12,(cJ (D9.m 1 rfl)),(D9.k q40),(D9.k q41),(D9.k q42),(cvgI (by (first | rfl | (rw [slipsE_snoc oM,← hX];exact slipTo_end oM oM))) (by (first | rfl | (rw [slipsE_snoc oM,← hX];exact slipTo_end oM oM))) o48),o49,by omega,rfl⟩
  ·
   refine Jv (tx (tx (bx ?_)))
   exact nL0 rfl ok3 F3 ⟨trivial,o6,(cvgI (by (first | rfl | (rw [show k = sl.length by omega,List.take_length]))) (by (first | rfl | (rw [show k = sl.length by omega,List.take_length]))) o5)⟩
end Go.Proofs.Ytodmoedmijfciaa
