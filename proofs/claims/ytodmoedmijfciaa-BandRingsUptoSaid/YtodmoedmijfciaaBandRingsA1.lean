/- The functions that the law BandRings reaches, each by its contract. Part 1. -/
import Derived.Test.YtodmoedmijfciaaBandRingsK2
import Derived.Test.YtodmoedmijfciaaBandRingsK1
import Derived.Test.YtodmoedmijfciaaBandRingsK3
import Derived.Test.YtodmoedmijfciaaProg
namespace Go.Proofs.Ytodmoedmijfciaa
open Go.KL
variable {J:Go.KL.JdOf Try.prog} [Go.KL.Al J]
set_option maxHeartbeats 4000000 in
set_option maxRecDepth 100000 in
theorem rRuneAt_fn (s:ByteArray) (σ:GW)  (v0:Value) (hv0:Ty.has (Ty.val (Value.string s)) σ v0)  (E:1 ≤ s.size) :
    FnC J 89 #[v0] σ (Ty.tup2 (Ty.int (QI s 0)) (Ty.nat (wid s 0))):=by
 have hb256:=UInt8.toNat_lt (s.get! 0)
 have hb257:=UInt8.toNat_lt (s.get! ((0:Int)).toNat)
 have hnb:=nb_bd ((s.get! 0).toNat)
 refine JT Try.func89 rfl Try.ntmps89 (Xr rfl) (fun s0 a0 hle F0 ok0 hargs=>?_)
 have p0:=pA hle (hargs 0 _ rfl) hv0
 clear hargs;refine Ja ?_
 refine gI a0 s0 ok0 (gC (Ty.int (0:Int)) (gC (Ty.int (0:Int)) (gE ok0 fun a1 s1 ok1 D1=>?_)));have q1:=D1.k p0;refine tn (Ja ?_)
 refine gI a1 s1 ok1 (gM q1 (gT (Ty.val (Value.int .u8 (((s.get! ((0:Int)).toNat).toNat:Nat):Int))) rfl (fun A B E G H d0=>rP (y_sindex Try.underlying9 (eI d0) rfl oM oM)) (gT (Ty.nat (s.get! ((0:Int)).toNat).toNat) rfl (fun A B E G H d0=>rP (y_conv Try.underlying3 (eI d0) (by exact w64 oM oM) (by rw [Try.underlying5];rfl))) (gB 0 (gE ok1 fun a2 s2 ok2 D2=>?_)))))
 have q4:At (Ty.nat ((s.get! 0).toNat)) s2 a2 (.tmp 4):=(cvi (by (rfl)) (D2.m 3 rfl))
 refine tn (Ja (Ja ?_))
 refine gI a2 s2 ok2 (gM q4 (gS rfl (fun A B E G H d0=>rP (Jw (eI d0) rfl)) (gE ok2 fun a3 s3 ok3 D3=>?_)));have F3:=((F0.step0 D1.stp).step0 D2.stp).step0 D3.stp;have q6:=D3.k q4;refine tn ?_
 refine Jl (p:=(((((s.get! 0).toNat):Nat):Int) < (128:Int))) (D3.m 1 rfl) (fun c1=>?_) (fun c1=>?_)
 ·
  refine Ja ?_
  refine gI a3 s3 ok3 (gM q6 (gB 0 (gC (Ty.int (1:Int)) (gE ok3 fun a4 s4 ok4 D4=>?_))));refine tn (Jj (tr ?_))
  exact retL2 rfl ok4 (F3.step0 D4.stp) (hasT2 (cvi (by (exact (rn_low oM).1.symm)) (D4.m 1 rfl)) (cvi (by (have:=(rn_low (s:=s) oM).2;omega)) (D4.m 2 rfl)))
 ·
  refine Jf (tn (Ja ?_))
  refine gI a3 s3 ok3 (gC (Ty.int (0:Int)) (gE ok3 fun a5 s5 ok5 D5=>?_));refine tn (Ja ?_)
  refine gI a5 s5 ok5 (gC (Ty.int (0:Int)) (gE ok5 fun a6 s6 ok6 D6=>?_));have q14:=D6.k (D5.k q6);refine tn (Ja (Ja ?_))
  refine gI a6 s6 ok6 (gM q14 (gS rfl (fun A B E G H d0=>rP (Qv (eI d0) rfl)) (gS rfl (fun A B E G H d0=>rP (Jc (eI d0))) (gS rfl (fun A B E G H d0=>gu G (eI d0) fun hg=>Jc (kp (H 4 rfl) E q14)) (gS rfl (fun A B E G H d0 d1=>gu G (eI d1) fun hg=>Jw ((ef d0 rfl).1 hg) rfl) (gS rfl (fun A B E G H d0 d1=>rP (Jp (eI d0) (eI d1) rfl)) (gE ok6 fun a7 s7 ok7 D7=>?_)))))));have F7:=((F3.step0 D5.stp).step0 D6.stp).step0 D7.stp;have q17:=D7.k (D6.k (D5.k (D3.k (D2.k q1))));have q18:=D7.k q14;refine tn ?_
  refine Go.KL.join_then (Q':=fun a8 w1=>∃ (t1:GW),t1.w = w1∧FromL [] s0 t1∧Ok 86 [] a8∧At (Ty.nat (nB ((s.get! 0).toNat))) t1 a8 (.tmp 5)∧At (Ty.nat (cB ((s.get! 0).toNat))) t1 a8 (.tmp 4)∧At (Ty.nat (lowB ((s.get! 0).toNat))) t1 a8 (.tmp 6)∧At (Ty.val (Value.string s)) t1 a8 (.tmp 0)∧True) ?_ ?_
  ·
   refine JR (D7.m 5 rfl) (fun c2=>?_) (fun c2=>?_)
   ·
    obtain ⟨d1,d2⟩:=Xo c2
    replace d1:=Xq d1
    replace d2:=Xq d2
    simp only [Bool.and_eq_true,decide_eq_true_eq] at c2;obtain ⟨n1,n2,n3⟩:=nb2 (b:=((s.get! 0).toNat)) oM
    refine Ja ?_
    refine gI a7 s7 ok7 (gC (Ty.int (2:Int)) (gE ok7 fun a9 s8 ok8 D8=>?_));refine tn (Ja ?_)
    refine gI a9 s8 ok8 (gM (D8.k q18) (gT (Ty.int (((((s.get! 0).toNat):Nat):Int) - (192:Int))) rfl (fun A B E G H d0=>rP (Xg (eI d0) rfl wX)) (gB 0 (gE ok8 fun a10 s9 ok9 D9=>?_))));refine tn ?_
    refine gI a10 s9 ok9 (gC (Ty.int (128:Int)) (gE ok9 fun a11 s10 ok10 D10=>?_))
    exact tn ⟨s10,rfl,(((F7.step0 D8.stp).step0 D9.stp).step0 D10.stp),ok10,(cJ (D10.k (D9.k (D8.m 0 rfl)))),(cJ (D10.k (D9.m 2 rfl))),(cJ (D10.m 0 rfl)),(D10.k (D9.k (D8.k q17))),trivial⟩
   ·
    simp only [Bool.and_eq_false_iff,decide_eq_false_iff_not] at c2;have k1:¬ (194 ≤ ((s.get! 0).toNat)∧((s.get! 0).toNat) < 224):=oM
    refine Ja ?_
    refine gI a7 s7 ok7 (gM q18 (gS rfl (fun A B E G H d0=>rP (Qv (eI d0) rfl)) (gS rfl (fun A B E G H d0=>rP (Jc (eI d0))) (gS rfl (fun A B E G H d0=>gu G (eI d0) fun hg=>Jc (kp (H 4 rfl) E q18)) (gS rfl (fun A B E G H d0 d1=>gu G (eI d1) fun hg=>Jw ((ef d0 rfl).1 hg) rfl) (gS rfl (fun A B E G H d0 d1=>rP (Jp (eI d0) (eI d1) rfl)) (gE ok7 fun a12 s11 ok11 D11=>?_)))))));have F11:=F7.step0 D11.stp;have q32:=D11.k q17;have q33:=D11.k q18;refine tn ?_
    refine JR (D11.m 5 rfl) (fun c3=>?_) (fun c3=>?_)
    ·
     obtain ⟨d3,d4⟩:=Xo c3
     replace d3:=Xq d3
     replace d4:=Xq d4
     simp only [Bool.and_eq_true,decide_eq_true_eq] at c3;obtain ⟨n1,n2,n3⟩:=nb3 (b:=((s.get! 0).toNat)) oM
     refine Ja ?_
     refine gI a12 s11 ok11 (gC (Ty.int (3:Int)) (gE ok11 fun a13 s12 ok12 D12=>?_));refine tn (Ja ?_)
     refine gI a13 s12 ok12 (gM (D12.k q33) (gT (Ty.int (((((s.get! 0).toNat):Nat):Int) - (224:Int))) rfl (fun A B E G H d0=>rP (Xg (eI d0) rfl wX)) (gB 0 (gE ok12 fun a14 s13 ok13 D13=>?_))));refine tn ?_
     refine gI a14 s13 ok13 (gC (Ty.int (2048:Int)) (gE ok13 fun a15 s14 ok14 D14=>?_))
     exact tn ⟨s14,rfl,(((F11.step0 D12.stp).step0 D13.stp).step0 D14.stp),ok14,(cJ (D14.k (D13.k (D12.m 0 rfl)))),(cJ (D14.k (D13.m 2 rfl))),(cJ (D14.m 0 rfl)),(D14.k (D13.k (D12.k q32))),trivial⟩
    ·
     simp only [Bool.and_eq_false_iff,decide_eq_false_iff_not] at c3;have k2:¬ (224 ≤ ((s.get! 0).toNat)∧((s.get! 0).toNat) < 240):=oM
     refine Ja ?_
     refine gI a12 s11 ok11 (gM q33 (gS rfl (fun A B E G H d0=>rP (Qv (eI d0) rfl)) (gS rfl (fun A B E G H d0=>rP (Jc (eI d0))) (gS rfl (fun A B E G H d0=>gu G (eI d0) fun hg=>Jc (kp (H 4 rfl) E q33)) (gS rfl (fun A B E G H d0 d1=>gu G (eI d1) fun hg=>Jw ((ef d0 rfl).1 hg) rfl) (gS rfl (fun A B E G H d0 d1=>rP (Jp (eI d0) (eI d1) rfl)) (gE ok11 fun a16 s15 ok15 D15=>?_)))))));have F15:=F11.step0 D15.stp;have q47:=D15.k q32;have q48:=D15.k q33;refine tn ?_
     refine JR (D15.m 5 rfl) (fun c4=>?_) (fun c4=>?_)
     ·
      obtain ⟨d5,d6⟩:=Xo c4
      replace d5:=Xq d5
      replace d6:=Xq d6
      simp only [Bool.and_eq_true,decide_eq_true_eq] at c4;obtain ⟨n1,n2,n3⟩:=nb4 (b:=((s.get! 0).toNat)) oM
      refine Ja ?_
      refine gI a16 s15 ok15 (gC (Ty.int (4:Int)) (gE ok15 fun a17 s16 ok16 D16=>?_));refine tn (Ja ?_)
      refine gI a17 s16 ok16 (gM (D16.k q48) (gT (Ty.int (((((s.get! 0).toNat):Nat):Int) - (240:Int))) rfl (fun A B E G H d0=>rP (Xg (eI d0) rfl wX)) (gB 0 (gE ok16 fun a18 s17 ok17 D17=>?_))));refine tn ?_
      refine gI a18 s17 ok17 (gC (Ty.int (65536:Int)) (gE ok17 fun a19 s18 ok18 D18=>?_))
      exact tn ⟨s18,rfl,(((F15.step0 D16.stp).step0 D17.stp).step0 D18.stp),ok18,(cJ (D18.k (D17.k (D16.m 0 rfl)))),(cJ (D18.k (D17.m 2 rfl))),(cJ (D18.m 0 rfl)),(D18.k (D17.k (D16.k q47))),trivial⟩
     ·
      simp only [Bool.and_eq_false_iff,decide_eq_false_iff_not] at c4;have k3:¬ (240 ≤ ((s.get! 0).toNat)∧((s.get! 0).toNat) < 245):=oM;obtain ⟨n1,n2,n3⟩:=nb0 k1 k2 k3
      refine Jf ?_
      exact tn ⟨s15,rfl,F15,ok15,(cJ (D15.k (D11.k (D7.k (D6.k (D5.m 0 rfl)))))),(cJ q48),(cJ (D15.k (D11.k (D7.k (D6.m 0 rfl))))),q47,trivial⟩
  ·
   rintro a20 w2 ⟨t2,rfl,F19,ok19,q62,q63,q64,q65,-⟩
   refine Ja (Ja ?_)
   refine gI a20 t2 ok19 (gM q62 (gS rfl (fun A B E G H d0=>rP (Qb (eI d0) rfl)) (gS rfl (fun A B E G H d0=>rP (Jc (eI d0))) (gS rfl (fun A B E G H d0=>gu G (eI d0) fun hg=>Jc (kp (H 0 rfl) E q65)) (gT (Ty.grd ((decide ((((nB ((s.get! 0).toNat)):Nat):Int) = (0:Int))) = false) (Ty.nat (ByteArray.size s))) rfl (fun A B E G H d0 d1=>gu G (eI d1) fun hg=>y_len_str Try.underlying9 ((ef d0 rfl).1 hg)) (gS rfl (fun A B E G H d0=>gu G (eI d0) fun hg=>Jc (kp (H 5 rfl) E q62)) (gS rfl (fun A B E G H d0 d1 d2=>gu G (eI d2) fun hg=>Jw ((ef d0 rfl).1 hg) ((ef d1 rfl).1 hg)) (gS rfl (fun A B E G H d0 d1=>rP (Jk (eI d0) rfl (eI d1))) (gE ok19 fun a21 s19 ok20 D19=>?_)))))))));have F20:=F19.step0 D19.stp;refine tn ?_
   refine JR (D19.m 7 rfl) (fun c5=>?_) (fun c5=>?_)
   ·
    simp only [Bool.or_eq_true,decide_eq_true_eq] at c5
    refine Ja ?_
    refine gI a21 s19 ok20 (gC (Ty.int (-1:Int)) (gC (Ty.int (1:Int)) (gE ok20 fun a22 s20 ok21 D20=>?_)));refine tn (Jj (tr ?_))
    exact retL2 rfl ok21 (F20.step0 D20.stp) (hasT2 (cvi (by (exact (rn_short oM oM E).1.symm)) (D20.m 0 rfl)) (cvi (by (have:=(rn_short (s:=s) oM oM E).2;omega)) (D20.m 1 rfl)))
   ·
    obtain ⟨d7,d8⟩:=Xn c5
    replace d7:=Xp d7
    replace d8:=Xp d8
    simp only [Bool.or_eq_false_iff,decide_eq_false_iff_not] at c5;have h0:nB ((s.get! 0).toNat) ≠ 0:=oM;have hsz:nB ((s.get! 0).toNat) ≤ s.size:=oM;have hcb:=hnb.2 h0
    refine Jf (tn (Ja (Ja ?_)))
    refine gI a21 s19 ok20 (gC (Ty.int (1:Int)) (gE ok20 fun a23 s21 ok22 D21=>?_));refine tn (Je ?_)
    refine Kf (fun n1 a24 w3=>∃ (t3:GW) (j:Nat),t3.w = w3∧FromL [] s0 t3∧Ok 86 [] a24∧At (Ty.nat (j + 1)) t3 a24 (.tmp 7)∧At (Ty.nat (Qi s (cB ((s.get! 0).toNat)) j)) t3 a24 (.tmp 4)∧At (Ty.nat (nB ((s.get! 0).toNat))) t3 a24 (.tmp 5)∧At (Ty.nat (lowB ((s.get! 0).toNat))) t3 a24 (.tmp 6)∧At (Ty.val (Value.string s)) t3 a24 (.tmp 0)∧(j + 1 ≤ nB ((s.get! 0).toNat))∧(∀ i,i < j → 128 ≤ (s.get! (i + 1)).toNat∧(s.get! (i + 1)).toNat < 192)∧n1 = nB ((s.get! 0).toNat) - j) (nB ((s.get! 0).toNat) - (0)) ?_ ?_
    ·
     exact ⟨s21,0,rfl,(F20.step0 D21.stp),ok22,(cvi (by (rfl)) (D21.m 0 rfl)),(cvi (by (rfl)) (D21.k (D19.k q63))),(D21.k (D19.k q62)),(D21.k (D19.k q64)),(D21.k (D19.k q65)),by omega,fun j hj=>absurd hj (Nat.not_lt_zero j),rfl⟩
    ·
     rintro n2 a25 w4 ⟨t4,j,rfl,F23,ok23,q78,q79,q80,q81,q82,hj,hc,rfl⟩
     have hab:=acc_bd (s:=s) (c:=cB ((s.get! 0).toNat)) oM hc oM
     have hbk:=UInt8.toNat_lt (s.get! (j + 1))
     refine Ja (Ja ?_)
     refine gI a25 t4 ok23 (gM q78 (gM q80 (gS rfl (fun A B E G H d0 d1=>rP (Jw (eI d0) (eI d1))) (gE ok23 fun a26 s22 ok24 D22=>?_))));have F24:=F23.step0 D22.stp;have q83:=D22.k q78;have q84:=D22.k q79;have q85:=D22.k q80;have q86:=D22.k q81;have q87:=D22.k q82;refine tn ?_
     refine Jl (p:=((((j + 1):Nat):Int) < (((nB ((s.get! 0).toNat)):Nat):Int))) (D22.m 2 rfl) (fun c6=>?_) (fun c6=>?_)
     ·
      refine Jf (tn (Ja (Je (Ja (Ja ?_)))))
      refine gI a26 s22 ok24 (gM q87 (gM q83 (gT (Ty.val (Value.int .u8 (((s.get! (j + 1)).toNat:Nat):Int))) rfl (fun A B E G H d0 d1=>rP (y_sindex Try.underlying9 (eI d0) (eI d1) oM oM)) (gS rfl (fun A B E G H d0=>rP (Jw (eI d0) rfl)) (gS rfl (fun A B E G H d0=>rP (Jc (eI d0))) (gS rfl (fun A B E G H d0=>gu G (eI d0) fun hg=>Jc (kp (H 0 rfl) E q87)) (gS rfl (fun A B E G H d0=>gu G (eI d0) fun hg=>Jc (kp (H 7 rfl) E q83)) (gT (Ty.grd ((decide ((((s.get! (j + 1)).toNat:Nat):Int) < (128:Int))) = false) (Ty.val (Value.int .u8 (((s.get! (j + 1)).toNat:Nat):Int)))) rfl (fun A B E G H d0 d1 d2=>guf G (eI d2) fun hg hp=>y_sindex Try.underlying9 ((ef d0 rfl).1 hg) ((ef d1 rfl).1 hg) oM oM) (gS rfl (fun A B E G H d0 d1=>gu G (eI d1) fun hg=>Qv ((ef d0 rfl).1 hg) rfl) (gS rfl (fun A B E G H d0 d1=>rP (Jk (eI d0) rfl (eI d1))) (gE ok24 fun a27 s23 ok25 D23=>?_)))))))))));have F25:=F24.step0 D23.stp;have q89:=D23.k q83;have q93:=D23.k q87;refine tn ?_
      refine JR (D23.m 9 rfl) (fun c7=>?_) (fun c7=>?_)
      ·
       simp only [Bool.or_eq_true,decide_eq_true_eq] at c7
       refine Ja ?_
       refine gI a27 s23 ok25 (gC (Ty.int (-1:Int)) (gC (Ty.int (1:Int)) (gE ok25 fun a28 s24 ok26 D24=>?_)));refine tn (Jj (tr (br (tr (tr (br (tr ?_)))))))
       exact retL2 rfl ok26 (F25.step0 D24.stp) (hasT2 (cvi (by (exact (rn_cont (j:=j) oM oM).1.symm)) (D24.m 0 rfl)) (cvi (by (have:=(rn_cont (s:=s) (j:=j) oM oM).2;omega)) (D24.m 1 rfl)))
      ·
       obtain ⟨d9,d10⟩:=Xn c7
       replace d9:=Xp d9
       replace d10:=Xp d10
       simp only [Bool.or_eq_false_iff,decide_eq_false_iff_not] at c7
       refine Jf (tn ?_)
       refine gI a27 s23 ok25 (gM (D23.k q84) (gT (Ty.nat ((Qi s (cB ((s.get! 0).toNat)) j) * 64)) rfl (fun A B E G H d0=>rP ((y_mul (eI d0) rfl wX).mono (fun τ _ h=>cN (σ:=τ) h))) (gM q93 (gM q89 (gT (Ty.val (Value.int .u8 (((s.get! (j + 1)).toNat:Nat):Int))) rfl (fun A B E G H d0 d1=>rP (y_sindex Try.underlying9 (eI d0) (eI d1) oM oM)) (gT (Ty.nat (s.get! (j + 1)).toNat) rfl (fun A B E G H d0=>rP (y_conv Try.underlying3 (eI d0) (by exact w64 oM oM) (by rw [Try.underlying5];rfl))) (gT (Ty.nat (((Qi s (cB ((s.get! 0).toNat)) j) * 64) + (s.get! (j + 1)).toNat)) rfl (fun A B E G H d0 d1=>rP ((JF (eI d0) (eI d1) wX).mono (fun τ _ h=>cN (σ:=τ) h))) (gT (Ty.int ((((((Qi s (cB ((s.get! 0).toNat)) j) * 64) + (s.get! (j + 1)).toNat):Nat):Int) - (128:Int))) rfl (fun A B E G H d0=>rP (Xg (eI d0) rfl wX)) (gB 0 (gE ok25 fun a29 s25 ok27 D25=>?_))))))))));refine bn (tn ?_)
       refine gI a29 s25 ok27 (gM (D25.k q89) (gT (Ty.nat ((j + 1) + 1)) rfl (fun A B E G H d0=>rP ((JF (eI d0) rfl wX).mono (fun τ _ h=>cN (σ:=τ) h))) (gB 0 (gE ok27 fun a30 s26 ok28 D26=>?_))))
       have hac:Qi s (cB ((s.get! 0).toNat)) (j + 1) = Qi s (cB ((s.get! 0).toNat)) j * 64 + ((s.get! (j + 1)).toNat - 128):=rfl
       exact tn ⟨nB ((s.get! 0).toNat) - ((j + 1)),by omega,s26,(j + 1),rfl,((F25.step0 D25.stp).step0 D26.stp),ok28,(cJ (D26.m 2 rfl)),(cJ (D26.k (D25.m 8 rfl))),(D26.k (D25.k (D23.k q85))),(D26.k (D25.k (D23.k q86))),(D26.k (D25.k q93)),by omega,acc_snoc hc oM oM,rfl⟩
     ·
      have hje:j + 1 = nB ((s.get! 0).toNat):=oM
      refine Jv (tx (tx (bx (tn (Ja (Ja ?_))))))
      refine gI a26 s22 ok24 (gM q84 (gM q86 (gS rfl (fun A B E G H d0 d1=>rP (Jw (eI d0) (eI d1))) (gS rfl (fun A B E G H d0=>rP (Jc (eI d0))) (gS rfl (fun A B E G H d0=>gu G (eI d0) fun hg=>Jc (kp (H 4 rfl) E q84)) (gS rfl (fun A B E G H d0 d1=>gu G (eI d1) fun hg=>KE ((ef d0 rfl).1 hg) rfl) (gS rfl (fun A B E G H d0 d1=>rP (Jk (eI d0) rfl (eI d1))) (gS rfl (fun A B E G H d0 d1=>rP (Jc (eI d0))) (gT (Ty.grd (((decide ((((Qi s (cB ((s.get! 0).toNat)) j):Nat):Int) < (((lowB ((s.get! 0).toNat)):Nat):Int))) || (decide ((1114111:Int) < (((Qi s (cB ((s.get! 0).toNat)) j):Nat):Int)))) = false) (Ty.nat (Qi s (cB ((s.get! 0).toNat)) j))) rfl (by intro A B E G H d0;refine Jd G rfl rfl dE (eI d0) (fun hg=>?_);obtain ⟨d11,d12⟩:=Xn hg;have d11:=Xp d11;have d12:=Xp d12;exact Jc (kp (H 4 rfl) E q84)) (gT (Ty.grd (((decide ((((Qi s (cB ((s.get! 0).toNat)) j):Nat):Int) < (((lowB ((s.get! 0).toNat)):Nat):Int))) || (decide ((1114111:Int) < (((Qi s (cB ((s.get! 0).toNat)) j):Nat):Int)))) = false) (Ty.bool (decide ((55296:Int) ≤ (((Qi s (cB ((s.get! 0).toNat)) j):Nat):Int))))) rfl (by intro A B E G H d0 d1;refine Jd G rfl rfl dE (eI d1) (fun hg=>?_);obtain ⟨d13,d14⟩:=Xn hg;have d13:=Xp d13;have d14:=Xp d14;exact Qv ((ef d0 rfl).1 hg) rfl) ?_))))))))))
      refine gT (Ty.grd (((decide ((((Qi s (cB ((s.get! 0).toNat)) j):Nat):Int) < (((lowB ((s.get! 0).toNat)):Nat):Int))) || (decide ((1114111:Int) < (((Qi s (cB ((s.get! 0).toNat)) j):Nat):Int)))) = false) (Ty.bool (decide ((55296:Int) ≤ (((Qi s (cB ((s.get! 0).toNat)) j):Nat):Int))))) rfl (by intro A B E G H d0 d1 d2;refine Jd G rfl rfl dE (eI d1) (fun hg=>?_);obtain ⟨d15,d16⟩:=Xn hg;have d15:=Xp d15;have d16:=Xp d16;exact Jc ((ef d0 rfl).1 hg)) (gS rfl (fun A B E G H d0=>gu2 G (eI d0) fun hg=>Jc (kp (H 4 rfl) E q84)) (gS rfl (fun A B E G H d0 d1=>gu2 G (eI d1) fun hg=>Jw ((ef d0 rfl).1 hg) rfl) (gT (Ty.grd (((decide ((((Qi s (cB ((s.get! 0).toNat)) j):Nat):Int) < (((lowB ((s.get! 0).toNat)):Nat):Int))) || (decide ((1114111:Int) < (((Qi s (cB ((s.get! 0).toNat)) j):Nat):Int)))) = false) (Ty.bool ((decide ((55296:Int) ≤ (((Qi s (cB ((s.get! 0).toNat)) j):Nat):Int))) && (decide ((((Qi s (cB ((s.get! 0).toNat)) j):Nat):Int) < (57344:Int)))))) rfl (by intro A B E G H d0 d1 d2;refine Jd G rfl rfl dE (eI d2) (fun hg=>?_);obtain ⟨d17,d18⟩:=Xn hg;have d17:=Xp d17;have d18:=Xp d18;exact Jp ((ef d0 rfl).1 hg) (KP hg (eI d1)) rfl) (gS rfl (fun A B E G H d0 d1=>rP (Jk (eI d0) rfl (eI d1))) (gE ok24 fun a31 s27 ok29 D27=>?_)))));have F29:=F24.step0 D27.stp;refine tn ?_
      refine JR (D27.m 14 rfl) (fun c8=>?_) (fun c8=>?_)
      ·
       simp only [Bool.or_eq_true,Bool.and_eq_true,decide_eq_true_eq] at c8
       refine Ja ?_
       refine gI a31 s27 ok29 (gC (Ty.int (-1:Int)) (gC (Ty.int (1:Int)) (gE ok29 fun a32 s28 ok30 D28=>?_)));refine tn (Jj (tr ?_))
       exact retL2 rfl ok30 (F29.step0 D28.stp) (hasT2 (cvi (by (exact (rn_bad h0 hsz hje hc oM).1.symm)) (D28.m 0 rfl)) (cvi (by (have:=(rn_bad h0 hsz hje hc oM).2;omega)) (D28.m 1 rfl)))
      ·
       obtain ⟨d19,d20⟩:=Xn c8
       obtain ⟨d21,d22⟩:=Xn d19
       replace d21:=Xp d21
       replace d22:=Xp d22
       simp only [Bool.or_eq_false_iff,Bool.and_eq_false_iff,decide_eq_false_iff_not] at c8
       refine Jf (tn (Ja ?_))
       refine gI a31 s27 ok29 (gM (D27.k q84) (gM (D27.k q85) (gB 0 (gB 0 (gE ok29 fun a33 s29 ok31 D29=>?_)))));refine tn (Jj ?_)
       exact retL2 rfl ok31 (F29.step0 D29.stp) (hasT2 (cvi (by (exact (rn_ok h0 hsz hje hc oM).1.symm)) (D29.m 2 rfl)) (cvi (by (have:=(rn_ok h0 hsz hje hc oM).2;omega)) (D29.m 3 rfl)))
theorem Try.inf3:Info Try.prog 3 (.int .i64 0) 1 8:=by unfold Info;kernel_rfl
set_option maxHeartbeats 4000000 in
set_option maxRecDepth 100000 in
theorem rRunes_fn (s:ByteArray) (σ:GW)  (v0:Value) (hv0:Ty.has (Ty.val (Value.string s)) σ v0)  (E:s.size ≤ 17592186044416) :
    FnC J 86 #[v0] σ (Ty.lst Ty.int (runsL s)):=by
 refine JT Try.func86 rfl Try.ntmps86 (Xr rfl) (fun s0 a0 hle F0 ok0 hargs=>?_)
 have p0:=pA hle (hargs 0 _ rfl) hv0
 clear hargs;refine Ja ?_
 refine gI a0 s0 ok0 (gC (Ty.val (Value.slice none 0 0)) (gE ok0 fun a1 s1 ok1 D1=>?_));refine tn (Ja ?_)
 refine gI a1 s1 ok1 (gC (Ty.val (Value.slice none 0 0)) (gE ok1 fun a2 s2 ok2 D2=>?_));refine tn (Ja (Je ?_))
 have o1:Own s2 5 3 1 (Value.slice none 0 0) 0 (List.map Ty.int ([]:List Int)):=Own.nil _ _ _ _
 refine Kf (fun n1 a3 w1=>∃ (t1:GW) (p:Nat) (f:Nat) (xs:List Int) (x3_0:Value),t1.w = w1∧FromL [] s0 t1∧Ok 22 [] a3∧At (Ty.val (Value.string (ByteArray.extract s p (ByteArray.size s)))) t1 a3 (.tmp 0)∧At (Ty.val x3_0) t1 a3 (.tmp 3)∧Own t1 5 3 1 x3_0 (List.length xs) (List.map Ty.int xs)∧(xs ++ Xe s f p = runsL s)∧(s.size ≤ f + p)∧(p ≤ s.size)∧(xs.length ≤ p)∧n1 = s.size + 1 - p) (s.size + 1 - (0)) ?_ ?_
 ·
  exact ⟨s2,0,s.size,([]:List Int),(Value.slice none 0 0),rfl,((F0.step0 D1.stp).step0 D2.stp),ok2,(cvt (by (rw [ByteArray.extract_zero_size])) (D2.k (D1.k p0))),(D2.m 0 rfl),(cvo (by (simp)) (by (simp)) o1),rfl,by omega,by omega,by simp,rfl⟩
 ·
  rintro n2 a4 w2 ⟨t2,p,f,xs,x3_0,rfl,F3,ok3,q4,q5,o2,heq,hf,hp,hx,rfl⟩
  have hez:(ByteArray.extract s p (ByteArray.size s)).size = s.size - p:=by rw [ByteArray.size_extract];omega
  have hw:=wid_pos s p
  have her:=ext_run s p
  refine Ja (Ja ?_)
  refine gI a4 t2 ok3 (gM q4 (gT (Ty.nat (ByteArray.size (ByteArray.extract s p (ByteArray.size s)))) rfl (fun A B E G H d0=>rP (y_len_str Try.underlying9 (eI d0))) (gS rfl (fun A B E G H d0=>rP (KE (eI d0) rfl)) (gE ok3 fun a5 s3 ok4 D3=>?_))));have F4:=F3.step0 D3.stp;have q6:=D3.k q4;have q7:=D3.k q5;have o3:=Own.k0 o2 D3.stp;refine tn ?_
  refine Jl (p:=((0:Int) < (((ByteArray.size (ByteArray.extract s p (ByteArray.size s))):Nat):Int))) (D3.m 2 rfl) (fun c1=>?_) (fun c1=>?_)
  ·
   have hwi:=wid_in (s:=s) (p:=p) oM
   refine Jf (tn (Je (Ja ?_)))
   refine gI a5 s3 ok4 (gM q6 (gT (Ty.tup2 (Ty.int (QI s p)) (Ty.nat (wid s p))) rfl (fun A B E G H d0=>rP ((JP _ Try.func89 rfl rfl my1 (rRuneAt_fn ((ByteArray.extract s p (ByteArray.size s))) _ _ (eI d0) oM)).mono (fun τ _ h=>cvt (σ:=τ) (T:=(Ty.tup2 (Ty.int (QI ((ByteArray.extract s p (ByteArray.size s))) 0)) (Ty.nat (wid ((ByteArray.extract s p (ByteArray.size s))) 0)))) (U:=(Ty.tup2 (Ty.int (QI s p)) (Ty.nat (wid s p)))) (by rw [her.1,her.2]) h))) (gS rfl (fun A B E G H d0=>rP (Jc (eI d0))) (gT (Ty.int (QI s p)) rfl (fun A B E G H d0=>rP (y_ext2_0 (eI d0))) (gT (Ty.nat (wid s p)) rfl (fun A B E G H d0 d1=>rP (y_ext2_1 (eI d0))) (gB 0 (gB 0 (gE ok4 fun a6 s4 ok5 D4=>?_))))))));have q10:=D4.k q7;have o4:=Own.k0 o3 D4.stp;refine tn (Ja ?_)
   refine gI a6 s4 ok5 (gM q10 (gM (D4.m 5 rfl) (gT (Ty.sl 1 1 [(Ty.int (QI s p))]) rfl (fun A B E G H d0=>rP (KW Try.underlying26 Try.inf3 rfl (Jq rfl) (eI d0))) (gE2 ok5 fun a7 s5 ok6 D5=>?_))));have o5:=Own.k0 o4 D5.stp
   have q16:At (Ty.val x3_0) s5 a7 (.tmp 14):=D5.done 0 dE
   have q17:=D5.m 2 rfl
   have b1:=JS q17
   refine tL ok6 (YldM.toL (KC Try.underlying26 Try.inf3 dE rfl dE (al (R:=(Pr.own 5 3 1 (List.length xs) (List.map Ty.int xs))) q16 o5) q17 (by intro U hU;simp at hU;subst hU;exact Jq rfl) oM oM)) fun a8 s6 hs1 ok7 r1 sm1=>?_
   have q19:=kq hs1 sm1 3 (D5.k q10)
   obtain ⟨x1,hx1⟩:∃ x,a8.eval (.tmp 17) = x:=⟨_,rfl⟩
   have q21:At (Ty.val x1) s6 a8 (.tmp 17):=hx1
   have o6:=al2 (R:=(Pr.own 5 3 1 (List.length (xs ++ [(QI s p)])) (List.map Ty.int (xs ++ [(QI s p)])))) hx1 (cvo (by simp) (by first | (rw [List.map_append];rfl) | simp) r1)
   clear r1
   refine tL ok7 (Yld.toL (y_as q21)) fun a9 s7 hs2 ok8 r2 sm2=>?_
   have q24:At (Ty.val x1) s7 a9 (.tmp 3):=r2
   clear r2;refine Jh (tn ?_)
   refine gI a9 s7 ok8 (gM (kq hs2 sm2 0 (kq hs1 sm1 0 (D5.k (D4.k q6)))) (gM (kq hs2 sm2 5 (kq hs1 sm1 5 (D5.k (D4.m 6 rfl)))) (gT (Ty.val (Value.string (ByteArray.extract (ByteArray.extract s p (ByteArray.size s)) (wid s p) (ByteArray.size (ByteArray.extract s p (ByteArray.size s)))))) rfl (fun A B E G H d0 d1=>rP (y_sfrom (l:=(wid s p)) Try.underlying9 (eI d0) (eI d1) oM)) (gB 0 (gE ok8 fun a10 s8 ok9 D6=>?_)))));have o8:=Own.k0 (Own.kl o6 hs2) D6.stp;refine bn ?_
   exact tn ⟨s.size + 1 - ((p + wid s p)),by omega,s8,(p + wid s p),(f - 1),(xs ++ [QI s p]),x1,rfl,(((((F4.step0 D4.stp).step0 D5.stp).sl hs1).sl hs2).step0 D6.stp),ok9,(cvt (by (rw [ext_ext hwi])) (D6.m 3 rfl)),(D6.k q24),(cvo (by (simp)) (by (simp)) o8),runsF_step heq oM oM,by omega,by omega,by simp;omega,rfl⟩
  ·
   refine Jv (tx (tx (bx (tn (Ja ?_)))))
   refine gI a5 s3 ok4 (gM q7 (gB 0 (gE ok4 fun a11 s9 ok10 D7=>?_)));have o9:=Own.k0 o3 D7.stp
   have q27:At (Ty.val x3_0) s9 a11 (.tmp 2):=D7.done 1
   refine tn (Jj ?_)
   obtain ⟨t3,e1,h1,q28⟩:=Own.seal o9 dE
   rw [← e1]
   have F11:=(F4.step0 D7.stp).step h1 dE
   have q29:At (Ty.lst Ty.int xs) t3 a11 (.tmp 2):=by have e:a11.eval (.tmp 2) = x3_0:=q27;show Ty.has _ _ _;rw [e];exact q28
   exact JJ rfl ok10 F11 (cvt (by (rw [runsF_end oM,List.append_nil] at heq;rw [heq])) q29)
set_option maxHeartbeats 4000000 in
set_option maxRecDepth 100000 in
theorem rIsName_fn (s:ByteArray) (σ:GW)  (v0:Value) (hv0:Ty.has (Ty.val (Value.string s)) σ v0)  (E:s.size ≤ 17592186044416) :
    FnC J 72 #[v0] σ (Ty.bool (nameL s)):=by
 obtain ⟨L,hL⟩:∃ L,L = runsL s:=⟨_,rfl⟩
 have hne:nameI L = nameL s:=by rw [hL,name_eq]
 refine JT Try.func72 rfl Try.ntmps72 (Xr rfl) (fun s0 a0 hle F0 ok0 hargs=>?_)
 have p0:=pA hle (hargs 0 _ rfl) hv0
 clear hargs;refine Ja ?_
 refine gI a0 s0 ok0 (gC (Ty.bool false) (gE ok0 fun a1 s1 ok1 D1=>?_));refine tn (Ja ?_)
 refine gI a1 s1 ok1 (gM (D1.k p0) (gT (Ty.lst Ty.int L) rfl (fun A B E G H d0=>rP ((JP _ Try.func86 rfl rfl my1 (rRunes_fn (s) _ _ (eI d0) oM)).mono (fun τ _ h=>cvt (σ:=τ) (T:=(Ty.lst Ty.int (runsL s))) (U:=(Ty.lst Ty.int L)) (by rw [hL]) h))) (gB 0 (gE ok1 fun a2 s2 ok2 D2=>?_))));have q2:=D2.m 2 rfl;refine tn (Ja (Ja ?_))
 refine gI a2 s2 ok2 (gM q2 (gS rfl (fun A B E G H d0=>rP (Jt Try.underlying26 (eI d0))) (gS rfl (fun A B E G H d0=>rP (Jw (eI d0) rfl)) (gS rfl (fun A B E G H d0=>rP (Jc (eI d0))) (gS rfl (fun A B E G H d0=>gu G (eI d0) fun hg=>Jc (kp (H 3 rfl) E q2)) (gS rfl (fun A B E G H d0 d1=>gu G (eI d1) fun hg=>Jt Try.underlying26 ((ef d0 rfl).1 hg)) (gS rfl (fun A B E G H d0 d1=>gu G (eI d1) fun hg=>KE ((ef d0 rfl).1 hg) rfl) (gS rfl (fun A B E G H d0 d1=>rP (Jk (eI d0) rfl (eI d1))) (gS rfl (fun A B E G H d0 d1=>rP (Jc (eI d0))) (gT (Ty.grd (((decide ((((List.length L):Nat):Int) < (1:Int))) || (decide ((20:Int) < (((List.length L):Nat):Int)))) = false) (Ty.lst Ty.int L)) rfl (by intro A B E G H d0;refine Jd G rfl rfl dE (eI d0) (fun hg=>?_);obtain ⟨d1,d2⟩:=Xn hg;have d1:=Xp d1;have d2:=Xp d2;exact Jc (kp (H 3 rfl) E q2)) (gT (Ty.grd (((decide ((((List.length L):Nat):Int) < (1:Int))) || (decide ((20:Int) < (((List.length L):Nat):Int)))) = false) (Ty.ref [(Ty.int (L.getD ((0:Int)).toNat 0))])) rfl (by intro A B E G H d0 d1;refine Jd G rfl rfl dE (eI d1) (fun hg=>?_);obtain ⟨d3,d4⟩:=Xn hg;have d3:=Xp d3;have d4:=Xp d4;exact Jy Try.underlying26 Try.inf3 ((ef d0 rfl).1 hg) rfl oM (Ju Ty.int L 0 ((0:Int)).toNat oM)) ?_)))))))))))
 refine gT (Ty.grd (((decide ((((List.length L):Nat):Int) < (1:Int))) || (decide ((20:Int) < (((List.length L):Nat):Int)))) = false) (Ty.int (L.getD ((0:Int)).toNat 0))) rfl (by intro A B E G H d0 d1;refine Jd G rfl rfl dE (eI d1) (fun hg=>?_);obtain ⟨d5,d6⟩:=Xn hg;have d5:=Xp d5;have d6:=Xp d6;exact Jm Try.underlying3 rfl ((ef d0 rfl).1 hg) rfl) (gT (Ty.grd (((decide ((((List.length L):Nat):Int) < (1:Int))) || (decide ((20:Int) < (((List.length L):Nat):Int)))) = false) (Ty.bool (decide ((L.getD ((0:Int)).toNat 0) = (32:Int))))) rfl (by intro A B E G H d0 d1;refine Jd G rfl rfl dE (eI d1) (fun hg=>?_);obtain ⟨d7,d8⟩:=Xn hg;have d7:=Xp d7;have d8:=Xp d8;exact Qb ((ef d0 rfl).1 hg) rfl) (gS rfl (fun A B E G H d0 d1=>rP (Jk (eI d0) rfl (eI d1))) (gS rfl (fun A B E G H d0 d1=>rP (Jc (eI d0))) (gT (Ty.grd ((((decide ((((List.length L):Nat):Int) < (1:Int))) || (decide ((20:Int) < (((List.length L):Nat):Int)))) || (decide ((L.getD ((0:Int)).toNat 0) = (32:Int)))) = false) (Ty.lst Ty.int L)) rfl (by intro A B E G H d0;refine Jd G rfl rfl dE (eI d0) (fun hg=>?_);obtain ⟨d9,d10⟩:=Xn hg;obtain ⟨d11,d12⟩:=Xn d9;have d11:=Xp d11;have d12:=Xp d12;have d10:=Xp d10;exact Jc (kp (H 3 rfl) E q2)) ?_))))
 refine gT (Ty.grd ((((decide ((((List.length L):Nat):Int) < (1:Int))) || (decide ((20:Int) < (((List.length L):Nat):Int)))) || (decide ((L.getD ((0:Int)).toNat 0) = (32:Int)))) = false) (Ty.lst Ty.int L)) rfl (by intro A B E G H d0;refine Jd G rfl rfl dE (eI d0) (fun hg=>?_);obtain ⟨d13,d14⟩:=Xn hg;obtain ⟨d15,d16⟩:=Xn d13;have d15:=Xp d15;have d16:=Xp d16;have d14:=Xp d14;exact Jc (kp (H 3 rfl) E q2)) (gT (Ty.grd ((((decide ((((List.length L):Nat):Int) < (1:Int))) || (decide ((20:Int) < (((List.length L):Nat):Int)))) || (decide ((L.getD ((0:Int)).toNat 0) = (32:Int)))) = false) (Ty.nat (List.length L))) rfl (by intro A B E G H d0 d1;refine Jd G rfl rfl dE (eI d1) (fun hg=>?_);obtain ⟨d17,d18⟩:=Xn hg;obtain ⟨d19,d20⟩:=Xn d17;have d19:=Xp d19;have d20:=Xp d20;have d18:=Xp d18;exact Jt Try.underlying26 ((ef d0 rfl).1 hg)) (gT (Ty.grd ((((decide ((((List.length L):Nat):Int) < (1:Int))) || (decide ((20:Int) < (((List.length L):Nat):Int)))) || (decide ((L.getD ((0:Int)).toNat 0) = (32:Int)))) = false) (Ty.nat ((List.length L) - 1))) rfl (by intro A B E G H d0 d1;refine Jd G rfl rfl dE (eI d1) (fun hg=>?_);obtain ⟨d21,d22⟩:=Xn hg;obtain ⟨d23,d24⟩:=Xn d21;have d23:=Xp d23;have d24:=Xp d24;have d22:=Xp d22;exact (Xg ((ef d0 rfl).1 hg) rfl wX).mono (fun τ _ h=>cvi (σ:=τ) oM h)) ?_))
 refine gT (Ty.grd ((((decide ((((List.length L):Nat):Int) < (1:Int))) || (decide ((20:Int) < (((List.length L):Nat):Int)))) || (decide ((L.getD ((0:Int)).toNat 0) = (32:Int)))) = false) (Ty.ref [(Ty.int (L.getD ((List.length L) - 1) 0))])) rfl (by intro A B E G H d0 d1 d2;refine Jd G rfl rfl dE (eI d2) (fun hg=>?_);obtain ⟨d25,d26⟩:=Xn hg;obtain ⟨d27,d28⟩:=Xn d25;have d27:=Xp d27;have d28:=Xp d28;have d26:=Xp d26;exact Jy Try.underlying26 Try.inf3 ((ef d0 rfl).1 hg) ((ef d1 rfl).1 hg) oM (Ju Ty.int L 0 ((List.length L) - 1) oM)) (gT (Ty.grd ((((decide ((((List.length L):Nat):Int) < (1:Int))) || (decide ((20:Int) < (((List.length L):Nat):Int)))) || (decide ((L.getD ((0:Int)).toNat 0) = (32:Int)))) = false) (Ty.int (L.getD ((List.length L) - 1) 0))) rfl (by intro A B E G H d0 d1;refine Jd G rfl rfl dE (eI d1) (fun hg=>?_);obtain ⟨d29,d30⟩:=Xn hg;obtain ⟨d31,d32⟩:=Xn d29;have d31:=Xp d31;have d32:=Xp d32;have d30:=Xp d30;exact Jm Try.underlying3 rfl ((ef d0 rfl).1 hg) rfl) (gT (Ty.grd ((((decide ((((List.length L):Nat):Int) < (1:Int))) || (decide ((20:Int) < (((List.length L):Nat):Int)))) || (decide ((L.getD ((0:Int)).toNat 0) = (32:Int)))) = false) (Ty.bool (decide ((L.getD ((List.length L) - 1) 0) = (32:Int))))) rfl (by intro A B E G H d0 d1;refine Jd G rfl rfl dE (eI d1) (fun hg=>?_);obtain ⟨d33,d34⟩:=Xn hg;obtain ⟨d35,d36⟩:=Xn d33;have d35:=Xp d35;have d36:=Xp d36;have d34:=Xp d34;exact Qb ((ef d0 rfl).1 hg) rfl) ?_))
 refine gS rfl (fun A B E G H d0 d1=>rP (Jk (eI d0) rfl (eI d1))) (gE ok2 fun a3 s3 ok3 D3=>?_);have F3:=((F0.step0 D1.stp).step0 D2.stp).step0 D3.stp;refine tn ?_
 refine JR (D3.m 22 rfl) (fun c1=>?_) (fun c1=>?_)
 ·
  simp only [Bool.or_eq_true,decide_eq_true_eq,Int.toNat_zero] at c1;have hb:=name_bad (l:=L) oM
  refine Ja ?_
  refine gI a3 s3 ok3 (gC (Ty.bool false) (gE ok3 fun a4 s4 ok4 D4=>?_));refine tn (Jj (tr ?_))
  exact JJ rfl ok4 (F3.step0 D4.stp) (cvb (by (rw [← hne,hb])) (D4.m 0 rfl))
 ·
  obtain ⟨d37,d38⟩:=Xn c1
  obtain ⟨d39,d40⟩:=Xn d37
  obtain ⟨d41,d42⟩:=Xn d39
  replace d41:=Xp d41
  replace d42:=Xp d42
  replace d40:=Xp d40
  replace d38:=Xp d38
  have hx1:¬ (L.length < 1 ∨ 20 < L.length ∨ L.getD 0 0 = 32 ∨ L.getD (L.length - 1) 0 = 32):=(by simp only [Bool.or_eq_false_iff,decide_eq_false_iff_not,Int.toNat_zero] at c1;omega)
  refine Jf (tn (Ja (Ja ?_)))
  refine gI a3 s3 ok3 (gC (Ty.int (0:Int)) (gE ok3 fun a5 s5 ok5 D5=>?_));refine tn (Je ?_)
  refine Kf (fun n1 a6 w1=>∃ (t1:GW) (i:Nat),t1.w = w1∧FromL [] s0 t1∧Ok 86 [] a6∧At (Ty.nat i) t1 a6 (.tmp 4)∧At (Ty.lst Ty.int L) t1 a6 (.tmp 3)∧(i ≤ L.length)∧(∀ j,j < i → KT (L.getD j 0) = true)∧n1 = L.length - i) (L.length - (0)) ?_ ?_
  ·
   exact ⟨s5,0,rfl,(F3.step0 D5.stp),ok5,(cJ (D5.m 0 rfl)),(D5.k (D3.k q2)),by omega,fun j hj=>absurd hj (Nat.not_lt_zero j),rfl⟩
  ·
   rintro n2 a7 w2 ⟨t2,i,rfl,F6,ok6,q8,q9,hi,hal,rfl⟩
   refine Ja (Ja ?_)
   refine gI a7 t2 ok6 (gM q8 (gM q9 (gS rfl (fun A B E G H d0=>rP (Jt Try.underlying26 (eI d0))) (gS rfl (fun A B E G H d0 d1=>rP (Jw (eI d0) (eI d1))) (gE ok6 fun a8 s6 ok7 D6=>?_)))));have F7:=F6.step0 D6.stp;have q10:=D6.k q8;have q11:=D6.k q9;refine tn ?_
   refine Jl (p:=(((i:Nat):Int) < (((List.length L):Nat):Int))) (D6.m 3 rfl) (fun c2=>?_) (fun c2=>?_)
   ·
    refine Jf (tn (Ja (Je (Ja ?_))))
    refine gI a8 s6 ok7 (gM q11 (gM q10 (gT (Ty.ref [(Ty.int (L.getD i 0))]) rfl (fun A B E G H d0 d1=>rP (Jy Try.underlying26 Try.inf3 (eI d0) (eI d1) oM (Ju Ty.int L 0 i oM))) (gS rfl (fun A B E G H d0=>rP (Jm Try.underlying3 rfl (eI d0) rfl)) (gB 0 (gE ok7 fun a9 s7 ok8 D7=>?_))))));have q15:=D7.m 4 rfl;refine tn (Ja ?_)
    refine gI a9 s7 ok8 (gM q15 (gS rfl (fun A B E G H d0=>rP (Qv (eI d0) rfl)) (gS rfl (fun A B E G H d0=>rP (Jc (eI d0))) (gS rfl (fun A B E G H d0=>gu G (eI d0) fun hg=>Jc (kp (H 5 rfl) E q15)) (gS rfl (fun A B E G H d0 d1=>gu G (eI d1) fun hg=>y_leq ((ef d0 rfl).1 hg) rfl) (gS rfl (fun A B E G H d0 d1=>rP (Jp (eI d0) (eI d1) rfl)) (gS rfl (fun A B E G H d0 d1=>rP (Jc (eI d0))) (gS rfl (fun A B E G H d0=>gu G (eI d0) fun hg=>Jc (kp (H 5 rfl) E q15)) (gS rfl (fun A B E G H d0 d1=>gu G (eI d1) fun hg=>Qv ((ef d0 rfl).1 hg) rfl) (gS rfl (fun A B E G H d0 d1 d2=>gu G (eI d1) fun hg=>y_mv ((ef d0 rfl).1 hg)) (gS rfl (fun A B E G H d0=>gu2 G (eI d0) fun hg=>Jc (kp (H 5 rfl) E q15)) (gS rfl (fun A B E G H d0 d1=>gu2 G (eI d1) fun hg=>y_leq ((ef d0 rfl).1 hg) rfl) (gS rfl (fun A B E G H d0 d1 d2=>gu G (eI d2) fun hg=>Jp ((ef d0 rfl).1 hg) (KP hg (eI d1)) rfl) (gS rfl (fun A B E G H d0 d1=>rP (Jk (eI d0) rfl (eI d1))) (gS rfl (fun A B E G H d0 d1=>rP (Jc (eI d0))) (gT (Ty.grd ((((decide ((65:Int) ≤ (L.getD i 0))) && (decide ((L.getD i 0) ≤ (90:Int)))) || ((decide ((97:Int) ≤ (L.getD i 0))) && (decide ((L.getD i 0) ≤ (122:Int))))) = false) (Ty.int (L.getD i 0))) rfl (by intro A B E G H d0;refine Jd G rfl rfl dE (eI d0) (fun hg=>?_);obtain ⟨d43,d44⟩:=Xn hg;exact Jc (kp (H 5 rfl) E q15)) ?_))))))))))))))))
    refine gT (Ty.grd ((((decide ((65:Int) ≤ (L.getD i 0))) && (decide ((L.getD i 0) ≤ (90:Int)))) || ((decide ((97:Int) ≤ (L.getD i 0))) && (decide ((L.getD i 0) ≤ (122:Int))))) = false) (Ty.bool (decide ((48:Int) ≤ (L.getD i 0))))) rfl (by intro A B E G H d0 d1;refine Jd G rfl rfl dE (eI d1) (fun hg=>?_);obtain ⟨d45,d46⟩:=Xn hg;exact Qv ((ef d0 rfl).1 hg) rfl) (gT (Ty.grd ((((decide ((65:Int) ≤ (L.getD i 0))) && (decide ((L.getD i 0) ≤ (90:Int)))) || ((decide ((97:Int) ≤ (L.getD i 0))) && (decide ((L.getD i 0) ≤ (122:Int))))) = false) (Ty.bool (decide ((48:Int) ≤ (L.getD i 0))))) rfl (by intro A B E G H d0 d1 d2;refine Jd G rfl rfl dE (eI d1) (fun hg=>?_);obtain ⟨d47,d48⟩:=Xn hg;exact Jc ((ef d0 rfl).1 hg)) (gS rfl (fun A B E G H d0=>gu2 G (eI d0) fun hg=>Jc (kp (H 5 rfl) E q15)) (gS rfl (fun A B E G H d0 d1=>gu2 G (eI d1) fun hg=>y_leq ((ef d0 rfl).1 hg) rfl) (gT (Ty.grd ((((decide ((65:Int) ≤ (L.getD i 0))) && (decide ((L.getD i 0) ≤ (90:Int)))) || ((decide ((97:Int) ≤ (L.getD i 0))) && (decide ((L.getD i 0) ≤ (122:Int))))) = false) (Ty.bool ((decide ((48:Int) ≤ (L.getD i 0))) && (decide ((L.getD i 0) ≤ (57:Int)))))) rfl (by intro A B E G H d0 d1 d2;refine Jd G rfl rfl dE (eI d2) (fun hg=>?_);obtain ⟨d49,d50⟩:=Xn hg;exact Jp ((ef d0 rfl).1 hg) (KP hg (eI d1)) rfl) (gS rfl (fun A B E G H d0 d1=>rP (Jk (eI d0) rfl (eI d1))) (gS rfl (fun A B E G H d0 d1=>rP (Jc (eI d0))) ?_))))))
    refine gT (Ty.grd (((((decide ((65:Int) ≤ (L.getD i 0))) && (decide ((L.getD i 0) ≤ (90:Int)))) || ((decide ((97:Int) ≤ (L.getD i 0))) && (decide ((L.getD i 0) ≤ (122:Int))))) || ((decide ((48:Int) ≤ (L.getD i 0))) && (decide ((L.getD i 0) ≤ (57:Int))))) = false) (Ty.int (L.getD i 0))) rfl (by intro A B E G H d0;refine Jd G rfl rfl dE (eI d0) (fun hg=>?_);obtain ⟨d51,d52⟩:=Xn hg;obtain ⟨d53,d54⟩:=Xn d51;exact Jc (kp (H 5 rfl) E q15)) (gT (Ty.grd (((((decide ((65:Int) ≤ (L.getD i 0))) && (decide ((L.getD i 0) ≤ (90:Int)))) || ((decide ((97:Int) ≤ (L.getD i 0))) && (decide ((L.getD i 0) ≤ (122:Int))))) || ((decide ((48:Int) ≤ (L.getD i 0))) && (decide ((L.getD i 0) ≤ (57:Int))))) = false) (Ty.bool (decide ((L.getD i 0) = (32:Int))))) rfl (by intro A B E G H d0 d1;refine Jd G rfl rfl dE (eI d1) (fun hg=>?_);obtain ⟨d55,d56⟩:=Xn hg;obtain ⟨d57,d58⟩:=Xn d55;exact Qb ((ef d0 rfl).1 hg) rfl) (gS rfl (fun A B E G H d0 d1=>rP (Jk (eI d0) rfl (eI d1))) (gB 0 (gE ok8 fun a10 s8 ok9 D8=>?_))));have q18:=D8.k q15;refine tn (Ja ?_)
    refine gI a10 s8 ok9 (gM (D8.m 26 rfl) (gS rfl (fun A B E G H d0=>rP (y_not (eI d0))) (gS rfl (fun A B E G H d0=>rP (Jc (eI d0))) (gS rfl (fun A B E G H d0=>gu G (eI d0) fun hg=>Jc (kp (H 5 rfl) E q18)) (gS rfl (fun A B E G H d0 d1=>gu G (eI d1) fun hg=>Jw ((ef d0 rfl).1 hg) rfl) (gS rfl (fun A B E G H d0 d1 d2=>gu G (eI d1) fun hg=>y_mv ((ef d0 rfl).1 hg)) (gS rfl (fun A B E G H d0=>gu2 G (eI d0) fun hg=>Jc (kp (H 5 rfl) E q18)) (gS rfl (fun A B E G H d0 d1=>gu2 G (eI d1) fun hg=>KE ((ef d0 rfl).1 hg) rfl) (gS rfl (fun A B E G H d0 d1 d2=>gu G (eI d2) fun hg=>Jk ((ef d0 rfl).1 hg) rfl (KP hg (eI d1))) (gS rfl (fun A B E G H d0 d1 d2=>gu G (eI d2) fun hg=>y_mv ((ef d0 rfl).1 hg)) (gT (Ty.grd (((!(((((decide ((65:Int) ≤ (L.getD i 0))) && (decide ((L.getD i 0) ≤ (90:Int)))) || ((decide ((97:Int) ≤ (L.getD i 0))) && (decide ((L.getD i 0) ≤ (122:Int))))) || ((decide ((48:Int) ≤ (L.getD i 0))) && (decide ((L.getD i 0) ≤ (57:Int))))) || (decide ((L.getD i 0) = (32:Int))))) = true)∧((decide ((L.getD i 0) < (192:Int))) || (decide ((382:Int) < (L.getD i 0)))) = false) (Ty.int (L.getD i 0))) rfl (by intro A B E G H d0;refine Qf G rfl rfl dE (eI d0) (fun hg=>?_);obtain ⟨d59,d60⟩:=Xn hg.2;have d59:=Xp d59;have d60:=Xp d60;exact Jc (kp (H 5 rfl) E q18)) ?_)))))))))))
    refine gT (Ty.grd (((!(((((decide ((65:Int) ≤ (L.getD i 0))) && (decide ((L.getD i 0) ≤ (90:Int)))) || ((decide ((97:Int) ≤ (L.getD i 0))) && (decide ((L.getD i 0) ≤ (122:Int))))) || ((decide ((48:Int) ≤ (L.getD i 0))) && (decide ((L.getD i 0) ≤ (57:Int))))) || (decide ((L.getD i 0) = (32:Int))))) = true)∧((decide ((L.getD i 0) < (192:Int))) || (decide ((382:Int) < (L.getD i 0)))) = false) (Ty.bool (decide ((L.getD i 0) = (215:Int))))) rfl (by intro A B E G H d0 d1;refine Qf G rfl rfl dE (eI d1) (fun hg=>?_);obtain ⟨d61,d62⟩:=Xn hg.2;have d61:=Xp d61;have d62:=Xp d62;exact Qb ((ef d0 rfl).1 hg) rfl) (gS rfl (fun A B E G H d0 d1 d2=>gu G (eI d2) fun hg=>Jk ((ef d0 rfl).1 hg) rfl (KP hg (eI d1))) (gS rfl (fun A B E G H d0 d1 d2=>gu G (eI d2) fun hg=>y_mv ((ef d0 rfl).1 hg)) (gT (Ty.grd (((!(((((decide ((65:Int) ≤ (L.getD i 0))) && (decide ((L.getD i 0) ≤ (90:Int)))) || ((decide ((97:Int) ≤ (L.getD i 0))) && (decide ((L.getD i 0) ≤ (122:Int))))) || ((decide ((48:Int) ≤ (L.getD i 0))) && (decide ((L.getD i 0) ≤ (57:Int))))) || (decide ((L.getD i 0) = (32:Int))))) = true)∧(((decide ((L.getD i 0) < (192:Int))) || (decide ((382:Int) < (L.getD i 0)))) || (decide ((L.getD i 0) = (215:Int)))) = false) (Ty.int (L.getD i 0))) rfl (by intro A B E G H d0;refine Qf G rfl rfl dE (eI d0) (fun hg=>?_);obtain ⟨d63,d64⟩:=Xn hg.2;obtain ⟨d65,d66⟩:=Xn d63;have d65:=Xp d65;have d66:=Xp d66;have d64:=Xp d64;exact Jc (kp (H 5 rfl) E q18)) ?_)))
    refine gT (Ty.grd (((!(((((decide ((65:Int) ≤ (L.getD i 0))) && (decide ((L.getD i 0) ≤ (90:Int)))) || ((decide ((97:Int) ≤ (L.getD i 0))) && (decide ((L.getD i 0) ≤ (122:Int))))) || ((decide ((48:Int) ≤ (L.getD i 0))) && (decide ((L.getD i 0) ≤ (57:Int))))) || (decide ((L.getD i 0) = (32:Int))))) = true)∧(((decide ((L.getD i 0) < (192:Int))) || (decide ((382:Int) < (L.getD i 0)))) || (decide ((L.getD i 0) = (215:Int)))) = false) (Ty.bool (decide ((L.getD i 0) = (247:Int))))) rfl (by intro A B E G H d0 d1;refine Qf G rfl rfl dE (eI d1) (fun hg=>?_);obtain ⟨d67,d68⟩:=Xn hg.2;obtain ⟨d69,d70⟩:=Xn d67;have d69:=Xp d69;have d70:=Xp d70;have d68:=Xp d68;exact Qb ((ef d0 rfl).1 hg) rfl) (gS rfl (fun A B E G H d0 d1 d2=>gu G (eI d2) fun hg=>Jk ((ef d0 rfl).1 hg) rfl (KP hg (eI d1))) (gS rfl (fun A B E G H d0 d1=>rP (Jp (eI d0) (eI d1) rfl)) (gE ok9 fun a11 s9 ok10 D9=>?_)));have F10:=((F7.step0 D7.stp).step0 D8.stp).step0 D9.stp;refine tn ?_
    refine JR (D9.m 17 rfl) (fun c3=>?_) (fun c3=>?_)
    ·
     obtain ⟨d71,d72⟩:=Xo c3
     have hlb:KT (L.getD i 0) = false:=(by rw [Bool.eq_false_iff];intro h_;simp only [KT,Bool.or_eq_true,Bool.and_eq_true,Bool.not_eq_true,Bool.or_eq_false_iff,Bool.and_eq_false_iff,Bool.not_eq_true',decide_eq_true_eq,decide_eq_false_iff_not] at h_ c3;omega);have hb:=name_let (l:=L) oM hlb
     refine Ja ?_
     refine gI a11 s9 ok10 (gC (Ty.bool false) (gE ok10 fun a12 s10 ok11 D10=>?_));refine tn (Jj (br (tr (tr (br (tr ?_))))))
     exact JJ rfl ok11 (F10.step0 D10.stp) (cvb (by (rw [← hne,hb])) (D10.m 0 rfl))
    ·
     have hlb:KT (L.getD i 0) = true:=(by simp only [KT,Bool.or_eq_true,Bool.and_eq_true,Bool.not_eq_false',Bool.or_eq_false_iff,Bool.and_eq_false_iff,decide_eq_true_eq,decide_eq_false_iff_not] at c3 ⊢;omega)
     refine Jf (bn (tn ?_))
     refine gI a11 s9 ok10 (gM (D9.k (D8.k (D7.k q10))) (gT (Ty.nat (i + 1)) rfl (fun A B E G H d0=>rP ((JF (eI d0) rfl wX).mono (fun τ _ h=>cN (σ:=τ) h))) (gB 0 (gE ok10 fun a13 s11 ok12 D11=>?_))))
     exact tn ⟨L.length - ((i+1)),by omega,s11,(i+1),rfl,(F10.step0 D11.stp),ok12,(cJ (D11.m 2 rfl)),(D11.k (D9.k (D8.k (D7.k q11)))),by omega,fun j hj=>by (by_cases e:j = i;subst e;exact hlb;exact hal j oM),rfl⟩
   ·
    refine Jv (tx (tx (bx (tn (Ja ?_)))))
    refine gI a8 s6 ok7 (gC (Ty.bool true) (gE ok7 fun a14 s12 ok13 D12=>?_));refine tn (Jj ?_)
    exact JJ rfl ok13 (F7.step0 D12.stp) (cvb (by (rw [← hne];exact (name_good hx1 (fun j hj=>hal j oM)).symm)) (D12.m 0 rfl))
set_option maxRecDepth 100000 in
theorem rChangeMay_fn (n:Int) (l:List Int) (σ:GW) (v0 v1:Value) (hv0:Ty.has (Ty.int n) σ v0) (hv1:Ty.has (Ty.lst Ty.int l) σ v1) (hn:-9223372036854775808 ≤ n∧n ≤ 9223372036854775807) :
    FnC J 43 #[v0,v1] σ (Ty.int (KX n l)):=by
 refine KQ Try.func43 rfl Try.ntmps43 (Xr rfl) (fun s0 a0 hle F0 ok0 hargs=>?_)
 have p0:=pA hle (hargs 0 _ rfl) hv0
 have p1:=pA hle (hargs 1 _ rfl) hv1
 have b1:=JS p1
 clear hargs;refine Ja ?_
 refine gI a0 s0 ok0 (gC (Ty.int (0:Int)) (gE ok0 fun a1 s1 ok1 D1=>?_));have q1:=D1.k p0;refine tn (Ja (Ja ?_))
 refine gI a1 s1 ok1 (gM q1 (gS rfl (fun A B E G H d0=>rP (Jw (eI d0) rfl)) (gS rfl (fun A B E G H d0=>rP (Jc (eI d0))) (gS rfl (fun A B E G H d0=>gu G (eI d0) fun hg=>Jc (kp (H 0 rfl) E q1)) (gS rfl (fun A B E G H d0 d1=>gu G (eI d1) fun hg=>KE ((ef d0 rfl).1 hg) rfl) (gS rfl (fun A B E G H d0 d1=>rP (Jk (eI d0) rfl (eI d1))) (gE ok1 fun a2 s2 ok2 D2=>?_)))))));have F2:=(F0.step0 D1.stp).step0 D2.stp;refine tn ?_
 refine JR (D2.m 5 rfl) (fun c1=>?_) (fun c1=>?_)
 ·
  simp only [Bool.or_eq_true,decide_eq_true_eq] at c1
  refine Ja ?_
  refine gI a2 s2 ok2 (gC (Ty.int (1:Int)) (gE ok2 fun a3 s3 ok3 D3=>?_));refine tn (Jj (tr ?_))
  exact QS rfl ok3 (F2.step0 D3.stp) (cvi (by (exact (chgMay_cnt oM).symm)) (D3.m 0 rfl))
 ·
  obtain ⟨d1,d2⟩:=Xn c1
  replace d1:=Xp d1
  replace d2:=Xp d2
  refine Jf (tn (Ja ?_))
  refine gI a2 s2 ok2 (gC (Ty.int (0:Int)) (gE ok2 fun a4 s4 ok4 D4=>?_));refine tn (Ja (Ja ?_))
  refine gI a4 s4 ok4 (gC (Ty.int (0:Int)) (gE ok4 fun a5 s5 ok5 D5=>?_));refine tn (Je ?_)
  refine Kf (fun n1 a6 w1=>∃ (t1:GW) (k:Nat) (z:Int),t1.w = w1∧From s0 t1∧Ok 52 [] a6∧At (Ty.nat k) t1 a6 (.tmp 6)∧At (Ty.int z) t1 a6 (.tmp 5)∧At (Ty.int n) t1 a6 (.tmp 0)∧At (Ty.lst Ty.int l) t1 a6 (.tmp 1)∧(k ≤ l.length)∧(QH n l k = some z)∧(0 ≤ z∧z ≤ n)∧n1 = l.length - k) (l.length - (0)) ?_ ?_
  ·
   exact ⟨s5,0,0,rfl,((F2.step0 D4.stp).step0 D5.stp),ok5,(cJ (D5.m 0 rfl)),(cJ (D5.k (D4.m 0 rfl))),(D5.k (D4.k (D2.k q1))),(D5.k (D4.k (D2.k (D1.k p1)))),by omega,rfl,by omega,rfl⟩
  ·
   rintro n2 a7 w2 ⟨t2,k,z,rfl,F6,ok6,q14,q15,q16,q17,hk,E,hz,rfl⟩
   refine Ja (Ja ?_)
   refine gI a7 t2 ok6 (gM q14 (gM q17 (gS rfl (fun A B E G H d0=>rP (Jt Try.underlying26 (eI d0))) (gS rfl (fun A B E G H d0 d1=>rP (Jw (eI d0) (eI d1))) (gE ok6 fun a8 s6 ok7 D6=>?_)))));have F7:=F6.step0 D6.stp;have q18:=D6.k q14;have q19:=D6.k q15;have q20:=D6.k q16;have q21:=D6.k q17;refine tn ?_
   refine Jl (p:=(((k:Nat):Int) < (((List.length l):Nat):Int))) (D6.m 3 rfl) (fun c2=>?_) (fun c2=>?_)
   ·
    refine Jf (tn (Ja (Je (Ja (Ja ?_)))))
    refine gI a8 s6 ok7 (gM q21 (gM q18 (gT (Ty.ref [(Ty.int (l.getD k 0))]) rfl (fun A B E G H d0 d1=>rP (Jy Try.underlying26 Try.inf3 (eI d0) (eI d1) oM (Ju Ty.int l 0 k oM))) (gS rfl (fun A B E G H d0=>rP (Jm Try.underlying3 rfl (eI d0) rfl)) (gM q19 (gS rfl (fun A B E G H d0 d1=>rP (y_leq (eI d0) (eI d1))) (gS rfl (fun A B E G H d0=>rP (Jc (eI d0))) (gS rfl (fun A B E G H d0=>gu G (eI d0) fun hg=>Jc (kp (H 1 rfl) E q21)) (gS rfl (fun A B E G H d0=>gu G (eI d0) fun hg=>Jc (kp (H 6 rfl) E q18)) (gT (Ty.grd ((decide ((l.getD k 0) ≤ z)) = false) (Ty.ref [(Ty.int (l.getD k 0))])) rfl (fun A B E G H d0 d1 d2=>guf G (eI d2) fun hg hp=>Jy Try.underlying26 Try.inf3 ((ef d0 rfl).1 hg) ((ef d1 rfl).1 hg) oM (Ju Ty.int l 0 k oM)) (gS rfl (fun A B E G H d0 d1=>gu G (eI d1) fun hg=>Jm Try.underlying3 rfl ((ef d0 rfl).1 hg) rfl) (gS rfl (fun A B E G H d0=>gu G (eI d0) fun hg=>Jc (kp (H 0 rfl) E q20)) (gS rfl (fun A B E G H d0 d1 d2=>gu G (eI d2) fun hg=>KE ((ef d0 rfl).1 hg) ((ef d1 rfl).1 hg)) (gS rfl (fun A B E G H d0 d1=>rP (Jk (eI d0) rfl (eI d1))) (gS rfl (fun A B E G H d0 d1=>rP (Jc (eI d0))) (gT (Ty.grd (((decide ((l.getD k 0) ≤ z)) || (decide (n < (l.getD k 0)))) = false) (Ty.lst Ty.int l)) rfl (by intro A B E G H d0;refine Jd G rfl rfl dE (eI d0) (fun hg=>?_);obtain ⟨d3,d4⟩:=Xn hg;have d3:=Xp d3;have d4:=Xp d4;exact Jc (kp (H 1 rfl) E q21)) ?_))))))))))))))))
    refine gT (Ty.grd (((decide ((l.getD k 0) ≤ z)) || (decide (n < (l.getD k 0)))) = false) (Ty.nat k)) rfl (by intro A B E G H d0;refine Jd G rfl rfl dE (eI d0) (fun hg=>?_);obtain ⟨d5,d6⟩:=Xn hg;have d5:=Xp d5;have d6:=Xp d6;exact Jc (kp (H 6 rfl) E q18)) (gT (Ty.grd (((decide ((l.getD k 0) ≤ z)) || (decide (n < (l.getD k 0)))) = false) (Ty.ref [(Ty.int (l.getD k 0))])) rfl (by intro A B E G H d0 d1 d2;refine Jd G rfl rfl dE (eI d2) (fun hg=>?_);obtain ⟨d7,d8⟩:=Xn hg;have d7:=Xp d7;have d8:=Xp d8;exact Jy Try.underlying26 Try.inf3 ((ef d0 rfl).1 hg) ((ef d1 rfl).1 hg) oM (Ju Ty.int l 0 k oM)) (gT (Ty.grd (((decide ((l.getD k 0) ≤ z)) || (decide (n < (l.getD k 0)))) = false) (Ty.int (l.getD k 0))) rfl (by intro A B E G H d0 d1;refine Jd G rfl rfl dE (eI d1) (fun hg=>?_);obtain ⟨d9,d10⟩:=Xn hg;have d9:=Xp d9;have d10:=Xp d10;exact Jm Try.underlying3 rfl ((ef d0 rfl).1 hg) rfl) (gT (Ty.grd (((decide ((l.getD k 0) ≤ z)) || (decide (n < (l.getD k 0)))) = false) (Ty.int z)) rfl (by intro A B E G H d0;refine Jd G rfl rfl dE (eI d0) (fun hg=>?_);obtain ⟨d11,d12⟩:=Xn hg;have d11:=Xp d11;have d12:=Xp d12;exact Jc (kp (H 5 rfl) E q19)) ?_)))
    refine gT (Ty.grd (((decide ((l.getD k 0) ≤ z)) || (decide (n < (l.getD k 0)))) = false) (Ty.int ((l.getD k 0) - z))) rfl (by intro A B E G H d0 d1 d2;refine Jd G rfl rfl dE (eI d2) (fun hg=>?_);obtain ⟨d13,d14⟩:=Xn hg;have d13:=Xp d13;have d14:=Xp d14;exact Xg ((ef d0 rfl).1 hg) ((ef d1 rfl).1 hg) wX) (gT (Ty.grd (((decide ((l.getD k 0) ≤ z)) || (decide (n < (l.getD k 0)))) = false) (Ty.nat ((((l.getD k 0) - z)).toNat % 2))) rfl (by intro A B E G H d0 d1;refine Jd G rfl rfl dE (eI d1) (fun hg=>?_);obtain ⟨d15,d16⟩:=Xn hg;have d15:=Xp d15;have d16:=Xp d16;exact y_remN (toN (σ:=B) ((ef d0 rfl).1 hg) oM) (toN (σ:=B) rfl oM) oM) (gT (Ty.grd (((decide ((l.getD k 0) ≤ z)) || (decide (n < (l.getD k 0)))) = false) (Ty.bool (decide (((((((l.getD k 0) - z)).toNat % 2):Nat):Int) = (0:Int))))) rfl (by intro A B E G H d0 d1;refine Jd G rfl rfl dE (eI d1) (fun hg=>?_);obtain ⟨d17,d18⟩:=Xn hg;have d17:=Xp d17;have d18:=Xp d18;exact Qb ((ef d0 rfl).1 hg) rfl) (gS rfl (fun A B E G H d0 d1=>rP (Jk (eI d0) rfl (eI d1))) (gE ok7 fun a9 s7 ok8 D7=>?_))));have F8:=F7.step0 D7.stp;have q23:=D7.k q18;have q25:=D7.k q21;refine tn ?_
    refine JR (D7.m 23 rfl) (fun c3=>?_) (fun c3=>?_)
    ·
     simp only [Bool.or_eq_true,decide_eq_true_eq] at c3
     refine Ja ?_
     refine gI a9 s7 ok8 (gC (Ty.int (6:Int)) (gE ok8 fun a10 s8 ok9 D8=>?_));refine tn (Jj (tr (br (tr (tr (br (tr ?_)))))))
     exact QS rfl ok9 (F8.step0 D8.stp) (cvi (by (exact (chgMay_scan oM E oM oM).symm)) (D8.m 0 rfl))
    ·
     obtain ⟨d19,d20⟩:=Xn c3
     obtain ⟨d21,d22⟩:=Xn d19
     replace d21:=Xp d21
     replace d22:=Xp d22
     replace d20:=Xp d20
     refine Jf (tn ?_)
     refine gI a9 s7 ok8 (gM q25 (gM q23 (gT (Ty.ref [(Ty.int (l.getD k 0))]) rfl (fun A B E G H d0 d1=>rP (Jy Try.underlying26 Try.inf3 (eI d0) (eI d1) oM (Ju Ty.int l 0 k oM))) (gS rfl (fun A B E G H d0=>rP (Jm Try.underlying3 rfl (eI d0) rfl)) (gB 0 (gE ok8 fun a11 s9 ok10 D9=>?_))))));refine bn (tn ?_)
     refine gI a11 s9 ok10 (gM (D9.k q23) (gT (Ty.int (((k:Nat):Int) + (1:Int))) rfl (fun A B E G H d0=>rP (JF (eI d0) rfl wX)) (gB 0 (gE ok10 fun a12 s10 ok11 D10=>?_))))
     have d1_:=(Xp (Bool.or_eq_false_iff.1 c3).2)
     have d2_:=Xp (Bool.or_eq_false_iff.1 (Bool.or_eq_false_iff.1 c3).1).1
     have d3_:=Xp (Bool.or_eq_false_iff.1 (Bool.or_eq_false_iff.1 c3).1).2
     exact tn ⟨l.length - ((k+1)),by omega,s10,(k+1),(l.getD k 0),rfl,((F8.step0 D9.stp).step0 D10.stp),ok11,(cJ (D10.m 2 rfl)),(cJ (D10.k (D9.m 4 rfl))),(D10.k (D9.k (D7.k q20))),(D10.k (D9.k q25)),by omega,scan_step E oM oM oM d1_,by omega,rfl⟩
   ·
    have hk2:k = l.length:=oM
    refine Jv (tx (tx (bx (tn (Ja (Ja ?_))))))
    refine gI a8 s6 ok7 (gM q20 (gM q19 (gT (Ty.int (n - z)) rfl (fun A B E G H d0 d1=>rP (Xg (eI d0) (eI d1) wX)) (gT (Ty.nat (((n - z)).toNat % 2)) rfl (fun A B E G H d0=>rP (y_remN (toN (σ:=B) (eI d0) oM) (toN (σ:=B) rfl oM) oM)) (gS rfl (fun A B E G H d0=>rP (Qb (eI d0) rfl)) (gE ok7 fun a13 s11 ok12 D11=>?_))))));have F12:=F7.step0 D11.stp;refine tn ?_
    refine Jl (p:=((((((n - z)).toNat % 2):Nat):Int) = (1:Int))) (D11.m 4 rfl) (fun c4=>?_) (fun c4=>?_)
    ·
     refine Ja ?_
     refine gI a13 s11 ok12 (gC (Ty.int (6:Int)) (gE ok12 fun a14 s12 ok13 D12=>?_));refine tn (Jj (tr ?_))
     exact QS rfl ok13 (F12.step0 D12.stp) (cvi (by (exact (chgMay_odd oM (by rw [← hk2];exact E) oM).symm)) (D12.m 0 rfl))
    ·
     refine Jf (tn (Ja ?_))
     refine gI a13 s11 ok12 (gC (Ty.int (0:Int)) (gE ok12 fun a15 s13 ok14 D13=>?_));refine tn (Jj ?_)
     exact QS rfl ok14 (F12.step0 D13.stp) (cvi (by (exact (chgMay_ok oM (by rw [← hk2];exact E) oM).symm)) (D13.m 0 rfl))
theorem Try.inf9:Info Try.prog 9 (.string ByteArray.empty) 1 16:=by unfold Info;kernel_rfl
theorem Try.inf22:Info Try.prog 22 (.slice none 0 0) 1 24:=by unfold Info;kernel_rfl
theorem Try.inf26:Info Try.prog 26 (.slice none 0 0) 1 24:=by unfold Info;kernel_rfl
theorem Try.fld24_0:KI Try.prog 24 0 = some (9,0):=by kernel_rfl
theorem Try.fld24_1:KI Try.prog 24 1 = some (3,1):=by kernel_rfl
theorem Try.fld24_2:KI Try.prog 24 2 = some (22,2):=by kernel_rfl
set_option maxHeartbeats 4000000 in
set_option maxRecDepth 100000 in
theorem rMethodMay_fn (nm:ByteArray) (n:Int) (l:List (List Int)) (σ:GW)  (v0:Value) (hv0:Ty.has (Ty.agg [(Ty.val (Value.string nm)),(Ty.int n),(Ty.lst Ty.ints l)]) σ v0)  (hnm:nm.size ≤ 1099511627776) (hn:-9223372036854775808 ≤ n∧n ≤ 9223372036854775807) :
    FnC J 41 #[v0] σ (Ty.int (KG nm n l)):=by
 refine JT Try.func41 rfl Try.ntmps41 (Xr rfl) (fun s0 a0 hle F0 ok0 hargs=>?_)
 have p0:=pA hle (hargs 0 _ rfl) hv0
 clear hargs;refine Ja ?_
 refine gI a0 s0 ok0 (gS rfl (fun A B E G H=>rP (Qw (kp (H 0 rfl) E p0))) (gC (Ty.int (0:Int)) (gE ok0 fun a1 s1 ok1 D1=>?_)));have q1:=D1.m 0 rfl;refine tn (Ja ?_)
 refine gI a1 s1 ok1 (gS rfl (fun A B E G H=>rP (JD Try.fld24_0 Try.inf9 dE (kp (H 1 rfl) E q1) rfl)) (gS rfl (fun A B E G H d0=>rP (Jm Try.underlying9 rfl (eI d0) rfl)) (gS rfl (fun A B E G H d0=>rP (JP _ Try.func72 rfl rfl my1 (rIsName_fn (nm) _ _ (eI d0) oM))) (gB 0 (gE ok1 fun a2 s2 ok2 D2=>?_)))));refine tn (Ja (Ja ?_))
 refine gI a2 s2 ok2 (gM (D2.m 3 rfl) (gS rfl (fun A B E G H d0=>rP (y_not (eI d0))) (gE ok2 fun a3 s3 ok3 D3=>?_)));have F3:=((F0.step0 D1.stp).step0 D2.stp).step0 D3.stp;have q4:=D3.k (D2.k q1);refine tn ?_
 refine JR (D3.m 1 rfl) (fun c1=>?_) (fun c1=>?_)
 ·
  have hnn:nameL nm = false:=(by simpa using c1)
  refine Ja ?_
  refine gI a3 s3 ok3 (gC (Ty.int (7:Int)) (gE ok3 fun a4 s4 ok4 D4=>?_));refine tn (Jj (tr ?_))
  exact JJ rfl ok4 (F3.step0 D4.stp) (cvi (by (unfold KG;rw [if_pos hnn])) (D4.m 0 rfl))
 ·
  have hnn:¬ nameL nm = false:=(by simpa using c1)
  refine Jf (tn (Ja (Ja ?_)))
  refine gI a3 s3 ok3 (gS rfl (fun A B E G H=>rP (JD Try.fld24_1 Try.inf3 dE (kp (H 1 rfl) E q4) rfl)) (gS rfl (fun A B E G H d0=>rP (Jm Try.underlying3 rfl (eI d0) rfl)) (gS rfl (fun A B E G H d0=>rP (Jw (eI d0) rfl)) (gS rfl (fun A B E G H d0=>rP (Jc (eI d0))) (gS rfl (fun A B E G H d0=>guf G (eI d0) fun hg hp=>JD Try.fld24_1 Try.inf3 dE (kp (H 1 rfl) E q4) rfl) (gS rfl (fun A B E G H d0 d1=>gu G (eI d1) fun hg=>Jm Try.underlying3 rfl ((ef d0 rfl).1 hg) rfl) (gS rfl (fun A B E G H d0 d1=>gu G (eI d1) fun hg=>KE ((ef d0 rfl).1 hg) rfl) (gS rfl (fun A B E G H d0 d1=>rP (Jk (eI d0) rfl (eI d1))) (gS rfl (fun A B E G H d0 d1=>rP (Jc (eI d0))) (gT (Ty.grd (((decide (n < (2:Int))) || (decide ((12:Int) < n))) = false) (Ty.ref [(Ty.lst Ty.ints l)])) rfl (by intro A B E G H d0;refine Jd G rfl rfl dE (eI d0) (fun hg=>?_);obtain ⟨d1,d2⟩:=Xn hg;have d1:=Xp d1;have d2:=Xp d2;exact JD Try.fld24_2 Try.inf22 dE (kp (H 1 rfl) E q4) rfl) (gT (Ty.grd (((decide (n < (2:Int))) || (decide ((12:Int) < n))) = false) (Ty.lst Ty.ints l)) rfl (by intro A B E G H d0 d1;refine Jd G rfl rfl dE (eI d1) (fun hg=>?_);obtain ⟨d3,d4⟩:=Xn hg;have d3:=Xp d3;have d4:=Xp d4;exact Jm Try.underlying22 rfl ((ef d0 rfl).1 hg) rfl) ?_)))))))))))
  refine gT (Ty.grd (((decide (n < (2:Int))) || (decide ((12:Int) < n))) = false) (Ty.nat (List.length l))) rfl (by intro A B E G H d0 d1;refine Jd G rfl rfl dE (eI d1) (fun hg=>?_);obtain ⟨d5,d6⟩:=Xn hg;have d5:=Xp d5;have d6:=Xp d6;exact Jt Try.underlying22 ((ef d0 rfl).1 hg)) (gT (Ty.grd (((decide (n < (2:Int))) || (decide ((12:Int) < n))) = false) (Ty.bool (decide ((((List.length l):Nat):Int) < (1:Int))))) rfl (by intro A B E G H d0 d1;refine Jd G rfl rfl dE (eI d1) (fun hg=>?_);obtain ⟨d7,d8⟩:=Xn hg;have d7:=Xp d7;have d8:=Xp d8;exact Jw ((ef d0 rfl).1 hg) rfl) (gS rfl (fun A B E G H d0 d1=>rP (Jk (eI d0) rfl (eI d1))) (gS rfl (fun A B E G H d0 d1=>rP (Jc (eI d0))) (gT (Ty.grd ((((decide (n < (2:Int))) || (decide ((12:Int) < n))) || (decide ((((List.length l):Nat):Int) < (1:Int)))) = false) (Ty.ref [(Ty.lst Ty.ints l)])) rfl (by intro A B E G H d0;refine Jd G rfl rfl dE (eI d0) (fun hg=>?_);obtain ⟨d9,d10⟩:=Xn hg;obtain ⟨d11,d12⟩:=Xn d9;have d11:=Xp d11;have d12:=Xp d12;have d10:=Xp d10;exact JD Try.fld24_2 Try.inf22 dE (kp (H 1 rfl) E q4) rfl) ?_))))
  refine gT (Ty.grd ((((decide (n < (2:Int))) || (decide ((12:Int) < n))) || (decide ((((List.length l):Nat):Int) < (1:Int)))) = false) (Ty.lst Ty.ints l)) rfl (by intro A B E G H d0 d1;refine Jd G rfl rfl dE (eI d1) (fun hg=>?_);obtain ⟨d13,d14⟩:=Xn hg;obtain ⟨d15,d16⟩:=Xn d13;have d15:=Xp d15;have d16:=Xp d16;have d14:=Xp d14;exact Jm Try.underlying22 rfl ((ef d0 rfl).1 hg) rfl) (gT (Ty.grd ((((decide (n < (2:Int))) || (decide ((12:Int) < n))) || (decide ((((List.length l):Nat):Int) < (1:Int)))) = false) (Ty.nat (List.length l))) rfl (by intro A B E G H d0 d1;refine Jd G rfl rfl dE (eI d1) (fun hg=>?_);obtain ⟨d17,d18⟩:=Xn hg;obtain ⟨d19,d20⟩:=Xn d17;have d19:=Xp d19;have d20:=Xp d20;have d18:=Xp d18;exact Jt Try.underlying22 ((ef d0 rfl).1 hg)) (gT (Ty.grd ((((decide (n < (2:Int))) || (decide ((12:Int) < n))) || (decide ((((List.length l):Nat):Int) < (1:Int)))) = false) (Ty.bool (decide ((200:Int) < (((List.length l):Nat):Int))))) rfl (by intro A B E G H d0 d1;refine Jd G rfl rfl dE (eI d1) (fun hg=>?_);obtain ⟨d21,d22⟩:=Xn hg;obtain ⟨d23,d24⟩:=Xn d21;have d23:=Xp d23;have d24:=Xp d24;have d22:=Xp d22;exact KE ((ef d0 rfl).1 hg) rfl) (gS rfl (fun A B E G H d0 d1=>rP (Jk (eI d0) rfl (eI d1))) (gE ok3 fun a5 s5 ok5 D5=>?_))));have F5:=F3.step0 D5.stp;refine tn ?_
  refine JR (D5.m 19 rfl) (fun c2=>?_) (fun c2=>?_)
  ·
   simp only [Bool.or_eq_true,decide_eq_true_eq] at c2;have h4:n < 2 ∨ 12 < n ∨ l.length < 1 ∨ 200 < l.length:=oM
   refine Ja ?_
   refine gI a5 s5 ok5 (gC (Ty.int (1:Int)) (gE ok5 fun a6 s6 ok6 D6=>?_));refine tn (Jj (tr ?_))
   exact JJ rfl ok6 (F5.step0 D6.stp) (cvi (by (unfold KG;rw [if_neg hnn,if_pos h4])) (D6.m 0 rfl))
  ·
   obtain ⟨d25,d26⟩:=Xn c2
   obtain ⟨d27,d28⟩:=Xn d25
   obtain ⟨d29,d30⟩:=Xn d27
   replace d29:=Xp d29
   replace d30:=Xp d30
   replace d28:=Xp d28
   replace d26:=Xp d26
   have h4:¬ (n < 2 ∨ 12 < n ∨ l.length < 1 ∨ 200 < l.length):=(by simp only [Bool.or_eq_false_iff,decide_eq_false_iff_not] at c2;omega);have hmm:KG nm n l = KN n l:=(by unfold KG;rw [if_neg hnn,if_neg h4])
   refine Jf (tn (Ja (Ja ?_)))
   refine gI a5 s5 ok5 (gC (Ty.int (0:Int)) (gE ok5 fun a7 s7 ok7 D7=>?_));refine tn (Je ?_)
   refine Kf (fun n1 a8 w1=>∃ (t1:GW) (k:Nat),t1.w = w1∧FromL [] s0 t1∧Ok 49 [] a8∧At (Ty.nat k) t1 a8 (.tmp 4)∧At (Ty.ref [(Ty.val (Value.string nm)),(Ty.int n),(Ty.lst Ty.ints l)]) t1 a8 (.tmp 1)∧(k ≤ l.length)∧(KN n (l.drop k) = KN n l)∧n1 = l.length - k) (l.length - (0)) ?_ ?_
   ·
    exact ⟨s7,0,rfl,(F5.step0 D7.stp),ok7,(cJ (D7.m 0 rfl)),(D7.k (D5.k q4)),by omega,rfl,rfl⟩
   ·
    rintro n2 a9 w2 ⟨t2,k,rfl,F8,ok8,q12,q13,hk,ha,rfl⟩
    refine Ja (Ja ?_)
    refine gI a9 t2 ok8 (gM q12 (gS rfl (fun A B E G H=>rP (JD Try.fld24_2 Try.inf22 dE (kp (H 1 rfl) E q13) rfl)) (gS rfl (fun A B E G H d0=>rP (Jm Try.underlying22 rfl (eI d0) rfl)) (gS rfl (fun A B E G H d0=>rP (Jt Try.underlying22 (eI d0))) (gS rfl (fun A B E G H d0 d1=>rP (Jw (eI d0) (eI d1))) (gE ok8 fun a10 s8 ok9 D8=>?_))))));have F9:=F8.step0 D8.stp;have q14:=D8.k q12;have q15:=D8.k q13;refine tn ?_
    refine Jl (p:=(((k:Nat):Int) < (((List.length l):Nat):Int))) (D8.m 4 rfl) (fun c3=>?_) (fun c3=>?_)
    ·
     refine Jf (tn (Ja (Je (Ja ?_))))
     refine gI a10 s8 ok9 (gS rfl (fun A B E G H=>rP (JD Try.fld24_1 Try.inf3 dE (kp (H 1 rfl) E q15) rfl)) (gS rfl (fun A B E G H d0=>rP (Jm Try.underlying3 rfl (eI d0) rfl)) (gS rfl (fun A B E G H=>rP (JD Try.fld24_2 Try.inf22 dE (kp (H 1 rfl) E q15) rfl)) (gS rfl (fun A B E G H d0=>rP (Jm Try.underlying22 rfl (eI d0) rfl)) (gM q14 (gT (Ty.ref [(Ty.lst Ty.int (l.getD k []))]) rfl (fun A B E G H d0 d1=>rP (Jy Try.underlying22 Try.inf26 (eI d0) (eI d1) oM (Ju Ty.ints l [] k oM))) (gS rfl (fun A B E G H d0=>rP (Jm Try.underlying26 rfl (eI d0) rfl)) (gS rfl (fun A B E G H d0 d1=>rP (JP _ Try.func43 rfl rfl my2 (rChangeMay_fn (n) ((l.getD k [])) _ _ _ (eI d0) (eI d1) oM))) (gB 0 (gE ok9 fun a11 s9 ok10 D9=>?_))))))))));have q19:=D9.m 8 rfl;refine tn (Ja ?_)
     refine gI a11 s9 ok10 (gM q19 (gS rfl (fun A B E G H d0=>rP (Qq (eI d0) rfl)) (gE ok10 fun a12 s10 ok11 D10=>?_)));have F11:=(F9.step0 D9.stp).step0 D10.stp;refine tn ?_
     refine Jl (p:=((KX n ((l.getD k []))) ≠ (0:Int))) (D10.m 1 rfl) (fun c4=>?_) (fun c4=>?_)
     ·
      refine Ja ?_
      refine gI a12 s10 ok11 (gM (D10.k q19) (gB 0 (gE ok11 fun a13 s11 ok12 D11=>?_)));refine tn (Jj (br (tr (tr (br (tr ?_))))))
      exact JJ rfl ok12 (F11.step0 D11.stp) (cvi (by (rw [hmm];exact (allMay_stop ha oM c4).symm)) (D11.m 1 rfl))
     ·
      refine Jf (bn (tn ?_))
      refine gI a12 s10 ok11 (gM (D10.k (D9.k q14)) (gT (Ty.int (((k:Nat):Int) + (1:Int))) rfl (fun A B E G H d0=>rP (JF (eI d0) rfl wX)) (gB 0 (gE ok11 fun a14 s12 ok13 D12=>?_))))
      exact tn ⟨l.length - ((k+1)),by omega,s12,(k+1),rfl,(F11.step0 D12.stp),ok13,(cJ (D12.m 2 rfl)),(D12.k (D10.k (D9.k q15))),by omega,allMay_step ha oM c4,rfl⟩
    ·
     refine Jv (tx (tx (bx (tn (Ja ?_)))))
     refine gI a10 s8 ok9 (gC (Ty.int (0:Int)) (gE ok9 fun a15 s13 ok14 D13=>?_));refine tn (Jj ?_)
     exact JJ rfl ok14 (F9.step0 D13.stp) (cvi (by (rw [hmm];exact (allMay_end ha oM).symm)) (D13.m 0 rfl))
end Go.Proofs.Ytodmoedmijfciaa
