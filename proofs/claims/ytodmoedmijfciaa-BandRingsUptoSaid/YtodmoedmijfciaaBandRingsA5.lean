/- The functions that the law BandRings reaches, each by its contract. Part 5. -/
import Derived.Test.YtodmoedmijfciaaBandRingsA4
namespace Go.Proofs.Ytodmoedmijfciaa
open Go.KL
variable {J:Go.KL.JdOf Try.prog} [Go.KL.Al J]
theorem Try.inf67:Info Try.prog 67 (.chan none) 1 8:=by unfold Info;kernel_rfl
theorem Try.inf69:Info Try.prog 69 (.chan none) 1 8:=by unfold Info;kernel_rfl
theorem Try.inf106:Info Try.prog 106 (.agg #[.int .i64 0,.int .i64 0]) 2 16:=by unfold Info;kernel_rfl
theorem Try.fld71_0:KI Try.prog 71 0 = some (3,0):=by kernel_rfl
theorem Try.fld71_1:KI Try.prog 71 1 = some (3,1):=by kernel_rfl
theorem Try.fld71_2:KI Try.prog 71 2 = some (69,2):=by kernel_rfl
theorem Try.fld71_3:KI Try.prog 71 3 = some (69,3):=by kernel_rfl
theorem Try.fld71_4:KI Try.prog 71 4 = some (67,4):=by kernel_rfl
set_option maxHeartbeats 4000000 in
set_option maxRecDepth 100000 in
theorem ring_fn [Go.ConcR.Payload] {c:Co} {k:Nat} {h:Ch} {okc:c.Ok h} (lns:List (List (List Int))) (σ:GW) (hlow:Low [999] σ) (v0 v1:Value) (hv0:Ty.has (Ty.val (Jg h.S 0)) σ v0) (hv1:Ty.has (Ty.lst Ty.rows lns) σ v1) (ho_PL:PlR (.rcv 0) σ) (hN:RgN c k lns) (hk:(k:Nat) < 4611686018427387904) (hzi:c.zi = .int .i64 0) (hzq:c.zq = .int .i64 0) :
    FnL (rg Try.prog c k h okc) 29 #[v0,v1] σ [999] (fun v τ=>(Ty.has (Ty.nat (c.A + 1)) τ v)∧(PlR .fin τ)):=by
 have hC1:=hN.C1
 have hC0:=hN.C0
 have hA1:=hN.A1
 refine fn_introL hlow Try.func29 rfl Try.ntmps29 (Xr rfl) (fun a0 F0 ok0 hargs=>?_)
 have p0:=pB (hargs 0 _ rfl) hv0
 have p1:=pB (hargs 1 _ rfl) hv1
 have b1:=JS p1
 clear hargs;refine Ja ?_
 refine gI a0 σ ok0 (gC (Ty.int (0:Int)) (gEN ok0 fun a1 s1 ok1 D1=>?_));have o1:=PlR.k0 ho_PL D1.stp;refine tn (Ja ?_)
 refine gI a1 s1 ok1 (gC (Ty.int (0:Int)) (gC (Ty.int (0:Int)) (gEN ok1 fun a2 s2 ok2 D2=>?_)));have o2:=PlR.k0 o1 D2.stp;refine tn (Ja ?_)
 refine gI a2 s2 ok2 (gC (Ty.val (Value.slice none 0 0)) (gEN ok2 fun a3 s3 ok3 D3=>?_));have q7:=D3.k (D2.k (D1.k p0));have o3:=PlR.k0 o2 D3.stp;refine tn (Ja (Ja ?_))
 refine gI a3 s3 ok3 (gM q7 (gT (Ty.val (Jg h.S 0)) rfl (fun B E G H I d0=>rP (KS (eI d0))) (gT (Ty.val (Jg h.S 3)) rfl (fun B E G H I d0=>rP (JY Try.fld71_3 Try.inf69 dE (eI d0) rfl)) (gT (Ty.val (chv h.goes)) rfl (by intro B E G H I d0;exact Xk Try.underlying69 rfl (PlR.k0 o3 G) (eI d0) (by intro e_;cases e_) rfl) (gEN ok3 fun a4 s4 ok4 D4=>?_)))));have o4:=PlR.k0 o3 D4.stp;refine tn (Je ?_)
 refine Kf (fun n1 a5 w1=>∃ (t1:GW) (s:Nat) (step:Nat) (line:List (List Int)),t1.w = w1∧FromL [999] σ t1∧Ok 63 [] a5∧At (Ty.nat s) t1 a5 (.tmp 5)∧At (Ty.nat step) t1 a5 (.tmp 6)∧At (Ty.lst Ty.ints line) t1 a5 (.tmp 7)∧At (Ty.val (Jg h.S 0)) t1 a5 (.tmp 0)∧At (Ty.lst Ty.rows lns) t1 a5 (.tmp 1)∧At (Ty.val (chv h.goes)) t1 a5 (.tmp 12)∧PlR (.rcv s) t1∧(RgI c lns s line step)∧n1 = c.A + 2 - s) (c.A + 2 - (0)) ?_ ?_
 ·
  exact ⟨s4,0,0,([]:List (List Int)),rfl,((((F0.step0 D1.stp).step0 D2.stp).step0 D3.stp).step0 D4.stp),ok4,(cJ (D4.k (D3.k (D2.m 0 rfl)))),(cJ (D4.k (D3.k (D2.m 1 rfl)))),(nil_lst (by (first | rfl | omega | (simp_all;done) | (simp_all;omega))) (D4.k (D3.m 0 rfl))),(D4.k q7),(D4.k (D3.k (D2.k (D1.k p1)))),(D4.m 3 rfl),(cvplr (by rfl) o4),⟨by omega,fun _=>⟨rfl,rfl⟩,fun h=>absurd rfl h⟩,rfl⟩
 ·
  rintro n2 a6 w2 ⟨t2,s,step,line,rfl,F5,ok5,q18,q19,q20,q21,q22,q23,o5,hI,rfl⟩
  have hle_:=hI.le
  refine Ja ?_
  refine regX (a:=a6) (σ:=t2) rfl 0 (fun i_=>List.getD [] i_ Pr.any) ok5 rfl dE rfl (by rfl) trivial ?_
  intro a7 s5 D5;have ok6:=D5.ok;have F6:=F5.step0 D5.stp;have q24:=D5.k q18;have q25:=D5.k q19;have q26:=D5.k q20;have q27:=D5.k q21;have q28:=D5.k q22;have q29:=D5.k q23
  have o6:PlR (.rcv s) s5:=PlR.k0 o5 D5.stp
  refine xr_rcv (s:=s) ok6 rfl (by intro e_ h_;cases h_ <;> decide) Try.underlying69 (by rw [hzi];exact Try.inf3) o6 q29 (fun hsA=>?_) (fun hsA=>?_)
  ·
   intro a8 t3 hs1 ho1 hst1 ok7 hu1 sm1;have F7:=F6.step hs1 dE
   have q30:At (Ty.nat s) t3 a8 (.tmp 5):=kp9 hs1 (sm1 5 dE) q24
   have q31:At (Ty.nat step) t3 a8 (.tmp 6):=kp9 hs1 (sm1 6 dE) q25
   have q32:At (Ty.lst Ty.ints line) t3 a8 (.tmp 7):=kp9 hs1 (sm1 7 dE) q26
   have q33:At (Ty.val (Jg h.S 0)) t3 a8 (.tmp 0):=kp9 hs1 (sm1 0 dE) q27
   have q34:At (Ty.lst Ty.rows lns) t3 a8 (.tmp 1):=kp9 hs1 (sm1 1 dE) q28
   have q35:At (Ty.val (chv h.goes)) t3 a8 (.tmp 12):=kp9 hs1 (sm1 12 dE) q29
   have o7:PlR (c.nGot s) t3:=ho1
   have q36:At (Ty.tup2 (Ty.nat s) (Ty.bool true)) t3 a8 (.tmp 13):=hasU2 (hu1 13 rfl) rfl rfl
   refine XT.tail (fun t4 hs2=>?_) (by rfl)
   have F8:=F7.step0 hs2
   have q37:At (Ty.nat s) t4 a8 (.tmp 5):=Ty.up _ hs2.le0 q30
   have q38:At (Ty.nat step) t4 a8 (.tmp 6):=Ty.up _ hs2.le0 q31
   have q39:At (Ty.lst Ty.ints line) t4 a8 (.tmp 7):=Ty.up _ hs2.le0 q32
   have q40:At (Ty.val (Jg h.S 0)) t4 a8 (.tmp 0):=Ty.up _ hs2.le0 q33
   have q41:At (Ty.lst Ty.rows lns) t4 a8 (.tmp 1):=Ty.up _ hs2.le0 q34
   have q42:At (Ty.val (chv h.goes)) t4 a8 (.tmp 12):=Ty.up _ hs2.le0 q35
   have q43:At (Ty.tup2 (Ty.nat s) (Ty.bool true)) t4 a8 (.tmp 13):=Ty.up _ hs2.le0 q36
   have o8:PlR (c.nGot s) t4:=PlR.k0 o7 hs2
   refine tL (R:=(fun v τ=>Pr.has (Ty.pr (Ty.bool true)) τ v)) ok7 (Yld.toL (y_ext2_1 q43)) fun a9 s6 hs3 ok8 r1 sm2=>?_
   have q44:=kq hs3 sm2 5 q37;have o9:=PlR.keepL o8 hs3 dE dE
   have q50:At (Ty.bool true) s6 a9 (.tmp 14):=r1
   clear r1;refine Jh (tn (Ja ?_))
   refine JR q50 (fun _=>?_) (fun c1=>(by cases c1))
   refine Jf (tn (Je (Ja (Ja ?_))))
   refine gI a9 s6 ok8 (gM q44 (gS rfl (fun B E G H I d0=>rP (KE (eI d0) rfl)) (gEN ok8 fun a10 s7 ok9 D6=>?_)));have F10:=(F8.sl hs3).step0 D6.stp;have q51:=D6.k q44;have q52:=D6.k (kq hs3 sm2 6 q38);have q53:=D6.k (kq hs3 sm2 7 q39);have q54:=D6.k (kq hs3 sm2 0 q40);have q55:=D6.k (kq hs3 sm2 1 q41);have q56:=D6.k (kq hs3 sm2 12 q42);have o10:=PlR.k0 o9 D6.stp;refine tn ?_
   refine Jl (p:=((0:Int) < ((s:Nat):Int))) (D6.m 1 rfl) (fun c2=>?_) (fun c2=>?_)
   ·
    obtain ⟨hl1_,hl2_,hl3_⟩:=hI.len hN oM oM
    refine Ja ?_
    have o11:PlR (.got s) s7:=cvplr (by unfold Co.nGot;rw [if_neg oM]) o10
    refine regX (a:=a10) (σ:=s7) rfl 12 (fun i_=>List.getD [(Ty.pr (Ty.val (Jg h.S 0))),(Ty.pr (Ty.lst Ty.ints line)),(Ty.pr (Ty.nat step)),(Ty.pr (Ty.ref [(Ty.lst Ty.int (line.getD step []))])),(Ty.pr (Ty.lst Ty.int (line.getD step []))),(Ty.pr (Ty.val (Jg h.S 0))),(Ty.pr (Ty.val (Jg h.S 0))),(Ty.pr (Ty.val (Jg h.S 1))),(Ty.pr (Ty.nat (c.pl k (s - 1)))),(Ty.pr (Ty.int (mvE ((line.getD step [])) ((((c.pl k (s - 1)):Nat):Int))))),(Ty.pr (Ty.val (Jg h.S 0))),(Ty.pr (Ty.val (Jg h.S 1)))] i_ Pr.any) ok9 rfl dE rfl (by rfl) ⟨?_,?_,?_,?_,?_,?_,?_,?_,?_,?_,?_,?_,trivial⟩ ?_
    · intro B E G H I;exact rP (Jc (kp (I 0 rfl) G q54))
    · intro B E G H I;exact rP (Jc (kp (I 7 rfl) G q53))
    · intro B E G H I;exact rP (Jc (kp (I 6 rfl) G q52))
    · intro B E G H I d0 d1;exact rP (Jy Try.underlying22 Try.inf26 (eI d0) (eI d1) oM (Ju Ty.ints line [] step oM))
    · intro B E G H I d0;exact rP (Jm Try.underlying26 rfl (eI d0) rfl)
    · intro B E G H I;exact rP (Jc (kp (I 0 rfl) G q54))
    · intro B E G H I d0;exact rP (KS (eI d0))
    · intro B E G H I d0;exact rP (JY Try.fld71_1 Try.inf3 dE (eI d0) rfl)
    · intro B E G H I d0
      exact Xk Try.underlying3 rfl (PlR.k0 o11 G) (eI d0) (by intro e_;cases e_) rfl
    · intro B E G H I d0 d1;exact rP (JP _ Try.func61 rfl rfl my2 (moved_fn ((line.getD step [])) ((((c.pl k (s - 1)):Nat):Int)) _ _ _ (eI d0) (cvi (σ:=E) oM (ef d1 rfl)) ))
    · intro B E G H I d0 d1 d2 d3 d4 d5 d6 d7 d8 d9 d10;exact rP (KS (eI d0))
    · intro B E G H I d0 d1 d2 d3 d4 d5 d6 d7 d8 d9 d10;exact rP (JY Try.fld71_1 Try.inf3 dE (eI d0) rfl)
    intro a11 s8 D7;have ok10:=D7.ok
    have o12:PlR (.got s) s8:=PlR.k0 o11 D7.stp
    have hpv_:=hN.pl s oM oM
    obtain ⟨hli_,hst_⟩:=hI.on oM oM
    refine xr_put (s:=s) ok10 rfl (by intro e_ h_;cases h_ <;> decide) Try.inf3 o12 (D7.m 11 rfl) (show Ty.has (Ty.int ((c.pl k s:Nat):Int)) s8 _ from cvi (by rw [hpv_,← hli_,← hst_]) (D7.m 9 rfl)) ?_
    intro a12 t5 hs4 ho2 hst2 ok11 hu2 sm3;have F12:=(F10.step0 D7.stp).step hs4 dE
    have q66:At (Ty.nat s) t5 a12 (.tmp 5):=kp9 hs4 (sm3 5 dE) (D7.k q51)
    have q67:At (Ty.nat step) t5 a12 (.tmp 6):=kp9 hs4 (sm3 6 dE) (D7.k q52)
    have q68:At (Ty.lst Ty.ints line) t5 a12 (.tmp 7):=kp9 hs4 (sm3 7 dE) (D7.k q53)
    have q69:At (Ty.val (Jg h.S 0)) t5 a12 (.tmp 0):=kp9 hs4 (sm3 0 dE) (D7.k q54)
    have q70:At (Ty.lst Ty.rows lns) t5 a12 (.tmp 1):=kp9 hs4 (sm3 1 dE) (D7.k q55)
    have q71:At (Ty.val (chv h.goes)) t5 a12 (.tmp 12):=kp9 hs4 (sm3 12 dE) (D7.k q56)
    have o13:PlR (c.nMv s) t5:=ho2
    refine XT.fin ?_
    refine tn ?_
    refine gI a12 t5 ok11 (gM q67 (gT (Ty.nat (step + 1)) rfl (fun B E G H I d0=>rP ((JF (eI d0) rfl wX).mono (fun τ _ h=>cN (σ:=τ) h))) (gB 0 (gEN ok11 fun a13 s9 ok12 D8=>?_))));have q73:=D8.k q68;have o14:=PlR.k0 o13 D8.stp;have q77:=D8.m 2 rfl;refine tn (Ja (Ja ?_))
    refine gI a13 s9 ok12 (gM q77 (gM q73 (gS rfl (fun B E G H I d0=>rP (Jt Try.underlying22 (eI d0))) (gS rfl (fun B E G H I d0 d1=>rP (Qb (eI d0) (eI d1))) (gEN ok12 fun a14 s10 ok13 D9=>?_)))));have F14:=(F12.step0 D8.stp).step0 D9.stp;have q78:=D9.k (D8.k q66);have q79:=D9.k q73;have q80:=D9.k (D8.k q69);have q81:=D9.k (D8.k q70);have q82:=D9.k (D8.k q71);have q83:=D9.k q77;have o15:=PlR.k0 o14 D9.stp;refine tn ?_
    refine Jl (p:=((((step + 1):Nat):Int) = (((List.length line):Nat):Int))) (D9.m 3 rfl) (fun c3=>?_) (fun c3=>?_)
    ·
     have hz_:=(mod_full oM hC0).1 (show (s - 1) % c.C + 1 = c.C by omega)
     refine Ja ?_
     have o16:PlR (.sel s) s10:=cvplr (by first | (unfold Co.nMv;rw [if_pos hz_];done) | simp [Co.nGot,Co.nMv,hs0_]) o15
     refine gI a14 s10 ok13 (gM q80 (gT (Ty.val (Jg h.S 0)) rfl (fun B E G H I d0=>rP (KS (eI d0))) (gT (Ty.val (Jg h.S 2)) rfl (fun B E G H I d0=>rP (JY Try.fld71_2 Try.inf69 dE (eI d0) rfl)) (gT (Ty.val (chv h.hears)) rfl (by intro B E G H I d0;exact Xk Try.underlying69 rfl (PlR.k0 o16 G) (eI d0) (by intro e_;cases e_) rfl) (gEN ok13 fun a15 s11 ok14 D10=>?_)))));have o17:=PlR.k0 o16 D10.stp;refine tn (Ja ?_)
     refine regX (a:=a15) (σ:=s11) rfl 0 (fun i_=>List.getD [] i_ Pr.any) ok14 rfl dE rfl (by rfl) trivial ?_
     intro a16 s12 D11;have ok15:=D11.ok;have F16:=(F14.step0 D10.stp).step0 D11.stp;have q92:=D11.k (D10.k q78);have q93:=D11.k (D10.k q79);have q94:=D11.k (D10.k q80);have q95:=D11.k (D10.k q81);have q96:=D11.k (D10.k q82);have q97:=D11.k (D10.k q83)
     have o18:PlR (.sel s) s12:=PlR.k0 o17 D11.stp
     refine xr_sel (s:=s) ok15 rfl (by intro e_ h_;cases h_ <;> decide) (by rw [hzq];exact Try.inf3) o18 (D11.k (D10.m 3 rfl)) (fun hlA=>?_) (fun hlA=>?_)
     ·
      have hq_:=hN.q (s / c.C) (Nat.lt_of_le_of_lt (Nat.div_mul_le_self _ _) hlA)
      intro a17 t6 hs5 ho3 hst3 ok16 hu3 sm4;have F17:=F16.step hs5 dE
      have q99:At (Ty.nat s) t6 a17 (.tmp 5):=kp9 hs5 (sm4 5 dE) q92
      have q100:At (Ty.lst Ty.ints line) t6 a17 (.tmp 7):=kp9 hs5 (sm4 7 dE) q93
      have q101:At (Ty.val (Jg h.S 0)) t6 a17 (.tmp 0):=kp9 hs5 (sm4 0 dE) q94
      have q102:At (Ty.lst Ty.rows lns) t6 a17 (.tmp 1):=kp9 hs5 (sm4 1 dE) q95
      have q103:At (Ty.val (chv h.goes)) t6 a17 (.tmp 12):=kp9 hs5 (sm4 12 dE) q96
      have q104:At (Ty.nat (step + 1)) t6 a17 (.tmp 6):=kp9 hs5 (sm4 6 dE) q97
      have o19:PlR (.snd s) t6:=ho3
      have q105:At (Ty.tup3 (Ty.int (0:Int)) (Ty.bool true) (Ty.int (c.q (s / c.C)))) t6 a17 (.tmp 39):=hasU3 (hu3 39 rfl) rfl rfl rfl
      refine XT.tail (fun t7 hs6=>?_) (by rfl)
      have F18:=F17.step0 hs6
      have q106:At (Ty.nat s) t7 a17 (.tmp 5):=Ty.up _ hs6.le0 q99
      have q107:At (Ty.lst Ty.ints line) t7 a17 (.tmp 7):=Ty.up _ hs6.le0 q100
      have q108:At (Ty.val (Jg h.S 0)) t7 a17 (.tmp 0):=Ty.up _ hs6.le0 q101
      have q109:At (Ty.lst Ty.rows lns) t7 a17 (.tmp 1):=Ty.up _ hs6.le0 q102
      have q110:At (Ty.val (chv h.goes)) t7 a17 (.tmp 12):=Ty.up _ hs6.le0 q103
      have q111:At (Ty.nat (step + 1)) t7 a17 (.tmp 6):=Ty.up _ hs6.le0 q104
      have q112:At (Ty.tup3 (Ty.int (0:Int)) (Ty.bool true) (Ty.int (c.q (s / c.C)))) t7 a17 (.tmp 39):=Ty.up _ hs6.le0 q105
      have o20:PlR (.snd s) t7:=PlR.k0 o19 hs6
      refine tL (R:=(fun v τ=>Pr.has (Ty.pr (Ty.int (0:Int))) τ v)) ok16 (Yld.toL (y_ext3_0 q112)) fun a18 s13 hs7 ok17 r2 sm5=>?_
      have o21:=PlR.keepL o20 hs7 dE dE
      have q120:At (Ty.int (0:Int)) s13 a18 (.tmp 40):=r2
      clear r2
      refine tL (R:=(fun v τ=>Pr.has (Ty.pr (Ty.bool true)) τ v)) ok17 (Yld.toL ((Qb q120 rfl).mono (fun τ _ h=>cvb (σ:=τ) dE h))) fun a19 s14 hs8 ok18 r3 sm6=>?_
      have q122:=kq hs8 sm6 7 (kq hs7 sm5 7 q107);have q126:=kq hs8 sm6 6 (kq hs7 sm5 6 q111);have o22:=PlR.keepL o21 hs8 dE dE
      have q128:At (Ty.bool true) s14 a19 (.tmp 41):=r3
      clear r3;refine Jh (tn (Je ?_))
      refine JR q128 (fun _=>?_) (fun c4=>(by cases c4))
      refine Ja ?_
      refine gI a19 s14 ok18 (gT (Ty.int (c.q (s / c.C))) rfl (fun B E G H I=>rP (y_ext3_2 (kp (I 39 rfl) G (kq hs8 sm6 39 (kq hs7 sm5 39 q112))))) (gB 0 (gEN ok18 fun a20 s15 ok19 D12=>?_)));have q131:=D12.k (kq hs8 sm6 1 (kq hs7 sm5 1 q109));have o23:=PlR.k0 o22 D12.stp;refine tn ?_
      refine gI a20 s15 ok19 (gM q131 (gM (D12.m 1 rfl) (gT (Ty.ref [(Ty.lst Ty.ints (lns.getD ((c.q (s / c.C))).toNat []))]) rfl (fun B E G H I d0 d1=>rP (Jy Try.underlying49 Try.inf22 (eI d0) (eI d1) oM (Ju Ty.rows lns [] ((c.q (s / c.C))).toNat oM))) (gS rfl (fun B E G H I d0=>rP (Jm Try.underlying22 rfl (eI d0) rfl)) (gB 0 (gC (Ty.int (0:Int)) (gEN ok19 fun a21 s16 ok20 D13=>?_)))))));have q135:=D13.k (D12.k (kq hs8 sm6 0 (kq hs7 sm5 0 q108)));have o24:=PlR.k0 o23 D13.stp;refine bn (tn (Ja ?_))
      refine regX (a:=a21) (σ:=s16) rfl 13 (fun i_=>List.getD [(Ty.pr (Ty.val (Jg h.S 0))),(Ty.pr (Ty.val (Jg h.S 0))),(Ty.pr (Ty.val (Jg h.S 4))),(Ty.pr (Ty.val (chv c.heard))),(Ty.pr (Ty.val (Jg h.S 0))),(Ty.pr (Ty.val (Jg h.S 0))),(Ty.pr (Ty.val (Jg h.S 0))),(Ty.pr (Ty.nat k)),(Ty.pr (Ty.val (Jg h.S 0))),(Ty.pr (Ty.val (Jg h.S 0))),(Ty.pr (Ty.val (Jg h.S 1))),(Ty.pr (Ty.nat (c.pl k s))),(Ty.pr (Ty.agg [(Ty.nat k),(Ty.nat (c.pl k s))]))] i_ Pr.any) ok20 rfl dE rfl (by rfl) ⟨?_,?_,?_,?_,?_,?_,?_,?_,?_,?_,?_,?_,?_,trivial⟩ ?_
      · intro B E G H I;exact rP (Jc (kp (I 0 rfl) G q135))
      · intro B E G H I d0;exact rP (KS (eI d0))
      · intro B E G H I d0;exact rP (JY Try.fld71_4 Try.inf67 dE (eI d0) rfl)
      · intro B E G H I d0
        exact Xk Try.underlying67 rfl (PlR.k0 o24 G) (eI d0) (by intro e_;cases e_) rfl
      · intro B E G H I;exact rP (Jc (kp (I 0 rfl) G q135))
      · intro B E G H I d0;exact rP (KS (eI d0))
      · intro B E G H I d0;exact rP (JY Try.fld71_0 Try.inf3 dE (eI d0) rfl)
      · intro B E G H I d0
        exact Xk Try.underlying3 rfl (PlR.k0 o24 G) (eI d0) (by intro e_;cases e_) rfl
      · intro B E G H I;exact rP (Jc (kp (I 0 rfl) G q135))
      · intro B E G H I d0;exact rP (KS (eI d0))
      · intro B E G H I d0;exact rP (JY Try.fld71_1 Try.inf3 dE (eI d0) rfl)
      · intro B E G H I d0
        exact Xk Try.underlying3 rfl (PlR.k0 o24 G) (eI d0) (by intro e_;cases e_) rfl
      · intro B E G H I d0 d1;exact rP (y_bld [(0,(.tmp 54),(Ty.nat k)),(1,(.tmp 58),(Ty.nat (c.pl k s)))] [(Ty.int (0:Int)),(Ty.int (0:Int))] (l:=[(0,1),(1,1)]) rfl Try.inf106 rfl (Kr (vs:=[.int .i64 0,.int .i64 0]) rfl) rfl (by intro p hp;simp only [List.mem_cons,List.not_mem_nil,or_false] at hp;rcases hp with rfl | rfl;exact ⟨Jq rfl,(eI d0)⟩;exact ⟨Jq rfl,(eI d1)⟩))
      intro a22 s17 D14;have ok21:=D14.ok
      have o25:PlR (.snd s) s17:=PlR.k0 o24 D14.stp
      refine xr_snd (s:=s) ok21 rfl (by intro e_ h_;cases h_ <;> decide) o25 (D14.m 3 rfl) (agg2 (D14.m 12 rfl)) ?_
      intro a23 t8 hs9 ho4 hst4 ok22 hu4 sm7;have F24:=(((((F18.sl hs7).sl hs8).step0 D12.stp).step0 D13.stp).step0 D14.stp).step hs9 dE
      have q148:At (Ty.nat s) t8 a23 (.tmp 5):=kp9 hs9 (sm7 5 dE) (D14.k (D13.k (D12.k (kq hs8 sm6 5 (kq hs7 sm5 5 q106)))))
      have q149:At (Ty.val (Jg h.S 0)) t8 a23 (.tmp 0):=kp9 hs9 (sm7 0 dE) (D14.k q135)
      have q150:At (Ty.lst Ty.rows lns) t8 a23 (.tmp 1):=kp9 hs9 (sm7 1 dE) (D14.k (D13.k q131))
      have q151:At (Ty.val (chv h.goes)) t8 a23 (.tmp 12):=kp9 hs9 (sm7 12 dE) (D14.k (D13.k (D12.k (kq hs8 sm6 12 (kq hs7 sm5 12 q110)))))
      have q152:At (Ty.lst Ty.ints (lns.getD ((c.q (s / c.C))).toNat [])) t8 a23 (.tmp 7):=kp9 hs9 (sm7 7 dE) (D14.k (D13.m 4 rfl))
      have q153:At (Ty.int (0:Int)) t8 a23 (.tmp 6):=kp9 hs9 (sm7 6 dE) (D14.k (D13.m 5 rfl))
      have o26:PlR (.rcv (s + 1)) t8:=ho4
      refine XT.fin ?_
      refine tn ?_
      refine gI a23 t8 ok22 (gM q148 (gT (Ty.nat (s + 1)) rfl (fun B E G H I d0=>rP ((JF (eI d0) rfl wX).mono (fun τ _ h=>cN (σ:=τ) h))) (gB 0 (gEN ok22 fun a24 s18 ok23 D15=>?_))));have o27:=PlR.k0 o26 D15.stp;refine bn ?_
      exact tn ⟨c.A + 2 - ((s + 1)),by omega,s18,(s + 1),0,(lns.getD (c.q (s / c.C)).toNat []),rfl,(F24.step0 D15.stp),ok23,(cJ (D15.m 2 rfl)),(cJ (D15.k q153)),(cvt (by (first | rfl | omega | (simp_all;done) | (simp_all;omega))) (D15.k q152)),(D15.k q149),(D15.k q150),(D15.k q151),(cvplr (by rfl) o27),hI.hear oM hz_,rfl⟩
     ·
      intro a25 t9 hs10 ho5 hst5 ok24 hu5 sm8;have F26:=F16.step hs10 dE
      have q160:At (Ty.nat s) t9 a25 (.tmp 5):=kp9 hs10 (sm8 5 dE) q92
      have q161:At (Ty.lst Ty.ints line) t9 a25 (.tmp 7):=kp9 hs10 (sm8 7 dE) q93
      have q162:At (Ty.val (Jg h.S 0)) t9 a25 (.tmp 0):=kp9 hs10 (sm8 0 dE) q94
      have q163:At (Ty.lst Ty.rows lns) t9 a25 (.tmp 1):=kp9 hs10 (sm8 1 dE) q95
      have q164:At (Ty.val (chv h.goes)) t9 a25 (.tmp 12):=kp9 hs10 (sm8 12 dE) q96
      have q165:At (Ty.nat (step + 1)) t9 a25 (.tmp 6):=kp9 hs10 (sm8 6 dE) q97
      have o28:PlR (.snd s) t9:=ho5
      have q166:At (Ty.tup3 (Ty.int (-1:Int)) (Ty.bool false) (Ty.int (0:Int))) t9 a25 (.tmp 39):=hasU3 (hu5 39 rfl) rfl rfl hzq
      refine XT.tail (fun t10 hs11=>?_) (by rfl)
      have F27:=F26.step0 hs11
      have q167:At (Ty.nat s) t10 a25 (.tmp 5):=Ty.up _ hs11.le0 q160
      have q168:At (Ty.lst Ty.ints line) t10 a25 (.tmp 7):=Ty.up _ hs11.le0 q161
      have q169:At (Ty.val (Jg h.S 0)) t10 a25 (.tmp 0):=Ty.up _ hs11.le0 q162
      have q170:At (Ty.lst Ty.rows lns) t10 a25 (.tmp 1):=Ty.up _ hs11.le0 q163
      have q171:At (Ty.val (chv h.goes)) t10 a25 (.tmp 12):=Ty.up _ hs11.le0 q164
      have q172:At (Ty.nat (step + 1)) t10 a25 (.tmp 6):=Ty.up _ hs11.le0 q165
      have q173:At (Ty.tup3 (Ty.int (-1:Int)) (Ty.bool false) (Ty.int (0:Int))) t10 a25 (.tmp 39):=Ty.up _ hs11.le0 q166
      have o29:PlR (.snd s) t10:=PlR.k0 o28 hs11
      refine tL (R:=(fun v τ=>Pr.has (Ty.pr (Ty.int (-1:Int))) τ v)) ok24 (Yld.toL (y_ext3_0 q173)) fun a26 s19 hs12 ok25 r4 sm9=>?_
      have o30:=PlR.keepL o29 hs12 dE dE
      have q181:At (Ty.int (-1:Int)) s19 a26 (.tmp 40):=r4
      clear r4
      refine tL (R:=(fun v τ=>Pr.has (Ty.pr (Ty.bool false)) τ v)) ok25 (Yld.toL ((Qb q181 rfl).mono (fun τ _ h=>cvb (σ:=τ) dE h))) fun a27 s20 hs13 ok26 r5 sm10=>?_
      have q184:=kq hs13 sm10 0 (kq hs12 sm9 0 q169);have q188:=kq hs13 sm10 39 (kq hs12 sm9 39 q173);have o31:=PlR.keepL o30 hs13 dE dE
      have q189:At (Ty.bool false) s20 a27 (.tmp 41):=r5
      clear r5;refine Jh (tn (Je ?_))
      refine JR q189 (fun c5=>(by cases c5)) (fun _=>?_)
      refine Jf (bn (tn (Ja ?_)))
      refine regX (a:=a27) (σ:=s20) rfl 13 (fun i_=>List.getD [(Ty.pr (Ty.val (Jg h.S 0))),(Ty.pr (Ty.val (Jg h.S 0))),(Ty.pr (Ty.val (Jg h.S 4))),(Ty.pr (Ty.val (chv c.heard))),(Ty.pr (Ty.val (Jg h.S 0))),(Ty.pr (Ty.val (Jg h.S 0))),(Ty.pr (Ty.val (Jg h.S 0))),(Ty.pr (Ty.nat k)),(Ty.pr (Ty.val (Jg h.S 0))),(Ty.pr (Ty.val (Jg h.S 0))),(Ty.pr (Ty.val (Jg h.S 1))),(Ty.pr (Ty.nat (c.pl k s))),(Ty.pr (Ty.agg [(Ty.nat k),(Ty.nat (c.pl k s))]))] i_ Pr.any) ok26 rfl dE rfl (by rfl) ⟨?_,?_,?_,?_,?_,?_,?_,?_,?_,?_,?_,?_,?_,trivial⟩ ?_
      · intro B E G H I;exact rP (Jc (kp (I 0 rfl) G q184))
      · intro B E G H I d0;exact rP (KS (eI d0))
      · intro B E G H I d0;exact rP (JY Try.fld71_4 Try.inf67 dE (eI d0) rfl)
      · intro B E G H I d0
        exact Xk Try.underlying67 rfl (PlR.k0 o31 G) (eI d0) (by intro e_;cases e_) rfl
      · intro B E G H I;exact rP (Jc (kp (I 0 rfl) G q184))
      · intro B E G H I d0;exact rP (KS (eI d0))
      · intro B E G H I d0;exact rP (JY Try.fld71_0 Try.inf3 dE (eI d0) rfl)
      · intro B E G H I d0
        exact Xk Try.underlying3 rfl (PlR.k0 o31 G) (eI d0) (by intro e_;cases e_) rfl
      · intro B E G H I;exact rP (Jc (kp (I 0 rfl) G q184))
      · intro B E G H I d0;exact rP (KS (eI d0))
      · intro B E G H I d0;exact rP (JY Try.fld71_1 Try.inf3 dE (eI d0) rfl)
      · intro B E G H I d0
        exact Xk Try.underlying3 rfl (PlR.k0 o31 G) (eI d0) (by intro e_;cases e_) rfl
      · intro B E G H I d0 d1;exact rP (y_bld [(0,(.tmp 54),(Ty.nat k)),(1,(.tmp 58),(Ty.nat (c.pl k s)))] [(Ty.int (0:Int)),(Ty.int (0:Int))] (l:=[(0,1),(1,1)]) rfl Try.inf106 rfl (Kr (vs:=[.int .i64 0,.int .i64 0]) rfl) rfl (by intro p hp;simp only [List.mem_cons,List.not_mem_nil,or_false] at hp;rcases hp with rfl | rfl;exact ⟨Jq rfl,(eI d0)⟩;exact ⟨Jq rfl,(eI d1)⟩))
      intro a28 s21 D16;have ok27:=D16.ok
      have o32:PlR (.snd s) s21:=PlR.k0 o31 D16.stp
      refine xr_snd (s:=s) ok27 rfl (by intro e_ h_;cases h_ <;> decide) o32 (D16.m 3 rfl) (agg2 (D16.m 12 rfl)) ?_
      intro a29 t11 hs14 ho6 hst6 ok28 hu6 sm11;have F31:=(((F27.sl hs12).sl hs13).step0 D16.stp).step hs14 dE
      have q198:At (Ty.nat s) t11 a29 (.tmp 5):=kp9 hs14 (sm11 5 dE) (D16.k (kq hs13 sm10 5 (kq hs12 sm9 5 q167)))
      have q199:At (Ty.lst Ty.ints line) t11 a29 (.tmp 7):=kp9 hs14 (sm11 7 dE) (D16.k (kq hs13 sm10 7 (kq hs12 sm9 7 q168)))
      have q200:At (Ty.val (Jg h.S 0)) t11 a29 (.tmp 0):=kp9 hs14 (sm11 0 dE) (D16.k q184)
      have q201:At (Ty.lst Ty.rows lns) t11 a29 (.tmp 1):=kp9 hs14 (sm11 1 dE) (D16.k (kq hs13 sm10 1 (kq hs12 sm9 1 q170)))
      have q202:At (Ty.val (chv h.goes)) t11 a29 (.tmp 12):=kp9 hs14 (sm11 12 dE) (D16.k (kq hs13 sm10 12 (kq hs12 sm9 12 q171)))
      have q203:At (Ty.nat (step + 1)) t11 a29 (.tmp 6):=kp9 hs14 (sm11 6 dE) (D16.k (kq hs13 sm10 6 (kq hs12 sm9 6 q172)))
      have o33:PlR (.rcv (s + 1)) t11:=ho6
      refine XT.fin ?_
      refine tn ?_
      refine gI a29 t11 ok28 (gM q198 (gT (Ty.nat (s + 1)) rfl (fun B E G H I d0=>rP ((JF (eI d0) rfl wX).mono (fun τ _ h=>cN (σ:=τ) h))) (gB 0 (gEN ok28 fun a30 s22 ok29 D17=>?_))));have o34:=PlR.k0 o33 D17.stp;refine bn ?_
      exact tn ⟨c.A + 2 - ((s + 1)),by omega,s22,(s + 1),(step + 1),line,rfl,(F31.step0 D17.stp),ok29,(cJ (D17.m 2 rfl)),(cJ (D17.k q203)),(D17.k q199),(D17.k q200),(D17.k q201),(D17.k q202),(cvplr (by rfl) o34),RgI.last oM hlA,rfl⟩
    ·
     have hz_:s % c.C ≠ 0:=fun e_=>c3 (by have:=(mod_full (s:=s) oM hC0).2 e_;omega)
     refine Jf (tn (Ja ?_))
     have o35:PlR (.snd s) s10:=cvplr (by unfold Co.nMv;rw [if_neg hz_]) o15
     refine regX (a:=a14) (σ:=s10) rfl 13 (fun i_=>List.getD [(Ty.pr (Ty.val (Jg h.S 0))),(Ty.pr (Ty.val (Jg h.S 0))),(Ty.pr (Ty.val (Jg h.S 4))),(Ty.pr (Ty.val (chv c.heard))),(Ty.pr (Ty.val (Jg h.S 0))),(Ty.pr (Ty.val (Jg h.S 0))),(Ty.pr (Ty.val (Jg h.S 0))),(Ty.pr (Ty.nat k)),(Ty.pr (Ty.val (Jg h.S 0))),(Ty.pr (Ty.val (Jg h.S 0))),(Ty.pr (Ty.val (Jg h.S 1))),(Ty.pr (Ty.nat (c.pl k s))),(Ty.pr (Ty.agg [(Ty.nat k),(Ty.nat (c.pl k s))]))] i_ Pr.any) ok13 rfl dE rfl (by rfl) ⟨?_,?_,?_,?_,?_,?_,?_,?_,?_,?_,?_,?_,?_,trivial⟩ ?_
     · intro B E G H I;exact rP (Jc (kp (I 0 rfl) G q80))
     · intro B E G H I d0;exact rP (KS (eI d0))
     · intro B E G H I d0;exact rP (JY Try.fld71_4 Try.inf67 dE (eI d0) rfl)
     · intro B E G H I d0
       exact Xk Try.underlying67 rfl (PlR.k0 o35 G) (eI d0) (by intro e_;cases e_) rfl
     · intro B E G H I;exact rP (Jc (kp (I 0 rfl) G q80))
     · intro B E G H I d0;exact rP (KS (eI d0))
     · intro B E G H I d0;exact rP (JY Try.fld71_0 Try.inf3 dE (eI d0) rfl)
     · intro B E G H I d0
       exact Xk Try.underlying3 rfl (PlR.k0 o35 G) (eI d0) (by intro e_;cases e_) rfl
     · intro B E G H I;exact rP (Jc (kp (I 0 rfl) G q80))
     · intro B E G H I d0;exact rP (KS (eI d0))
     · intro B E G H I d0;exact rP (JY Try.fld71_1 Try.inf3 dE (eI d0) rfl)
     · intro B E G H I d0
       exact Xk Try.underlying3 rfl (PlR.k0 o35 G) (eI d0) (by intro e_;cases e_) rfl
     · intro B E G H I d0 d1;exact rP (y_bld [(0,(.tmp 54),(Ty.nat k)),(1,(.tmp 58),(Ty.nat (c.pl k s)))] [(Ty.int (0:Int)),(Ty.int (0:Int))] (l:=[(0,1),(1,1)]) rfl Try.inf106 rfl (Kr (vs:=[.int .i64 0,.int .i64 0]) rfl) rfl (by intro p hp;simp only [List.mem_cons,List.not_mem_nil,or_false] at hp;rcases hp with rfl | rfl;exact ⟨Jq rfl,(eI d0)⟩;exact ⟨Jq rfl,(eI d1)⟩))
     intro a31 s23 D18;have ok30:=D18.ok
     have o36:PlR (.snd s) s23:=PlR.k0 o35 D18.stp
     refine xr_snd (s:=s) ok30 rfl (by intro e_ h_;cases h_ <;> decide) o36 (D18.m 3 rfl) (agg2 (D18.m 12 rfl)) ?_
     intro a32 t12 hs15 ho7 hst7 ok31 hu7 sm12;have F34:=(F14.step0 D18.stp).step hs15 dE
     have q218:At (Ty.nat s) t12 a32 (.tmp 5):=kp9 hs15 (sm12 5 dE) (D18.k q78)
     have q219:At (Ty.lst Ty.ints line) t12 a32 (.tmp 7):=kp9 hs15 (sm12 7 dE) (D18.k q79)
     have q220:At (Ty.val (Jg h.S 0)) t12 a32 (.tmp 0):=kp9 hs15 (sm12 0 dE) (D18.k q80)
     have q221:At (Ty.lst Ty.rows lns) t12 a32 (.tmp 1):=kp9 hs15 (sm12 1 dE) (D18.k q81)
     have q222:At (Ty.val (chv h.goes)) t12 a32 (.tmp 12):=kp9 hs15 (sm12 12 dE) (D18.k q82)
     have q223:At (Ty.nat (step + 1)) t12 a32 (.tmp 6):=kp9 hs15 (sm12 6 dE) (D18.k q83)
     have o37:PlR (.rcv (s + 1)) t12:=ho7
     refine XT.fin ?_
     refine tn ?_
     refine gI a32 t12 ok31 (gM q218 (gT (Ty.nat (s + 1)) rfl (fun B E G H I d0=>rP ((JF (eI d0) rfl wX).mono (fun τ _ h=>cN (σ:=τ) h))) (gB 0 (gEN ok31 fun a33 s24 ok32 D19=>?_))));have o38:=PlR.k0 o37 D19.stp;refine bn ?_
     exact tn ⟨c.A + 2 - ((s + 1)),by omega,s24,(s + 1),(step + 1),line,rfl,(F34.step0 D19.stp),ok32,(cJ (D19.m 2 rfl)),(cJ (D19.k q223)),(D19.k q219),(D19.k q220),(D19.k q221),(D19.k q222),(cvplr (by rfl) o38),hI.next hN oM oM hz_,rfl⟩
   ·
    have hs0_:s = 0:=oM;have hl0_:line.length = 0:=(by rw [(hI.zero hs0_).1];rfl);have ht0_:step = 0:=(hI.zero hs0_).2
    refine Jf (tn (Ja (Ja ?_)))
    refine gI a10 s7 ok9 (gM q52 (gM q53 (gS rfl (fun B E G H I d0=>rP (Jt Try.underlying22 (eI d0))) (gS rfl (fun B E G H I d0 d1=>rP (Qb (eI d0) (eI d1))) (gEN ok9 fun a34 s25 ok33 D20=>?_)))));have q233:=D20.k q54;have o39:=PlR.k0 o10 D20.stp;refine tn ?_
    refine Jl (p:=(((step:Nat):Int) = (((List.length line):Nat):Int))) (D20.m 3 rfl) (fun c6=>?_) (fun c6=>?_)
    ·
     have hz_:s % c.C = 0:=(by rw [hs0_];exact Nat.zero_mod _)
     refine Ja ?_
     have o40:PlR (.sel s) s25:=cvplr (by first | (unfold Co.nMv;rw [if_pos hz_];done) | simp [Co.nGot,Co.nMv,hs0_]) o39
     refine gI a34 s25 ok33 (gM q233 (gT (Ty.val (Jg h.S 0)) rfl (fun B E G H I d0=>rP (KS (eI d0))) (gT (Ty.val (Jg h.S 2)) rfl (fun B E G H I d0=>rP (JY Try.fld71_2 Try.inf69 dE (eI d0) rfl)) (gT (Ty.val (chv h.hears)) rfl (by intro B E G H I d0;exact Xk Try.underlying69 rfl (PlR.k0 o40 G) (eI d0) (by intro e_;cases e_) rfl) (gEN ok33 fun a35 s26 ok34 D21=>?_)))));have o41:=PlR.k0 o40 D21.stp;refine tn (Ja ?_)
     refine regX (a:=a35) (σ:=s26) rfl 0 (fun i_=>List.getD [] i_ Pr.any) ok34 rfl dE rfl (by rfl) trivial ?_
     intro a36 s27 D22;have ok35:=D22.ok;have F38:=((F10.step0 D20.stp).step0 D21.stp).step0 D22.stp;have q244:=D22.k (D21.k (D20.k q51));have q245:=D22.k (D21.k (D20.k q52));have q246:=D22.k (D21.k (D20.k q53));have q247:=D22.k (D21.k q233);have q248:=D22.k (D21.k (D20.k q55));have q249:=D22.k (D21.k (D20.k q56))
     have o42:PlR (.sel s) s27:=PlR.k0 o41 D22.stp
     refine xr_sel (s:=s) ok35 rfl (by intro e_ h_;cases h_ <;> decide) (by rw [hzq];exact Try.inf3) o42 (D22.k (D21.m 3 rfl)) (fun hlA=>?_) (fun hlA=>?_)
     ·
      have hq_:=hN.q (s / c.C) (Nat.lt_of_le_of_lt (Nat.div_mul_le_self _ _) hlA)
      intro a37 t13 hs16 ho8 hst8 ok36 hu8 sm13;have F39:=F38.step hs16 dE
      have q251:At (Ty.nat s) t13 a37 (.tmp 5):=kp9 hs16 (sm13 5 dE) q244
      have q252:At (Ty.nat step) t13 a37 (.tmp 6):=kp9 hs16 (sm13 6 dE) q245
      have q253:At (Ty.lst Ty.ints line) t13 a37 (.tmp 7):=kp9 hs16 (sm13 7 dE) q246
      have q254:At (Ty.val (Jg h.S 0)) t13 a37 (.tmp 0):=kp9 hs16 (sm13 0 dE) q247
      have q255:At (Ty.lst Ty.rows lns) t13 a37 (.tmp 1):=kp9 hs16 (sm13 1 dE) q248
      have q256:At (Ty.val (chv h.goes)) t13 a37 (.tmp 12):=kp9 hs16 (sm13 12 dE) q249
      have o43:PlR (.snd s) t13:=ho8
      have q257:At (Ty.tup3 (Ty.int (0:Int)) (Ty.bool true) (Ty.int (c.q (s / c.C)))) t13 a37 (.tmp 39):=hasU3 (hu8 39 rfl) rfl rfl rfl
      refine XT.tail (fun t14 hs17=>?_) (by rfl)
      have F40:=F39.step0 hs17
      have q258:At (Ty.nat s) t14 a37 (.tmp 5):=Ty.up _ hs17.le0 q251
      have q259:At (Ty.nat step) t14 a37 (.tmp 6):=Ty.up _ hs17.le0 q252
      have q260:At (Ty.lst Ty.ints line) t14 a37 (.tmp 7):=Ty.up _ hs17.le0 q253
      have q261:At (Ty.val (Jg h.S 0)) t14 a37 (.tmp 0):=Ty.up _ hs17.le0 q254
      have q262:At (Ty.lst Ty.rows lns) t14 a37 (.tmp 1):=Ty.up _ hs17.le0 q255
      have q263:At (Ty.val (chv h.goes)) t14 a37 (.tmp 12):=Ty.up _ hs17.le0 q256
      have q264:At (Ty.tup3 (Ty.int (0:Int)) (Ty.bool true) (Ty.int (c.q (s / c.C)))) t14 a37 (.tmp 39):=Ty.up _ hs17.le0 q257
      have o44:PlR (.snd s) t14:=PlR.k0 o43 hs17
      refine tL (R:=(fun v τ=>Pr.has (Ty.pr (Ty.int (0:Int))) τ v)) ok36 (Yld.toL (y_ext3_0 q264)) fun a38 s28 hs18 ok37 r6 sm14=>?_
      have o45:=PlR.keepL o44 hs18 dE dE
      have q272:At (Ty.int (0:Int)) s28 a38 (.tmp 40):=r6
      clear r6
      refine tL (R:=(fun v τ=>Pr.has (Ty.pr (Ty.bool true)) τ v)) ok37 (Yld.toL ((Qb q272 rfl).mono (fun τ _ h=>cvb (σ:=τ) dE h))) fun a39 s29 hs19 ok38 r7 sm15=>?_
      have q274:=kq hs19 sm15 6 (kq hs18 sm14 6 q259);have q275:=kq hs19 sm15 7 (kq hs18 sm14 7 q260);have o46:=PlR.keepL o45 hs19 dE dE
      have q280:At (Ty.bool true) s29 a39 (.tmp 41):=r7
      clear r7;refine Jh (tn (Je ?_))
      refine JR q280 (fun _=>?_) (fun c7=>(by cases c7))
      refine Ja ?_
      refine gI a39 s29 ok38 (gT (Ty.int (c.q (s / c.C))) rfl (fun B E G H I=>rP (y_ext3_2 (kp (I 39 rfl) G (kq hs19 sm15 39 (kq hs18 sm14 39 q264))))) (gB 0 (gEN ok38 fun a40 s30 ok39 D23=>?_)));have q283:=D23.k (kq hs19 sm15 1 (kq hs18 sm14 1 q262));have o47:=PlR.k0 o46 D23.stp;refine tn ?_
      refine gI a40 s30 ok39 (gM q283 (gM (D23.m 1 rfl) (gT (Ty.ref [(Ty.lst Ty.ints (lns.getD ((c.q (s / c.C))).toNat []))]) rfl (fun B E G H I d0 d1=>rP (Jy Try.underlying49 Try.inf22 (eI d0) (eI d1) oM (Ju Ty.rows lns [] ((c.q (s / c.C))).toNat oM))) (gS rfl (fun B E G H I d0=>rP (Jm Try.underlying22 rfl (eI d0) rfl)) (gB 0 (gC (Ty.int (0:Int)) (gEN ok39 fun a41 s31 ok40 D24=>?_)))))));have q287:=D24.k (D23.k (kq hs19 sm15 0 (kq hs18 sm14 0 q261)));have o48:=PlR.k0 o47 D24.stp;refine bn (tn (Ja ?_))
      refine regX (a:=a41) (σ:=s31) rfl 13 (fun i_=>List.getD [(Ty.pr (Ty.val (Jg h.S 0))),(Ty.pr (Ty.val (Jg h.S 0))),(Ty.pr (Ty.val (Jg h.S 4))),(Ty.pr (Ty.val (chv c.heard))),(Ty.pr (Ty.val (Jg h.S 0))),(Ty.pr (Ty.val (Jg h.S 0))),(Ty.pr (Ty.val (Jg h.S 0))),(Ty.pr (Ty.nat k)),(Ty.pr (Ty.val (Jg h.S 0))),(Ty.pr (Ty.val (Jg h.S 0))),(Ty.pr (Ty.val (Jg h.S 1))),(Ty.pr (Ty.nat (c.pl k s))),(Ty.pr (Ty.agg [(Ty.nat k),(Ty.nat (c.pl k s))]))] i_ Pr.any) ok40 rfl dE rfl (by rfl) ⟨?_,?_,?_,?_,?_,?_,?_,?_,?_,?_,?_,?_,?_,trivial⟩ ?_
      · intro B E G H I;exact rP (Jc (kp (I 0 rfl) G q287))
      · intro B E G H I d0;exact rP (KS (eI d0))
      · intro B E G H I d0;exact rP (JY Try.fld71_4 Try.inf67 dE (eI d0) rfl)
      · intro B E G H I d0
        exact Xk Try.underlying67 rfl (PlR.k0 o48 G) (eI d0) (by intro e_;cases e_) rfl
      · intro B E G H I;exact rP (Jc (kp (I 0 rfl) G q287))
      · intro B E G H I d0;exact rP (KS (eI d0))
      · intro B E G H I d0;exact rP (JY Try.fld71_0 Try.inf3 dE (eI d0) rfl)
      · intro B E G H I d0
        exact Xk Try.underlying3 rfl (PlR.k0 o48 G) (eI d0) (by intro e_;cases e_) rfl
      · intro B E G H I;exact rP (Jc (kp (I 0 rfl) G q287))
      · intro B E G H I d0;exact rP (KS (eI d0))
      · intro B E G H I d0;exact rP (JY Try.fld71_1 Try.inf3 dE (eI d0) rfl)
      · intro B E G H I d0
        exact Xk Try.underlying3 rfl (PlR.k0 o48 G) (eI d0) (by intro e_;cases e_) rfl
      · intro B E G H I d0 d1;exact rP (y_bld [(0,(.tmp 54),(Ty.nat k)),(1,(.tmp 58),(Ty.nat (c.pl k s)))] [(Ty.int (0:Int)),(Ty.int (0:Int))] (l:=[(0,1),(1,1)]) rfl Try.inf106 rfl (Kr (vs:=[.int .i64 0,.int .i64 0]) rfl) rfl (by intro p hp;simp only [List.mem_cons,List.not_mem_nil,or_false] at hp;rcases hp with rfl | rfl;exact ⟨Jq rfl,(eI d0)⟩;exact ⟨Jq rfl,(eI d1)⟩))
      intro a42 s32 D25;have ok41:=D25.ok
      have o49:PlR (.snd s) s32:=PlR.k0 o48 D25.stp
      refine xr_snd (s:=s) ok41 rfl (by intro e_ h_;cases h_ <;> decide) o49 (D25.m 3 rfl) (agg2 (D25.m 12 rfl)) ?_
      intro a43 t15 hs20 ho9 hst9 ok42 hu9 sm16;have F46:=(((((F40.sl hs18).sl hs19).step0 D23.stp).step0 D24.stp).step0 D25.stp).step hs20 dE
      have q300:At (Ty.nat s) t15 a43 (.tmp 5):=kp9 hs20 (sm16 5 dE) (D25.k (D24.k (D23.k (kq hs19 sm15 5 (kq hs18 sm14 5 q258)))))
      have q301:At (Ty.val (Jg h.S 0)) t15 a43 (.tmp 0):=kp9 hs20 (sm16 0 dE) (D25.k q287)
      have q302:At (Ty.lst Ty.rows lns) t15 a43 (.tmp 1):=kp9 hs20 (sm16 1 dE) (D25.k (D24.k q283))
      have q303:At (Ty.val (chv h.goes)) t15 a43 (.tmp 12):=kp9 hs20 (sm16 12 dE) (D25.k (D24.k (D23.k (kq hs19 sm15 12 (kq hs18 sm14 12 q263)))))
      have q304:At (Ty.lst Ty.ints (lns.getD ((c.q (s / c.C))).toNat [])) t15 a43 (.tmp 7):=kp9 hs20 (sm16 7 dE) (D25.k (D24.m 4 rfl))
      have q305:At (Ty.int (0:Int)) t15 a43 (.tmp 6):=kp9 hs20 (sm16 6 dE) (D25.k (D24.m 5 rfl))
      have o50:PlR (.rcv (s + 1)) t15:=ho9
      refine XT.fin ?_
      refine tn ?_
      refine gI a43 t15 ok42 (gM q300 (gT (Ty.nat (s + 1)) rfl (fun B E G H I d0=>rP ((JF (eI d0) rfl wX).mono (fun τ _ h=>cN (σ:=τ) h))) (gB 0 (gEN ok42 fun a44 s33 ok43 D26=>?_))));have o51:=PlR.k0 o50 D26.stp;refine bn ?_
      exact tn ⟨c.A + 2 - ((s + 1)),by omega,s33,(s + 1),0,(lns.getD (c.q (s / c.C)).toNat []),rfl,(F46.step0 D26.stp),ok43,(cJ (D26.m 2 rfl)),(cJ (D26.k q305)),(cvt (by (first | rfl | omega | (simp_all;done) | (simp_all;omega))) (D26.k q304)),(D26.k q301),(D26.k q302),(D26.k q303),(cvplr (by rfl) o51),hI.hear oM hz_,rfl⟩
     ·
      intro a45 t16 hs21 ho10 hst10 ok44 hu10 sm17;have F48:=F38.step hs21 dE
      have q312:At (Ty.nat s) t16 a45 (.tmp 5):=kp9 hs21 (sm17 5 dE) q244
      have q313:At (Ty.nat step) t16 a45 (.tmp 6):=kp9 hs21 (sm17 6 dE) q245
      have q314:At (Ty.lst Ty.ints line) t16 a45 (.tmp 7):=kp9 hs21 (sm17 7 dE) q246
      have q315:At (Ty.val (Jg h.S 0)) t16 a45 (.tmp 0):=kp9 hs21 (sm17 0 dE) q247
      have q316:At (Ty.lst Ty.rows lns) t16 a45 (.tmp 1):=kp9 hs21 (sm17 1 dE) q248
      have q317:At (Ty.val (chv h.goes)) t16 a45 (.tmp 12):=kp9 hs21 (sm17 12 dE) q249
      have o52:PlR (.snd s) t16:=ho10
      have q318:At (Ty.tup3 (Ty.int (-1:Int)) (Ty.bool false) (Ty.int (0:Int))) t16 a45 (.tmp 39):=hasU3 (hu10 39 rfl) rfl rfl hzq
      refine XT.tail (fun t17 hs22=>?_) (by rfl)
      have F49:=F48.step0 hs22
      have q319:At (Ty.nat s) t17 a45 (.tmp 5):=Ty.up _ hs22.le0 q312
      have q320:At (Ty.nat step) t17 a45 (.tmp 6):=Ty.up _ hs22.le0 q313
      have q321:At (Ty.lst Ty.ints line) t17 a45 (.tmp 7):=Ty.up _ hs22.le0 q314
      have q322:At (Ty.val (Jg h.S 0)) t17 a45 (.tmp 0):=Ty.up _ hs22.le0 q315
      have q323:At (Ty.lst Ty.rows lns) t17 a45 (.tmp 1):=Ty.up _ hs22.le0 q316
      have q324:At (Ty.val (chv h.goes)) t17 a45 (.tmp 12):=Ty.up _ hs22.le0 q317
      have q325:At (Ty.tup3 (Ty.int (-1:Int)) (Ty.bool false) (Ty.int (0:Int))) t17 a45 (.tmp 39):=Ty.up _ hs22.le0 q318
      have o53:PlR (.snd s) t17:=PlR.k0 o52 hs22
      refine tL (R:=(fun v τ=>Pr.has (Ty.pr (Ty.int (-1:Int))) τ v)) ok44 (Yld.toL (y_ext3_0 q325)) fun a46 s34 hs23 ok45 r8 sm18=>?_
      have o54:=PlR.keepL o53 hs23 dE dE
      have q333:At (Ty.int (-1:Int)) s34 a46 (.tmp 40):=r8
      clear r8
      refine tL (R:=(fun v τ=>Pr.has (Ty.pr (Ty.bool false)) τ v)) ok45 (Yld.toL ((Qb q333 rfl).mono (fun τ _ h=>cvb (σ:=τ) dE h))) fun a47 s35 hs24 ok46 r9 sm19=>?_
      have q337:=kq hs24 sm19 0 (kq hs23 sm18 0 q322);have q340:=kq hs24 sm19 39 (kq hs23 sm18 39 q325);have o55:=PlR.keepL o54 hs24 dE dE
      have q341:At (Ty.bool false) s35 a47 (.tmp 41):=r9
      clear r9;refine Jh (tn (Je ?_))
      refine JR q341 (fun c8=>(by cases c8)) (fun _=>?_)
      refine Jf (bn (tn (Ja ?_)))
      refine regX (a:=a47) (σ:=s35) rfl 13 (fun i_=>List.getD [(Ty.pr (Ty.val (Jg h.S 0))),(Ty.pr (Ty.val (Jg h.S 0))),(Ty.pr (Ty.val (Jg h.S 4))),(Ty.pr (Ty.val (chv c.heard))),(Ty.pr (Ty.val (Jg h.S 0))),(Ty.pr (Ty.val (Jg h.S 0))),(Ty.pr (Ty.val (Jg h.S 0))),(Ty.pr (Ty.nat k)),(Ty.pr (Ty.val (Jg h.S 0))),(Ty.pr (Ty.val (Jg h.S 0))),(Ty.pr (Ty.val (Jg h.S 1))),(Ty.pr (Ty.nat (c.pl k s))),(Ty.pr (Ty.agg [(Ty.nat k),(Ty.nat (c.pl k s))]))] i_ Pr.any) ok46 rfl dE rfl (by rfl) ⟨?_,?_,?_,?_,?_,?_,?_,?_,?_,?_,?_,?_,?_,trivial⟩ ?_
      · intro B E G H I;exact rP (Jc (kp (I 0 rfl) G q337))
      · intro B E G H I d0;exact rP (KS (eI d0))
      · intro B E G H I d0;exact rP (JY Try.fld71_4 Try.inf67 dE (eI d0) rfl)
      · intro B E G H I d0
        exact Xk Try.underlying67 rfl (PlR.k0 o55 G) (eI d0) (by intro e_;cases e_) rfl
      · intro B E G H I;exact rP (Jc (kp (I 0 rfl) G q337))
      · intro B E G H I d0;exact rP (KS (eI d0))
      · intro B E G H I d0;exact rP (JY Try.fld71_0 Try.inf3 dE (eI d0) rfl)
      · intro B E G H I d0
        exact Xk Try.underlying3 rfl (PlR.k0 o55 G) (eI d0) (by intro e_;cases e_) rfl
      · intro B E G H I;exact rP (Jc (kp (I 0 rfl) G q337))
      · intro B E G H I d0;exact rP (KS (eI d0))
      · intro B E G H I d0;exact rP (JY Try.fld71_1 Try.inf3 dE (eI d0) rfl)
      · intro B E G H I d0
        exact Xk Try.underlying3 rfl (PlR.k0 o55 G) (eI d0) (by intro e_;cases e_) rfl
      · intro B E G H I d0 d1;exact rP (y_bld [(0,(.tmp 54),(Ty.nat k)),(1,(.tmp 58),(Ty.nat (c.pl k s)))] [(Ty.int (0:Int)),(Ty.int (0:Int))] (l:=[(0,1),(1,1)]) rfl Try.inf106 rfl (Kr (vs:=[.int .i64 0,.int .i64 0]) rfl) rfl (by intro p hp;simp only [List.mem_cons,List.not_mem_nil,or_false] at hp;rcases hp with rfl | rfl;exact ⟨Jq rfl,(eI d0)⟩;exact ⟨Jq rfl,(eI d1)⟩))
      intro a48 s36 D27;have ok47:=D27.ok
      have o56:PlR (.snd s) s36:=PlR.k0 o55 D27.stp
      refine xr_snd (s:=s) ok47 rfl (by intro e_ h_;cases h_ <;> decide) o56 (D27.m 3 rfl) (agg2 (D27.m 12 rfl)) ?_
      intro a49 t18 hs25 ho11 hst11 ok48 hu11 sm20;have F53:=(((F49.sl hs23).sl hs24).step0 D27.stp).step hs25 dE
      have q350:At (Ty.nat s) t18 a49 (.tmp 5):=kp9 hs25 (sm20 5 dE) (D27.k (kq hs24 sm19 5 (kq hs23 sm18 5 q319)))
      have q351:At (Ty.nat step) t18 a49 (.tmp 6):=kp9 hs25 (sm20 6 dE) (D27.k (kq hs24 sm19 6 (kq hs23 sm18 6 q320)))
      have q352:At (Ty.lst Ty.ints line) t18 a49 (.tmp 7):=kp9 hs25 (sm20 7 dE) (D27.k (kq hs24 sm19 7 (kq hs23 sm18 7 q321)))
      have q353:At (Ty.val (Jg h.S 0)) t18 a49 (.tmp 0):=kp9 hs25 (sm20 0 dE) (D27.k q337)
      have q354:At (Ty.lst Ty.rows lns) t18 a49 (.tmp 1):=kp9 hs25 (sm20 1 dE) (D27.k (kq hs24 sm19 1 (kq hs23 sm18 1 q323)))
      have q355:At (Ty.val (chv h.goes)) t18 a49 (.tmp 12):=kp9 hs25 (sm20 12 dE) (D27.k (kq hs24 sm19 12 (kq hs23 sm18 12 q324)))
      have o57:PlR (.rcv (s + 1)) t18:=ho11
      refine XT.fin ?_
      refine tn ?_
      refine gI a49 t18 ok48 (gM q350 (gT (Ty.nat (s + 1)) rfl (fun B E G H I d0=>rP ((JF (eI d0) rfl wX).mono (fun τ _ h=>cN (σ:=τ) h))) (gB 0 (gEN ok48 fun a50 s37 ok49 D28=>?_))));have o58:=PlR.k0 o57 D28.stp;refine bn ?_
      exact tn ⟨c.A + 2 - ((s + 1)),by omega,s37,(s + 1),step,line,rfl,(F53.step0 D28.stp),ok49,(cJ (D28.m 2 rfl)),(D28.k q351),(D28.k q352),(D28.k q353),(D28.k q354),(D28.k q355),(cvplr (by rfl) o58),RgI.last oM hlA,rfl⟩
    ·
     exfalso
     omega
  ·
   intro a51 t19 hs26 ho12 hst12 ok50 hu12 sm21;have F55:=F6.step hs26 dE
   have q362:At (Ty.nat s) t19 a51 (.tmp 5):=kp9 hs26 (sm21 5 dE) q24
   have q363:At (Ty.nat step) t19 a51 (.tmp 6):=kp9 hs26 (sm21 6 dE) q25
   have q364:At (Ty.lst Ty.ints line) t19 a51 (.tmp 7):=kp9 hs26 (sm21 7 dE) q26
   have q365:At (Ty.val (Jg h.S 0)) t19 a51 (.tmp 0):=kp9 hs26 (sm21 0 dE) q27
   have q366:At (Ty.lst Ty.rows lns) t19 a51 (.tmp 1):=kp9 hs26 (sm21 1 dE) q28
   have q367:At (Ty.val (chv h.goes)) t19 a51 (.tmp 12):=kp9 hs26 (sm21 12 dE) q29
   have o59:PlR .fin t19:=ho12
   have q368:At (Ty.tup2 (Ty.int (0:Int)) (Ty.bool false)) t19 a51 (.tmp 13):=hasU2 (hu12 13 rfl) hzi rfl
   refine XT.tail (fun t20 hs27=>?_) (by rfl)
   have F56:=F55.step0 hs27
   have q369:At (Ty.nat s) t20 a51 (.tmp 5):=Ty.up _ hs27.le0 q362
   have q370:At (Ty.nat step) t20 a51 (.tmp 6):=Ty.up _ hs27.le0 q363
   have q371:At (Ty.lst Ty.ints line) t20 a51 (.tmp 7):=Ty.up _ hs27.le0 q364
   have q372:At (Ty.val (Jg h.S 0)) t20 a51 (.tmp 0):=Ty.up _ hs27.le0 q365
   have q373:At (Ty.lst Ty.rows lns) t20 a51 (.tmp 1):=Ty.up _ hs27.le0 q366
   have q374:At (Ty.val (chv h.goes)) t20 a51 (.tmp 12):=Ty.up _ hs27.le0 q367
   have q375:At (Ty.tup2 (Ty.int (0:Int)) (Ty.bool false)) t20 a51 (.tmp 13):=Ty.up _ hs27.le0 q368
   have o60:PlR .fin t20:=PlR.k0 o59 hs27
   refine tL (R:=(fun v τ=>Pr.has (Ty.pr (Ty.bool false)) τ v)) ok50 (Yld.toL (y_ext2_1 q375)) fun a52 s38 hs28 ok51 r10 sm22=>?_
   have q377:=kq hs28 sm22 6 q370;have q378:=kq hs28 sm22 7 q371;have q379:=kq hs28 sm22 0 q372;have q380:=kq hs28 sm22 1 q373;have q381:=kq hs28 sm22 12 q374;have o61:=PlR.keepL o60 hs28 dE dE
   have q382:At (Ty.bool false) s38 a52 (.tmp 14):=r10
   clear r10;refine Jh (tn (Ja ?_))
   refine JR q382 (fun c9=>(by cases c9)) (fun _=>?_)
   refine Jv (tx (tx (bx (tn (Ja ?_)))))
   refine gI a52 s38 ok51 (gM (kq hs28 sm22 5 q369) (gB 0 (gEN ok51 fun a53 s39 ok52 D29=>?_)));have o62:=PlR.k0 o61 D29.stp;refine tn (Jj ?_)
   exact JJ rfl ok52 ((F56.sl hs28).step0 D29.stp) ⟨(cJ (D29.m 1 rfl)),o62⟩
end Go.Proofs.Ytodmoedmijfciaa
