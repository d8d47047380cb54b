/- The functions that the law BandRings reaches, each by its contract (beside leavers, and in company). Part 3. -/
import Derived.Test.YtodmoedmijfciaaBandRingsB2
namespace Go.Proofs.Ytodmoedmijfciaa
open Go.KL
variable {J:Go.KL.JdOf Try.prog} [Go.KL.Al J]
set_option maxHeartbeats 4000000 in
set_option maxRecDepth 100000 in
theorem rRung_fn (X:List (List Int)) (sl:List Qz) (nb:Nat) (rows:Int) (σ:GW)  (v0 v1:Value) (hv0:Ty.has (Ty.lst Ty.ints X) σ v0) (hv1:Ty.has (Ty.lstc 3 Qd sl) σ v1)  (hxl:X.length ≤ 1000000) (hxr:∀ i,i < X.length → (X.getD i []).length = nb) (hsl:∀ i,i < sl.length → ¬ KA ((nb:Nat):Int) rows (sl.getD i Sl0)) (hrw:rows ≤ 1000000) (hnb:nb ≤ 1000) :
    FnC J 12 #[v0,v1] σ (Ty.lst Ty.ints (Qm X sl)):=by
 have hrl_:=rungE_len (X:=X) (sl:=sl)
 refine JT Try.func12 rfl Try.ntmps12 (Xr rfl) (fun s0 a0 hle F0 ok0 hargs=>?_)
 have p0:=pA hle (hargs 0 _ rfl) hv0
 have b1:=JS p0
 have p1:=pA hle (hargs 1 _ rfl) hv1
 have b2:=JS p1
 clear hargs;refine Ja ?_
 refine gI a0 s0 ok0 (gC (Ty.val (Value.slice none 0 0)) (gE ok0 fun a1 s1 ok1 D1=>?_));refine tn (Ja ?_)
 refine gI a1 s1 ok1 (gC (Ty.val (Value.slice none 0 0)) (gE ok1 fun a2 s2 ok2 D2=>?_));refine tn (Ja (Ja ?_))
 refine gI a2 s2 ok2 (gC (Ty.int (0:Int)) (gE ok2 fun a3 s3 ok3 D3=>?_));refine tn (Je ?_)
 have o1:Own s3 5 26 1 (Value.slice none 0 0) 0 (List.map Ty.ints ([]:List (List Int))):=Own.nil _ _ _ _
 refine Kf (fun n1 a4 w1=>∃ (t1:GW) (i:Nat) (x5_0:Value),t1.w = w1∧FromL [] s0 t1∧Ok 72 [] a4∧At (Ty.nat i) t1 a4 (.tmp 6)∧At (Ty.val x5_0) t1 a4 (.tmp 5)∧At (Ty.lst Ty.ints X) t1 a4 (.tmp 0)∧At (Ty.lstc 3 Qd sl) t1 a4 (.tmp 1)∧Own t1 5 26 1 x5_0 (List.length ((Qm X sl).take i)) (List.map Ty.ints ((Qm X sl).take i))∧(i ≤ X.length)∧n1 = X.length - i) (X.length - (0)) ?_ ?_
 ·
  exact ⟨s3,0,(Value.slice none 0 0),rfl,(((F0.step0 D1.stp).step0 D2.stp).step0 D3.stp),ok3,(cJ (D3.m 0 rfl)),(D3.k (D2.m 0 rfl)),(D3.k (D2.k (D1.k p0))),(D3.k (D2.k (D1.k p1))),(cvo (by (simp)) (by (simp)) o1),by omega,rfl⟩
 ·
  rintro n2 a5 w2 ⟨t2,i,x5_0,rfl,F4,ok4,q10,q11,q12,q13,o2,hi,rfl⟩
  have htk_:((Qm X sl).take i).length ≤ i:=List.length_take_le _ _
  refine Ja (Ja ?_)
  refine gI a5 t2 ok4 (gM q10 (gM q12 (gS rfl (fun A B E G H d0=>rP (Jt Try.underlying22 (eI d0))) (gS rfl (fun A B E G H d0 d1=>rP (Jw (eI d0) (eI d1))) (gE ok4 fun a6 s4 ok5 D4=>?_)))));have F5:=F4.step0 D4.stp;have q14:=D4.k q10;have q15:=D4.k q11;have q16:=D4.k q12;have o3:=Own.k0 o2 D4.stp;refine tn ?_
  refine Jl (p:=(((i:Nat):Int) < (((List.length X):Nat):Int))) (D4.m 3 rfl) (fun c1=>?_) (fun c1=>?_)
  ·
   have hxi_:=hxr i oM
   refine Jf (tn (Ja (Je (Ja ?_))))
   refine gI a6 s4 ok5 (gR (Pr.own 7 3 1 0 (List.map Ty.int ([]:List Int))) rfl (by intro A B E G H;exact rP ((y_lit0 (k:=7) Try.underlying26 Try.inf3).mono (fun _ _ h=>cvo (by simp) (by simp) h))) (gM q16 (gM q14 (gT (Ty.ref [(Ty.lst Ty.int (X.getD i []))]) rfl (fun A B E G H d0 d1=>rP (Jy Try.underlying22 Try.inf26 (eI d0) (eI d1) oM (Ju Ty.ints X [] i oM))) (gS rfl (fun A B E G H d0=>rP (Jm Try.underlying26 rfl (eI d0) rfl)) (gE2 ok5 fun a7 s5 ok6 D5=>?_))))));have o4:=Own.k0 o3 D5.stp
   obtain ⟨x1,hx1⟩:∃ x,a7.eval (.tmp 17) = x:=⟨_,rfl⟩
   have q23:At (Ty.val x1) s5 a7 (.tmp 17):=hx1
   have o5:=al2 (R:=(Pr.own 7 3 1 0 (List.map Ty.int ([]:List Int)))) hx1 (D5.done 0 dE)
   have q24:=D5.m 4 rfl
   have b3:=JS q24
   refine tL ok6 (YldM.toL (KC Try.underlying26 Try.inf3 dE rfl dE (al (R:=(Pr.own 7 3 1 0 (List.map Ty.int ([]:List Int)))) q23 o5) q24 (one_map (fun _=>Jq rfl)) oM oM)) fun a8 s6 hs1 ok7 r1 sm1=>?_
   obtain ⟨x2,hx2⟩:∃ x,a8.eval (.tmp 22) = x:=⟨_,rfl⟩
   have q29:At (Ty.val x2) s6 a8 (.tmp 22):=hx2
   have o6:=al2 (R:=(Pr.own 7 3 1 (List.length (X.getD i [])) (List.map Ty.int (X.getD i [])))) hx2 (cvo (by first | (simp;done) | (simp;omega)) (by first | (rw [List.map_append];rfl) | simp) r1)
   clear r1
   refine tL ok7 (Yld.toL (y_as q29)) fun a9 s7 hs2 ok8 r2 sm2=>?_
   have q34:At (Ty.val x2) s7 a9 (.tmp 7):=r2
   clear r2;refine Jh (tn (Ja (Ja ?_)))
   refine gI a9 s7 ok8 (gC (Ty.int (0:Int)) (gE ok8 fun a10 s8 ok9 D6=>?_));have o10:=Own.k0 (Own.kl (Own.kl o4 hs1) hs2) D6.stp;have o11:=Own.k0 (Own.kl o6 hs2) D6.stp;refine tn (Je ?_)
   refine Kf (fun n3 a11 w3=>∃ (t3:GW) (k:Nat) (x7_1:Value),t3.w = w3∧FromL [] s0 t3∧Ok 72 [] a11∧At (Ty.nat k) t3 a11 (.tmp 8)∧At (Ty.val x7_1) t3 a11 (.tmp 7)∧At (Ty.nat i) t3 a11 (.tmp 6)∧At (Ty.val x5_0) t3 a11 (.tmp 5)∧At (Ty.lst Ty.ints X) t3 a11 (.tmp 0)∧At (Ty.lstc 3 Qd sl) t3 a11 (.tmp 1)∧Own t3 7 3 1 x7_1 (List.length (Kc i (X.getD i []) (sl.take k))) (List.map Ty.int (Kc i (X.getD i []) (sl.take k)))∧Own t3 5 26 1 x5_0 (List.length ((Qm X sl).take i)) (List.map Ty.ints ((Qm X sl).take i))∧(k ≤ sl.length)∧n3 = sl.length - k) (sl.length - (0)) ?_ ?_
   ·
    exact ⟨s8,0,x2,rfl,((((F5.step0 D5.stp).sl hs1).sl hs2).step0 D6.stp),ok9,(cJ (D6.m 0 rfl)),(D6.k q34),(D6.k (kq hs2 sm2 6 (kq hs1 sm1 6 (D5.k q14)))),(D6.k (kq hs2 sm2 5 (kq hs1 sm1 5 (D5.k q15)))),(D6.k (kq hs2 sm2 0 (kq hs1 sm1 0 (D5.k q16)))),(D6.k (kq hs2 sm2 1 (kq hs1 sm1 1 (D5.k (D4.k q13))))),(cvo (by (first | rfl | simp [Kc])) (by (first | rfl | simp [Kc])) o11),o10,by omega,rfl⟩
   ·
    rintro n4 a12 w4 ⟨t4,k,x7_1,rfl,F10,ok10,q41,q42,q43,q44,q45,q46,o12,o13,hk,rfl⟩
    have hsl3_:=QG (i:=i) (sl.take k) (X.getD i [])
    refine Ja (Ja ?_)
    refine gI a12 t4 ok10 (gM q41 (gM q46 (gS rfl (fun A B E G H d0=>rP (Jt Try.underlying27 (eI d0))) (gS rfl (fun A B E G H d0 d1=>rP (Jw (eI d0) (eI d1))) (gE ok10 fun a13 s9 ok11 D7=>?_)))));have F11:=F10.step0 D7.stp;have q47:=D7.k q41;have q48:=D7.k q42;have q49:=D7.k q43;have q50:=D7.k q44;have q51:=D7.k q45;have q52:=D7.k q46;have o14:=Own.k0 o12 D7.stp;have o15:=Own.k0 o13 D7.stp;have q53:=D7.m 3 rfl;refine tn ?_
    refine Jl (p:=(((k:Nat):Int) < (((List.length sl):Nat):Int))) q53 (fun c2=>?_) (fun c2=>?_)
    ·
     have hsb:=hsl k oM;unfold KA at hsb;have hb1_:(sl.getD k Sl0).2.1.toNat - 1 = ((sl.getD k Sl0).2.1 - (1:Int)).toNat:=oM
     refine Jf (tn (Ja (Je (Ja ?_))))
     refine gI a13 s9 ok11 (gM q52 (gM q47 (gT (Ty.ref [(Ty.int ((sl.getD k Sl0)).1),(Ty.int ((sl.getD k Sl0)).2.1),(Ty.int ((sl.getD k Sl0)).2.2)]) rfl (fun A B E G H d0 d1=>rP (Qa (i:=((k:Nat):Int)) Sl0 Try.underlying27 Try.inf46 (eI d0) (eI d1) oM oM dE (fun _=>rfl))) (gS rfl (fun A B E G H d0=>rP (KV Try.underlying46 Try.inf46 (eI d0))) (gR (Pr.ownp 8 [(Ty.int (0:Int)),(Ty.int (0:Int)),(Ty.int (0:Int))]) rfl (by intro A B E G H;exact rP (y_alloc Try.inf46 rfl (Kr (vs:=[.int .i64 0,.int .i64 0,.int .i64 0]) rfl))) (gE2 ok11 fun a14 s10 ok12 D8=>?_))))));have o16:=Own.k0 o14 D8.stp;have o17:=Own.k0 o15 D8.stp
     obtain ⟨x3,hx3⟩:∃ x,a14.eval (.tmp 9) = x:=⟨_,rfl⟩
     have q61:At (Ty.val x3) s10 a14 (.tmp 9):=hx3
     have o18:=al2 (R:=(Pr.ownp 8 [(Ty.int (0:Int)),(Ty.int (0:Int)),(Ty.int (0:Int))])) hx3 (D8.done 4 dE)
     refine Xh (L:=[8]) (R:=(fun _ τ=>OwnP τ 8 x3 [(Ty.int ((sl.getD k Sl0)).1),(Ty.int ((sl.getD k Sl0)).2.1),(Ty.int ((sl.getD k Sl0)).2.2)])) rfl rfl (YldM.toL (QZ Try.inf46 dE o18 q61 rfl (D8.m 3 rfl) (by intro U hU;simp only [List.mem_cons,List.not_mem_nil,or_false] at hU;rcases hU with rfl | rfl | rfl <;> first | exact Jq rfl | exact Qg | exact one_flt | exact one_cx | exact one_ref))) (fun v1 s11 hs3 r3=>?_)
     have q62:=kpL hs3 dE rfl (D8.k q47);have q63:=kpL hs3 dE rfl (D8.k q48);have q64:=kpL hs3 dE rfl (D8.k q49);have q65:=kpL hs3 dE rfl (D8.k q50);have q66:=kpL hs3 dE rfl (D8.k q51);have q67:=kpL hs3 dE rfl (D8.k q52);have q68:=kpL hs3 dE rfl q61
     have o19:OwnP s11 8 x3 [(Ty.int ((sl.getD k Sl0)).1),(Ty.int ((sl.getD k Sl0)).2.1),(Ty.int ((sl.getD k Sl0)).2.2)]:=r3
     clear r3;refine Jh (tn (Ja ?_))
     refine gI a14 s11 ok12 (gM q64 (gT (Ty.val (JZ x3 0)) rfl (fun A B E G H=>rP (Jn Try.fld46_0 Try.inf3 dE (OwnP.k0 o19 E) (kp (H 9 rfl) E q68))) (gS rfl (fun A B E G H d0=>rP (Jo Try.underlying3 rfl (OwnP.k0 o19 E) (eI d0) rfl)) (gS rfl (fun A B E G H d0 d1=>rP (Qv (eI d0) (eI d1))) (gS rfl (fun A B E G H d0=>rP (Jc (eI d0))) (gS rfl (fun A B E G H d0=>gu G (eI d0) fun hg=>Jc (kp (H 6 rfl) E q64)) (gT (Ty.grd ((decide (((sl.getD k Sl0)).1 ≤ ((i:Nat):Int))) = true) (Ty.val (JZ x3 0))) rfl (fun A B E G H d0=>gut G (eI d0) fun hg hp=>Jn Try.fld46_0 Try.inf3 dE (OwnP.k0 o19 E) (kp (H 9 rfl) E q68)) (gS rfl (fun A B E G H d0 d1=>gu G (eI d1) fun hg=>Jo Try.underlying3 rfl (OwnP.k0 o19 E) ((ef d0 rfl).1 hg) rfl) (gT (Ty.grd ((decide (((sl.getD k Sl0)).1 ≤ ((i:Nat):Int))) = true) (Ty.val (JZ x3 2))) rfl (fun A B E G H d0=>gut G (eI d0) fun hg hp=>Jn Try.fld46_2 Try.inf3 dE (OwnP.k0 o19 E) (kp (H 9 rfl) E q68)) (gS rfl (fun A B E G H d0 d1=>gu G (eI d1) fun hg=>Jo Try.underlying3 rfl (OwnP.k0 o19 E) ((ef d0 rfl).1 hg) rfl) (gT (Ty.grd ((decide (((sl.getD k Sl0)).1 ≤ ((i:Nat):Int))) = true) (Ty.int (((sl.getD k Sl0)).1 + ((sl.getD k Sl0)).2.2))) rfl (fun A B E G H d0 d1 d2=>gut G (eI d2) fun hg hp=>JF ((ef d0 rfl).1 hg) ((ef d1 rfl).1 hg) wX) (gS rfl (fun A B E G H d0 d1 d2=>gu G (eI d2) fun hg=>Jw ((ef d0 rfl).1 hg) ((ef d1 rfl).1 hg)) (gS rfl (fun A B E G H d0 d1=>rP (Jp (eI d0) (eI d1) rfl)) (gE ok12 fun a15 s12 ok13 D9=>?_))))))))))))));have F14:=((F11.step0 D8.stp).sl hs3).step0 D9.stp;have q70:=D9.k q62;have q71:=D9.k q63;have q72:=D9.k q64;have q73:=D9.k q65;have q74:=D9.k q66;have q75:=D9.k q67;have q76:=D9.k q68;have o22:=Own.k0 (Own.kl o16 hs3) D9.stp;have o23:=Own.k0 (Own.kl o17 hs3) D9.stp;have o24:=OwnP.k0 o19 D9.stp;refine tn ?_
     refine JR (D9.m 12 rfl) (fun c3=>?_) (fun c3=>?_)
     ·
      obtain ⟨d1,d2⟩:=Xo c3
      replace d1:=Xq d1
      replace d2:=Xq d2
      have hin_:(sl.getD k Sl0).1.toNat ≤ i∧i < ((sl.getD k Sl0).1 + (sl.getD k Sl0).2.2).toNat:=(by simp only [Bool.and_eq_true,decide_eq_true_eq] at c3;omega)
      refine Ja ?_
      refine gI a15 s12 ok13 (gM q71 (gT (Ty.val (JZ x3 1)) rfl (fun A B E G H=>rP (Jn Try.fld46_1 Try.inf3 dE (OwnP.k0 o24 E) (kp (H 9 rfl) E q76))) (gS rfl (fun A B E G H d0=>rP (Jo Try.underlying3 rfl (OwnP.k0 o24 E) (eI d0) rfl)) (gT (Ty.val (JU x7_1 (((sl.getD k Sl0)).2.1).toNat)) rfl (fun A B E G H d0 d1=>rP (Kn (i:=((sl.getD k Sl0)).2.1) Try.underlying26 Try.inf3 (Own.k0 o22 E) (eI d0) (eI d1) oM oM)) (gS rfl (fun A B E G H d0=>rP (QT Try.underlying3 rfl (Own.k0 o22 E) (eI d0) (Ju Ty.int (Kc i (X.getD i []) (sl.take k)) 0 (((sl.getD k Sl0)).2.1).toNat oM))) (gB 0 (gE ok13 fun a16 s13 ok14 D10=>?_)))))));have q79:=D10.k q71;have q84:=D10.k q76;have o25:=Own.k0 o22 D10.stp;have o26:=Own.k0 o23 D10.stp;have o27:=OwnP.k0 o24 D10.stp;refine tn (Ja ?_)
      refine gI a16 s13 ok14 (gM q79 (gT (Ty.val (JZ x3 1)) rfl (fun A B E G H=>rP (Jn Try.fld46_1 Try.inf3 dE (OwnP.k0 o27 E) (kp (H 9 rfl) E q84))) (gS rfl (fun A B E G H d0=>rP (Jo Try.underlying3 rfl (OwnP.k0 o27 E) (eI d0) rfl)) (gM q79 (gT (Ty.val (JZ x3 1)) rfl (fun A B E G H=>rP (Jn Try.fld46_1 Try.inf3 dE (OwnP.k0 o27 E) (kp (H 9 rfl) E q84))) (gS rfl (fun A B E G H d0=>rP (Jo Try.underlying3 rfl (OwnP.k0 o27 E) (eI d0) rfl)) (gT (Ty.int (((sl.getD k Sl0)).2.1 - (1:Int))) rfl (fun A B E G H d0=>rP (Xg (eI d0) rfl wX)) (gT (Ty.val (JU x7_1 ((((sl.getD k Sl0)).2.1 - (1:Int))).toNat)) rfl (fun A B E G H d0 d1=>rP (Kn (i:=(((sl.getD k Sl0)).2.1 - (1:Int))) Try.underlying26 Try.inf3 (Own.k0 o25 E) (eI d0) (eI d1) oM oM)) (gS rfl (fun A B E G H d0=>rP (QT Try.underlying3 rfl (Own.k0 o25 E) (eI d0) (Ju Ty.int (Kc i (X.getD i []) (sl.take k)) 0 ((((sl.getD k Sl0)).2.1 - (1:Int))).toNat oM))) (gT (Ty.val (JU x7_1 (((sl.getD k Sl0)).2.1).toNat)) rfl (fun A B E G H d0 d1 d2 d3 d4 d5 d6 d7 d8 d9 d10=>rP (Kn (i:=((sl.getD k Sl0)).2.1) Try.underlying26 Try.inf3 (Own.k0 o25 E) (eI d0) (eI d1) oM oM)) (gE2 ok14 fun a17 s14 ok15 D11=>?_)))))))))));have o28:=Own.k0 o25 D11.stp;have o29:=Own.k0 o26 D11.stp;have o30:=OwnP.k0 o27 D11.stp
      refine Xh (L:=[7]) (R:=(fun _ τ=>Own τ 7 3 1 x7_1 (List.length (Kc i (X.getD i []) (sl.take k))) ((List.map Ty.int (Kc i (X.getD i []) (sl.take k))).set (((sl.getD k Sl0)).2.1).toNat (Ty.int ((Kc i (X.getD i []) (sl.take k)).getD ((((sl.getD k Sl0)).2.1 - (1:Int))).toNat 0))))) rfl rfl (YldM.toL (m_store Try.inf3 dE o28 (D11.m 9 rfl) (by simp only [List.length_map,List.length_set];omega) (D11.m 8 rfl) (Jq rfl))) (fun v2 s15 hs4 r4=>?_)
      have q96:=kpL hs4 dE rfl (D11.k (D10.k q70));have q97:=kpL hs4 dE rfl (D11.k q79);have q98:=kpL hs4 dE rfl (D11.k (D10.k q72));have q99:=kpL hs4 dE rfl (D11.k (D10.k q73));have q100:=kpL hs4 dE rfl (D11.k (D10.k q74));have q101:=kpL hs4 dE rfl (D11.k (D10.k q75));have q102:=kpL hs4 dE rfl (D11.k q84);have q103:=kpL hs4 dE rfl (D11.k (D10.m 5 rfl));have o33:=OwnP.kl o30 hs4
      have o31:Own s15 7 3 1 x7_1 (List.length ((Kc i (X.getD i []) (sl.take k)).set (((sl.getD k Sl0)).2.1).toNat ((Kc i (X.getD i []) (sl.take k)).getD ((((sl.getD k Sl0)).2.1 - (1:Int))).toNat 0))) (List.map Ty.int ((Kc i (X.getD i []) (sl.take k)).set (((sl.getD k Sl0)).2.1).toNat ((Kc i (X.getD i []) (sl.take k)).getD ((((sl.getD k Sl0)).2.1 - (1:Int))).toNat 0))):=(cvo (by simp) (by first | (simp;done) | (rw [List.map_set];done) | (rw [List.map_set];rfl)) r4)
      clear r4;refine Jh (tn ?_)
      refine gI a17 s15 ok15 (gM q97 (gT (Ty.val (JZ x3 1)) rfl (fun A B E G H=>rP (Jn Try.fld46_1 Try.inf3 dE (OwnP.k0 o33 E) (kp (H 9 rfl) E q102))) (gS rfl (fun A B E G H d0=>rP (Jo Try.underlying3 rfl (OwnP.k0 o33 E) (eI d0) rfl)) (gT (Ty.int (((sl.getD k Sl0)).2.1 - (1:Int))) rfl (fun A B E G H d0=>rP (Xg (eI d0) rfl wX)) (gM q103 (gT (Ty.val (JU x7_1 ((((sl.getD k Sl0)).2.1 - (1:Int))).toNat)) rfl (fun A B E G H d0 d1 d2 d3 d4 d5 d6=>rP (Kn (i:=(((sl.getD k Sl0)).2.1 - (1:Int))) Try.underlying26 Try.inf3 (Own.k0 o31 E) (eI d0) (eI d1) oM (by simp only [List.length_set];omega))) (gE2 ok15 fun a18 s16 ok16 D12=>?_)))))));have o34:=Own.k0 (Own.kl o29 hs4) D12.stp;have o35:=OwnP.k0 o33 D12.stp;have o36:=Own.k0 o31 D12.stp
      refine Xh (L:=[7]) (R:=(fun _ τ=>Own τ 7 3 1 x7_1 (List.length ((Kc i (X.getD i []) (sl.take k)).set (((sl.getD k Sl0)).2.1).toNat ((Kc i (X.getD i []) (sl.take k)).getD ((((sl.getD k Sl0)).2.1 - (1:Int))).toNat 0))) ((List.map Ty.int ((Kc i (X.getD i []) (sl.take k)).set (((sl.getD k Sl0)).2.1).toNat ((Kc i (X.getD i []) (sl.take k)).getD ((((sl.getD k Sl0)).2.1 - (1:Int))).toNat 0))).set ((((sl.getD k Sl0)).2.1 - (1:Int))).toNat (Ty.int ((Kc i (X.getD i []) (sl.take k)).getD (((sl.getD k Sl0)).2.1).toNat 0))))) rfl rfl (YldM.toL (m_store Try.inf3 dE o36 (D12.m 5 rfl) (by simp only [List.length_map,List.length_set];omega) (D12.m 4 rfl) (Jq rfl))) (fun v3 s17 hs5 r5=>?_)
      have q113:=kpL hs5 dE rfl (D12.k q96);have q114:=kpL hs5 dE rfl (D12.k q97);have q115:=kpL hs5 dE rfl (D12.k q98);have q116:=kpL hs5 dE rfl (D12.k q99);have q117:=kpL hs5 dE rfl (D12.k q100);have q118:=kpL hs5 dE rfl (D12.k q101);have o39:=OwnP.kl o35 hs5
      have o37:Own s17 7 3 1 x7_1 (List.length (((Kc i (X.getD i []) (sl.take k)).set (((sl.getD k Sl0)).2.1).toNat ((Kc i (X.getD i []) (sl.take k)).getD ((((sl.getD k Sl0)).2.1 - (1:Int))).toNat 0)).set ((((sl.getD k Sl0)).2.1 - (1:Int))).toNat ((Kc i (X.getD i []) (sl.take k)).getD (((sl.getD k Sl0)).2.1).toNat 0))) (List.map Ty.int (((Kc i (X.getD i []) (sl.take k)).set (((sl.getD k Sl0)).2.1).toNat ((Kc i (X.getD i []) (sl.take k)).getD ((((sl.getD k Sl0)).2.1 - (1:Int))).toNat 0)).set ((((sl.getD k Sl0)).2.1 - (1:Int))).toNat ((Kc i (X.getD i []) (sl.take k)).getD (((sl.getD k Sl0)).2.1).toNat 0))):=(cvo (by simp) (by first | (simp;done) | (rw [List.map_set];done) | (rw [List.map_set];rfl)) r5)
      clear r5;refine Jh (bn (tn ?_))
      refine gI a18 s17 ok16 (gM q113 (gT (Ty.nat (k + 1)) rfl (fun A B E G H d0=>rP ((JF (eI d0) rfl wX).mono (fun τ _ h=>cN (σ:=τ) h))) (gB 0 (gE ok16 fun a19 s18 ok17 D13=>?_))));have o40:=Own.k0 (Own.kl o34 hs5) D13.stp;have o41:=Own.k0 o37 D13.stp
      exact tn ⟨sl.length - ((k + 1)),by omega,s18,(k + 1),x7_1,rfl,((((((F14.step0 D10.stp).step0 D11.stp).sl hs4).step0 D12.stp).sl hs5).step0 D13.stp),ok17,(cJ (D13.m 2 rfl)),(D13.k q114),(D13.k q115),(D13.k q116),(D13.k q117),(D13.k q118),(cvo (by (first | (rw [slipAt_succ oM,if_pos hin_,← slipRow_other oM,hb1_];done) | (simp;done) | (rw [QG];simp;done))) (by (first | (rw [slipAt_succ oM,if_pos hin_,← slipRow_other oM,hb1_];done) | (simp;done) | (rw [QG];simp;done))) o41),o40,by omega,rfl⟩
     ·
      have hin_:¬ ((sl.getD k Sl0).1.toNat ≤ i∧i < ((sl.getD k Sl0).1 + (sl.getD k Sl0).2.2).toNat):=(by simp only [Bool.and_eq_false_iff,decide_eq_false_iff_not] at c3;omega)
      refine Jf (bn (tn ?_))
      refine gI a15 s12 ok13 (gM q70 (gT (Ty.nat (k + 1)) rfl (fun A B E G H d0=>rP ((JF (eI d0) rfl wX).mono (fun τ _ h=>cN (σ:=τ) h))) (gB 0 (gE ok13 fun a20 s19 ok18 D14=>?_))));have o42:=Own.k0 o22 D14.stp;have o43:=Own.k0 o23 D14.stp;have o44:=OwnP.k0 o24 D14.stp
      exact tn ⟨sl.length - ((k + 1)),by omega,s19,(k + 1),x7_1,rfl,(F14.step0 D14.stp),ok18,(cJ (D14.m 2 rfl)),(D14.k q71),(D14.k q72),(D14.k q73),(D14.k q74),(D14.k q75),(cvo (by (first | (rw [slipAt_succ oM,if_neg hin_];done) | (rw [QG,QG];done) | simp)) (by (first | (rw [slipAt_succ oM,if_neg hin_];done) | (rw [QG,QG];done) | simp)) o42),o43,by omega,rfl⟩
    ·
     refine Jv (tx (tx (bx (tn ?_))))
     obtain ⟨t5,e1,h1,q132⟩:=Own.seal o14 dE
     rw [← e1]
     have F22:=F11.step h1 dE;have o45:=Own.keepL o15 (h1.toL (L:=[7]) (by simp)) dE dE;have q133:=Ty.up (Ty.nat k) (h1.le dE) q47
     have q134:At (Ty.lst Ty.int (Kc i (X.getD i []) (sl.take k))) t5 a13 (.tmp 7):=by have e:a13.eval (.tmp 7) = x7_1:=q48;show Ty.has _ _ _;rw [e];exact q132
     have q135:=Ty.up (Ty.nat i) (h1.le dE) q49;have q136:=Ty.up (Ty.val x5_0) (h1.le dE) q50;have q137:=Ty.up (Ty.lst Ty.ints X) (h1.le dE) q51;have q138:=Ty.up (Ty.lstc 3 Qd sl) (h1.le dE) q52;have q139:=Ty.up (Ty.bool (decide (((k:Nat):Int) < (((List.length sl):Nat):Int)))) (h1.le dE) q53
     refine gI a13 t5 ok11 (gM q136 (gM q134 (gT (Ty.sl 1 1 [(Ty.lst Ty.int (Kc i (X.getD i []) (sl.take k)))]) rfl (fun A B E G H d0=>rP (KW Try.underlying22 Try.inf26 rfl (Qg) (eI d0))) (gE2 ok11 fun a21 s20 ok19 D15=>?_))));have o46:=Own.k0 o45 D15.stp
     have q144:At (Ty.val x5_0) s20 a21 (.tmp 67):=D15.done 0 dE
     have q145:=D15.m 2 rfl
     have b4:=JS q145
     refine tL ok19 (YldM.toL (KC Try.underlying22 Try.inf26 dE rfl dE (al (R:=(Pr.own 5 26 1 (List.length ((Qm X sl).take i)) (List.map Ty.ints ((Qm X sl).take i)))) q144 o46) q145 (by intro U hU;simp at hU;subst hU;exact Qg) oM oM)) fun a22 s21 hs6 ok20 r6 sm3=>?_
     have q147:=kq hs6 sm3 5 (D15.k q136)
     obtain ⟨x4,hx4⟩:∃ x,a22.eval (.tmp 70) = x:=⟨_,rfl⟩
     have q150:At (Ty.val x4) s21 a22 (.tmp 70):=hx4
     have o47:=al2 (R:=(Pr.own 5 26 1 (List.length (((Qm X sl).take i) ++ [(Kc i (X.getD i []) (sl.take k))])) (List.map Ty.ints (((Qm X sl).take i) ++ [(Kc i (X.getD i []) (sl.take k))])))) hx4 (cvo (by simp) (by first | (rw [List.map_append];rfl) | simp) r6)
     clear r6
     refine tL ok20 (Yld.toL (y_as q150)) fun a23 s22 hs7 ok21 r7 sm4=>?_
     have q154:At (Ty.val x4) s22 a23 (.tmp 5):=r7
     clear r7;refine Jh (bn (tn ?_))
     refine gI a23 s22 ok21 (gM (kq hs7 sm4 6 (kq hs6 sm3 6 (D15.k q135))) (gT (Ty.nat (i + 1)) rfl (fun A B E G H d0=>rP ((JF (eI d0) rfl wX).mono (fun τ _ h=>cN (σ:=τ) h))) (gB 0 (gE ok21 fun a24 s23 ok22 D16=>?_))));have o49:=Own.k0 (Own.kl o47 hs7) D16.stp
     exact tn ⟨X.length - ((i + 1)),by omega,s23,(i + 1),x4,rfl,((((F22.step0 D15.stp).sl hs6).sl hs7).step0 D16.stp),ok22,(cJ (D16.m 2 rfl)),(D16.k q154),(D16.k (kq hs7 sm4 0 (kq hs6 sm3 0 (D15.k q137)))),(D16.k (kq hs7 sm4 1 (kq hs6 sm3 1 (D15.k q138)))),(cvo (by (first | rfl | (rw [QF [] oM,rungE_get oM,show k = sl.length by omega,List.take_length]))) (by (first | rfl | (rw [QF [] oM,rungE_get oM,show k = sl.length by omega,List.take_length]))) o49),by omega,rfl⟩
  ·
   refine Jv (tx (tx (bx (tn (Ja ?_)))))
   refine gI a6 s4 ok5 (gM q15 (gB 0 (gE ok5 fun a25 s24 ok23 D17=>?_)));have o50:=Own.k0 o3 D17.stp
   have q159:At (Ty.val x5_0) s24 a25 (.tmp 4):=D17.done 1
   refine tn (Jj ?_)
   obtain ⟨t6,e2,h2,q160⟩:=Own.seal o50 dE
   rw [← e2]
   have F28:=(F5.step0 D17.stp).step h2 dE
   have q161:At (Ty.lst Ty.ints ((Qm X sl).take i)) t6 a25 (.tmp 4):=by have e:a25.eval (.tmp 4) = x5_0:=q159;show Ty.has _ _ _;rw [e];exact q160
   exact JJ rfl ok23 F28 (cvt (by (first | rfl | (rw [show i = X.length by omega,List.take_of_length_le oM]))) q161)
set_option maxHeartbeats 4000000 in
set_option maxRecDepth 100000 in
theorem bandRings_fn [Go.ConcR.Payload] {W:World} {Post:Value → World → Prop} {Z:UInt8 → Obj} (nm:ByteArray) (n:Int) (l:List (List Int)) (cs:List JH) (leads:List Int) (sl:List Qz) (gh:Array (Nat × ByteArray)) (σ:GW) (hlow:Low [999] σ) (v0 v1 v2 v3:Value) (hv0:Ty.has (Ty.agg [(Ty.val (Value.string nm)),(Ty.int n),(Ty.lst Ty.ints l)]) σ v0) (hv1:Ty.has (Ty.lstc 2 KY cs) σ v1) (hv2:Ty.has (Ty.lst Ty.int leads) σ v2) (hv3:Ty.has (Ty.lstc 3 Qd sl) σ v3) (ho_PL:PlS gh σ) (hnm:nm.size ≤ 1099511627776) (hn:-9223372036854775808 ≤ n∧n ≤ 9223372036854775807) (hZ1:Z 1 = Go.ConcR.wgBlock 64 0 0) (hZ2:Z 2 = .cells #[.int .i64 0] 66) (hll:l.length ≤ 1099511627776) :
    FnL (sf Try.prog W Post Z) 3 #[v0,v1,v2,v3] σ [999] (fun v τ=>∃ (gh2:Array (Nat × ByteArray)),(Ty.has (Ty.bool true) τ v)∧(PlS gh2 τ)):=by
 refine fn_introL hlow Try.func3 rfl Try.ntmps3 (Xr rfl) (fun a0 F0 ok0 hargs=>?_)
 have p0:=pB (hargs 0 _ rfl) hv0
 have p1:=pB (hargs 1 _ rfl) hv1
 have b1:=JS p1
 have p2:=pB (hargs 2 _ rfl) hv2
 have b2:=JS p2
 have p3:=pB (hargs 3 _ rfl) hv3
 have b3:=JS p3
 clear hargs;refine Ja ?_
 refine gI a0 σ ok0 (gR (Pr.ownp 60 [(Ty.val (Value.string nm)),(Ty.int n),(Ty.lst Ty.ints l)]) rfl (by intro A B E G H;exact rP (y_boxo 60 (kp (H 0 rfl) E p0))) (gC (Ty.bool false) (gE ok0 fun a1 s1 ok1 D1=>?_)));have q1:=D1.k p1;have q2:=D1.k p2;have q3:=D1.k p3;have o1:=PlS.k0 ho_PL D1.stp
 obtain ⟨x1,hx1⟩:∃ x,a1.eval (.tmp 4) = x:=⟨_,rfl⟩
 have q4:At (Ty.val x1) s1 a1 (.tmp 4):=hx1
 have o2:=al2 (R:=(Pr.ownp 60 [(Ty.val (Value.string nm)),(Ty.int n),(Ty.lst Ty.ints l)])) hx1 (D1.done 0)
 refine tn (Ja (Ja ?_))
 refine gI a1 s1 ok1 (gM q1 (gS rfl (fun A B E G H d0=>rP (Jt Try.underlying25 (eI d0))) (gS rfl (fun A B E G H d0=>rP (KE (eI d0) rfl)) (gS rfl (fun A B E G H d0=>rP (Jc (eI d0))) (gS rfl (fun A B E G H d0=>gu G (eI d0) fun hg=>Jc (kp (H 2 rfl) E q2)) (gS rfl (fun A B E G H d0 d1=>gu G (eI d1) fun hg=>Jt Try.underlying26 ((ef d0 rfl).1 hg)) (gS rfl (fun A B E G H d0 d1=>gu G (eI d1) fun hg=>KE ((ef d0 rfl).1 hg) rfl) (gS rfl (fun A B E G H d0 d1 d2=>gu G (eI d1) fun hg=>y_mv ((ef d0 rfl).1 hg)) (gS rfl (fun A B E G H d0=>gu2 G (eI d0) fun hg=>Jc (kp (H 2 rfl) E q2)) (gS rfl (fun A B E G H d0 d1=>gu2 G (eI d1) fun hg=>Jt Try.underlying26 ((ef d0 rfl).1 hg)) (gS rfl (fun A B E G H d0 d1=>gu2 G (eI d1) fun hg=>Jw ((ef d0 rfl).1 hg) rfl) (gS rfl (fun A B E G H d0 d1 d2=>gu G (eI d2) fun hg=>Jp ((ef d0 rfl).1 hg) (KP hg (eI d1)) rfl) (gS rfl (fun A B E G H d0 d1=>rP (Jk (eI d0) rfl (eI d1))) (gS rfl (fun A B E G H d0 d1=>rP (Jc (eI d0))) (gT (Ty.grd (((decide ((12:Int) < (((List.length cs):Nat):Int))) || ((decide ((12:Int) < (((List.length leads):Nat):Int))) && (decide ((((List.length leads):Nat):Int) < (401:Int))))) = false) (Ty.lst Ty.int leads)) rfl (by intro A B E G H d0;refine Jd G rfl rfl dE (eI d0) (fun hg=>?_);obtain ⟨d1,d2⟩:=Xn hg;have d1:=Xp d1;exact Jc (kp (H 2 rfl) E q2)) ?_)))))))))))))))
 refine gT (Ty.grd (((decide ((12:Int) < (((List.length cs):Nat):Int))) || ((decide ((12:Int) < (((List.length leads):Nat):Int))) && (decide ((((List.length leads):Nat):Int) < (401:Int))))) = false) (Ty.nat (List.length leads))) rfl (by intro A B E G H d0 d1;refine Jd G rfl rfl dE (eI d1) (fun hg=>?_);obtain ⟨d3,d4⟩:=Xn hg;have d3:=Xp d3;exact Jt Try.underlying26 ((ef d0 rfl).1 hg)) (gT (Ty.grd (((decide ((12:Int) < (((List.length cs):Nat):Int))) || ((decide ((12:Int) < (((List.length leads):Nat):Int))) && (decide ((((List.length leads):Nat):Int) < (401:Int))))) = false) (Ty.bool (decide ((500:Int) < (((List.length leads):Nat):Int))))) rfl (by intro A B E G H d0 d1;refine Jd G rfl rfl dE (eI d1) (fun hg=>?_);obtain ⟨d5,d6⟩:=Xn hg;have d5:=Xp d5;exact KE ((ef d0 rfl).1 hg) rfl) (gS rfl (fun A B E G H d0 d1=>rP (Jk (eI d0) rfl (eI d1))) (gS rfl (fun A B E G H d0 d1=>rP (Jc (eI d0))) (gT (Ty.grd ((((decide ((12:Int) < (((List.length cs):Nat):Int))) || ((decide ((12:Int) < (((List.length leads):Nat):Int))) && (decide ((((List.length leads):Nat):Int) < (401:Int))))) || (decide ((500:Int) < (((List.length leads):Nat):Int)))) = false) (Ty.lstc 3 Qd sl)) rfl (by intro A B E G H d0;refine Jd G rfl rfl dE (eI d0) (fun hg=>?_);obtain ⟨d7,d8⟩:=Xn hg;obtain ⟨d9,d10⟩:=Xn d7;have d9:=Xp d9;have d8:=Xp d8;exact Jc (kp (H 3 rfl) E q3)) ?_))))
 refine gT (Ty.grd ((((decide ((12:Int) < (((List.length cs):Nat):Int))) || ((decide ((12:Int) < (((List.length leads):Nat):Int))) && (decide ((((List.length leads):Nat):Int) < (401:Int))))) || (decide ((500:Int) < (((List.length leads):Nat):Int)))) = false) (Ty.nat (List.length sl))) rfl (by intro A B E G H d0 d1;refine Jd G rfl rfl dE (eI d1) (fun hg=>?_);obtain ⟨d11,d12⟩:=Xn hg;obtain ⟨d13,d14⟩:=Xn d11;have d13:=Xp d13;have d12:=Xp d12;exact Jt Try.underlying27 ((ef d0 rfl).1 hg)) (gT (Ty.grd ((((decide ((12:Int) < (((List.length cs):Nat):Int))) || ((decide ((12:Int) < (((List.length leads):Nat):Int))) && (decide ((((List.length leads):Nat):Int) < (401:Int))))) || (decide ((500:Int) < (((List.length leads):Nat):Int)))) = false) (Ty.bool (decide ((30:Int) < (((List.length sl):Nat):Int))))) rfl (by intro A B E G H d0 d1;refine Jd G rfl rfl dE (eI d1) (fun hg=>?_);obtain ⟨d15,d16⟩:=Xn hg;obtain ⟨d17,d18⟩:=Xn d15;have d17:=Xp d17;have d16:=Xp d16;exact KE ((ef d0 rfl).1 hg) rfl) (gS rfl (fun A B E G H d0 d1=>rP (Jk (eI d0) rfl (eI d1))) (gS rfl (fun A B E G H d0 d1=>rP (Jc (eI d0))) ?_)))
 refine gT (Ty.grd (((((decide ((12:Int) < (((List.length cs):Nat):Int))) || ((decide ((12:Int) < (((List.length leads):Nat):Int))) && (decide ((((List.length leads):Nat):Int) < (401:Int))))) || (decide ((500:Int) < (((List.length leads):Nat):Int)))) || (decide ((30:Int) < (((List.length sl):Nat):Int)))) = false) (Ty.val (JZ x1 2))) rfl (by intro A B E G H d0;refine Jd G rfl rfl dE (eI d0) (fun hg=>?_);obtain ⟨d19,d20⟩:=Xn hg;obtain ⟨d21,d22⟩:=Xn d19;obtain ⟨d23,d24⟩:=Xn d21;have d23:=Xp d23;have d22:=Xp d22;have d20:=Xp d20;exact Jn Try.fld24_2 Try.inf22 dE (OwnP.k0 o2 E) (kp (H 4 rfl) E q4)) (gT (Ty.grd (((((decide ((12:Int) < (((List.length cs):Nat):Int))) || ((decide ((12:Int) < (((List.length leads):Nat):Int))) && (decide ((((List.length leads):Nat):Int) < (401:Int))))) || (decide ((500:Int) < (((List.length leads):Nat):Int)))) || (decide ((30:Int) < (((List.length sl):Nat):Int)))) = false) (Ty.lst Ty.ints l)) rfl (by intro A B E G H d0 d1;refine Jd G rfl rfl dE (eI d1) (fun hg=>?_);obtain ⟨d25,d26⟩:=Xn hg;obtain ⟨d27,d28⟩:=Xn d25;obtain ⟨d29,d30⟩:=Xn d27;have d29:=Xp d29;have d28:=Xp d28;have d26:=Xp d26;exact Jo Try.underlying22 rfl (OwnP.k0 o2 E) ((ef d0 rfl).1 hg) rfl) ?_)
 refine gT (Ty.grd (((((decide ((12:Int) < (((List.length cs):Nat):Int))) || ((decide ((12:Int) < (((List.length leads):Nat):Int))) && (decide ((((List.length leads):Nat):Int) < (401:Int))))) || (decide ((500:Int) < (((List.length leads):Nat):Int)))) || (decide ((30:Int) < (((List.length sl):Nat):Int)))) = false) (Ty.nat (List.length l))) rfl (by intro A B E G H d0 d1;refine Jd G rfl rfl dE (eI d1) (fun hg=>?_);obtain ⟨d31,d32⟩:=Xn hg;obtain ⟨d33,d34⟩:=Xn d31;obtain ⟨d35,d36⟩:=Xn d33;have d35:=Xp d35;have d34:=Xp d34;have d32:=Xp d32;exact Jt Try.underlying22 ((ef d0 rfl).1 hg)) (gT (Ty.grd (((((decide ((12:Int) < (((List.length cs):Nat):Int))) || ((decide ((12:Int) < (((List.length leads):Nat):Int))) && (decide ((((List.length leads):Nat):Int) < (401:Int))))) || (decide ((500:Int) < (((List.length leads):Nat):Int)))) || (decide ((30:Int) < (((List.length sl):Nat):Int)))) = false) (Ty.bool (decide ((40:Int) < (((List.length l):Nat):Int))))) rfl (by intro A B E G H d0 d1;refine Jd G rfl rfl dE (eI d1) (fun hg=>?_);obtain ⟨d37,d38⟩:=Xn hg;obtain ⟨d39,d40⟩:=Xn d37;obtain ⟨d41,d42⟩:=Xn d39;have d41:=Xp d41;have d40:=Xp d40;have d38:=Xp d38;exact KE ((ef d0 rfl).1 hg) rfl) ?_)
 refine gT (Ty.grd (((((decide ((12:Int) < (((List.length cs):Nat):Int))) || ((decide ((12:Int) < (((List.length leads):Nat):Int))) && (decide ((((List.length leads):Nat):Int) < (401:Int))))) || (decide ((500:Int) < (((List.length leads):Nat):Int)))) || (decide ((30:Int) < (((List.length sl):Nat):Int)))) = false) (Ty.bool (decide ((40:Int) < (((List.length l):Nat):Int))))) rfl (by intro A B E G H d0 d1 d2;refine Jd G rfl rfl dE (eI d1) (fun hg=>?_);obtain ⟨d43,d44⟩:=Xn hg;obtain ⟨d45,d46⟩:=Xn d43;obtain ⟨d47,d48⟩:=Xn d45;have d47:=Xp d47;have d46:=Xp d46;have d44:=Xp d44;exact Jc ((ef d0 rfl).1 hg)) (gT (Ty.grd ((((((decide ((12:Int) < (((List.length cs):Nat):Int))) || ((decide ((12:Int) < (((List.length leads):Nat):Int))) && (decide ((((List.length leads):Nat):Int) < (401:Int))))) || (decide ((500:Int) < (((List.length leads):Nat):Int)))) || (decide ((30:Int) < (((List.length sl):Nat):Int)))) = false)∧(decide ((40:Int) < (((List.length l):Nat):Int))) = true) (Ty.val (JZ x1 2))) rfl (by intro A B E G H d0;refine Qf G rfl rfl dE (eI d0) (fun hg=>?_);have hp:=Xq hg.2;exact Jn Try.fld24_2 Try.inf22 dE (OwnP.k0 o2 E) (kp (H 4 rfl) E q4)) (gS rfl (fun A B E G H d0 d1=>gu2 G (eI d1) fun hg=>Jo Try.underlying22 rfl (OwnP.k0 o2 E) ((ef d0 rfl).1 hg) rfl) (gS rfl (fun A B E G H d0 d1=>gu2 G (eI d1) fun hg=>Jt Try.underlying22 ((ef d0 rfl).1 hg)) (gS rfl (fun A B E G H d0 d1=>gu2 G (eI d1) fun hg=>Jw ((ef d0 rfl).1 hg) rfl) ?_))))
 refine gT (Ty.grd (((((decide ((12:Int) < (((List.length cs):Nat):Int))) || ((decide ((12:Int) < (((List.length leads):Nat):Int))) && (decide ((((List.length leads):Nat):Int) < (401:Int))))) || (decide ((500:Int) < (((List.length leads):Nat):Int)))) || (decide ((30:Int) < (((List.length sl):Nat):Int)))) = false) (Ty.bool ((decide ((40:Int) < (((List.length l):Nat):Int))) && (decide ((((List.length l):Nat):Int) < (201:Int)))))) rfl (by intro A B E G H d0 d1 d2;refine Jd G rfl rfl dE (eI d2) (fun hg=>?_);obtain ⟨d49,d50⟩:=Xn hg;obtain ⟨d51,d52⟩:=Xn d49;obtain ⟨d53,d54⟩:=Xn d51;have d53:=Xp d53;have d52:=Xp d52;have d50:=Xp d50;exact Jp ((ef d0 rfl).1 hg) (KP hg (eI d1)) rfl) (gS rfl (fun A B E G H d0 d1=>rP (Jk (eI d0) rfl (eI d1))) (gE ok1 fun a2 s2 ok2 D2=>?_));have F2:=(F0.step0 D1.stp).step0 D2.stp;have q5:=D2.k q1;have q6:=D2.k q2;have q8:=D2.k q4;have o3:=PlS.k0 o1 D2.stp;have o4:=OwnP.k0 o2 D2.stp;refine tn ?_
 refine JR (D2.m 34 rfl) (fun c1=>?_) (fun c1=>?_)
 ·
  refine Ja ?_
  refine gI a2 s2 ok2 (gC (Ty.bool true) (gE ok2 fun a3 s3 ok3 D3=>?_));have o5:=PlS.k0 o3 D3.stp;have o6:=OwnP.k0 o4 D3.stp;refine tn (Jj (tr ?_))
  exact JJ rfl ok3 (F2.step0 D3.stp) ⟨gh,(D3.m 0 rfl),(cvpls (by rfl) o5)⟩
 ·
  obtain ⟨d55,d56⟩:=Xn c1
  obtain ⟨d57,d58⟩:=Xn d55
  obtain ⟨d59,d60⟩:=Xn d57
  obtain ⟨d61,d62⟩:=Xn d59
  replace d61:=Xp d61
  replace d60:=Xp d60
  replace d58:=Xp d58
  have hmb_:leads.length * l.length ≤ 500 * 1099511627776:=Nat.mul_le_mul oM oM;have hmc_:((leads.length:Nat):Int) * ((l.length:Nat):Int) = ((leads.length * l.length:Nat):Int):=(Int.natCast_mul _ _).symm
  refine Jf (tn (Ja ?_))
  refine gI a2 s2 ok2 (gT (Ty.agg [(Ty.val (Value.string nm)),(Ty.int n),(Ty.lst Ty.ints l)]) rfl (fun A B E G H=>rP (Qs Try.underlying24 Try.inf24 (OwnP.k0 o4 E) (kp (H 4 rfl) E q8))) (gM q5 (gM q6 (gS rfl (fun A B E G H d0 d1 d2=>rP (JP _ Try.func6 rfl rfl my3 (rTouchMay_fn (nm) (n) (l) (cs) (leads) _ _ _ _ (eI d0) (eI d1) (eI d2) oX oX))) (gB 0 (gE ok2 fun a4 s4 ok4 D4=>?_))))));have q12:=D4.k q6;have q14:=D4.k q8;have o7:=PlS.k0 o3 D4.stp;have o8:=OwnP.k0 o4 D4.stp;refine tn (Ja ?_)
  refine gI a4 s4 ok4 (gM q12 (gS rfl (fun A B E G H d0=>rP (Jt Try.underlying26 (eI d0))) (gT (Ty.val (JZ x1 2)) rfl (fun A B E G H=>rP (Jn Try.fld24_2 Try.inf22 dE (OwnP.k0 o8 E) (kp (H 4 rfl) E q14))) (gS rfl (fun A B E G H d0=>rP (Jo Try.underlying22 rfl (OwnP.k0 o8 E) (eI d0) rfl)) (gS rfl (fun A B E G H d0=>rP (Jt Try.underlying22 (eI d0))) (gT (Ty.nat ((List.length leads) * (List.length l))) rfl (fun A B E G H d0 d1=>rP ((y_mul (eI d0) (eI d1) wX).mono (fun τ _ h=>cN (σ:=τ) h))) (gB 0 (gE ok4 fun a5 s5 ok5 D5=>?_))))))));have q18:=D5.k (D4.k (D2.k q3));have q19:=D5.k q14;have o9:=PlS.k0 o7 D5.stp;have o10:=OwnP.k0 o8 D5.stp;have q21:=D5.m 6 rfl;refine tn (Ja ?_)
  refine gI a5 s5 ok5 (gM q18 (gT (Ty.val (JZ x1 1)) rfl (fun A B E G H=>rP (Jn Try.fld24_1 Try.inf3 dE (OwnP.k0 o10 E) (kp (H 4 rfl) E q19))) (gS rfl (fun A B E G H d0=>rP (Jo Try.underlying3 rfl (OwnP.k0 o10 E) (eI d0) rfl)) (gM q21 (gS rfl (fun A B E G H d0 d1 d2=>rP (JP _ Try.func7 rfl rfl my3 (rSlipsMay_fn (sl) (n) (((((List.length leads) * (List.length l)):Nat):Int)) _ _ _ _ (eI d0) (cvi (σ:=B) oM (ef d1 rfl)) (cvi (σ:=B) oM (ef d2 rfl)) ))) (gB 0 (gE ok5 fun a6 s6 ok6 D6=>?_)))))));have q24:=D6.k q18;have q25:=D6.k q19;have o11:=PlS.k0 o9 D6.stp;have o12:=OwnP.k0 o10 D6.stp;have q28:=D6.m 5 rfl;refine tn (Ja (Ja ?_))
  refine gI a6 s6 ok6 (gM q24 (gT (Ty.val (JZ x1 1)) rfl (fun A B E G H=>rP (Jn Try.fld24_1 Try.inf3 dE (OwnP.k0 o12 E) (kp (H 4 rfl) E q25))) (gS rfl (fun A B E G H d0=>rP (Jo Try.underlying3 rfl (OwnP.k0 o12 E) (eI d0) rfl)) (gM (D6.k q21) (gS rfl (fun A B E G H d0 d1 d2=>rP (JP _ Try.func8 rfl rfl my3 (bMay_fn (sl) (n) (((((List.length leads) * (List.length l)):Nat):Int)) _ _ _ _ (eI d0) (cvi (σ:=B) oM (ef d1 rfl)) (cvi (σ:=B) oM (ef d2 rfl)) ))) (gM q28 (gS rfl (fun A B E G H d0 d1=>rP (Qq (eI d0) (eI d1))) (gE ok6 fun a7 s7 ok7 D7=>?_))))))));have q33:=D7.k (D6.k (D5.k (D4.m 4 rfl)));have o13:=PlS.k0 o11 D7.stp;have o14:=OwnP.k0 o12 D7.stp;refine tn ?_
  refine Jl (p:=((KO sl (n) (((((List.length leads) * (List.length l)):Nat):Int))) ≠ (KO sl (n) (((((List.length leads) * (List.length l)):Nat):Int))))) (D7.m 6 rfl) (fun c2=>?_) (fun c2=>?_)
  ·
   exfalso
   exact c2 rfl
  ·
   refine Jf (tn (Ja (Ja ?_)))
   refine gI a7 s7 ok7 (gM q33 (gS rfl (fun A B E G H d0=>rP (Qb (eI d0) rfl)) (gE ok7 fun a8 s8 ok8 D8=>?_)));have F8:=((((F2.step0 D4.stp).step0 D5.stp).step0 D6.stp).step0 D7.stp).step0 D8.stp;have q36:=D8.k (D7.k (D6.k (D5.k (D4.k q5))));have q37:=D8.k (D7.k (D6.k (D5.k q12)));have q38:=D8.k (D7.k q24);have q39:=D8.k (D7.k q25);have o15:=PlS.k0 o13 D8.stp;have o16:=OwnP.k0 o14 D8.stp;refine tn ?_
   refine Jl (p:=((Kk nm n l cs leads) = (0:Int))) (D8.m 1 rfl) (fun c3=>?_) (fun c3=>?_)
   ·
    have hbe_:Ke nm n l cs leads sl = KO sl n ((leads.length * l.length:Nat):Int):=if_neg (by rw [c3];decide)
    refine gI a8 s8 ok8 (gM (D8.k (D7.k q28)) (gB 0 (gE ok8 fun a9 s9 ok9 D9=>?_)));have q43:=D9.k q36;have q44:=D9.k q37;have q45:=D9.k q38;have q46:=D9.k q39;have o17:=PlS.k0 o15 D9.stp;have o18:=OwnP.k0 o16 D9.stp;refine tn (Ja ?_)
    refine gI a9 s9 ok9 (gT (Ty.agg [(Ty.val (Value.string nm)),(Ty.int n),(Ty.lst Ty.ints l)]) rfl (fun A B E G H=>rP (Qs Try.underlying24 Try.inf24 (OwnP.k0 o18 E) (kp (H 4 rfl) E q46))) (gM q43 (gM q44 (gM q45 (gE2 ok9 fun a10 s10 ok10 D10=>?_)))));have o19:=PlS.k0 o17 D10.stp;have o20:=OwnP.k0 o18 D10.stp
    refine tailL (R:=(fun v τ'=>∃ τ,(fun v τ=>∃ (gh2:Array (Nat × ByteArray)),(Ty.has (Ty.tup2 (Ty.lst Ty.ints (Jr nm n l cs leads sl)) (Ty.int (Ke nm n l cs leads sl))) τ v)∧(PlS gh2 τ)) v τ∧Back [(999,999)] τ τ')) rfl rfl dE ok10 (y_callL (L:=[999]) [(999,999)] [(999,999)] #[a10.eval (.tmp 76),a10.eval (.tmp 77),a10.eval (.tmp 78),a10.eval (.tmp 79)] rfl dE Try.func9 rfl rfl my4 (Ring_fn (nm) (n) (l) (cs) (leads) (sl) (_) _ lW _ _ _ _ (uL (D10.m 0 rfl)) (uL (D10.m 1 rfl)) (uL (D10.m 2 rfl)) (uL (D10.m 3 rfl)) (PlS.ren o19 (GW.ren_lend _ _ dE rfl)) oX oX oX oX oX)) (fun a11 s11 hs1 ok11 r1 sm1=>?_) (Go.KL.Qu (fun _ _ _ hz_ hy_=>by obtain ⟨e0_,h0_,h1_⟩:=hy_;exact ⟨e0_,Ty.up _ hz_.le0 h0_,PlS.k0 h1_ hz_⟩))
    obtain ⟨t1,⟨g1,hT1,o21⟩,B1⟩:=r1
    have q62:At (Ty.tup2 (Ty.lst Ty.ints (Jr nm n l cs leads sl)) (Ty.int (Ke nm n l cs leads sl))) s11 a11 (.tmp 80):=Ty.up _ B1.le hT1
    have o22:PlS (g1) s11:=PlS.ren o21 (B1.ren dE rfl)
    refine tL ok11 (Yld.toL (y_mv q62)) fun a12 s12 hs2 ok12 r2 sm2=>?_
    have o25:=PlS.keepL o22 hs2 dE dE
    have q68:At (Ty.tup2 (Ty.lst Ty.ints (Jr nm n l cs leads sl)) (Ty.int (Ke nm n l cs leads sl))) s12 a12 (.tmp 75):=r2
    clear r2
    refine tL (R:=(fun v τ=>Pr.has (Ty.pr (Ty.lst Ty.ints (Jr nm n l cs leads sl))) τ v)) ok12 (Yld.toL (y_ext2_0 q68)) fun a13 s13 hs3 ok13 r3 sm3=>?_
    have o27:=PlS.keepL o25 hs3 dE dE
    have q75:At (Ty.lst Ty.ints (Jr nm n l cs leads sl)) s13 a13 (.tmp 81):=r3
    clear r3
    refine tL (R:=(fun v τ=>Pr.has (Ty.pr (Ty.int (Ke nm n l cs leads sl))) τ v)) ok13 (Yld.toL (y_ext2_1 (kq hs3 sm3 75 q68))) fun a14 s14 hs4 ok14 r4 sm4=>?_
    have o29:=PlS.keepL o27 hs4 dE dE
    have q82:At (Ty.int (Ke nm n l cs leads sl)) s14 a14 (.tmp 82):=r4
    clear r4
    refine tL ok14 (Yld.toL (y_as (kq hs4 sm4 81 q75))) fun a15 s15 hs5 ok15 r5 sm5=>?_
    have o31:=PlS.keepL o29 hs5 dE dE
    have q89:At (Ty.lst Ty.ints (Jr nm n l cs leads sl)) s15 a15 (.tmp 12):=r5
    clear r5
    refine tL ok15 (Yld.toL (y_as (kq hs5 sm5 82 q82))) fun a16 s16 hs6 ok16 r6 sm6=>?_
    have q94:=kq hs6 sm6 9 (kq hs5 sm5 9 (kq hs4 sm4 9 (kq hs3 sm3 9 (kq hs2 sm2 9 (kq hs1 sm1 9 (D10.k (D9.m 1 rfl)))))));have o33:=PlS.keepL o31 hs6 dE dE
    have q96:At (Ty.int (Ke nm n l cs leads sl)) s16 a16 (.tmp 13):=r6
    clear r6;refine Jh (tn (Ja (Ja ?_)))
    refine gI a16 s16 ok16 (gM q94 (gS rfl (fun A B E G H d0=>rP (Qq (eI d0) rfl)) (gE ok16 fun a17 s17 ok17 D11=>?_)));have F17:=((((((((F8.step0 D9.stp).step0 D10.stp).sl hs1).sl hs2).sl hs3).sl hs4).sl hs5).sl hs6).step0 D11.stp;have q102:=D11.k (kq hs6 sm6 12 q89);have q103:=D11.k q96;have o34:=OwnP.k0 (OwnP.kl (OwnP.kl (OwnP.kl (OwnP.kl (OwnP.kl (OwnP.kl o20 hs1) hs2) hs3) hs4) hs5) hs6) D11.stp;have o35:=PlS.k0 o33 D11.stp;refine tn ?_
    refine Jl (p:=((KO sl (n) (((((List.length leads) * (List.length l)):Nat):Int))) ≠ (0:Int))) (D11.m 1 rfl) (fun c4=>?_) (fun c4=>?_)
    ·
     have hbn_:Jr nm n l cs leads sl = []:=if_neg (by rw [hbe_];exact c4)
     refine Ja ?_
     refine gI a17 s17 ok17 (gM q103 (gM (D11.k q94) (gS rfl (fun A B E G H d0 d1=>rP (Qb (eI d0) (eI d1))) (gS rfl (fun A B E G H d0=>rP (Jc (eI d0))) (gS rfl (fun A B E G H d0=>gu G (eI d0) fun hg=>Jc (kp (H 12 rfl) E q102)) (gS rfl (fun A B E G H d0 d1=>gu G (eI d1) fun hg=>Jt Try.underlying22 ((ef d0 rfl).1 hg)) (gS rfl (fun A B E G H d0 d1=>gu G (eI d1) fun hg=>Qb ((ef d0 rfl).1 hg) rfl) (gS rfl (fun A B E G H d0 d1=>rP (Jp (eI d0) (eI d1) rfl)) (gB 0 (gE ok17 fun a18 s18 ok18 D12=>?_))))))))));have o36:=OwnP.k0 o34 D12.stp;have o37:=PlS.k0 o35 D12.stp;refine tn (Jj (tr ?_))
     exact JJ rfl ok18 (F17.step0 D12.stp) ⟨g1,(cvb (by (simp [hbe_,hbn_])) (D12.m 8 rfl)),o37⟩
    ·
     refine Jf (tn (Ja ?_))
     have c4:=Classical.not_not.1 c4
     have hbz_:Ke nm n l cs leads sl = 0:=by unfold Ke;rw [if_neg (by rw [c3];decide)];omega
     obtain ⟨hok,hnn,hlo,hlh,hin,hlim⟩:=touchMay_ok c3
     have hl1:=hok.meth.l1
     have hn2:=hok.meth.n2
     have htl_:=QB hok hin _ (Nat.le_refl _)
     have hbr_:Jr nm n l cs leads sl = Qm (JA n.toNat l cs leads leads.length) sl:=by unfold Jr;rw [if_pos hbz_,slipsE_rung]
     have hrl_:=rungE_len (X:=JA n.toNat l cs leads leads.length) (sl:=sl)
     have hbl_:(Jr nm n l cs leads sl).length ≤ 1000000:=by rw [hbr_,hrl_,htl_];omega
     have hxl_:(JA n.toNat l cs leads leads.length).length ≤ 1000000:=by rw [htl_];omega
     have hxr_:∀ i,i < (JA n.toNat l cs leads leads.length).length → ((JA n.toNat l cs leads leads.length).getD i []).length = n.toNat:=by intro i hi;rw [htl_] at hi;exact (tRows_row hok hin oM).2
     have hsl2_:∀ i,i < sl.length → ¬ KA ((n.toNat:Nat):Int) ((leads.length * l.length:Nat):Int) (sl.getD i Sl0):=by rw [hnn];exact (slipsMay_ok oM).2
     refine gI a17 s17 ok17 (gT (Ty.agg [(Ty.val (Value.string nm)),(Ty.int n),(Ty.lst Ty.ints l)]) rfl (fun A B E G H=>rP (Qs Try.underlying24 Try.inf24 (OwnP.k0 o34 E) (kp (H 4 rfl) E (D11.k (kq hs6 sm6 4 (kq hs5 sm5 4 (kq hs4 sm4 4 (kq hs3 sm3 4 (kq hs2 sm2 4 (kq hs1 sm1 4 (D10.k q46))))))))))) (gM (D11.k (kq hs6 sm6 1 (kq hs5 sm5 1 (kq hs4 sm4 1 (kq hs3 sm3 1 (kq hs2 sm2 1 (kq hs1 sm1 1 (D10.k q43)))))))) (gM (D11.k (kq hs6 sm6 2 (kq hs5 sm5 2 (kq hs4 sm4 2 (kq hs3 sm3 2 (kq hs2 sm2 2 (kq hs1 sm1 2 (D10.k q44)))))))) (gS rfl (fun A B E G H d0 d1 d2=>rP (JP _ Try.func10 rfl rfl my3 (rTouchRows_fn (nm) (n) (l) (cs) (leads) _ _ _ _ (eI d0) (eI d1) (eI d2) oX))) (gB 0 (gE ok17 fun a19 s19 ok19 D13=>?_))))));have q107:=D13.k q102;have o38:=OwnP.k0 o34 D13.stp;have o39:=PlS.k0 o35 D13.stp;have q109:=D13.m 4 rfl;refine tn (Ja ?_)
     refine gI a19 s19 ok19 (gM (D13.k q103) (gS rfl (fun A B E G H d0=>rP (Qb (eI d0) rfl)) (gS rfl (fun A B E G H d0=>rP (Jc (eI d0))) (gS rfl (fun A B E G H d0=>gu G (eI d0) fun hg=>Jc (kp (H 12 rfl) E q107)) (gS rfl (fun A B E G H d0=>gu G (eI d0) fun hg=>Jc (kp (H 14 rfl) E q109)) (gS rfl (fun A B E G H d0=>gu G (eI d0) fun hg=>Jc (kp (H 3 rfl) E (D13.k (D11.k (kq hs6 sm6 3 (kq hs5 sm5 3 (kq hs4 sm4 3 (kq hs3 sm3 3 (kq hs2 sm2 3 (kq hs1 sm1 3 (D10.k q45))))))))))) (gS rfl (fun A B E G H d0 d1 d2 d3=>gut G (eI d2) fun hg hp=>JP _ Try.func12 rfl rfl my2 (rRung_fn ((JA n.toNat l cs leads leads.length)) (sl) (_) (_) _ _ _ ((ef d0 rfl).1 hg) ((ef d1 rfl).1 hg) oX oX oX oX oX)) (gS rfl (fun A B E G H d0 d1 d2 d3=>gut G (eI d3) fun hg hp=>JP _ Try.func11 rfl rfl my2 (rSameAll_fn ((Jr nm n l cs leads sl)) ((Qm ((JA n.toNat l cs leads leads.length)) sl)) _ _ _ ((ef d0 rfl).1 hg) ((ef d1 rfl).1 hg) )) (gS rfl (fun A B E G H d0 d1=>rP (Jp (eI d0) (eI d1) rfl)) (gS rfl (fun A B E G H d0 d1=>rP (Jc (eI d0))) ?_))))))))))
     refine gT (Ty.grd (((decide ((Ke nm n l cs leads sl) = (0:Int))) && (decide (((Jr nm n l cs leads sl)) = ((Qm ((JA n.toNat l cs leads leads.length)) sl))))) = true) (Ty.lst Ty.ints (Jr nm n l cs leads sl))) rfl (by intro A B E G H d0;refine Jd G rfl rfl dE (eI d0) (fun hg=>?_);obtain ⟨d63,d64⟩:=Xo hg;have d63:=Xq d63;exact Jc (kp (H 12 rfl) E q107)) (gT (Ty.grd (((decide ((Ke nm n l cs leads sl) = (0:Int))) && (decide (((Jr nm n l cs leads sl)) = ((Qm ((JA n.toNat l cs leads leads.length)) sl))))) = true) (Ty.lst Ty.ints (JA n.toNat l cs leads leads.length))) rfl (by intro A B E G H d0;refine Jd G rfl rfl dE (eI d0) (fun hg=>?_);obtain ⟨d65,d66⟩:=Xo hg;have d65:=Xq d65;exact Jc (kp (H 14 rfl) E q109)) (gT (Ty.grd (((decide ((Ke nm n l cs leads sl) = (0:Int))) && (decide (((Jr nm n l cs leads sl)) = ((Qm ((JA n.toNat l cs leads leads.length)) sl))))) = true) (Ty.lst Ty.int (Ji ((Jr nm n l cs leads sl)) ((JA n.toNat l cs leads leads.length)) ((Jr nm n l cs leads sl)).length))) rfl (by intro A B E G H d0 d1 d2 d3;refine Jd G rfl rfl dE (eI d2) (fun hg=>?_);obtain ⟨d67,d68⟩:=Xo hg;have d67:=Xq d67;exact JP _ Try.func14 rfl rfl my2 (bwrong_fn ((Jr nm n l cs leads sl)) ((JA n.toNat l cs leads leads.length)) _ _ _ ((ef d0 rfl).1 hg) ((ef d1 rfl).1 hg) oM)) ?_))
     refine gT (Ty.grd (((decide ((Ke nm n l cs leads sl) = (0:Int))) && (decide (((Jr nm n l cs leads sl)) = ((Qm ((JA n.toNat l cs leads leads.length)) sl))))) = true) (Ty.lst Ty.ints (Jr nm n l cs leads sl))) rfl (by intro A B E G H d0;refine Jd G rfl rfl dE (eI d0) (fun hg=>?_);obtain ⟨d69,d70⟩:=Xo hg;have d69:=Xq d69;exact Jc (kp (H 12 rfl) E q107)) (gT (Ty.grd (((decide ((Ke nm n l cs leads sl) = (0:Int))) && (decide (((Jr nm n l cs leads sl)) = ((Qm ((JA n.toNat l cs leads leads.length)) sl))))) = true) (Ty.lst Ty.ints (JA n.toNat l cs leads leads.length))) rfl (by intro A B E G H d0;refine Jd G rfl rfl dE (eI d0) (fun hg=>?_);obtain ⟨d71,d72⟩:=Xo hg;have d71:=Xq d71;exact Jc (kp (H 14 rfl) E q109)) (gT (Ty.grd (((decide ((Ke nm n l cs leads sl) = (0:Int))) && (decide (((Jr nm n l cs leads sl)) = ((Qm ((JA n.toNat l cs leads leads.length)) sl))))) = true) (Ty.lst Ty.int (Ji ((Jr nm n l cs leads sl)) ((JA n.toNat l cs leads leads.length)) ((Jr nm n l cs leads sl)).length))) rfl (by intro A B E G H d0 d1 d2 d3;refine Jd G rfl rfl dE (eI d3) (fun hg=>?_);obtain ⟨d73,d74⟩:=Xo hg;have d73:=Xq d73;exact JP _ Try.func15 rfl rfl my2 (rwrong_fn ((Jr nm n l cs leads sl)) ((JA n.toNat l cs leads leads.length)) _ _ _ ((ef d0 rfl).1 hg) ((ef d1 rfl).1 hg) oM)) ?_))
     refine gT (Ty.grd (((decide ((Ke nm n l cs leads sl) = (0:Int))) && (decide (((Jr nm n l cs leads sl)) = ((Qm ((JA n.toNat l cs leads leads.length)) sl))))) = true) (Ty.bool (decide (((Ji ((Jr nm n l cs leads sl)) ((JA n.toNat l cs leads leads.length)) ((Jr nm n l cs leads sl)).length)) = ((Ji ((Jr nm n l cs leads sl)) ((JA n.toNat l cs leads leads.length)) ((Jr nm n l cs leads sl)).length)))))) rfl (by intro A B E G H d0 d1 d2 d3;refine Jd G rfl rfl dE (eI d3) (fun hg=>?_);obtain ⟨d75,d76⟩:=Xo hg;have d75:=Xq d75;exact JP _ Try.func13 rfl rfl my2 (rsame_fn ((Ji ((Jr nm n l cs leads sl)) ((JA n.toNat l cs leads leads.length)) ((Jr nm n l cs leads sl)).length)) ((Ji ((Jr nm n l cs leads sl)) ((JA n.toNat l cs leads leads.length)) ((Jr nm n l cs leads sl)).length)) _ _ _ ((ef d0 rfl).1 hg) ((ef d1 rfl).1 hg) )) (gS rfl (fun A B E G H d0 d1=>rP (Jp (eI d0) (eI d1) rfl)) (gB 0 (gE ok19 fun a20 s20 ok20 D14=>?_)));have o40:=PlS.k0 o39 D14.stp;refine tn (Jj ?_)
     exact JJ rfl ok20 ((F17.step0 D13.stp).step0 D14.stp) ⟨g1,(cvb (by (simp [hbz_,hbr_])) (D14.m 18 rfl)),o40⟩
   ·
    have hbe_:Ke nm n l cs leads sl = Kk nm n l cs leads:=if_pos c3
    refine Jf (tn (Ja ?_))
    refine gI a8 s8 ok8 (gT (Ty.agg [(Ty.val (Value.string nm)),(Ty.int n),(Ty.lst Ty.ints l)]) rfl (fun A B E G H=>rP (Qs Try.underlying24 Try.inf24 (OwnP.k0 o16 E) (kp (H 4 rfl) E q39))) (gM q36 (gM q37 (gM q38 (gE2 ok8 fun a21 s21 ok21 D15=>?_)))));have o41:=PlS.k0 o15 D15.stp;have o42:=OwnP.k0 o16 D15.stp
    refine tailL (R:=(fun v τ'=>∃ τ,(fun v τ=>∃ (gh2:Array (Nat × ByteArray)),(Ty.has (Ty.tup2 (Ty.lst Ty.ints (Jr nm n l cs leads sl)) (Ty.int (Ke nm n l cs leads sl))) τ v)∧(PlS gh2 τ)) v τ∧Back [(999,999)] τ τ')) rfl rfl dE ok21 (y_callL (L:=[999]) [(999,999)] [(999,999)] #[a21.eval (.tmp 76),a21.eval (.tmp 77),a21.eval (.tmp 78),a21.eval (.tmp 79)] rfl dE Try.func9 rfl rfl my4 (Ring_fn (nm) (n) (l) (cs) (leads) (sl) (_) _ lW _ _ _ _ (uL (D15.m 0 rfl)) (uL (D15.m 1 rfl)) (uL (D15.m 2 rfl)) (uL (D15.m 3 rfl)) (PlS.ren o41 (GW.ren_lend _ _ dE rfl)) oX oX oX oX oX)) (fun a22 s22 hs7 ok22 r7 sm7=>?_) (Go.KL.Qu (fun _ _ _ hz_ hy_=>by obtain ⟨e0_,h0_,h1_⟩:=hy_;exact ⟨e0_,Ty.up _ hz_.le0 h0_,PlS.k0 h1_ hz_⟩))
    obtain ⟨t2,⟨g2,hT2,o43⟩,B2⟩:=r7
    have q125:At (Ty.tup2 (Ty.lst Ty.ints (Jr nm n l cs leads sl)) (Ty.int (Ke nm n l cs leads sl))) s22 a22 (.tmp 80):=Ty.up _ B2.le hT2
    have o44:PlS (g2) s22:=PlS.ren o43 (B2.ren dE rfl)
    refine tL ok22 (Yld.toL (y_mv q125)) fun a23 s23 hs8 ok23 r8 sm8=>?_
    have o47:=PlS.keepL o44 hs8 dE dE
    have q131:At (Ty.tup2 (Ty.lst Ty.ints (Jr nm n l cs leads sl)) (Ty.int (Ke nm n l cs leads sl))) s23 a23 (.tmp 75):=r8
    clear r8
    refine tL (R:=(fun v τ=>Pr.has (Ty.pr (Ty.lst Ty.ints (Jr nm n l cs leads sl))) τ v)) ok23 (Yld.toL (y_ext2_0 q131)) fun a24 s24 hs9 ok24 r9 sm9=>?_
    have o49:=PlS.keepL o47 hs9 dE dE
    have q138:At (Ty.lst Ty.ints (Jr nm n l cs leads sl)) s24 a24 (.tmp 81):=r9
    clear r9
    refine tL (R:=(fun v τ=>Pr.has (Ty.pr (Ty.int (Ke nm n l cs leads sl))) τ v)) ok24 (Yld.toL (y_ext2_1 (kq hs9 sm9 75 q131))) fun a25 s25 hs10 ok25 r10 sm10=>?_
    have o51:=PlS.keepL o49 hs10 dE dE
    have q145:At (Ty.int (Ke nm n l cs leads sl)) s25 a25 (.tmp 82):=r10
    clear r10
    refine tL ok25 (Yld.toL (y_as (kq hs10 sm10 81 q138))) fun a26 s26 hs11 ok26 r11 sm11=>?_
    have o53:=PlS.keepL o51 hs11 dE dE
    have q152:At (Ty.lst Ty.ints (Jr nm n l cs leads sl)) s26 a26 (.tmp 12):=r11
    clear r11
    refine tL ok26 (Yld.toL (y_as (kq hs11 sm11 82 q145))) fun a27 s27 hs12 ok27 r12 sm12=>?_
    have q153:=kq hs12 sm12 1 (kq hs11 sm11 1 (kq hs10 sm10 1 (kq hs9 sm9 1 (kq hs8 sm8 1 (kq hs7 sm7 1 (D15.k q36))))));have q154:=kq hs12 sm12 2 (kq hs11 sm11 2 (kq hs10 sm10 2 (kq hs9 sm9 2 (kq hs8 sm8 2 (kq hs7 sm7 2 (D15.k q37))))));have q155:=kq hs12 sm12 3 (kq hs11 sm11 3 (kq hs10 sm10 3 (kq hs9 sm9 3 (kq hs8 sm8 3 (kq hs7 sm7 3 (D15.k q38))))));have q156:=kq hs12 sm12 4 (kq hs11 sm11 4 (kq hs10 sm10 4 (kq hs9 sm9 4 (kq hs8 sm8 4 (kq hs7 sm7 4 (D15.k q39))))));have q157:=kq hs12 sm12 9 (kq hs11 sm11 9 (kq hs10 sm10 9 (kq hs9 sm9 9 (kq hs8 sm8 9 (kq hs7 sm7 9 (D15.k (D8.k q33)))))));have o55:=PlS.keepL o53 hs12 dE dE
    have q159:At (Ty.int (Ke nm n l cs leads sl)) s27 a27 (.tmp 13):=r12
    clear r12;refine Jh (tn (Ja (Ja ?_)))
    refine gI a27 s27 ok27 (gM q157 (gS rfl (fun A B E G H d0=>rP (Qq (eI d0) rfl)) (gE ok27 fun a28 s28 ok28 D16=>?_)));have o56:=OwnP.k0 (OwnP.kl (OwnP.kl (OwnP.kl (OwnP.kl (OwnP.kl (OwnP.kl o42 hs7) hs8) hs9) hs10) hs11) hs12) D16.stp;have o57:=PlS.k0 o55 D16.stp;refine tn ?_
    refine Jl (p:=((Kk nm n l cs leads) ≠ (0:Int))) (D16.m 1 rfl) (fun c5=>?_) (fun c5=>?_)
    ·
     have hbn_:Jr nm n l cs leads sl = []:=if_neg (by rw [hbe_];exact c5)
     refine Ja ?_
     refine gI a28 s28 ok28 (gM (D16.k q159) (gM (D16.k q157) (gS rfl (fun A B E G H d0 d1=>rP (Qb (eI d0) (eI d1))) (gS rfl (fun A B E G H d0=>rP (Jc (eI d0))) (gS rfl (fun A B E G H d0=>gu G (eI d0) fun hg=>Jc (kp (H 12 rfl) E (D16.k (kq hs12 sm12 12 q152)))) (gS rfl (fun A B E G H d0 d1=>gu G (eI d1) fun hg=>Jt Try.underlying22 ((ef d0 rfl).1 hg)) (gS rfl (fun A B E G H d0 d1=>gu G (eI d1) fun hg=>Qb ((ef d0 rfl).1 hg) rfl) (gS rfl (fun A B E G H d0 d1=>rP (Jp (eI d0) (eI d1) rfl)) (gB 0 (gE ok28 fun a29 s29 ok29 D17=>?_))))))))));have o58:=OwnP.k0 o56 D17.stp;have o59:=PlS.k0 o57 D17.stp;refine tn (Jj (tr ?_))
     exact JJ rfl ok29 (((((((((F8.step0 D15.stp).sl hs7).sl hs8).sl hs9).sl hs10).sl hs11).sl hs12).step0 D16.stp).step0 D17.stp) ⟨g2,(cvb (by (simp [hbe_,hbn_])) (D17.m 8 rfl)),o59⟩
    ·
     exfalso
     exact c5 c3
end Go.Proofs.Ytodmoedmijfciaa
