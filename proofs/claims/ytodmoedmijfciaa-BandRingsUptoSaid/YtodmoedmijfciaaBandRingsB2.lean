/- The functions that the law BandRings reaches, each by its contract (beside leavers, and in company). Part 2. -/
import Derived.Test.YtodmoedmijfciaaBandRingsB1
namespace Go.Proofs.Ytodmoedmijfciaa
open Go.KL
variable {J:Go.KL.JdOf Try.prog} [Go.KL.Al J]
theorem Try.inf49:Info Try.prog 49 (.slice none 0 0) 1 24:=by unfold Info;kernel_rfl
theorem Try.inf64:Info Try.prog 64 (.agg #[.int .u64 0,.int .u32 0]) 2 16:=by unfold Info;kernel_rfl
theorem Try.inf66:Info Try.prog 66 (.agg #[.int .i64 0]) 1 8:=by unfold Info;kernel_rfl
theorem Try.inf71:Info Try.prog 71 (.agg #[.int .i64 0,.int .i64 0,.chan none,.chan none,.chan none]) 5 40:=by unfold Info;kernel_rfl
set_option maxHeartbeats 4000000 in
set_option maxRecDepth 100000 in
theorem Ring_fn [Go.ConcR.Payload] {W:World} {Post:Value → World → Prop} {Z:UInt8 → Obj} (nm:ByteArray) (n:Int) (l:List (List Int)) (cs:List JH) (leads:List Int) (sl:List Qz) (gh:Array (Nat × ByteArray)) (σ:GW) (hlow:Low [999] σ) (v0 v1 v2 v3:Value) (hv0:Ty.has (Ty.agg [(Ty.val (Value.string nm)),(Ty.int n),(Ty.lst Ty.ints l)]) σ v0) (hv1:Ty.has (Ty.lstc 2 KY cs) σ v1) (hv2:Ty.has (Ty.lst Ty.int leads) σ v2) (hv3:Ty.has (Ty.lstc 3 Qd sl) σ v3) (ho_PL:PlS gh σ) (hnm:nm.size ≤ 1099511627776) (hn:-9223372036854775808 ≤ n∧n ≤ 9223372036854775807) (hZ1:Z 1 = Go.ConcR.wgBlock 64 0 0) (hZ2:Z 2 = .cells #[.int .i64 0] 66) (hq:leads.length ≤ 4611686018427387904) :
    FnL (sf Try.prog W Post Z) 9 #[v0,v1,v2,v3] σ [999] (fun v τ=>∃ (gh2:Array (Nat × ByteArray)),(Ty.has (Ty.tup2 (Ty.lst Ty.ints (Jr nm n l cs leads sl)) (Ty.int (Ke nm n l cs leads sl))) τ v)∧(PlS gh2 τ)):=by
 refine fn_introL hlow Try.func9 rfl Try.ntmps9 (Xr rfl) (fun a0 F0 ok0 hargs=>?_)
 have p0:=pB (hargs 0 _ rfl) hv0
 have p1:=pB (hargs 1 _ rfl) hv1
 have b1:=JS p1
 have p2:=pB (hargs 2 _ rfl) hv2
 have b2:=JS p2
 have p3:=pB (hargs 3 _ rfl) hv3
 have b3:=JS p3
 clear hargs;refine Ja ?_
 refine gI a0 σ ok0 (gR (Pr.ownp 60 [(Ty.val (Value.string nm)),(Ty.int n),(Ty.lst Ty.ints l)]) rfl (by intro B G H I J;exact rP (y_boxo 60 (kp (J 0 rfl) H p0))) (gC (Ty.val (Value.slice none 0 0)) (gC (Ty.int (0:Int)) (gE ok0 fun a1 s1 ok1 D1=>?_))));have q1:=D1.k p1;have q2:=D1.k p2;have o1:=PlS.k0 ho_PL D1.stp
 obtain ⟨x1,hx1⟩:∃ x,a1.eval (.tmp 4) = x:=⟨_,rfl⟩
 have q4:At (Ty.val x1) s1 a1 (.tmp 4):=hx1
 have o2:=al2 (R:=(Pr.ownp 60 [(Ty.val (Value.string nm)),(Ty.int n),(Ty.lst Ty.ints l)])) hx1 (D1.done 0)
 refine tn (Ja (Ja ?_))
 refine gI a1 s1 ok1 (gT (Ty.agg [(Ty.val (Value.string nm)),(Ty.int n),(Ty.lst Ty.ints l)]) rfl (fun B G H I J=>rP (Qs Try.underlying24 Try.inf24 (OwnP.k0 o2 H) (kp (J 4 rfl) H q4))) (gM q1 (gM q2 (gS rfl (fun B G H I J d0 d1 d2=>rP (JP _ Try.func22 rfl rfl my3 (callMay_fn (nm) (n) (l) (cs) (leads) _ _ _ _ (eI d0) (eI d1) (eI d2) oX oX))) (gB 0 (gE ok1 fun a2 s2 ok2 D2=>?_))))));have o3:=PlS.k0 o1 D2.stp;have o4:=OwnP.k0 o2 D2.stp;have q9:=D2.m 4 rfl;refine tn (Ja ?_)
 refine gI a2 s2 ok2 (gM q9 (gS rfl (fun B G H I J d0=>rP (Qq (eI d0) rfl)) (gE ok2 fun a3 s3 ok3 D3=>?_)));have F3:=((F0.step0 D1.stp).step0 D2.stp).step0 D3.stp;have q11:=D3.k (D2.k q2);have q13:=D3.k (D2.k q4);have o5:=PlS.k0 o3 D3.stp;have o6:=OwnP.k0 o4 D3.stp;refine tn ?_
 refine Jl (p:=((Kk nm n l cs leads) ≠ (0:Int))) (D3.m 1 rfl) (fun c1=>?_) (fun c1=>?_)
 ·
  have hbe_:Ke nm n l cs leads sl = Kk nm n l cs leads:=if_pos c1
  refine Ja ?_
  refine gI a3 s3 ok3 (gM (D3.k q9) (gC (Ty.val (Value.slice none 0 0)) (gB 0 (gE ok3 fun a4 s4 ok4 D4=>?_))));have o7:=PlS.k0 o5 D4.stp;have o8:=OwnP.k0 o6 D4.stp;refine tn (Jj (tr ?_))
  have hbr_:Jr nm n l cs leads sl = []:=if_neg (by rw [hbe_];exact c1)
  exact retL2 rfl ok4 (F3.step0 D4.stp) ⟨gh,(hasT2 (nil_lst (by (rw [hbr_])) (D4.m 1 rfl)) (cvi (by (exact hbe_.symm)) (D4.m 2 rfl))),(cvpls (by rfl) o7)⟩
 ·
  have ht0:=Classical.not_not.1 c1;have hbe_:Ke nm n l cs leads sl = KO sl n ((leads.length * l.length:Nat):Int):=if_neg c1;obtain ⟨hok,hnn,hlo,hlh,hin,hlim⟩:=touchMay_ok ht0;have hl1:=hok.meth.l1;have hl2:=hok.meth.l2;have hn1:=hok.meth.n1;have hn2:=hok.meth.n2;have hc8:=hok.c8;have hc1:=hok.c1
  refine Jf (tn (Ja ?_))
  have hmb:leads.length * l.length ≤ 400 * 200:=Nat.mul_le_mul oM hl2
  have hmc:((leads.length:Nat):Int) * ((l.length:Nat):Int) = ((leads.length * l.length:Nat):Int):=(Int.natCast_mul _ _).symm
  refine gI a3 s3 ok3 (gM q11 (gS rfl (fun B G H I J d0=>rP (Jt Try.underlying26 (eI d0))) (gT (Ty.val (JZ x1 2)) rfl (fun B G H I J=>rP (Jn Try.fld24_2 Try.inf22 dE (OwnP.k0 o6 H) (kp (J 4 rfl) H q13))) (gS rfl (fun B G H I J d0=>rP (Jo Try.underlying22 rfl (OwnP.k0 o6 H) (eI d0) rfl)) (gS rfl (fun B G H I J d0=>rP (Jt Try.underlying22 (eI d0))) (gT (Ty.nat ((List.length leads) * (List.length l))) rfl (fun B G H I J d0 d1=>rP ((y_mul (eI d0) (eI d1) wX).mono (fun τ _ h=>cN (σ:=τ) h))) (gB 0 (gE ok3 fun a5 s5 ok5 D5=>?_))))))));have q20:=D5.k (D3.k (D2.k (D1.k p3)));have q21:=D5.k q13;have o9:=PlS.k0 o5 D5.stp;have o10:=OwnP.k0 o6 D5.stp;have q22:=D5.m 6 rfl;refine tn (Ja (Ja ?_))
  refine gI a5 s5 ok5 (gM q20 (gT (Ty.val (JZ x1 1)) rfl (fun B G H I J=>rP (Jn Try.fld24_1 Try.inf3 dE (OwnP.k0 o10 H) (kp (J 4 rfl) H q21))) (gS rfl (fun B G H I J d0=>rP (Jo Try.underlying3 rfl (OwnP.k0 o10 H) (eI d0) rfl)) (gM q22 (gS rfl (fun B G H I J d0 d1 d2=>rP (JP _ Try.func8 rfl rfl my3 (bMay_fn (sl) (n) (((((List.length leads) * (List.length l)):Nat):Int)) _ _ _ _ (eI d0) (cvi (σ:=G) oM (ef d1 rfl)) (cvi (σ:=G) oM (ef d2 rfl)) ))) (gB 0 (gE ok5 fun a6 s6 ok6 D6=>?_)))))));have o11:=PlS.k0 o9 D6.stp;have o12:=OwnP.k0 o10 D6.stp;have q28:=D6.m 5 rfl;refine tn (Ja ?_)
  refine gI a6 s6 ok6 (gM q28 (gS rfl (fun B G H I J d0=>rP (Qq (eI d0) rfl)) (gE ok6 fun a7 s7 ok7 D7=>?_)));have F7:=((F3.step0 D5.stp).step0 D6.stp).step0 D7.stp;have q29:=D7.k (D6.k (D5.k (D3.k (D2.k q1))));have o13:=PlS.k0 o11 D7.stp;have o14:=OwnP.k0 o12 D7.stp;refine tn ?_
  refine Jl (p:=((KO sl (n) (((((List.length leads) * (List.length l)):Nat):Int))) ≠ (0:Int))) (D7.m 1 rfl) (fun c2=>?_) (fun c2=>?_)
  ·
   have hbr_:Jr nm n l cs leads sl = []:=if_neg (by rw [hbe_];exact c2)
   refine Ja ?_
   refine gI a7 s7 ok7 (gM (D7.k q28) (gC (Ty.val (Value.slice none 0 0)) (gB 0 (gE ok7 fun a8 s8 ok8 D8=>?_))));have o15:=PlS.k0 o13 D8.stp;have o16:=OwnP.k0 o14 D8.stp;refine tn (Jj (tr ?_))
   exact retL2 rfl ok8 (F7.step0 D8.stp) ⟨gh,(hasT2 (nil_lst (by (rw [hbr_])) (D8.m 1 rfl)) (cvi (by (exact hbe_.symm)) (D8.m 2 rfl))),(cvpls (by rfl) o15)⟩
  ·
   have hs0:=Classical.not_not.1 c2
   refine Jf (tn (Ja ?_))
   refine gI a7 s7 ok7 (gM q29 (gS rfl (fun B G H I J d0=>rP (Jt Try.underlying25 (eI d0))) (gR (Pr.own 61 22 1 (List.length cs) (List.map Ty.val (List.replicate (List.length cs) (Value.slice none 0 0)))) rfl (by intro B G H I J d0 d1;have e1:=ed d0 rfl rfl rfl;exact rP ((y_make (k:=61) (T:=Ty.val (Value.slice none 0 0)) (n:=(List.length cs)) Try.underlying49 Try.inf22 rfl (fun _=>rfl) e1 e1 oM oM).mono (fun _ _ h=>cvo (by simp) (by simp) h))) (gR (Pr.ownp 62 [(Ty.val (Value.slice none 0 0))]) rfl (by intro B G H I J;exact rP (y_alloc Try.inf49 rfl (Kr (vs:=[.slice none 0 0]) rfl))) (gE2 ok7 fun a9 s9 ok9 D9=>?_)))));have o17:=PlS.k0 o13 D9.stp;have o18:=OwnP.k0 o14 D9.stp
   obtain ⟨x2,hx2⟩:∃ x,a9.eval (.tmp 53) = x:=⟨_,rfl⟩
   have q43:At (Ty.val x2) s9 a9 (.tmp 53):=hx2
   have o19:=al2 (R:=(Pr.own 61 22 1 (List.length cs) (List.map Ty.val (List.replicate (List.length cs) (Value.slice none 0 0))))) hx2 (D9.done 2 dE)
   obtain ⟨x3,hx3⟩:∃ x,a9.eval (.tmp 13) = x:=⟨_,rfl⟩
   have q44:At (Ty.val x3) s9 a9 (.tmp 13):=hx3
   have o20:=al2 (R:=(Pr.ownp 62 [(Ty.val (Value.slice none 0 0))])) hx3 (D9.done 3 dE)
   refine Xh (L:=[62]) (R:=(fun _ τ=>OwnP τ 62 x3 ([(Ty.val (Value.slice none 0 0))].set 0 (Ty.val x2)))) rfl rfl (YldM.toL (m_storep Try.inf49 dE o20 (ptr0 o20 q44) (Xr rfl) q43 (Jq (Own.one o19)))) (fun v1 s10 hs1 r1=>?_)
   have q45:=kpL hs1 dE rfl (D9.k q29);have q46:=kpL hs1 dE rfl (D9.k (D7.k (D6.k (D5.k q11))));have q47:=kpL hs1 dE rfl (D9.k (D7.k (D6.k q20)));have q48:=kpL hs1 dE rfl (D9.k (D7.k (D6.k q21)));have q49:=kpL hs1 dE rfl (D9.k (D7.k (D6.k q22)));have q50:=kpL hs1 dE rfl q44;have o22:=PlS.keepL o17 hs1 dE dE
   have o21:OwnP s10 62 x3 [(Ty.val x2)]:=r1
   clear r1;refine Jh ?_
   have o25:RowsR s10 63 26 (List.replicate (List.length cs) (Value.slice none 0 0)) (List.replicate cs.length []):=grid_0R _ _ _ _
   refine tn (Ja (Ja ?_))
   refine gI a9 s10 ok9 (gM q45 (gS rfl (fun B G H I J d0=>rP (Jt Try.underlying25 (eI d0))) (gT (Ty.int (0:Int)) rfl (fun B G H I J=>rP (Jc rfl)) (gE ok9 fun a10 s11 ok10 D10=>?_))));have o26:=PlS.k0 o22 D10.stp;have o27:=OwnP.k0 (OwnP.kl o18 hs1) D10.stp;have o28:=Own.k0 (Own.kl o19 hs1) D10.stp;have o29:=OwnP.k0 o21 D10.stp;have o30:=RowsR.k0 o25 D10.stp;refine tn (Je ?_)
   refine Kf (fun n1 a11 w1=>∃ (t1:GW) (i:Nat) (us:(List Value)) (lv:Value),t1.w = w1∧FromL [999] σ t1∧Ok 162 [] a11∧At (Ty.nat i) t1 a11 (.tmp 56)∧At (Ty.lst Ty.int leads) t1 a11 (.tmp 2)∧At (Ty.lstc 3 Qd sl) t1 a11 (.tmp 3)∧At (Ty.val x1) t1 a11 (.tmp 4)∧At (Ty.nat ((List.length leads) * (List.length l))) t1 a11 (.tmp 11)∧At (Ty.val x3) t1 a11 (.tmp 13)∧At (Ty.lstc 2 KY cs) t1 a11 (.tmp 54)∧At (Ty.nat (List.length cs)) t1 a11 (.tmp 55)∧Own t1 61 22 1 lv cs.length (List.map Ty.val us)∧OwnP t1 62 x3 [(Ty.val lv)]∧RowsR t1 63 26 us (lnsG n.toNat l cs i 0)∧PlS gh t1∧OwnP t1 60 x1 [(Ty.val (Value.string nm)),(Ty.int n),(Ty.lst Ty.ints l)]∧(i ≤ cs.length)∧n1 = cs.length - i) (cs.length - (0)) ?_ ?_
   ·
    exact ⟨s11,0,(List.replicate cs.length (Value.slice none 0 0)),x2,rfl,(((F7.step0 D9.stp).sl hs1).step0 D10.stp),ok10,(cJ (D10.m 2 rfl)),(D10.k q46),(D10.k q47),(D10.k q48),(D10.k q49),(D10.k q50),(D10.m 0 rfl),(D10.m 1 rfl),(cvo (by (rfl)) (by (rfl)) o28),o29,(cvgR (by (first | rfl | exact lnsG_zero.symm)) (by (first | rfl | exact lnsG_zero.symm)) o30),o26,o27,by omega,rfl⟩
   ·
    rintro n2 a12 w2 ⟨t2,i,us,lv,rfl,F12,ok11,q60,q61,q62,q63,q64,q65,q66,q67,o31,o32,o33,o34,o35,hi,rfl⟩
    refine Ja ?_
    refine gI a12 t2 ok11 (gS rfl (fun B G H I J=>rP (Jw (kp (J 56 rfl) H q60) (kp (J 55 rfl) H q67))) (gE ok11 fun a13 s12 ok12 D11=>?_));have F13:=F12.step0 D11.stp;have q68:=D11.k q60;have q69:=D11.k q61;have q70:=D11.k q62;have q71:=D11.k q63;have q72:=D11.k q64;have q73:=D11.k q65;have q74:=D11.k q66;have q75:=D11.k q67;have o36:=Own.k0 o31 D11.stp;have o37:=OwnP.k0 o32 D11.stp;have o38:=RowsR.k0 o33 D11.stp;have o39:=PlS.k0 o34 D11.stp;have o40:=OwnP.k0 o35 D11.stp;have q76:=D11.m 0 rfl;refine tn (Ja ?_)
    refine Jl (p:=(((i:Nat):Int) < (((List.length cs):Nat):Int))) q76 (fun c3=>?_) (fun c3=>?_)
    ·
     have hsh:=hok.short i oM;obtain ⟨E,hE⟩:∃ E,E = endsL l (cs.getD i D0):=⟨_,rfl⟩;have hEl:E.length = l.length:=(by rw [hE];exact endsL_len hsh);have hEo:∀ k,k < E.length → okL 0 (E.getD k []) n.toNat:=(by rw [hE];exact endsL_ok hsh hok.meth.ok (hok.ok i oM))
     refine Jf (tn (Ja (Je (Ja ?_))))
     refine gI a13 s12 ok12 (gM q68 (gT (Ty.ref [(Ty.val (Value.int .i32 ((cs.getD i D0)).1)),(Ty.lst Ty.ints ((cs.getD i D0)).2)]) rfl (fun B G H I J=>rP (Qa (i:=((i:Nat):Int)) D0 Try.underlying25 Try.inf51 (kp (J 54 rfl) H q74) (kp (J 56 rfl) H q68) oM oM dE (fun _=>rfl))) (gS rfl (fun B G H I J d0=>rP (KV Try.underlying51 Try.inf51 (eI d0))) (gR (Pr.ownp 65 [(Ty.val (Value.int .i32 0)),(Ty.val (Value.slice none 0 0))]) rfl (by intro B G H I J;exact rP (y_alloc Try.inf51 rfl (Kr (vs:=[.int .i32 0,.slice none 0 0]) rfl))) (gB 0 (gE2 ok12 fun a14 s13 ok13 D12=>?_))))));have o41:=Own.k0 o36 D12.stp;have o42:=OwnP.k0 o37 D12.stp;have o43:=RowsR.k0 o38 D12.stp;have o44:=PlS.k0 o39 D12.stp;have o45:=OwnP.k0 o40 D12.stp
     obtain ⟨x4,hx4⟩:∃ x,a14.eval (.tmp 15) = x:=⟨_,rfl⟩
     have q86:At (Ty.val x4) s13 a14 (.tmp 15):=hx4
     have o46:=al2 (R:=(Pr.ownp 65 [(Ty.val (Value.int .i32 0)),(Ty.val (Value.slice none 0 0))])) hx4 (D12.done 3 dE)
     refine Xh (L:=[65]) (R:=(fun _ τ=>OwnP τ 65 x4 [(Ty.val (Value.int .i32 ((cs.getD i D0)).1)),(Ty.lst Ty.ints ((cs.getD i D0)).2)])) rfl rfl (YldM.toL (QZ Try.inf51 dE o46 q86 rfl (D12.m 2 rfl) (by intro U hU;simp only [List.mem_cons,List.not_mem_nil,or_false] at hU;rcases hU with rfl | rfl <;> first | exact Jq rfl | exact Qg | exact one_flt | exact one_cx | exact one_ref))) (fun v2 s14 hs2 r2=>?_)
     have q88:=kpL hs2 dE rfl (D12.k q68);have q89:=kpL hs2 dE rfl (D12.k q69);have q90:=kpL hs2 dE rfl (D12.k q70);have q91:=kpL hs2 dE rfl (D12.k q71);have q92:=kpL hs2 dE rfl (D12.k q72);have q93:=kpL hs2 dE rfl (D12.k q73);have q94:=kpL hs2 dE rfl (D12.k q74);have q95:=kpL hs2 dE rfl (D12.k q75);have q96:=kpL hs2 dE rfl q86;have q97:=kpL hs2 dE rfl (D12.m 4 rfl);have o50:=RowsR.keepL o43 hs2 dE dE;have o51:=PlS.keepL o44 hs2 dE dE;have o52:=OwnP.kl o45 hs2
     have o47:OwnP s14 65 x4 [(Ty.val (Value.int .i32 ((cs.getD i D0)).1)),(Ty.lst Ty.ints ((cs.getD i D0)).2)]:=r2
     clear r2;refine Jh (tn (Ja ?_))
     refine gI a14 s14 ok13 (gT (Ty.agg [(Ty.val (Value.string nm)),(Ty.int n),(Ty.lst Ty.ints l)]) rfl (fun B G H I J=>rP (Qs Try.underlying24 Try.inf24 (OwnP.k0 o52 H) (kp (J 4 rfl) H q91))) (gT (Ty.agg [(Ty.val (Value.int .i32 ((cs.getD i D0)).1)),(Ty.lst Ty.ints ((cs.getD i D0)).2)]) rfl (fun B G H I J=>rP (Qs Try.underlying51 Try.inf51 (OwnP.k0 o47 H) (kp (J 15 rfl) H q96))) (gT (Ty.lst Ty.ints E) rfl (fun B G H I J d0 d1=>rP ((JP _ Try.func23 rfl rfl my2 (changes_fn (nm) (n) (l) (((cs.getD i D0)).1) (((cs.getD i D0)).2) _ _ _ (eI d0) (eI d1) oX oX oX)).mono (fun τ _ h=>cvt (σ:=τ) (T:=(Ty.lst Ty.ints (endsL l ((((cs.getD i D0)).1),(((cs.getD i D0)).2))))) (U:=(Ty.lst Ty.ints E)) (by rw [hE]) h))) (gS rfl (fun B G H I J d0=>rP (Jt Try.underlying22 (eI d0))) (gT (Ty.int (0:Int)) rfl (fun B G H I J=>rP (Jc rfl)) (gE ok13 fun a15 s15 ok14 D13=>?_))))));have o53:=Own.k0 (Own.kl o41 hs2) D13.stp;have o54:=OwnP.k0 (OwnP.kl o42 hs2) D13.stp;have o55:=RowsR.k0 o50 D13.stp;have o56:=PlS.k0 o51 D13.stp;have o57:=OwnP.k0 o52 D13.stp;have o58:=OwnP.k0 o47 D13.stp;have q108:=D13.m 2 rfl
     have b4:=JS q108
     refine tn (Je ?_)
     refine Kf (fun n3 a16 w3=>∃ (t3:GW) (j:Nat) (us2:(List Value)) (lw:Value),t3.w = w3∧FromL [999] σ t3∧Ok 162 [] a16∧At (Ty.nat j) t3 a16 (.tmp 65)∧At (Ty.nat i) t3 a16 (.tmp 56)∧At (Ty.lst Ty.int leads) t3 a16 (.tmp 2)∧At (Ty.lstc 3 Qd sl) t3 a16 (.tmp 3)∧At (Ty.val x1) t3 a16 (.tmp 4)∧At (Ty.nat ((List.length leads) * (List.length l))) t3 a16 (.tmp 11)∧At (Ty.val x3) t3 a16 (.tmp 13)∧At (Ty.lstc 2 KY cs) t3 a16 (.tmp 54)∧At (Ty.nat (List.length cs)) t3 a16 (.tmp 55)∧At (Ty.nat i) t3 a16 (.tmp 14)∧At (Ty.lst Ty.ints E) t3 a16 (.tmp 63)∧At (Ty.nat (List.length E)) t3 a16 (.tmp 64)∧Own t3 61 22 1 lw cs.length (List.map Ty.val us2)∧OwnP t3 62 x3 [(Ty.val lw)]∧RowsR t3 63 26 us2 (lnsG n.toNat l cs i j)∧PlS gh t3∧OwnP t3 60 x1 [(Ty.val (Value.string nm)),(Ty.int n),(Ty.lst Ty.ints l)]∧(j ≤ E.length)∧n3 = E.length - j) (E.length - (0)) ?_ ?_
     ·
      exact ⟨s15,0,us,lv,rfl,(((F13.step0 D12.stp).sl hs2).step0 D13.stp),ok14,(cJ (D13.m 4 rfl)),(D13.k q88),(D13.k q89),(D13.k q90),(D13.k q91),(D13.k q92),(D13.k q93),(D13.k q94),(D13.k q95),(D13.k q97),q108,(D13.m 3 rfl),(cvo (by (simp)) (by (simp)) o53),o54,(cvgR (by (rfl)) (by (rfl)) o55),o56,o57,by omega,rfl⟩
     ·
      rintro n4 a17 w4 ⟨t4,j,us2,lw,rfl,F17,ok15,q111,q112,q113,q114,q115,q116,q117,q118,q119,q120,q121,q122,o59,o60,o61,o62,o63,hj,rfl⟩
      refine Ja ?_
      refine gI a17 t4 ok15 (gS rfl (fun B G H I J=>rP (Jw (kp (J 65 rfl) H q111) (kp (J 64 rfl) H q122))) (gE ok15 fun a18 s16 ok16 D14=>?_));have F18:=F17.step0 D14.stp;have q123:=D14.k q111;have q124:=D14.k q112;have q125:=D14.k q113;have q126:=D14.k q114;have q127:=D14.k q115;have q128:=D14.k q116;have q129:=D14.k q117;have q130:=D14.k q118;have q131:=D14.k q119;have q133:=D14.k q121;have o64:=Own.k0 o59 D14.stp;have o65:=OwnP.k0 o60 D14.stp;have o66:=RowsR.k0 o61 D14.stp;have o67:=PlS.k0 o62 D14.stp;have o68:=OwnP.k0 o63 D14.stp;refine tn (Ja ?_)
      refine Jl (p:=(((j:Nat):Int) < (((List.length E):Nat):Int))) (D14.m 0 rfl) (fun c4=>?_) (fun c4=>?_)
      ·
       have ho_:=hEo j oM;have hgl_:=lnsG_len (n:=n.toNat) (l:=l) (cs:=cs) (i:=i) (j:=j);have hgr_:((lnsG n.toNat l cs i j).getD i []).length ≤ j:=(by rw [lnsG_get oM];exact List.length_take_le _ _)
       refine Jf (tn (Ja (Je (Ja ?_))))
       refine gI a18 s16 ok16 (gT (Ty.ref [(Ty.lst Ty.int (E.getD j []))]) rfl (fun B G H I J=>rP (Jy Try.underlying22 Try.inf26 (kp (J 63 rfl) H q133) (kp (J 65 rfl) H q123) oM (Ju Ty.ints E [] j oM))) (gS rfl (fun B G H I J d0=>rP (Jm Try.underlying26 rfl (eI d0) rfl)) (gB 0 (gE ok16 fun a19 s17 ok17 D15=>?_))));have o69:=Own.k0 o64 D15.stp;have o70:=OwnP.k0 o65 D15.stp;have o71:=RowsR.k0 o66 D15.stp;have o72:=PlS.k0 o67 D15.stp;have o73:=OwnP.k0 o68 D15.stp;refine tn ?_
       have hul1:=o71.1
       obtain ⟨t5,e1,h1,o74,o75⟩:=RowsR.focus o71 (i:=i) (by have h_:=o71.1;omega) dE 64 dE
       rw [← e1]
       have F20:=(F18.step0 D15.stp).step h1 dE
       have q149:At (Ty.nat j) t5 a19 (.tmp 65):=Ty.up _ (h1.le dE) (D15.k q123)
       have q150:At (Ty.nat i) t5 a19 (.tmp 56):=Ty.up _ (h1.le dE) (D15.k q124)
       have q151:At (Ty.lst Ty.int leads) t5 a19 (.tmp 2):=Ty.up _ (h1.le dE) (D15.k q125)
       have q152:At (Ty.lstc 3 Qd sl) t5 a19 (.tmp 3):=Ty.up _ (h1.le dE) (D15.k q126)
       have q153:At (Ty.val x1) t5 a19 (.tmp 4):=Ty.up _ (h1.le dE) (D15.k q127)
       have q154:At (Ty.nat ((List.length leads) * (List.length l))) t5 a19 (.tmp 11):=Ty.up _ (h1.le dE) (D15.k q128)
       have q155:At (Ty.val x3) t5 a19 (.tmp 13):=Ty.up _ (h1.le dE) (D15.k q129)
       have q156:At (Ty.lstc 2 KY cs) t5 a19 (.tmp 54):=Ty.up _ (h1.le dE) (D15.k q130)
       have q157:At (Ty.nat (List.length cs)) t5 a19 (.tmp 55):=Ty.up _ (h1.le dE) (D15.k q131)
       have q158:At (Ty.nat i) t5 a19 (.tmp 14):=Ty.up _ (h1.le dE) (D15.k (D14.k q120))
       have q159:At (Ty.lst Ty.ints E) t5 a19 (.tmp 63):=Ty.up _ (h1.le dE) (D15.k q133)
       have q160:At (Ty.nat (List.length E)) t5 a19 (.tmp 64):=Ty.up _ (h1.le dE) (D15.k (D14.k q122))
       have q161:At (Ty.lst Ty.int (E.getD j [])) t5 a19 (.tmp 17):=Ty.up _ (h1.le dE) (D15.m 2 rfl)
       have o76:=Own.keepL o69 (h1.toL (L:=[63]) (by simp)) dE dE;have o77:=OwnP.keepL o70 (h1.toL (L:=[63]) (by simp)) dE dE;have o78:=PlS.keepL o72 (h1.toL (L:=[63]) (by simp)) dE dE;have o79:=OwnP.keepL o73 (h1.toL (L:=[63]) (by simp)) dE dE
       refine reg3 (a:=a19) (σ:=t5) rfl 12 11 80 [64] dE (Pr.own 64 26 1 ((List.length ((lnsG n.toNat l cs i j).getD i [])) + 1) ((List.map Ty.ints ((lnsG n.toNat l cs i j).getD i [])) ++ [(Ty.lst Ty.int (JN ((n).toNat) ((E.getD j []))))])) (fun i_=>List.getD [(Ty.val lw),(Ty.nat i),(Ty.val lw),(Ty.nat i),(Ty.val (JU lw i)),(Ty.val (us2.getD i undef)),(Ty.val (JZ x1 1)),(Ty.int n),(Ty.lst Ty.int (E.getD j [])),(Ty.lst Ty.int (JN ((n).toNat) ((E.getD j [])))),(Ty.sl 1 1 [(Ty.lst Ty.int (JN ((n).toNat) ((E.getD j []))))]),Ty.any] i_ Ty.any) ok17 rfl dE rfl dE rfl (fun _ _=>trivial) rfl ⟨?_,?_,?_,?_,?_,?_,?_,?_,?_,?_,?_,?_,trivial⟩ ?_
       · refine obR3 dE ?_
         intro B G H I J
         exact rP (Jo Try.underlying49 rfl (OwnP.keepL o77 H dE dE) (ptr0 (OwnP.keepL o77 H dE dE) (kpL H dE (J 13 rfl) q155)) rfl)
       · refine obR3 dE ?_
         intro B G H I J
         exact rP (Jc (kpL H dE (J 14 rfl) q158))
       · refine obR3 dE ?_
         intro B G H I J
         exact rP (Jo Try.underlying49 rfl (OwnP.keepL o77 H dE dE) (ptr0 (OwnP.keepL o77 H dE dE) (kpL H dE (J 13 rfl) q155)) rfl)
       · refine obR3 dE ?_
         intro B G H I J
         exact rP (Jc (kpL H dE (J 14 rfl) q158))
       · refine obR3 dE ?_
         intro B G H I J d0 d1
         have e2:At (Ty.val lw) G B (.tmp 71):=d0 rfl
         have e3:At (Ty.nat i) G B (.tmp 72):=d1 rfl
         exact rP (Kn (i:=((i:Nat):Int)) Try.underlying49 Try.inf22 (Own.keepL o76 H dE dE) e2 e3 oM oM)
       · refine obR3 dE ?_
         intro B G H I J d0
         have e4:At (Ty.val (JU lw i)) G B (.tmp 73):=d0 rfl
         exact rP (QT Try.underlying22 rfl (Own.keepL o76 H dE dE) e4 (Ju Ty.val us2 undef i oM))
       · refine obR3 dE ?_
         intro B G H I J
         exact rP (Jn Try.fld24_1 Try.inf3 dE (OwnP.keepL o79 H dE dE) (kpL H dE (J 4 rfl) q153))
       · refine obR3 dE ?_
         intro B G H I J d0
         have e6:At (Ty.val (JZ x1 1)) G B (.tmp 75):=d0 rfl
         exact rP (Jo Try.underlying3 rfl (OwnP.keepL o79 H dE dE) e6 rfl)
       · refine obR3 dE ?_
         intro B G H I J
         exact rP (Jc (kpL H dE (J 17 rfl) q161))
       · refine obR3 dE ?_
         intro B G H I J d0 d1
         have e7:At (Ty.int n) G B (.tmp 76):=d0 rfl
         have e8:At (Ty.lst Ty.int (E.getD j [])) G B (.tmp 77):=d1 rfl
         exact rP (JP _ Try.func24 rfl rfl my2 (pChange_fn ((n).toNat) ((E.getD j [])) _ _ _ (cvi (σ:=G) oX e7) e8 oX oX))
       · refine obR3 dE ?_
         intro B G H I J d0
         have e9:At (Ty.lst Ty.int (JN ((n).toNat) ((E.getD j [])))) G B (.tmp 78):=d0 rfl
         exact rP (KW Try.underlying22 Try.inf26 rfl (Qg) e9)
       · refine obR3w rfl ?_
         intro B G H I J d0 d1 d2
         have e5:At (Ty.val (us2.getD i undef)) G B (.tmp 74):=d0 rfl
         have e10:At (Ty.sl 1 1 [(Ty.lst Ty.int (JN ((n).toNat) ((E.getD j []))))]) G B (.tmp 79):=d1 rfl
         exact YldM.toL (KC Try.underlying22 Try.inf26 dE rfl dE (al (R:=(Pr.own 64 26 1 (List.length ((lnsG n.toNat l cs i j).getD i [])) (List.map Ty.ints ((lnsG n.toNat l cs i j).getD i [])))) e5 (Own.k0 o74 H)) e10 (by intro U hU;simp at hU;subst hU;exact Qg) oM oM)
       intro a20 s18 D16;have ok18:=D16.ok;have F21:=F20.stepL D16.stp dE
       have q162:At (Ty.nat j) s18 a20 (.tmp 65):=D16.kt dE q149 rfl
       have q163:At (Ty.nat i) s18 a20 (.tmp 56):=D16.kt dE q150 rfl
       have q164:At (Ty.lst Ty.int leads) s18 a20 (.tmp 2):=D16.kt dE q151 rfl
       have q165:At (Ty.lstc 3 Qd sl) s18 a20 (.tmp 3):=D16.kt dE q152 rfl
       have q166:At (Ty.val x1) s18 a20 (.tmp 4):=D16.kt dE q153 rfl
       have q167:At (Ty.nat ((List.length leads) * (List.length l))) s18 a20 (.tmp 11):=D16.kt dE q154 rfl
       have q168:At (Ty.val x3) s18 a20 (.tmp 13):=D16.kt dE q155 rfl
       have q169:At (Ty.lstc 2 KY cs) s18 a20 (.tmp 54):=D16.kt dE q156 rfl
       have q170:At (Ty.nat (List.length cs)) s18 a20 (.tmp 55):=D16.kt dE q157 rfl
       have q171:At (Ty.nat i) s18 a20 (.tmp 14):=D16.kt dE q158 rfl
       have q172:At (Ty.lst Ty.ints E) s18 a20 (.tmp 63):=D16.kt dE q159 rfl
       have q173:At (Ty.nat (List.length E)) s18 a20 (.tmp 64):=D16.kt dE q160 rfl
       have o81:=Own.keepL o76 D16.stp dE dE;have o82:=OwnP.keepL o77 D16.stp dE dE;have o83:=PlS.keepL o78 D16.stp dE dE;have o84:=OwnP.keepL o79 D16.stp dE dE;have o85:=RestR.keepL o75 D16.stp dE dE
       have q174:At (Ty.val lw) s18 a20 (.tmp 69):=D16.done 0 dE
       have q175:At (Ty.nat i) s18 a20 (.tmp 70):=D16.done 1 dE
       obtain ⟨x5,hx5⟩:∃ x,a20.eval (.tmp 80) = x:=⟨_,rfl⟩
       have q176:At (Ty.val x5) s18 a20 (.tmp 80):=hx5
       have o80:=al2 (R:=(Pr.own 64 26 1 (List.length (((lnsG n.toNat l cs i j).getD i []) ++ [(JN ((n).toNat) ((E.getD j [])))])) (List.map Ty.ints (((lnsG n.toNat l cs i j).getD i []) ++ [(JN ((n).toNat) ((E.getD j [])))])))) hx5 (cvo (by simp) (by first | (rw [List.map_append];rfl) | simp) D16.donep)
       refine tL (R:=(fun v τ=>Pr.has (Ty.pr (Ty.val (JU lw i))) τ v)) ok18 (Yld.toL (Kn (i:=((i:Nat):Int)) Try.underlying49 Try.inf22 o81 q174 q175 oM oM)) fun a21 s19 hs3 ok19 r3 sm1=>?_
       have o88:=PlS.keepL o83 hs3 dE dE;have o90:=RestR.keepL o85 hs3 dE dE;have o91:=Own.kl o80 hs3
       have q190:At (Ty.val (JU lw i)) s19 a21 (.tmp 81):=r3
       clear r3
       refine Xh (L:=[61]) (R:=(fun _ τ=>Own τ 61 22 1 lw cs.length ((List.map Ty.val us2).set i (Ty.val x5)))) rfl rfl (YldM.toL (m_store Try.inf22 dE (Own.kl o81 hs3) q190 (by simp only [List.length_map,List.length_set];omega) (kq hs3 sm1 80 q176) (Jq (Own.one o91)))) (fun v3 s20 hs4 r4=>?_)
       have q191:=kpL hs4 dE rfl (kq hs3 sm1 65 q162);have q192:=kpL hs4 dE rfl (kq hs3 sm1 56 q163);have q193:=kpL hs4 dE rfl (kq hs3 sm1 2 q164);have q194:=kpL hs4 dE rfl (kq hs3 sm1 3 q165);have q195:=kpL hs4 dE rfl (kq hs3 sm1 4 q166);have q196:=kpL hs4 dE rfl (kq hs3 sm1 11 q167);have q197:=kpL hs4 dE rfl (kq hs3 sm1 13 q168);have q198:=kpL hs4 dE rfl (kq hs3 sm1 54 q169);have q199:=kpL hs4 dE rfl (kq hs3 sm1 55 q170);have q200:=kpL hs4 dE rfl (kq hs3 sm1 14 q171);have q201:=kpL hs4 dE rfl (kq hs3 sm1 63 q172);have q202:=kpL hs4 dE rfl (kq hs3 sm1 64 q173);have o94:=PlS.keepL o88 hs4 dE dE;have o96:=RestR.keepL o90 hs4 dE dE
       have o92:Own s20 61 22 1 lw cs.length (List.map Ty.val (us2.set i x5)):=(cvo (by simp) (by first | (simp;done) | (rw [List.map_set];done) | (rw [List.map_set];rfl)) r4)
       clear r4;refine Jh ?_
       obtain ⟨t6,e2,h2,o98⟩:=RestR.unfocus (ys:=(((lnsG n.toNat l cs i j).getD i []) ++ [(JN ((n).toNat) ((E.getD j [])))])) o96 (Own.kl o91 hs4) (by first | rfl | simp) (by first | rfl | simp) dE dE dE
       rw [← e2]
       have F24:=((F21.sl hs3).sl hs4).step h2 dE
       have q204:At (Ty.nat j) t6 a21 (.tmp 65):=Ty.up _ (h2.le dE) q191
       have q205:At (Ty.nat i) t6 a21 (.tmp 56):=Ty.up _ (h2.le dE) q192
       have q206:At (Ty.lst Ty.int leads) t6 a21 (.tmp 2):=Ty.up _ (h2.le dE) q193
       have q207:At (Ty.lstc 3 Qd sl) t6 a21 (.tmp 3):=Ty.up _ (h2.le dE) q194
       have q208:At (Ty.val x1) t6 a21 (.tmp 4):=Ty.up _ (h2.le dE) q195
       have q209:At (Ty.nat ((List.length leads) * (List.length l))) t6 a21 (.tmp 11):=Ty.up _ (h2.le dE) q196
       have q210:At (Ty.val x3) t6 a21 (.tmp 13):=Ty.up _ (h2.le dE) q197
       have q211:At (Ty.lstc 2 KY cs) t6 a21 (.tmp 54):=Ty.up _ (h2.le dE) q198
       have q212:At (Ty.nat (List.length cs)) t6 a21 (.tmp 55):=Ty.up _ (h2.le dE) q199
       have q213:At (Ty.nat i) t6 a21 (.tmp 14):=Ty.up _ (h2.le dE) q200
       have q214:At (Ty.lst Ty.ints E) t6 a21 (.tmp 63):=Ty.up _ (h2.le dE) q201
       have q215:At (Ty.nat (List.length E)) t6 a21 (.tmp 64):=Ty.up _ (h2.le dE) q202
       have o99:=OwnP.keepL (OwnP.kl (OwnP.kl o82 hs3) hs4) (h2.toL (L:=[64]) (by simp)) dE dE;have o100:=PlS.keepL o94 (h2.toL (L:=[64]) (by simp)) dE dE;have o101:=OwnP.keepL (OwnP.kl (OwnP.kl o84 hs3) hs4) (h2.toL (L:=[64]) (by simp)) dE dE;have o102:=Own.keepL o92 (h2.toL (L:=[64]) (by simp)) dE dE;refine bn (tn ?_)
       refine gI a21 t6 ok19 (gT (Ty.nat (j + 1)) rfl (fun B G H I J=>rP ((JF (kp (J 65 rfl) H q204) rfl wX).mono (fun τ _ h=>cN (σ:=τ) h))) (gS rfl (fun B G H I J d0=>rP (Jc (eI d0))) (gE ok19 fun a22 s21 ok20 D17=>?_)));have o103:=OwnP.k0 o99 D17.stp;have o104:=PlS.k0 o100 D17.stp;have o105:=OwnP.k0 o101 D17.stp;have o106:=Own.k0 o102 D17.stp;have o107:=RowsR.k0 o98 D17.stp
       exact tn ⟨E.length - ((j+1)),by omega,s21,(j+1),(us2.set i x5),lw,rfl,(F24.step0 D17.stp),ok20,(cJ (D17.m 1 rfl)),(D17.k q205),(D17.k q206),(D17.k q207),(D17.k q208),(D17.k q209),(D17.k q210),(D17.k q211),(D17.k q212),(D17.k q213),(D17.k q214),(D17.k q215),(cvo (by (first | rfl | simp)) (by (first | rfl | simp)) o106),o103,(cvgR (by (first | rfl | exact lnsG_step hE oM oM)) (by (first | rfl | exact lnsG_step hE oM oM)) o107),o104,o105,by omega,rfl⟩
      ·
       refine Jv (tx (tx (bx (bn (tn ?_)))))
       refine gI a18 s16 ok16 (gT (Ty.nat (i + 1)) rfl (fun B G H I J=>rP ((JF (kp (J 56 rfl) H q124) rfl wX).mono (fun τ _ h=>cN (σ:=τ) h))) (gS rfl (fun B G H I J d0=>rP (Jc (eI d0))) (gE ok16 fun a23 s22 ok21 D18=>?_)));have o108:=Own.k0 o64 D18.stp;have o109:=OwnP.k0 o65 D18.stp;have o110:=RowsR.k0 o66 D18.stp;have o111:=PlS.k0 o67 D18.stp;have o112:=OwnP.k0 o68 D18.stp
       exact tn ⟨cs.length - ((i+1)),by omega,s22,(i+1),us2,lw,rfl,(F18.step0 D18.stp),ok21,(cJ (D18.m 1 rfl)),(D18.k q125),(D18.k q126),(D18.k q127),(D18.k q128),(D18.k q129),(D18.k q130),(D18.k q131),(cvo (by (simp)) (by (simp)) o108),o109,(cvgR (by (first | rfl | exact lnsG_next hE oM oM)) (by (first | rfl | exact lnsG_next hE oM oM)) o110),o111,o112,by omega,rfl⟩
    ·
     refine Jv (tx (tx (bx (tn ?_))))
     obtain ⟨t7,e3,h3,o113⟩:=RowsR.seal o38 dE o36 dE
     rw [← e3]
     have F27:=F13.step h3 dE
     have q236:At (Ty.nat i) t7 a13 (.tmp 56):=Ty.up _ (h3.le dE) q68
     have q237:At (Ty.lst Ty.int leads) t7 a13 (.tmp 2):=Ty.up _ (h3.le dE) q69
     have q238:At (Ty.lstc 3 Qd sl) t7 a13 (.tmp 3):=Ty.up _ (h3.le dE) q70
     have q239:At (Ty.val x1) t7 a13 (.tmp 4):=Ty.up _ (h3.le dE) q71
     have q240:At (Ty.nat ((List.length leads) * (List.length l))) t7 a13 (.tmp 11):=Ty.up _ (h3.le dE) q72
     have q241:At (Ty.val x3) t7 a13 (.tmp 13):=Ty.up _ (h3.le dE) q73
     have q242:At (Ty.lstc 2 KY cs) t7 a13 (.tmp 54):=Ty.up _ (h3.le dE) q74
     have q243:At (Ty.nat (List.length cs)) t7 a13 (.tmp 55):=Ty.up _ (h3.le dE) q75
     have q244:At (Ty.bool (decide (((i:Nat):Int) < (((List.length cs):Nat):Int)))) t7 a13 (.tmp 57):=Ty.up _ (h3.le dE) q76
     have o114:=OwnP.keepL o37 (h3.toL (L:=[63]) (by simp)) dE dE;have o115:=PlS.keepL o39 (h3.toL (L:=[63]) (by simp)) dE dE;have o116:=OwnP.keepL o40 (h3.toL (L:=[63]) (by simp)) dE dE
     have hlbx_:=o114
     obtain ⟨lb,_,_,hlb_,_⟩:=hlbx_
     obtain ⟨t8,e4,h4,q245⟩:=Own.seal o113 dE
     rw [← e4]
     have F28:=F27.step h4 dE;have o117:=OwnP.keepL o114 (h4.toL (L:=[61]) (by simp)) dE dE;have o118:=PlS.keepL o115 (h4.toL (L:=[61]) (by simp)) dE dE;have o119:=OwnP.keepL o116 (h4.toL (L:=[61]) (by simp)) dE dE;have q246:=Ty.up (Ty.nat i) (h4.le dE) q236;have q247:=Ty.up (Ty.lst Ty.int leads) (h4.le dE) q237;have q248:=Ty.up (Ty.lstc 3 Qd sl) (h4.le dE) q238;have q249:=Ty.up (Ty.val x1) (h4.le dE) q239;have q250:=Ty.up (Ty.nat ((List.length leads) * (List.length l))) (h4.le dE) q240;have q251:=Ty.up (Ty.val x3) (h4.le dE) q241;have q252:=Ty.up (Ty.lstc 2 KY cs) (h4.le dE) q242;have q253:=Ty.up (Ty.nat (List.length cs)) (h4.le dE) q243
     have q254:=Ty.up (Ty.bool (decide (((i:Nat):Int) < (((List.length cs):Nat):Int)))) (h4.le dE) q244;have o120:=ownp_cellq 0 (Ty.sl 1 cs.length (List.map Ty.rows (lnsG n.toNat l cs i 0))) o117 rfl q245
     obtain ⟨t9,e5,h5,q255⟩:=OwnP.seal o120 dE
     rw [← e5]
     have F29:=F28.step h5 dE;have o121:=PlS.keepL o118 (h5.toL (L:=[62]) (by simp)) dE dE;have o122:=OwnP.keepL o119 (h5.toL (L:=[62]) (by simp)) dE dE;have q256:=Ty.up (Ty.nat i) (h5.le dE) q246;have q257:=Ty.up (Ty.lst Ty.int leads) (h5.le dE) q247;have q258:=Ty.up (Ty.lstc 3 Qd sl) (h5.le dE) q248;have q259:=Ty.up (Ty.val x1) (h5.le dE) q249;have q260:=Ty.up (Ty.nat ((List.length leads) * (List.length l))) (h5.le dE) q250
     have q261:At (Ty.ref [(Ty.sl 1 cs.length (List.map Ty.rows (lnsG n.toNat l cs i 0)))]) t9 a13 (.tmp 13):=by have e:a13.eval (.tmp 13) = x3:=q251;show Ty.has _ _ _;rw [e];exact q255
     have q262:=Ty.up (Ty.lstc 2 KY cs) (h5.le dE) q252;have q263:=Ty.up (Ty.nat (List.length cs)) (h5.le dE) q253;have q264:=Ty.up (Ty.bool (decide (((i:Nat):Int) < (((List.length cs):Nat):Int)))) (h5.le dE) q254
     have q265:At (Ty.val (Jg lb 0)) t9 a13 (.tmp 13):=Eq.trans q241 hlb_
     have o123:RefH (lnsE n.toNat l cs) lb t9:=by have h_:Ty.has (Ty.ref [Ty.sl 1 cs.length (List.map Ty.rows (lnsG n.toNat l cs i 0))]) t9 (a13.eval (.tmp 13)):=q261;rw [show a13.eval (.tmp 13) = Jg lb 0 from Eq.trans q241 hlb_,show (lnsG n.toNat l cs i 0) = lnsE n.toNat l cs by rw [show i = cs.length by omega];exact lnsG_end] at h_;show Ty.has (Ty.ref [Ty.sl 1 (lnsE n.toNat l cs).length ((lnsE n.toNat l cs).map Ty.rows)]) _ _;rw [lns_len];exact h_
     refine Ja ?_
     refine gI a13 t9 ok12 (gC (Ty.val (Value.slice none 0 0)) (gE ok12 fun a24 s23 ok22 D19=>?_));have o124:=PlS.k0 o121 D19.stp;have o125:=OwnP.k0 o122 D19.stp;have o126:=RefH.k0 o123 D19.stp;refine tn (Ja ?_)
     refine regX (a:=a24) (σ:=s23) rfl 0 (fun i_=>List.getD [] i_ Pr.any) ok22 rfl dE rfl (by rfl) trivial ?_
     intro a25 s24 D20;have ok23:=D20.ok
     have o127:PlS gh s24:=PlS.k0 o124 D20.stp
     have o128:OwnP s24 60 x1 [(Ty.val (Value.string nm)),(Ty.int n),(Ty.lst Ty.ints l)]:=OwnP.k0 o125 D20.stp
     have o129:RefH (lnsE n.toNat l cs) lb s24:=RefH.k0 o126 D20.stp
     refine xs_alloc (kd:=1) ok23 rfl dE o127 dE Try.inf64 (by rw [hZ1];rfl) ?_
     intro a26 t10 wg hs5 hp1 hle1 ok24 hu1 sm2
     have hnw_wg:=new_not o127 hle1
     have F32:=((F29.step0 D19.stp).step0 D20.stp).step hs5 dE
     have q278:At (Ty.lst Ty.int leads) t10 a26 (.tmp 2):=kp9 hs5 (sm2 2 dE) (D20.k (D19.k q257))
     have q279:At (Ty.lstc 3 Qd sl) t10 a26 (.tmp 3):=kp9 hs5 (sm2 3 dE) (D20.k (D19.k q258))
     have q280:At (Ty.val x1) t10 a26 (.tmp 4):=kp9 hs5 (sm2 4 dE) (D20.k (D19.k q259))
     have q281:At (Ty.nat ((List.length leads) * (List.length l))) t10 a26 (.tmp 11):=kp9 hs5 (sm2 11 dE) (D20.k (D19.k q260))
     have q282:At (Ty.val (Jg lb 0)) t10 a26 (.tmp 13):=kp9 hs5 (sm2 13 dE) (D20.k (D19.k q265))
     have q283:At (Ty.val (Value.slice none 0 0)) t10 a26 (.tmp 18):=kp9 hs5 (sm2 18 dE) (D20.k (D19.m 0 rfl))
     have o130:OwnP t10 60 x1 [(Ty.val (Value.string nm)),(Ty.int n),(Ty.lst Ty.ints l)]:=OwnP.keepL o128 (hs5.toL (L:=[999]) (by simp)) dE dE
     have o131:RefH (lnsE n.toNat l cs) lb t10:=RefH.keepL o129 (hs5.toL (L:=[999]) (by simp)) dE dE
     have q284:At (Ty.val (Jg wg 0)) t10 a26 (.tmp 19):=hu1
     refine XT.fin ?_
     refine tn (Ja ?_)
     refine regX (a:=a26) (σ:=t10) rfl 0 (fun i_=>List.getD [] i_ Pr.any) ok24 rfl dE rfl (by rfl) trivial ?_
     intro a27 s25 D21;have ok25:=D21.ok
     have o132:OwnP s25 60 x1 [(Ty.val (Value.string nm)),(Ty.int n),(Ty.lst Ty.ints l)]:=OwnP.k0 o130 D21.stp
     have o133:RefH (lnsE n.toNat l cs) lb s25:=RefH.k0 o131 D21.stp
     have o134:PlS (gh.push (2 * wg + 1,kb 1)) s25:=PlS.k0 hp1 D21.stp
     refine xs_alloc (kd:=2) ok25 rfl dE o134 dE Try.inf66 (by rw [hZ2];rfl) ?_
     intro a28 t11 rg hs6 hp2 hle2 ok26 hu2 sm3
     have hnw_rg:=new_not o134 hle2
     have hne_:wg ≠ rg:=Nat.ne_of_lt (Nat.lt_of_lt_of_le (old_lt o134 (hid_push.2 (.inr rfl))) hle2)
     have F34:=(F32.step0 D21.stp).step hs6 dE
     have q292:At (Ty.lst Ty.int leads) t11 a28 (.tmp 2):=kp9 hs6 (sm3 2 dE) (D21.k q278)
     have q293:At (Ty.lstc 3 Qd sl) t11 a28 (.tmp 3):=kp9 hs6 (sm3 3 dE) (D21.k q279)
     have q294:At (Ty.val x1) t11 a28 (.tmp 4):=kp9 hs6 (sm3 4 dE) (D21.k q280)
     have q295:At (Ty.nat ((List.length leads) * (List.length l))) t11 a28 (.tmp 11):=kp9 hs6 (sm3 11 dE) (D21.k q281)
     have q296:At (Ty.val (Jg lb 0)) t11 a28 (.tmp 13):=kp9 hs6 (sm3 13 dE) (D21.k q282)
     have q297:At (Ty.val (Value.slice none 0 0)) t11 a28 (.tmp 18):=kp9 hs6 (sm3 18 dE) (D21.k q283)
     have q298:At (Ty.val (Jg wg 0)) t11 a28 (.tmp 19):=kp9 hs6 (sm3 19 dE) (D21.k q284)
     have o135:OwnP t11 60 x1 [(Ty.val (Value.string nm)),(Ty.int n),(Ty.lst Ty.ints l)]:=OwnP.keepL o132 (hs6.toL (L:=[999]) (by simp)) dE dE
     have o136:RefH (lnsE n.toNat l cs) lb t11:=RefH.keepL o133 (hs6.toL (L:=[999]) (by simp)) dE dE
     have q299:At (Ty.val (Jg rg 0)) t11 a28 (.tmp 20):=hu2
     refine XT.fin ?_
     refine tn (Ja ?_)
     refine gI a28 t11 ok26 (gR (Pr.ownch 66 0) rfl (by intro B G H I J;exact rP (y_makeChan (cap:=0) 66 Try.underlying67 Try.inf106 rfl dE dE)) (gE2 ok26 fun a29 s26 ok27 D22=>?_));have o137:=OwnP.k0 o135 D22.stp;have o138:=RefH.k0 o136 D22.stp;have o139:=PlS.k0 hp2 D22.stp
     obtain ⟨x6,hx6⟩:∃ x,a29.eval (.tmp 84) = x:=⟨_,rfl⟩
     have q308:At (Ty.val x6) s26 a29 (.tmp 84):=hx6
     have o140:OwnCh s26 66 x6 0:=al2 (R:=(Pr.ownch 66 0)) hx6 (D22.done 0 dE)
     refine tL ok27 (Yld.toL (y_as q308)) fun a30 s27 hs7 ok28 r5 sm4=>?_
     have o142:=RefH.keepL o138 hs7 dE dE;have o143:=PlS.keepL o139 hs7 dE dE;have o144:=OwnCh.keepL o140 hs7 dE dE
     have q317:At (Ty.val x6) s27 a30 (.tmp 21):=r5
     clear r5;refine Jh (tn ?_)
     have hchx_:=o144
     obtain ⟨hd_,hhd_,_⟩:=hchx_
     have hlbs_:=o142
     have o145:OwnP s27 60 x1 [(Ty.val (Value.string nm)),(Ty.int n),(Ty.slen (List.length l))]:=ownp_cell 2 (Ty.slen (List.length l)) (OwnP.kl o137 hs7) rfl (fun _ _ h=>slen_of h)
     obtain ⟨v3_,hv3_⟩:∃ v,a30.eval (.tmp 3) = v:=⟨_,rfl⟩
     have hsl_:Ty.has (Ty.lstc 3 Qd sl) s27 v3_:=by rw [← hv3_];exact (kq hs7 sm4 3 (D22.k q293))
     have F0s_:=((F34.step0 D22.stp).sl hs7)
     refine xp_switch (c0:=coOf n.toNat l cs leads s27 wg rg hd_ ((gh.push (2 * wg + 1,kb 1)).push (2 * rg + 1,kb 2))) (k3:=66) [60,70,71,72,73,74,75,76,77,78,79,80,81,82,83,84,85,86,87,88,89] o143 rfl rfl ⟨by show 0 < n.toNat;omega,by show n.toNat < 2147483647;omega,by show 0 < l.length;omega⟩ (by have h_:=o144;rw [hhd_] at h_;exact h_) ⟨by decide,by decide,by decide⟩ dE dE mem1 mem2 hne_ hZ1 ⟨0,hZ2⟩ (uniq1 hnw_wg hne_) (uniq2 hnw_rg) (fun m_ t12 hI_ hp3 F37=>?_)
     have B_:=coB_of n.toNat l cs leads s27 wg rg hd_ ((gh.push (2 * wg + 1,kb 1)).push (2 * rg + 1,kb 2)) m_
     obtain ⟨c,hc_⟩:∃ c,c = { coOf n.toNat l cs leads s27 wg rg hd_ ((gh.push (2 * wg + 1,kb 1)).push (2 * rg + 1,kb 2)) with m0:=m_ }:=⟨_,rfl⟩
     have hcw_:c.wg = wg:=by rw [hc_];rfl
     have hcr_:c.rung = rg:=by rw [hc_];rfl
     have hch_:c.heard = hd_:=by rw [hc_];rfl
     rw [← hc_] at B_ hI_ hp3 ⊢
     have hin_:∀ b,c.inB b → s27.st b = 1:=fun b h=>by unfold Co.inB at h;rw [B_.ro] at h;obtain ⟨o,ho⟩:=Option.isSome_iff_exists.1 h;exact (roOf_some ho).1
     have hnrb_:¬ c.inB c.rung:=fun h=>by have h1:=hin_ _ h;have h2:=(o143).hid rg (hid_push.2 (.inr rfl));rw [hcr_] at h1;omega
     have hgh_:∀ b,c.inB b → ¬ hid c.gh0 b:=fun b h e=>by have h1:=hin_ _ h;rw [B_.gh0] at e;have h2:=(o143).hid b e;omega
     have hnhd_:¬ c.inB c.heard:=fun h=>by have h1:=hin_ _ h;rw [hch_] at h1;obtain ⟨b_,e_,h2,_⟩:=o144;rw [hhd_] at e_;cases e_;omega
     have hcn_:=B_.n
     have hcC_:=B_.C
     have hcA_:=B_.A
     have hzs_:=B_.zs
     have hP_:=B_.plOk hok hin
     have q318:At (Ty.rol c leads) t12 a30 (.tmp 2):=rol_of B_.ro (kq hs7 sm4 2 (D22.k q292))
     have q319:At (Ty.val v3_) t12 a30 (.tmp 3):=hv3_
     have q320:At (Ty.val x1) t12 a30 (.tmp 4):=(kq hs7 sm4 4 (D22.k q294))
     have q321:At (Ty.nat ((List.length leads) * (List.length l))) t12 a30 (.tmp 11):=(kq hs7 sm4 11 (D22.k q295))
     have q322:At (Ty.val (Jg lb 0)) t12 a30 (.tmp 13):=(kq hs7 sm4 13 (D22.k q296))
     have q323:At (Ty.val (Value.slice none 0 0)) t12 a30 (.tmp 18):=(kq hs7 sm4 18 (D22.k q297))
     have q324:At (Ty.val (Jg wg 0)) t12 a30 (.tmp 19):=(kq hs7 sm4 19 (D22.k q298))
     have q325:At (Ty.val (Jg rg 0)) t12 a30 (.tmp 20):=(kq hs7 sm4 20 (D22.k q299))
     have q326:At (Ty.val (chv c.heard)) t12 a30 (.tmp 21):=by rw [hch_];exact Eq.trans q317 hhd_
     have o146:OwnP t12 60 x1 [(Ty.val (Value.string nm)),(Ty.int n),(Ty.slen (List.length l))]:=OwnP.inn o145 hI_ dE (by intro T hT;simp only [List.mem_cons,List.not_mem_nil,or_false] at hT;rcases hT with rfl | rfl | rfl <;> first | exact free_val _ | exact free_slen _)
     refine Ja (Ja ?_)
     refine gI a30 t12 ok28 (gT (Ty.val (JZ x1 1)) rfl (fun B G H I J=>rP (Jn Try.fld24_1 Try.inf3 dE (OwnP.k0 o146 H) (kp (J 4 rfl) H q320))) (gS rfl (fun B G H I J d0=>rP (Jo Try.underlying3 rfl (OwnP.k0 o146 H) (eI d0) rfl)) (gT (Ty.int (0:Int)) rfl (fun B G H I J=>rP (Jc rfl)) (gE ok28 fun a31 s28 ok29 D23=>?_))));have o147:=OwnP.k0 o146 D23.stp;have o148:=PlM.k0 hp3 D23.stp
     have q338:At (Ty.nat n.toNat) s28 a31 (.tmp 86):=(cvi (by (exact hnn.symm)) (D23.m 1 rfl))
     refine tn (Je ?_)
     have o149:Own s28 70 68 1 (Value.slice none 0 0) 0 (List.map Ty.val ([]:List Value)):=Own.nil _ _ _ _
     refine Kf (fun n5 a32 w5=>∃ (t13:GW) (ch:List Ch) (x18_2:Value),t13.w = w5∧FromL [999,60,70,71,72,73,74,75,76,77,78,79,80,81,82,83,84,85,86,87,88,89] t12 t13∧Ok 162 [] a32∧At (Ty.nat ch.length) t13 a32 (.tmp 87)∧At (Ty.val x18_2) t13 a32 (.tmp 18)∧At (Ty.rol c leads) t13 a32 (.tmp 2)∧At (Ty.val v3_) t13 a32 (.tmp 3)∧At (Ty.val x1) t13 a32 (.tmp 4)∧At (Ty.nat ((List.length leads) * (List.length l))) t13 a32 (.tmp 11)∧At (Ty.val (Jg lb 0)) t13 a32 (.tmp 13)∧At (Ty.val (Jg wg 0)) t13 a32 (.tmp 19)∧At (Ty.val (Jg rg 0)) t13 a32 (.tmp 20)∧At (Ty.val (chv c.heard)) t13 a32 (.tmp 21)∧At (Ty.nat n.toNat) t13 a32 (.tmp 86)∧Own t13 70 68 1 x18_2 (List.length (JC ch)) (List.map Ty.val (JC ch))∧PlM c (c.nSpawn ch.length) ch t13∧OwnP t13 60 x1 [(Ty.val (Value.string nm)),(Ty.int n),(Ty.slen (List.length l))]∧(Aps c ch)∧(ch.length ≤ n.toNat)∧n5 = n.toNat - ch.length) (n.toNat - (([]:List Ch)).length) ?_ ?_
     ·
      exact ⟨s28,([]:List Ch),(Value.slice none 0 0),rfl,(F37.step0 D23.stp),ok29,(cJ (D23.m 2 rfl)),(D23.k q323),(D23.k q318),(D23.k q319),(D23.k q320),(D23.k q321),(D23.k q322),(D23.k q324),(D23.k q325),(D23.k q326),q338,(cvo (by (first | rfl | simp [JC])) (by (first | rfl | simp [JC])) o149),(Qy (by exact (if_pos (by rw [hcn_];show 0 < n.toNat;omega)).symm) rfl o148),o147,Aps.nil c,by simp,rfl⟩
     ·
      rintro n6 a33 w6 ⟨t14,ch,x18_2,rfl,F39,ok30,q339,q340,q341,q342,q343,q344,q345,q346,q347,q348,q349,o150,o151,o152,hA,hln,rfl⟩
      have hpl_:=ptrs_len ch
      refine Ja ?_
      refine gI a33 t14 ok30 (gS rfl (fun B G H I J=>rP (Jw (kp (J 87 rfl) H q339) (kp (J 86 rfl) H q349))) (gE ok30 fun a34 s29 ok31 D24=>?_));have F40:=F39.step0 D24.stp;have q350:=D24.k q339;have q351:=D24.k q340;have q352:=D24.k q341;have q353:=D24.k q342;have q354:=D24.k q343;have q355:=D24.k q344;have q357:=D24.k q346;have q359:=D24.k q348;have o153:=Own.k0 o150 D24.stp;have o154:=PlM.k0 o151 D24.stp;have o155:=OwnP.k0 o152 D24.stp;refine tn (Ja ?_)
      refine Jl (p:=(((ch.length:Nat):Int) < ((n.toNat:Nat):Int))) (D24.m 0 rfl) (fun c5=>?_) (fun c5=>?_)
      ·
       refine Jf (tn (Ja (Je (Ja ?_))))
       refine gI a34 s29 ok31 (gM q350 (gB 0 (gE ok31 fun a35 s30 ok32 D25=>?_)));have q371:=D25.k q359;have o156:=Own.k0 o153 D25.stp;have o157:=PlM.k0 o154 D25.stp;have o158:=OwnP.k0 o155 D25.stp;have q373:=D25.m 1 rfl;refine tn (Ja ?_)
       refine reg2 (a:=a35) (σ:=s30) rfl 8 (fun i_=>List.getD [(Ty.pr (Ty.nat ch.length)),(Ty.pr (Ty.nat ch.length)),(Pr.ownch 73 1),(Pr.ownch 74 0),(Ty.pr (Ty.val (chv c.heard))),(Pr.rgA 73 74 (Value.int .i64 ((ch.length:Nat):Int)) (Value.int .i64 ((ch.length:Nat):Int)) (chv c.heard)),(Pr.rgS 71 71 73 74 (Value.int .i64 ((ch.length:Nat):Int)) (Value.int .i64 ((ch.length:Nat):Int)) (chv c.heard)),(Pr.ownp 72 [Ty.val (Value.pointer none)])] i_ Pr.any) ok32 rfl dE rfl ⟨?_,?_,?_,?_,?_,?_,?_,?_,trivial⟩ ?_
       · intro B G H I J;exact rP (Jc (kp (J 22 rfl) H q373))
       · intro B G H I J;exact rP (Jc (kp (J 22 rfl) H q373))
       · intro B G H I J;exact rP (y_makeChan (cap:=1) 73 Try.underlying69 Try.inf3 rfl dE dE)
       · intro B G H I J;exact rP (y_makeChan (cap:=0) 74 Try.underlying69 Try.inf3 rfl dE dE)
       · intro B G H I J;exact rP (Jc (kp (J 21 rfl) H q371))
       · intro B G H I J d0 d1 d2 d3 d4
         have e2:OwnCh G 73 (B.eval (.tmp 92)) 1:=d2 rfl
         have e3:OwnCh G 74 (B.eval (.tmp 93)) 0:=d3 rfl
         have o2:One (Ty.val (B.eval (.tmp 92))):=by obtain ⟨b_,e_,_⟩:=e2;rw [e_];exact Jq rfl
         have o3:One (Ty.val (B.eval (.tmp 93))):=by obtain ⟨b_,e_,_⟩:=e3;rw [e_];exact Jq rfl
         refine QN rfl (Yld.monoS (y_bld [(0,.tmp 90,Ty.val (Value.int .i64 ((ch.length:Nat):Int))),(1,.tmp 91,Ty.val (Value.int .i64 ((ch.length:Nat):Int))),(2,.tmp 92,Ty.val (B.eval (.tmp 92))),(3,.tmp 93,Ty.val (B.eval (.tmp 93))),(4,.tmp 94,Ty.val (chv c.heard))] [Ty.int (0:Int),Ty.int (0:Int),Ty.val (Value.chan none),Ty.val (Value.chan none),Ty.val (Value.chan none)] (l:=[(0,1),(1,1),(2,1),(3,1),(4,1)]) rfl Try.inf71 rfl (Kr (vs:=[.int .i64 0,.int .i64 0,.chan none,.chan none,.chan none]) rfl) rfl ?_) (fun _ _ hs_ h_=>rgA_of (e2.k0 hs_) (e3.k0 hs_) h_))
         intro p hp;simp only [List.mem_cons,List.not_mem_nil,or_false] at hp;rcases hp with rfl | rfl | rfl | rfl | rfl
         · exact ⟨Jq rfl,d0 rfl⟩
         · exact ⟨Jq rfl,d1 rfl⟩
         · exact ⟨o2,rfl⟩
         · exact ⟨o3,rfl⟩
         · exact ⟨Jq rfl,d4 rfl⟩
       · intro B G H I J d0;exact rP (y_rgbox (kS:=71) (d0 rfl))
       · intro B G H I J;exact rP (y_alloc Try.inf68 rfl (Kr (vs:=[.pointer none]) rfl))
       intro a36 s31 D26;have ok33:=D26.ok
       have o159:Own s31 70 68 1 x18_2 (List.length (JC ch)) (List.map Ty.val (JC ch)):=Own.k0 o156 D26.stp
       have o160:PlM c (c.nSpawn ch.length) ch s31:=PlM.k0 o157 D26.stp
       have o161:OwnP s31 60 x1 [(Ty.val (Value.string nm)),(Ty.int n),(Ty.slen (List.length l))]:=OwnP.k0 o158 D26.stp
       have hrs_:Pr.has (Pr.rgS 71 71 73 74 (Value.int .i64 ((ch.length:Nat):Int)) (Value.int .i64 ((ch.length:Nat):Int)) (chv c.heard)) s31 (a36.eval (.tmp 96)):=D26.done 6 dE
       obtain ⟨S_,b1_,b2_,q385,q386,q387,q388⟩:=hrs_
       have hrp_:OwnP s31 72 (a36.eval (.tmp 23)) [Ty.val (Value.pointer none)]:=D26.done 7 dE
       have hrq_:=hrp_
       obtain ⟨vb_,_,_,q389,_⟩:=hrq_
       rw [q389] at hrp_
       rw [q385] at q386
       have q390:At (Ty.val (Jg S_ 0)) s31 a36 (.tmp 96):=q385
       have q385v:At (Ty.val (Jg vb_ 0)) s31 a36 (.tmp 23):=q389
       refine Xh (L:=[72]) (R:=(fun _ τ=>OwnP τ 72 (Jg vb_ 0) ([(Ty.val (Value.pointer none))].set 0 (Ty.val (Jg S_ 0))))) rfl rfl (YldM.toL (m_storep Try.inf68 dE hrp_ (ptr0 hrp_ q385v) (Xr rfl) q390 (Jq (OwnPT.one q386)))) (fun v4 s32 hs8 r6=>?_)
       have q391:=kpL hs8 dE rfl (D26.k (D25.k q350));have q392:=kpL hs8 dE rfl (D26.k (D25.k q351));have q393:=kpL hs8 dE rfl (D26.k (D25.k q352));have q394:=kpL hs8 dE rfl (D26.k (D25.k q353));have q395:=kpL hs8 dE rfl (D26.k (D25.k q354));have q396:=kpL hs8 dE rfl (D26.k (D25.k q355));have q397:=kpL hs8 dE rfl (D26.k (D25.k (D24.k q345)));have q398:=kpL hs8 dE rfl (D26.k (D25.k q357));have q399:=kpL hs8 dE rfl (D26.k (D25.k (D24.k q347)));have q400:=kpL hs8 dE rfl (D26.k q371);have q401:=kpL hs8 dE rfl (D26.k (D25.k (D24.k q349)));have q402:=kpL hs8 dE rfl q385v;have o164:=PlM.keepL o160 hs8 dE dE;have o166:=OwnPT.keepL q386 hs8 dE dE;have o167:=OwnCh.keepL q387 hs8 dE dE
       have o168:=OwnCh.keepL q388 hs8 dE dE
       have o162:OwnP s32 72 (Jg vb_ 0) [(Ty.val (Jg S_ 0))]:=r6
       clear r6;refine Jh (tn (Ja ?_))
       refine gI a36 s32 ok33 (gM q392 (gS rfl (fun B G H I J=>rP (Jo Try.underlying68 rfl (OwnP.k0 o162 H) (ptr0 (OwnP.k0 o162 H) (kp (J 23 rfl) H q402)) rfl)) (gT (Ty.sl 1 1 [(Ty.val (Jg S_ 0))]) rfl (fun B G H I J d0=>rP (KW Try.underlying54 Try.inf68 rfl (Jq rfl) (eI d0))) (gE2 ok33 fun a37 s33 ok34 D27=>?_))));have o169:=Own.k0 (Own.kl o159 hs8) D27.stp;have o170:=PlM.k0 o164 D27.stp;have o171:=OwnP.k0 (OwnP.kl o161 hs8) D27.stp;have o172:=OwnPT.k0 o166 D27.stp;have o173:=OwnCh.k0 o167 D27.stp;have o174:=OwnCh.k0 o168 D27.stp;have o175:=OwnP.k0 o162 D27.stp
       have q416:At (Ty.val x18_2) s33 a37 (.tmp 97):=D27.done 0 dE
       have q417:=D27.m 2 rfl
       have b5:=JS q417
       refine tL ok34 (YldM.toL (KC Try.underlying54 Try.inf68 dE rfl dE (al (R:=(Pr.own 70 68 1 (List.length (JC ch)) (List.map Ty.val (JC ch)))) q416 o169) q417 (by intro U hU;simp at hU;subst hU;exact Jq rfl) oM oM)) fun a38 s34 hs9 ok35 r7 sm5=>?_
       have q419:=kq hs9 sm5 18 (D27.k q392);have o177:=PlM.keepL o170 hs9 dE dE
       have o179:=OwnPT.keepL o172 hs9 dE dE;have o180:=OwnCh.keepL o173 hs9 dE dE;have o181:=OwnCh.keepL o174 hs9 dE dE
       obtain ⟨x7,hx7⟩:∃ x,a38.eval (.tmp 100) = x:=⟨_,rfl⟩
       have q430:At (Ty.val x7) s34 a38 (.tmp 100):=hx7
       have o176:=al2 (R:=(Pr.own 70 68 1 (List.length ((JC ch) ++ [(Jg S_ 0)])) (List.map Ty.val ((JC ch) ++ [(Jg S_ 0)])))) hx7 (cvo (by simp) (by first | (rw [List.map_append];rfl) | simp) r7)
       clear r7
       refine tL ok35 (Yld.toL (y_as q430)) fun a39 s35 hs10 ok36 r8 sm6=>?_
       have o183:=PlM.keepL o177 hs10 dE dE;have o185:=OwnPT.keepL o179 hs10 dE dE
       have o186:=OwnCh.keepL o180 hs10 dE dE;have o187:=OwnCh.keepL o181 hs10 dE dE
       have q442:At (Ty.val x7) s35 a39 (.tmp 18):=r8
       clear r8;refine Jh (tn (Ja ?_))
       have o190:PlM c .spawn ch s35:=Qy (by exact if_pos oM) rfl o183
       refine regX (a:=a39) (σ:=s35) rfl 0 (fun i_=>List.getD [] i_ Pr.any) ok36 rfl dE rfl (by rfl) trivial ?_
       intro a40 s36 D28;have ok37:=D28.ok;have q449:=D28.k (kq hs10 sm6 19 (kq hs9 sm5 19 (D27.k q398)))
       have o191:PlM c .spawn ch s36:=PlM.k0 o190 D28.stp
       have o192:OwnP s36 60 x1 [(Ty.val (Value.string nm)),(Ty.int n),(Ty.slen (List.length l))]:=OwnP.k0 (OwnP.kl (OwnP.kl o171 hs9) hs10) D28.stp
       have o193:OwnPT 71 s36 71 (Jg S_ 0) [(Ty.int ((ch.length:Nat):Int)),(Ty.int ((ch.length:Nat):Int)),(Ty.val (chv b1_)),(Ty.val (chv b2_)),(Ty.val (chv c.heard))]:=OwnPT.k0 o185 D28.stp
       have o194:OwnCh s36 73 (chv b1_) 1:=OwnCh.k0 o186 D28.stp
       have o195:OwnCh s36 74 (chv b2_) 0:=OwnCh.k0 o187 D28.stp
       have o196:OwnP s36 72 (Jg vb_ 0) [(Ty.val (Jg S_ 0))]:=OwnP.k0 (OwnP.kl (OwnP.kl o175 hs9) hs10) D28.stp
       have o197:Own s36 70 68 1 x7 (List.length ((JC ch) ++ [(Jg S_ 0)])) (List.map Ty.val ((JC ch) ++ [(Jg S_ 0)])):=Own.k0 (Own.kl o176 hs10) D28.stp
       refine xm_add Try.wgLib B_.tWg ok37 rfl (by intro e_ h_;cases h_ <;> decide) o191 (by rw [hcw_];exact q449) rfl ?_
       intro a41 t15 hs11 ho1 hst1 ok38 hu3 sm7;have F48:=(((((((F40.step0 D25.stp).step0 D26.stp).sl hs8).step0 D27.stp).sl hs9).sl hs10).step0 D28.stp).step hs11 dE
       have q455:At (Ty.nat ch.length) t15 a41 (.tmp 87):=kp9 hs11 (sm7 87 dE) (D28.k (kq hs10 sm6 87 (kq hs9 sm5 87 (D27.k q391))))
       have q456:At (Ty.rol c leads) t15 a41 (.tmp 2):=kp9 hs11 (sm7 2 dE) (D28.k (kq hs10 sm6 2 (kq hs9 sm5 2 (D27.k q393))))
       have q457:At (Ty.val v3_) t15 a41 (.tmp 3):=kp9 hs11 (sm7 3 dE) (D28.k (kq hs10 sm6 3 (kq hs9 sm5 3 (D27.k q394))))
       have q458:At (Ty.val x1) t15 a41 (.tmp 4):=kp9 hs11 (sm7 4 dE) (D28.k (kq hs10 sm6 4 (kq hs9 sm5 4 (D27.k q395))))
       have q459:At (Ty.nat ((List.length leads) * (List.length l))) t15 a41 (.tmp 11):=kp9 hs11 (sm7 11 dE) (D28.k (kq hs10 sm6 11 (kq hs9 sm5 11 (D27.k q396))))
       have q460:At (Ty.val (Jg lb 0)) t15 a41 (.tmp 13):=kp9 hs11 (sm7 13 dE) (D28.k (kq hs10 sm6 13 (kq hs9 sm5 13 (D27.k q397))))
       have q461:At (Ty.val (Jg wg 0)) t15 a41 (.tmp 19):=kp9 hs11 (sm7 19 dE) q449
       have q462:At (Ty.val (Jg rg 0)) t15 a41 (.tmp 20):=kp9 hs11 (sm7 20 dE) (D28.k (kq hs10 sm6 20 (kq hs9 sm5 20 (D27.k q399))))
       have q463:At (Ty.val (chv c.heard)) t15 a41 (.tmp 21):=kp9 hs11 (sm7 21 dE) (D28.k (kq hs10 sm6 21 (kq hs9 sm5 21 (D27.k q400))))
       have q464:At (Ty.nat n.toNat) t15 a41 (.tmp 86):=kp9 hs11 (sm7 86 dE) (D28.k (kq hs10 sm6 86 (kq hs9 sm5 86 (D27.k q401))))
       have q465:At (Ty.val (Jg vb_ 0)) t15 a41 (.tmp 23):=kp9 hs11 (sm7 23 dE) (D28.k (kq hs10 sm6 23 (kq hs9 sm5 23 (D27.k q402))))
       have q466:At (Ty.val x7) t15 a41 (.tmp 18):=kp9 hs11 (sm7 18 dE) (D28.k q442)
       have o198:OwnP t15 60 x1 [(Ty.val (Value.string nm)),(Ty.int n),(Ty.slen (List.length l))]:=OwnP.keepL o192 (hs11.toL (L:=[999]) (by simp)) dE dE
       have o199:OwnPT 71 t15 71 (Jg S_ 0) [(Ty.int ((ch.length:Nat):Int)),(Ty.int ((ch.length:Nat):Int)),(Ty.val (chv b1_)),(Ty.val (chv b2_)),(Ty.val (chv c.heard))]:=OwnPT.keepL o193 (hs11.toL (L:=[999]) (by simp)) dE dE
       have o200:OwnCh t15 73 (chv b1_) 1:=OwnCh.keepL o194 (hs11.toL (L:=[999]) (by simp)) dE dE
       have o201:OwnCh t15 74 (chv b2_) 0:=OwnCh.keepL o195 (hs11.toL (L:=[999]) (by simp)) dE dE
       have o202:OwnP t15 72 (Jg vb_ 0) [(Ty.val (Jg S_ 0))]:=OwnP.keepL o196 (hs11.toL (L:=[999]) (by simp)) dE dE
       have o203:Own t15 70 68 1 x7 (List.length ((JC ch) ++ [(Jg S_ 0)])) (List.map Ty.val ((JC ch) ++ [(Jg S_ 0)])):=Own.keepL o197 (hs11.toL (L:=[999]) (by simp)) dE dE
       have o204:PlM c .ago ch t15:=(o191).to hst1 ho1
       refine XT.fin ?_
       refine tn ?_
       refine regX (a:=a41) (σ:=t15) rfl 1 (fun i_=>List.getD [(Ty.pr (Ty.val (Value.func (Fn.func 26) #[] #[(Jg wg 0),(Jg rg 0),(Jg vb_ 0),(Jg lb 0)])))] i_ Pr.any) ok38 rfl dE rfl (by rfl) ⟨?_,trivial⟩ ?_
       · intro B G H I J;exact rP (y_mkfn (by simp only [List.map_toArray,List.map_cons,List.map_nil];rw [show B.eval (.tmp 19) = (Jg wg 0) from (kp (J 19 rfl) H q461),show B.eval (.tmp 20) = (Jg rg 0) from (kp (J 20 rfl) H q462),show B.eval (.tmp 23) = (Jg vb_ 0) from (kp (J 23 rfl) H q465),show B.eval (.tmp 13) = (Jg lb 0) from (kp (J 13 rfl) H q460)]))
       intro a42 s37 D29;have ok39:=D29.ok
       have o205:OwnP s37 60 x1 [(Ty.val (Value.string nm)),(Ty.int n),(Ty.slen (List.length l))]:=OwnP.k0 o198 D29.stp
       have o206:OwnPT 71 s37 71 (Jg S_ 0) [(Ty.int ((ch.length:Nat):Int)),(Ty.int ((ch.length:Nat):Int)),(Ty.val (chv b1_)),(Ty.val (chv b2_)),(Ty.val (chv c.heard))]:=OwnPT.k0 o199 D29.stp
       have o207:OwnCh s37 73 (chv b1_) 1:=OwnCh.k0 o200 D29.stp
       have o208:OwnCh s37 74 (chv b2_) 0:=OwnCh.k0 o201 D29.stp
       have o209:OwnP s37 72 (Jg vb_ 0) [(Ty.val (Jg S_ 0))]:=OwnP.k0 o202 D29.stp
       have o210:Own s37 70 68 1 x7 (List.length ((JC ch) ++ [(Jg S_ 0)])) (List.map Ty.val ((JC ch) ++ [(Jg S_ 0)])):=Own.k0 o203 D29.stp
       have o211:PlM c .ago ch s37:=PlM.k0 o204 D29.stp
       have hfn_:a42.eval (.tmp 102) = .func (.func 26) #[] #[Jg c.wg 0,Jg c.rung 0,Jg vb_ 0,Jg lb 0]:=by rw [hcw_,hcr_];exact (D29.m 0 rfl)
       have hSo_:OwnPT c.tS s37 71 (Jg S_ 0) [Ty.int ((ch.length:Nat):Int),Ty.int ((c.pl ch.length 0:Nat):Int),Ty.val (chv b1_),Ty.val (chv b2_),Ty.val (chv c.heard)]:=by rw [B_.tS,B_.pl];exact o206
       refine xm_go (h:=⟨S_,vb_,b2_,b1_⟩) (kS:=71) (kv:=72) (kg:=74) (kh:=73) (f:=goOf c.wg c.rung vb_ lb) ok39 rfl rfl rfl (fun w_=>(go_run hfn_ w_).1) (fun w_=>(go_run hfn_ w_).2) rfl o211 hSo_ o209 o208 o207 dE dE (fun w_ e_ hN_ hv_ hst_ hr_=>ring1 (okc:=ok_of hN_ hst_ (.inl rfl) (.inr (.inl rfl)) hnrb_) (lnsE n.toNat l cs) B_.tWg (B_.rgN hok hin hlim oM) oM B_.zi B_.zq (rg_born B_.ro hst_.lin hv_ hlbs_) hN_.row hst_.live hr_) (fun t16 hs12 hp4 hx8=>?_)
       have hsn_:=hx8
       have q479:=kpL hs12 dE rfl (D29.k q455);have q480:=kpL hs12 dE rfl (D29.k q456);have q481:=kpL hs12 dE rfl (D29.k q457);have q482:=kpL hs12 dE rfl (D29.k q458);have q483:=kpL hs12 dE rfl (D29.k q459);have q484:=kpL hs12 dE rfl (D29.k q460);have q485:=kpL hs12 dE rfl (D29.k q461);have q486:=kpL hs12 dE rfl (D29.k q462);have q487:=kpL hs12 dE rfl (D29.k q463);have q488:=kpL hs12 dE rfl (D29.k q464);have q489:=kpL hs12 dE rfl (D29.k q466)
       have o212:OwnP t16 60 x1 [(Ty.val (Value.string nm)),(Ty.int n),(Ty.slen (List.length l))]:=OwnP.kl o205 hs12
       have o213:Own t16 70 68 1 x7 (List.length ((JC ch) ++ [(Jg S_ 0)])) (List.map Ty.val ((JC ch) ++ [(Jg S_ 0)])):=Own.kl o210 hs12
       refine XT.fin ?_
       refine bn (tn ?_)
       refine gI a42 t16 ok39 (gT (Ty.nat (ch.length + 1)) rfl (fun B G H I J=>rP ((JF (kp (J 87 rfl) H q479) rfl wX).mono (fun τ _ h=>cN (σ:=τ) h))) (gS rfl (fun B G H I J d0=>rP (Jc (eI d0))) (gE ok39 fun a43 s38 ok40 D30=>?_)));have o214:=OwnP.k0 o212 D30.stp;have o215:=Own.k0 o213 D30.stp;have o216:=PlM.k0 hp4 D30.stp
       exact tn ⟨n.toNat - ((ch ++ [Ch.mk S_ vb_ b2_ b1_])).length,by (rw [List.length_append,List.length_singleton];omega),s38,(ch ++ [Ch.mk S_ vb_ b2_ b1_]),x7,rfl,(((F48.step0 D29.stp).sl hs12).step0 D30.stp),ok40,(cvi (by (first | rfl | simp)) (D30.m 1 rfl)),(D30.k q489),(D30.k q480),(D30.k q481),(D30.k q482),(D30.k q483),(D30.k q484),(D30.k q485),(D30.k q486),(D30.k q487),(D30.k q488),(cvo (by (first | rfl | simp [JC])) (by (first | rfl | simp [JC])) o215),(Qy (by first | rfl | simp) rfl o216),o214,hA.snoc hsn_,by (rw [List.length_append,List.length_singleton];omega),rfl⟩
      ·
       refine Jv (tx (tx (bx (tn (Ja ?_)))))
       refine gI a34 s29 ok31 (gC (Ty.val (Value.slice none 0 0)) (gE ok31 fun a44 s39 ok41 D31=>?_));have o217:=Own.k0 o153 D31.stp;have o218:=PlM.k0 o154 D31.stp;have o219:=OwnP.k0 o155 D31.stp;refine tn (Ja (Ja ?_))
       refine gI a44 s39 ok41 (gC (Ty.int (0:Int)) (gE ok41 fun a45 s40 ok42 D32=>?_));have o220:=Own.k0 o217 D32.stp;have o221:=PlM.k0 o218 D32.stp;have o222:=OwnP.k0 o219 D32.stp
       have o223:RowsI s40 76 3 ([]:List Value) ([]:List (List Int)):=grid_0I _ _ _ 0
       refine tn (Je ?_)
       have o224:Own s40 75 26 1 (Value.slice none 0 0) 0 (List.map Ty.val ([]:List Value)):=Own.nil _ _ _ _
       refine Kf (fun n7 a46 w7=>∃ (t17:GW) (s:Nat) (us:List Value) (xss:List (List Int)) (x24_3:Value),t17.w = w7∧FromL [999,60,70,71,72,73,74,75,76,77,78,79,80,81,82,83,84,85,86,87,88,89] t12 t17∧Ok 162 [] a46∧At (Ty.nat s) t17 a46 (.tmp 25)∧At (Ty.val x24_3) t17 a46 (.tmp 24)∧At (Ty.val x18_2) t17 a46 (.tmp 18)∧At (Ty.rol c leads) t17 a46 (.tmp 2)∧At (Ty.val v3_) t17 a46 (.tmp 3)∧At (Ty.val x1) t17 a46 (.tmp 4)∧At (Ty.nat ((List.length leads) * (List.length l))) t17 a46 (.tmp 11)∧At (Ty.val (Jg wg 0)) t17 a46 (.tmp 19)∧At (Ty.val (chv c.heard)) t17 a46 (.tmp 21)∧Own t17 75 26 1 x24_3 (List.length us) (List.map Ty.val us)∧RowsI t17 76 3 us xss∧PlM c (c.nRow s) ch t17∧Own t17 70 68 1 x18_2 (List.length (JC ch)) (List.map Ty.val (JC ch))∧OwnP t17 60 x1 [(Ty.val (Value.string nm)),(Ty.int n),(Ty.slen (List.length l))]∧(xss = (JA n.toNat l cs leads leads.length).take s)∧(s ≤ leads.length * l.length + 1)∧(us.length = s)∧n7 = leads.length * l.length + 1 - s) (leads.length * l.length + 1 - (0)) ?_ ?_
       ·
        exact ⟨s40,0,([]:List Value),([]:List (List Int)),(Value.slice none 0 0),rfl,((F40.step0 D31.stp).step0 D32.stp),ok42,(cJ (D32.m 0 rfl)),(D32.k (D31.m 0 rfl)),(D32.k (D31.k q351)),(D32.k (D31.k q352)),(D32.k (D31.k q353)),(D32.k (D31.k q354)),(D32.k (D31.k q355)),(D32.k (D31.k q357)),(D32.k (D31.k q359)),(cvo (by (simp)) (by (simp)) o224),(cvgI (by (rfl)) (by (rfl)) o223),(Qy (by unfold Co.nSpawn;rw [if_neg oM]) rfl o221),o220,o222,by simp,by omega,rfl,rfl⟩
       ·
        rintro n8 a47 w8 ⟨t18,s,us,xss,x24_3,rfl,F54,ok43,q518,q519,q520,q521,q522,q523,q524,q525,q526,o225,o226,o227,o228,o229,hxs,hsA,hul,rfl⟩
        refine Ja (Ja ?_)
        refine gI a47 t18 ok43 (gM q518 (gM q524 (gS rfl (fun B G H I J d0 d1=>rP (y_leq (eI d0) (eI d1))) (gE ok43 fun a48 s41 ok44 D33=>?_))));have F55:=F54.step0 D33.stp;have q527:=D33.k q518;have q528:=D33.k q519;have q529:=D33.k q520;have q531:=D33.k q522;have q532:=D33.k q523;have q533:=D33.k q524;have q534:=D33.k q525;have o230:=Own.k0 o225 D33.stp;have o231:=RowsI.k0 o226 D33.stp;have o232:=PlM.k0 o227 D33.stp;have o233:=Own.k0 o228 D33.stp;have o234:=OwnP.k0 o229 D33.stp;refine tn ?_
        refine Jl (p:=(((s:Nat):Int) ≤ ((((List.length leads) * (List.length l)):Nat):Int))) (D33.m 2 rfl) (fun c6=>?_) (fun c6=>?_)
        ·
         refine Jf (tn (Ja (Je (Ja (Ja ?_)))))
         refine gI a48 s41 ok44 (gM q527 (gM q533 (gS rfl (fun B G H I J d0 d1=>rP (Jw (eI d0) (eI d1))) (gS rfl (fun B G H I J d0=>rP (Jc (eI d0))) (gS rfl (fun B G H I J d0=>gu I (eI d0) fun hg=>Jc (kp (J 25 rfl) H q527)) (gT (Ty.grd ((decide (((s:Nat):Int) < ((((List.length leads) * (List.length l)):Nat):Int))) = true) (Ty.val (JZ x1 2))) rfl (fun B G H I J d0=>gut I (eI d0) fun hg hp=>Jn Try.fld24_2 Try.inf22 dE (OwnP.k0 o234 H) (kp (J 4 rfl) H q532)) (gS rfl (fun B G H I J d0 d1=>gu I (eI d1) fun hg=>Jo Try.underlying22 rfl (OwnP.k0 o234 H) ((ef d0 rfl).1 hg) rfl) (gT (Ty.grd ((decide (((s:Nat):Int) < ((((List.length leads) * (List.length l)):Nat):Int))) = true) (Ty.nat (List.length l))) rfl (fun B G H I J d0 d1=>gu I (eI d1) fun hg=>y_lenS Try.underlying22 ((ef d0 rfl).1 hg)) (gT (Ty.grd ((decide (((s:Nat):Int) < ((((List.length leads) * (List.length l)):Nat):Int))) = true) (Ty.nat (s % (List.length l)))) rfl (fun B G H I J d0 d1 d2=>gut I (eI d2) fun hg hp=>y_remN ((ef d0 rfl).1 hg) ((ef d1 rfl).1 hg) oM) (gS rfl (fun B G H I J d0 d1=>gu I (eI d1) fun hg=>Qb ((ef d0 rfl).1 hg) rfl) (gS rfl (fun B G H I J d0 d1=>rP (Jp (eI d0) (eI d1) rfl)) (gE ok44 fun a49 s42 ok45 D34=>?_))))))))))));have F56:=F55.step0 D34.stp;have q537:=D34.k q527;have q538:=D34.k q528;have q539:=D34.k q529;have q540:=D34.k (D33.k q521);have q541:=D34.k q531;have q542:=D34.k q532;have q543:=D34.k q533;have q544:=D34.k q534;have q545:=D34.k (D33.k q526);have o235:=Own.k0 o230 D34.stp;have o236:=RowsI.k0 o231 D34.stp;have o237:=PlM.k0 o232 D34.stp;have o238:=Own.k0 o233 D34.stp;have o239:=OwnP.k0 o234 D34.stp;refine tn ?_
         refine JR (D34.m 10 rfl) (fun c7=>?_) (fun c7=>?_)
         ·
          obtain ⟨d1,d2⟩:=Xo c7
          replace d1:=Xq d1
          replace d2:=Xq d2
          simp only [Bool.and_eq_true,decide_eq_true_eq] at c7;have hsl_:s / l.length < leads.length:=Nat.div_lt_of_lt_mul (by rw [Nat.mul_comm];omega)
          refine Ja ?_
          have o240:PlM c (.hears s 0) ch s42:=Qy (by unfold Co.nRow;rw [if_neg oM,if_pos ⟨by rw [hcC_];omega,by omega⟩]) rfl o237
          refine gI a49 s42 ok45 (gM q539 (gT (Ty.nat (List.length (JC ch))) rfl (fun B G H I J d0=>rP (own_len Try.underlying54 (al (R:=(Pr.own 70 68 1 (List.length (JC ch)) (List.map Ty.val (JC ch)))) (eI d0) (Own.k0 o238 H)))) (gT (Ty.int (0:Int)) rfl (fun B G H I J=>rP (Jc rfl)) (gE ok45 fun a50 s43 ok46 D35=>?_))));have o241:=Own.k0 o235 D35.stp;have o242:=RowsI.k0 o236 D35.stp;have o243:=PlM.k0 o240 D35.stp;have o244:=Own.k0 o238 D35.stp;have o245:=OwnP.k0 o239 D35.stp
          have q556:At (Ty.val x18_2) s43 a50 (.tmp 120):=D35.done 0
          refine tn (Je ?_)
          refine Kf (fun n9 a51 w9=>∃ (t19:GW) (r:Nat),t19.w = w9∧FromL [999,60,70,71,72,73,74,75,76,77,78,79,80,81,82,83,84,85,86,87,88,89] t12 t19∧Ok 162 [] a51∧At (Ty.nat r) t19 a51 (.tmp 122)∧At (Ty.nat s) t19 a51 (.tmp 25)∧At (Ty.val x24_3) t19 a51 (.tmp 24)∧At (Ty.val x18_2) t19 a51 (.tmp 18)∧At (Ty.rol c leads) t19 a51 (.tmp 2)∧At (Ty.val v3_) t19 a51 (.tmp 3)∧At (Ty.val x1) t19 a51 (.tmp 4)∧At (Ty.nat ((List.length leads) * (List.length l))) t19 a51 (.tmp 11)∧At (Ty.val (Jg wg 0)) t19 a51 (.tmp 19)∧At (Ty.val (chv c.heard)) t19 a51 (.tmp 21)∧At (Ty.val x18_2) t19 a51 (.tmp 120)∧At (Ty.nat (List.length (JC ch))) t19 a51 (.tmp 121)∧PlM c (c.nHears s r) ch t19∧Own t19 75 26 1 x24_3 (List.length us) (List.map Ty.val us)∧RowsI t19 76 3 us xss∧Own t19 70 68 1 x18_2 (List.length (JC ch)) (List.map Ty.val (JC ch))∧OwnP t19 60 x1 [(Ty.val (Value.string nm)),(Ty.int n),(Ty.slen (List.length l))]∧(r ≤ c.n)∧n9 = c.n - r) (c.n - (0)) ?_ ?_
          ·
           exact ⟨s43,0,rfl,(F56.step0 D35.stp),ok46,(cJ (D35.m 2 rfl)),(D35.k q537),(D35.k q538),(D35.k q539),(D35.k q540),(D35.k q541),(D35.k q542),(D35.k q543),(D35.k q544),(D35.k q545),q556,(D35.m 1 rfl),(Qy (by exact (if_pos oM).symm) rfl o243),o241,o242,o244,o245,by omega,rfl⟩
          ·
           rintro n10 a52 w10 ⟨t20,r,rfl,F58,ok47,q559,q560,q561,q562,q563,q564,q565,q566,q567,q568,q569,q570,o246,o247,o248,o249,o250,hr,rfl⟩
           refine Ja ?_
           refine gI a52 t20 ok47 (gS rfl (fun B G H I J=>rP (Jw (kp (J 122 rfl) H q559) (kp (J 121 rfl) H q570))) (gE ok47 fun a53 s44 ok48 D36=>?_));have F59:=F58.step0 D36.stp;have q571:=D36.k q559;have q572:=D36.k q560;have q573:=D36.k q561;have q574:=D36.k q562;have q575:=D36.k q563;have q576:=D36.k q564;have q577:=D36.k q565;have q578:=D36.k q566;have q579:=D36.k q567;have q580:=D36.k q568;have q581:=D36.k q569;have o251:=PlM.k0 o246 D36.stp;have o252:=Own.k0 o247 D36.stp;have o253:=RowsI.k0 o248 D36.stp;have o254:=Own.k0 o249 D36.stp;have o255:=OwnP.k0 o250 D36.stp;refine tn (Ja ?_)
           refine Jl (p:=(((r:Nat):Int) < (((List.length (JC ch)):Nat):Int))) (D36.m 0 rfl) (fun c8=>?_) (fun c8=>?_)
           ·
            obtain ⟨h,hh⟩:∃ h,ch[r]? = some h:=⟨_,List.getElem?_eq_getElem (show r < ch.length by omega)⟩
            refine Jf (tn (Ja (Je (Ja ?_))))
            refine gI a53 s44 ok48 (gT (Ty.val (JU x18_2 r)) rfl (fun B G H I J=>rP (Kn (i:=((r:Nat):Int)) Try.underlying54 Try.inf68 (Own.k0 o254 H) (kp (J 120 rfl) H q581) (kp (J 122 rfl) H q571) oM oM)) (gS rfl (fun B G H I J d0=>rP (QT Try.underlying68 rfl (Own.k0 o254 H) (eI d0) (Ju Ty.val (JC ch) undef r oM))) (gB 0 (gE ok48 fun a54 s45 ok49 D37=>?_))));have q585:=D37.k q572;have q588:=D37.k q575;have q590:=D37.k q577;have o256:=PlM.k0 o251 D37.stp;have o257:=Own.k0 o252 D37.stp;have o258:=RowsI.k0 o253 D37.stp;have o259:=Own.k0 o254 D37.stp;have o260:=OwnP.k0 o255 D37.stp
            have q597:At (Ty.val (Jg h.S 0)) s45 a54 (.tmp 27):=(cvt (by (rw [ptrs_at hh])) (D37.m 2 rfl))
            refine tn ?_
            have o261:PlM c (.hears s r) ch s45:=Qy (by exact if_pos oM) rfl o256
            refine regX (a:=a54) (σ:=s45) rfl 12 (fun i_=>List.getD [(Ty.pr (Ty.val (Jg h.S 0))),(Ty.pr (Ty.val (Jg h.S 0))),(Ty.pr (Ty.val (Jg h.S 2))),(Ty.pr (Ty.val (chv h.hears))),(Ty.pr (Ty.rol c leads)),(Ty.pr (Ty.nat s)),(Ty.pr (Ty.val (JZ x1 2))),(Ty.pr (Ty.slen (List.length l))),(Ty.pr (Ty.nat (List.length l))),(Ty.pr (Ty.nat (s / (List.length l)))),(Ty.pr (Ty.roc c (Value.int .i64 (leads.getD (s / (List.length l)) 0)))),(Ty.pr (Ty.int (leads.getD (s / (List.length l)) 0)))] i_ Pr.any) ok49 rfl dE rfl (by rfl) ⟨?_,?_,?_,?_,?_,?_,?_,?_,?_,?_,?_,?_,trivial⟩ ?_
            · intro B G H I J;exact rP (Jc (kp (J 27 rfl) H q597))
            · intro B G H I J d0;exact rP (KS (eI d0))
            · intro B G H I J d0;exact rP (JY Try.fld71_2 Try.inf69 dE (eI d0) rfl)
            · intro B G H I J d0
              exact cj_ldS Try.underlying69 rfl (PlM.k0 o261 H) (eI d0) hh dE rfl
            · intro B G H I J;exact rP (Jc (kp (J 2 rfl) H q588))
            · intro B G H I J;exact rP (Jc (kp (J 25 rfl) H q585))
            · intro B G H I J;exact rP (Jn Try.fld24_2 Try.inf22 dE (OwnP.k0 o260 H) (kp (J 4 rfl) H q590))
            · intro B G H I J d0;exact rP (Jo Try.underlying22 rfl (OwnP.k0 o260 H) (eI d0) rfl)
            · intro B G H I J d0;exact rP (y_lenS Try.underlying22 (eI d0))
            · intro B G H I J d0 d1;exact rP (y_quoN (eI d0) (eI d1) oM oM)
            · intro B G H I J d0 d1;exact rP (y_indexO (i:=(s / (List.length l))) Try.underlying26 Try.inf3 (eI d0) (eI d1) oM)
            · intro B G H I J d0
              exact cj_ldR Try.underlying3 rfl (PlM.k0 o261 H) (eI d0)
            intro a55 s46 D38;have ok50:=D38.ok
            have o262:PlM c (.hears s r) ch s46:=PlM.k0 o261 D38.stp
            have o263:Own s46 75 26 1 x24_3 (List.length us) (List.map Ty.val us):=Own.k0 o257 D38.stp
            have o264:RowsI s46 76 3 us xss:=RowsI.k0 o258 D38.stp
            have o265:Own s46 70 68 1 x18_2 (List.length (JC ch)) (List.map Ty.val (JC ch)):=Own.k0 o259 D38.stp
            have o266:OwnP s46 60 x1 [(Ty.val (Value.string nm)),(Ty.int n),(Ty.slen (List.length l))]:=OwnP.k0 o260 D38.stp
            refine xm_hears (j:=s) (r:=r) ok50 rfl (by intro e_ h_;cases h_ <;> decide) o262 hh (D38.m 3 rfl) (by rw [B_.q,hcC_];exact (D38.m 11 rfl)) ?_
            intro a56 t21 hs13 ho2 hst2 ok51 hu4 sm8;have F62:=((F59.step0 D37.stp).step0 D38.stp).step hs13 dE
            have q612:At (Ty.nat r) t21 a56 (.tmp 122):=kp9 hs13 (sm8 122 dE) (D38.k (D37.k q571))
            have q613:At (Ty.nat s) t21 a56 (.tmp 25):=kp9 hs13 (sm8 25 dE) (D38.k q585)
            have q614:At (Ty.val x24_3) t21 a56 (.tmp 24):=kp9 hs13 (sm8 24 dE) (D38.k (D37.k q573))
            have q615:At (Ty.val x18_2) t21 a56 (.tmp 18):=kp9 hs13 (sm8 18 dE) (D38.k (D37.k q574))
            have q616:At (Ty.rol c leads) t21 a56 (.tmp 2):=kp9 hs13 (sm8 2 dE) (D38.k q588)
            have q617:At (Ty.val v3_) t21 a56 (.tmp 3):=kp9 hs13 (sm8 3 dE) (D38.k (D37.k q576))
            have q618:At (Ty.val x1) t21 a56 (.tmp 4):=kp9 hs13 (sm8 4 dE) (D38.k q590)
            have q619:At (Ty.nat ((List.length leads) * (List.length l))) t21 a56 (.tmp 11):=kp9 hs13 (sm8 11 dE) (D38.k (D37.k q578))
            have q620:At (Ty.val (Jg wg 0)) t21 a56 (.tmp 19):=kp9 hs13 (sm8 19 dE) (D38.k (D37.k q579))
            have q621:At (Ty.val (chv c.heard)) t21 a56 (.tmp 21):=kp9 hs13 (sm8 21 dE) (D38.k (D37.k q580))
            have q622:At (Ty.val x18_2) t21 a56 (.tmp 120):=kp9 hs13 (sm8 120 dE) (D38.k (D37.k q581))
            have q623:At (Ty.nat (List.length (JC ch))) t21 a56 (.tmp 121):=kp9 hs13 (sm8 121 dE) (D38.k (D37.k (D36.k q570)))
            have o267:Own t21 75 26 1 x24_3 (List.length us) (List.map Ty.val us):=Own.keepL o263 (hs13.toL (L:=[999]) (by simp)) dE dE
            have o268:RowsI t21 76 3 us xss:=RowsI.keepL o264 (hs13.toL (L:=[999]) (by simp)) dE dE
            have o269:Own t21 70 68 1 x18_2 (List.length (JC ch)) (List.map Ty.val (JC ch)):=Own.keepL o265 (hs13.toL (L:=[999]) (by simp)) dE dE
            have o270:OwnP t21 60 x1 [(Ty.val (Value.string nm)),(Ty.int n),(Ty.slen (List.length l))]:=OwnP.keepL o266 (hs13.toL (L:=[999]) (by simp)) dE dE
            have o271:PlM c (c.nHears s (r + 1)) ch t21:=(o262).to hst2 ho2
            refine XT.fin ?_
            refine bn (tn ?_)
            refine gI a56 t21 ok51 (gT (Ty.nat (r + 1)) rfl (fun B G H I J=>rP ((JF (kp (J 122 rfl) H q612) rfl wX).mono (fun τ _ h=>cN (σ:=τ) h))) (gS rfl (fun B G H I J d0=>rP (Jc (eI d0))) (gE ok51 fun a57 s47 ok52 D39=>?_)));have o272:=Own.k0 o267 D39.stp;have o273:=RowsI.k0 o268 D39.stp;have o274:=Own.k0 o269 D39.stp;have o275:=OwnP.k0 o270 D39.stp;have o276:=PlM.k0 o271 D39.stp
            exact tn ⟨c.n - ((r+1)),by omega,s47,(r+1),rfl,(F62.step0 D39.stp),ok52,(cJ (D39.m 1 rfl)),(D39.k q613),(D39.k q614),(D39.k q615),(D39.k q616),(D39.k q617),(D39.k q618),(D39.k q619),(D39.k q620),(D39.k q621),(D39.k q622),(D39.k q623),(Qy (by rfl) rfl o276),o272,o273,o274,o275,by omega,rfl⟩
           ·
            refine Jv (tx (tx (bx (tn ?_))))
            have o277:PlM c (.goes s 0) ch s44:=Qy (by first | (exact if_neg oM) | (unfold Co.nRow;rw [if_neg oM,if_neg (by rw [hcC_,hcA_];exact hng_)])) rfl o251
            refine gI a53 s44 ok48 (gM q573 (gM q574 (gM q580 (gM q572 (gE2 ok48 fun a58 s48 ok53 D40=>?_)))));have o278:=PlM.k0 o277 D40.stp;have o279:=Own.k0 o252 D40.stp;have o280:=RowsI.k0 o253 D40.stp;have o281:=Own.k0 o254 D40.stp;have o282:=OwnP.k0 o255 D40.stp
            have q645:At (Ty.val x24_3) s48 a58 (.tmp 139):=D40.done 0 dE
            have q646:At (Ty.val x18_2) s48 a58 (.tmp 140):=D40.done 1 dE
            refine tailL (R:=(fun v τ'=>∃ τ,(fun v τ=>∃ (row:List Int),∃ (r:Value),(Ty.has (Ty.val r) τ v)∧(Own τ 40 68 1 x18_2 (List.length (JC ch)) (List.map Ty.val (JC ch)))∧(Own τ 41 3 1 r (List.length row) (List.map Ty.int row))∧(PlM c (c.nRow ((s) + 1)) ch τ)∧(RowAt c (s) row)) v τ∧Back [(40,70),(999,999),(41,77)] τ τ')) rfl rfl dE ok53 (y_callL (L:=[40,999]) [(70,40),(999,999)] [(40,70),(999,999),(41,77)] #[a58.eval (.tmp 140),a58.eval (.tmp 141),a58.eval (.tmp 142)] rfl dE Try.func30 rfl rfl my3 (listen_fn (_) (s) (x18_2) _ lW _ _ _ (uL q646) (uL (D40.m 2 rfl)) (uL (cvi (σ:=s48) oM (D40.m 3 rfl))) (Own.ren o281 (GW.ren_lend _ _ dE rfl)) (PlM.ren (Qy (by rfl) rfl o278) (GW.ren_lend _ _ dE rfl)) oM oM oM oM oM oM)) (fun a59 s49 hs14 ok54 r9 sm9=>?_) (Go.KL.Qu (fun _ _ _ hz_ hy_=>by obtain ⟨e0_,e1_,h0_,h1_,h2_,h3_,h4_⟩:=hy_;exact ⟨e0_,e1_,Ty.up _ hz_.le0 h0_,Own.k0 h1_ hz_,Own.k0 h2_ hz_,PlM.k0 h3_ hz_,h4_⟩))
            have o290:=RowsI.keepL o280 hs14 dE dE
            obtain ⟨t22,⟨g1,x8,hT1,o283,o284,o285,hp5⟩,B1⟩:=r9
            have q659:At (Ty.val x8) s49 a59 (.tmp 143):=Ty.up _ B1.le hT1
            have o286:Own s49 70 68 1 x18_2 (List.length (JC ch)) (List.map Ty.val (JC ch)):=Own.ren o283 (B1.ren dE rfl)
            have o287:Own s49 77 3 1 x8 (List.length (g1)) (List.map Ty.int (g1)):=Own.ren o284 (B1.ren dE rfl)
            have o288:PlM c (c.nRow ((s) + 1)) ch s49:=PlM.ren o285 (B1.ren dE rfl)
            refine tL (R:=(fun v τ=>Pr.has (Ty.pr (Ty.sl 1 1 [(Ty.val x8)])) τ v)) ok54 (Yld.toL (KW Try.underlying22 Try.inf26 rfl (Jq (Own.one o287)) q659)) fun a60 s50 hs15 ok55 r10 sm10=>?_
            have o293:=RowsI.keepL o290 hs15 dE dE
            have o296:=Own.kl o287 hs15;have o297:=PlM.keepL o288 hs15 dE dE
            have q670:At (Ty.sl 1 1 [(Ty.val x8)]) s50 a60 (.tmp 144):=r10
            clear r10
            refine tL ok55 (YldM.toL (KC Try.underlying22 Try.inf26 dE rfl dE (al (R:=(Pr.own 75 26 1 (List.length us) (List.map Ty.val us))) (kq hs15 sm10 139 (kq hs14 sm9 139 q645)) (Own.kl (Own.kl o279 hs14) hs15)) q670 (by intro U hU;simp at hU;subst hU;exact Jq (Own.one o296)) oM oM)) fun a61 s51 hs16 ok56 r11 sm11=>?_
            have q672:=kq hs16 sm11 24 (kq hs15 sm10 24 (kq hs14 sm9 24 (D40.k q573)));have o299:=RowsI.keepL o293 hs16 dE dE;have o303:=PlM.keepL o297 hs16 dE dE
            obtain ⟨x9,hx9⟩:∃ x,a61.eval (.tmp 145) = x:=⟨_,rfl⟩
            have q680:At (Ty.val x9) s51 a61 (.tmp 145):=hx9
            have o298:=al2 (R:=(Pr.own 75 26 1 (List.length (us ++ [x8])) (List.map Ty.val (us ++ [x8])))) hx9 (cvo (by simp) (by first | (rw [List.map_append];rfl) | simp) r11)
            clear r11
            refine tL ok56 (Yld.toL (y_as q680)) fun a62 s52 hs17 ok57 r12 sm12=>?_
            have o304:=RowsI.keepL o299 hs17 dE dE;have o308:=PlM.keepL o303 hs17 dE dE
            have q689:At (Ty.val x9) s52 a62 (.tmp 24):=r12
            clear r12;refine Jh ?_
            have o310:RowsI s52 76 3 (us ++ [(Value.slice none 0 0)]) (xss ++ [[]]):=RowsI.snoc o304
            obtain ⟨t23,e6,h6,o311,o312⟩:=RowsI.focus o310 (i:=List.length us) (by simp) dE 79 dE
            rw [← e6]
            have F69:=(((((F59.step0 D40.stp).sl hs14).sl hs15).sl hs16).sl hs17).step h6 dE
            have q690:At (Ty.nat s) t23 a62 (.tmp 25):=Ty.up _ (h6.le dE) (kq hs17 sm12 25 (kq hs16 sm11 25 (kq hs15 sm10 25 (kq hs14 sm9 25 (D40.k q572)))))
            have q691:At (Ty.val x18_2) t23 a62 (.tmp 18):=Ty.up _ (h6.le dE) (kq hs17 sm12 18 (kq hs16 sm11 18 (kq hs15 sm10 18 (kq hs14 sm9 18 (D40.k q574)))))
            have q692:At (Ty.rol c leads) t23 a62 (.tmp 2):=Ty.up _ (h6.le dE) (kq hs17 sm12 2 (kq hs16 sm11 2 (kq hs15 sm10 2 (kq hs14 sm9 2 (D40.k q575)))))
            have q693:At (Ty.val v3_) t23 a62 (.tmp 3):=Ty.up _ (h6.le dE) (kq hs17 sm12 3 (kq hs16 sm11 3 (kq hs15 sm10 3 (kq hs14 sm9 3 (D40.k q576)))))
            have q694:At (Ty.val x1) t23 a62 (.tmp 4):=Ty.up _ (h6.le dE) (kq hs17 sm12 4 (kq hs16 sm11 4 (kq hs15 sm10 4 (kq hs14 sm9 4 (D40.k q577)))))
            have q695:At (Ty.nat ((List.length leads) * (List.length l))) t23 a62 (.tmp 11):=Ty.up _ (h6.le dE) (kq hs17 sm12 11 (kq hs16 sm11 11 (kq hs15 sm10 11 (kq hs14 sm9 11 (D40.k q578)))))
            have q696:At (Ty.val (Jg wg 0)) t23 a62 (.tmp 19):=Ty.up _ (h6.le dE) (kq hs17 sm12 19 (kq hs16 sm11 19 (kq hs15 sm10 19 (kq hs14 sm9 19 (D40.k q579)))))
            have q697:At (Ty.val (chv c.heard)) t23 a62 (.tmp 21):=Ty.up _ (h6.le dE) (kq hs17 sm12 21 (kq hs16 sm11 21 (kq hs15 sm10 21 (kq hs14 sm9 21 (D40.k q580)))))
            have q698:At (Ty.val x9) t23 a62 (.tmp 24):=Ty.up _ (h6.le dE) q689
            have o313:=OwnP.keepL (OwnP.kl (OwnP.kl (OwnP.kl (OwnP.kl o282 hs14) hs15) hs16) hs17) (h6.toL (L:=[76]) (by simp)) dE dE;have o314:=Own.keepL (Own.kl (Own.kl (Own.kl o286 hs15) hs16) hs17) (h6.toL (L:=[76]) (by simp)) dE dE;have o315:=Own.keepL (Own.kl (Own.kl o296 hs16) hs17) (h6.toL (L:=[76]) (by simp)) dE dE;have o316:=PlM.keepL o308 (h6.toL (L:=[76]) (by simp)) dE dE;have o317:=Own.keepL (Own.kl o298 hs17) (h6.toL (L:=[76]) (by simp)) dE dE
            obtain ⟨t24,e7,h7,o318⟩:=RestI.unfocus (ys:=(g1)) o312 o315 (by first | rfl | simp) (by first | rfl | simp) dE dE dE
            rw [← e7]
            have F70:=F69.step h7 dE
            have q699:At (Ty.nat s) t24 a62 (.tmp 25):=Ty.up _ (h7.le dE) q690
            have q700:At (Ty.val x18_2) t24 a62 (.tmp 18):=Ty.up _ (h7.le dE) q691
            have q701:At (Ty.rol c leads) t24 a62 (.tmp 2):=Ty.up _ (h7.le dE) q692
            have q702:At (Ty.val v3_) t24 a62 (.tmp 3):=Ty.up _ (h7.le dE) q693
            have q703:At (Ty.val x1) t24 a62 (.tmp 4):=Ty.up _ (h7.le dE) q694
            have q704:At (Ty.nat ((List.length leads) * (List.length l))) t24 a62 (.tmp 11):=Ty.up _ (h7.le dE) q695
            have q705:At (Ty.val (Jg wg 0)) t24 a62 (.tmp 19):=Ty.up _ (h7.le dE) q696
            have q706:At (Ty.val (chv c.heard)) t24 a62 (.tmp 21):=Ty.up _ (h7.le dE) q697
            have q707:At (Ty.val x9) t24 a62 (.tmp 24):=Ty.up _ (h7.le dE) q698
            have o319:=OwnP.keepL o313 (h7.toL (L:=[77]) (by simp)) dE dE;have o320:=Own.keepL o314 (h7.toL (L:=[77]) (by simp)) dE dE;have o321:=PlM.keepL o316 (h7.toL (L:=[77]) (by simp)) dE dE;have o322:=Own.keepL o317 (h7.toL (L:=[77]) (by simp)) dE dE
            have hgl_:(List.length us) = (List.length xss):=(o304).1
            have o323:RowsI t24 76 3 (us ++ [x8]) (xss ++ [(g1)]):=cvgI (by simp) (by rw [hgl_];simp) o318
            have hrow_:=hp5
            refine bn (tn ?_)
            refine gI a62 t24 ok57 (gM q699 (gT (Ty.nat (s + 1)) rfl (fun B G H I J d0=>rP ((JF (eI d0) rfl wX).mono (fun τ _ h=>cN (σ:=τ) h))) (gB 0 (gE ok57 fun a63 s53 ok58 D41=>?_))));have o324:=OwnP.k0 o319 D41.stp;have o325:=Own.k0 o320 D41.stp;have o326:=PlM.k0 o321 D41.stp;have o327:=Own.k0 o322 D41.stp;have o328:=RowsI.k0 o323 D41.stp
            exact tn ⟨leads.length * l.length + 1 - ((s + 1)),by omega,s53,(s + 1),(us ++ [x8]),(xss ++ [g1]),x9,rfl,(F70.step0 D41.stp),ok58,(cJ (D41.m 2 rfl)),(D41.k q707),(D41.k q700),(D41.k q701),(D41.k q702),(D41.k q703),(D41.k q704),(D41.k q705),(D41.k q706),(cvo (by (first | rfl | simp)) (by (first | rfl | simp)) o327),(cvgI (by (first | rfl | simp)) (by (first | rfl | simp)) o328),(Qy (by rfl) rfl o326),o325,o324,by (rw [hxs,rowAt_eq hok hin hcn_ B_.pl oM hrow_];exact (QF [] (by rw [QB hok hin _ (Nat.le_refl _)];omega)).symm),by omega,by (rw [List.length_append,List.length_singleton,hul]),rfl⟩
         ·
          have hng_:¬ (s % l.length = 0∧s < leads.length * l.length):=(fun h_=>by simp only [Bool.and_eq_false_iff,decide_eq_false_iff_not] at c7;omega)
          refine Jf (tn ?_)
          have o329:PlM c (.goes s 0) ch s42:=Qy (by first | (exact if_neg oM) | (unfold Co.nRow;rw [if_neg oM,if_neg (by rw [hcC_,hcA_];exact hng_)])) rfl o237
          refine gI a49 s42 ok45 (gM q538 (gM q539 (gM q545 (gM q537 (gE2 ok45 fun a64 s54 ok59 D42=>?_)))));have o330:=Own.k0 o235 D42.stp;have o331:=RowsI.k0 o236 D42.stp;have o332:=PlM.k0 o329 D42.stp;have o333:=Own.k0 o238 D42.stp;have o334:=OwnP.k0 o239 D42.stp
          have q726:At (Ty.val x24_3) s54 a64 (.tmp 139):=D42.done 0 dE
          have q727:At (Ty.val x18_2) s54 a64 (.tmp 140):=D42.done 1 dE
          refine tailL (R:=(fun v τ'=>∃ τ,(fun v τ=>∃ (row:List Int),∃ (r:Value),(Ty.has (Ty.val r) τ v)∧(Own τ 40 68 1 x18_2 (List.length (JC ch)) (List.map Ty.val (JC ch)))∧(Own τ 41 3 1 r (List.length row) (List.map Ty.int row))∧(PlM c (c.nRow ((s) + 1)) ch τ)∧(RowAt c (s) row)) v τ∧Back [(40,70),(999,999),(41,77)] τ τ')) rfl rfl dE ok59 (y_callL (L:=[40,999]) [(70,40),(999,999)] [(40,70),(999,999),(41,77)] #[a64.eval (.tmp 140),a64.eval (.tmp 141),a64.eval (.tmp 142)] rfl dE Try.func30 rfl rfl my3 (listen_fn (_) (s) (x18_2) _ lW _ _ _ (uL q727) (uL (D42.m 2 rfl)) (uL (cvi (σ:=s54) oM (D42.m 3 rfl))) (Own.ren o333 (GW.ren_lend _ _ dE rfl)) (PlM.ren (Qy (by rfl) rfl o332) (GW.ren_lend _ _ dE rfl)) oM oM oM oM oM oM)) (fun a65 s55 hs18 ok60 r13 sm13=>?_) (Go.KL.Qu (fun _ _ _ hz_ hy_=>by obtain ⟨e0_,e1_,h0_,h1_,h2_,h3_,h4_⟩:=hy_;exact ⟨e0_,e1_,Ty.up _ hz_.le0 h0_,Own.k0 h1_ hz_,Own.k0 h2_ hz_,PlM.k0 h3_ hz_,h4_⟩))
          have o342:=RowsI.keepL o331 hs18 dE dE
          obtain ⟨t25,⟨g2,x10,hT2,o335,o336,o337,hp6⟩,B2⟩:=r13
          have q740:At (Ty.val x10) s55 a65 (.tmp 143):=Ty.up _ B2.le hT2
          have o338:Own s55 70 68 1 x18_2 (List.length (JC ch)) (List.map Ty.val (JC ch)):=Own.ren o335 (B2.ren dE rfl)
          have o339:Own s55 77 3 1 x10 (List.length (g2)) (List.map Ty.int (g2)):=Own.ren o336 (B2.ren dE rfl)
          have o340:PlM c (c.nRow ((s) + 1)) ch s55:=PlM.ren o337 (B2.ren dE rfl)
          refine tL (R:=(fun v τ=>Pr.has (Ty.pr (Ty.sl 1 1 [(Ty.val x10)])) τ v)) ok60 (Yld.toL (KW Try.underlying22 Try.inf26 rfl (Jq (Own.one o339)) q740)) fun a66 s56 hs19 ok61 r14 sm14=>?_
          have o345:=RowsI.keepL o342 hs19 dE dE
          have o348:=Own.kl o339 hs19;have o349:=PlM.keepL o340 hs19 dE dE
          have q751:At (Ty.sl 1 1 [(Ty.val x10)]) s56 a66 (.tmp 144):=r14
          clear r14
          refine tL ok61 (YldM.toL (KC Try.underlying22 Try.inf26 dE rfl dE (al (R:=(Pr.own 75 26 1 (List.length us) (List.map Ty.val us))) (kq hs19 sm14 139 (kq hs18 sm13 139 q726)) (Own.kl (Own.kl o330 hs18) hs19)) q751 (by intro U hU;simp at hU;subst hU;exact Jq (Own.one o348)) oM oM)) fun a67 s57 hs20 ok62 r15 sm15=>?_
          have q753:=kq hs20 sm15 24 (kq hs19 sm14 24 (kq hs18 sm13 24 (D42.k q538)));have o351:=RowsI.keepL o345 hs20 dE dE;have o355:=PlM.keepL o349 hs20 dE dE
          obtain ⟨x11,hx10⟩:∃ x,a67.eval (.tmp 145) = x:=⟨_,rfl⟩
          have q761:At (Ty.val x11) s57 a67 (.tmp 145):=hx10
          have o350:=al2 (R:=(Pr.own 75 26 1 (List.length (us ++ [x10])) (List.map Ty.val (us ++ [x10])))) hx10 (cvo (by simp) (by first | (rw [List.map_append];rfl) | simp) r15)
          clear r15
          refine tL ok62 (Yld.toL (y_as q761)) fun a68 s58 hs21 ok63 r16 sm16=>?_
          have o356:=RowsI.keepL o351 hs21 dE dE;have o360:=PlM.keepL o355 hs21 dE dE
          have q770:At (Ty.val x11) s58 a68 (.tmp 24):=r16
          clear r16;refine Jh ?_
          have o362:RowsI s58 76 3 (us ++ [(Value.slice none 0 0)]) (xss ++ [[]]):=RowsI.snoc o356
          obtain ⟨t26,e8,h8,o363,o364⟩:=RowsI.focus o362 (i:=List.length us) (by simp) dE 79 dE
          rw [← e8]
          have F77:=(((((F56.step0 D42.stp).sl hs18).sl hs19).sl hs20).sl hs21).step h8 dE
          have q771:At (Ty.nat s) t26 a68 (.tmp 25):=Ty.up _ (h8.le dE) (kq hs21 sm16 25 (kq hs20 sm15 25 (kq hs19 sm14 25 (kq hs18 sm13 25 (D42.k q537)))))
          have q772:At (Ty.val x18_2) t26 a68 (.tmp 18):=Ty.up _ (h8.le dE) (kq hs21 sm16 18 (kq hs20 sm15 18 (kq hs19 sm14 18 (kq hs18 sm13 18 (D42.k q539)))))
          have q773:At (Ty.rol c leads) t26 a68 (.tmp 2):=Ty.up _ (h8.le dE) (kq hs21 sm16 2 (kq hs20 sm15 2 (kq hs19 sm14 2 (kq hs18 sm13 2 (D42.k q540)))))
          have q774:At (Ty.val v3_) t26 a68 (.tmp 3):=Ty.up _ (h8.le dE) (kq hs21 sm16 3 (kq hs20 sm15 3 (kq hs19 sm14 3 (kq hs18 sm13 3 (D42.k q541)))))
          have q775:At (Ty.val x1) t26 a68 (.tmp 4):=Ty.up _ (h8.le dE) (kq hs21 sm16 4 (kq hs20 sm15 4 (kq hs19 sm14 4 (kq hs18 sm13 4 (D42.k q542)))))
          have q776:At (Ty.nat ((List.length leads) * (List.length l))) t26 a68 (.tmp 11):=Ty.up _ (h8.le dE) (kq hs21 sm16 11 (kq hs20 sm15 11 (kq hs19 sm14 11 (kq hs18 sm13 11 (D42.k q543)))))
          have q777:At (Ty.val (Jg wg 0)) t26 a68 (.tmp 19):=Ty.up _ (h8.le dE) (kq hs21 sm16 19 (kq hs20 sm15 19 (kq hs19 sm14 19 (kq hs18 sm13 19 (D42.k q544)))))
          have q778:At (Ty.val (chv c.heard)) t26 a68 (.tmp 21):=Ty.up _ (h8.le dE) (kq hs21 sm16 21 (kq hs20 sm15 21 (kq hs19 sm14 21 (kq hs18 sm13 21 (D42.k q545)))))
          have q779:At (Ty.val x11) t26 a68 (.tmp 24):=Ty.up _ (h8.le dE) q770
          have o365:=OwnP.keepL (OwnP.kl (OwnP.kl (OwnP.kl (OwnP.kl o334 hs18) hs19) hs20) hs21) (h8.toL (L:=[76]) (by simp)) dE dE;have o366:=Own.keepL (Own.kl (Own.kl (Own.kl o338 hs19) hs20) hs21) (h8.toL (L:=[76]) (by simp)) dE dE;have o367:=Own.keepL (Own.kl (Own.kl o348 hs20) hs21) (h8.toL (L:=[76]) (by simp)) dE dE;have o368:=PlM.keepL o360 (h8.toL (L:=[76]) (by simp)) dE dE;have o369:=Own.keepL (Own.kl o350 hs21) (h8.toL (L:=[76]) (by simp)) dE dE
          obtain ⟨t27,e9,h9,o370⟩:=RestI.unfocus (ys:=(g2)) o364 o367 (by first | rfl | simp) (by first | rfl | simp) dE dE dE
          rw [← e9]
          have F78:=F77.step h9 dE
          have q780:At (Ty.nat s) t27 a68 (.tmp 25):=Ty.up _ (h9.le dE) q771
          have q781:At (Ty.val x18_2) t27 a68 (.tmp 18):=Ty.up _ (h9.le dE) q772
          have q782:At (Ty.rol c leads) t27 a68 (.tmp 2):=Ty.up _ (h9.le dE) q773
          have q783:At (Ty.val v3_) t27 a68 (.tmp 3):=Ty.up _ (h9.le dE) q774
          have q784:At (Ty.val x1) t27 a68 (.tmp 4):=Ty.up _ (h9.le dE) q775
          have q785:At (Ty.nat ((List.length leads) * (List.length l))) t27 a68 (.tmp 11):=Ty.up _ (h9.le dE) q776
          have q786:At (Ty.val (Jg wg 0)) t27 a68 (.tmp 19):=Ty.up _ (h9.le dE) q777
          have q787:At (Ty.val (chv c.heard)) t27 a68 (.tmp 21):=Ty.up _ (h9.le dE) q778
          have q788:At (Ty.val x11) t27 a68 (.tmp 24):=Ty.up _ (h9.le dE) q779
          have o371:=OwnP.keepL o365 (h9.toL (L:=[77]) (by simp)) dE dE;have o372:=Own.keepL o366 (h9.toL (L:=[77]) (by simp)) dE dE;have o373:=PlM.keepL o368 (h9.toL (L:=[77]) (by simp)) dE dE;have o374:=Own.keepL o369 (h9.toL (L:=[77]) (by simp)) dE dE
          have hgl_:(List.length us) = (List.length xss):=(o356).1
          have o375:RowsI t27 76 3 (us ++ [x10]) (xss ++ [(g2)]):=cvgI (by simp) (by rw [hgl_];simp) o370
          have hrow_:=hp6
          refine bn (tn ?_)
          refine gI a68 t27 ok63 (gM q780 (gT (Ty.nat (s + 1)) rfl (fun B G H I J d0=>rP ((JF (eI d0) rfl wX).mono (fun τ _ h=>cN (σ:=τ) h))) (gB 0 (gE ok63 fun a69 s59 ok64 D43=>?_))));have o376:=OwnP.k0 o371 D43.stp;have o377:=Own.k0 o372 D43.stp;have o378:=PlM.k0 o373 D43.stp;have o379:=Own.k0 o374 D43.stp;have o380:=RowsI.k0 o375 D43.stp
          exact tn ⟨leads.length * l.length + 1 - ((s + 1)),by omega,s59,(s + 1),(us ++ [x10]),(xss ++ [g2]),x11,rfl,(F78.step0 D43.stp),ok64,(cJ (D43.m 2 rfl)),(D43.k q788),(D43.k q781),(D43.k q782),(D43.k q783),(D43.k q784),(D43.k q785),(D43.k q786),(D43.k q787),(cvo (by (first | rfl | simp)) (by (first | rfl | simp)) o379),(cvgI (by (first | rfl | simp)) (by (first | rfl | simp)) o380),(Qy (by rfl) rfl o378),o377,o376,by (rw [hxs,rowAt_eq hok hin hcn_ B_.pl oM hrow_];exact (QF [] (by rw [QB hok hin _ (Nat.le_refl _)];omega)).symm),by omega,by (rw [List.length_append,List.length_singleton,hul]),rfl⟩
        ·
         refine Jv (tx (tx (bx (tn (Ja (Ja ?_))))))
         refine gI a48 s41 ok44 (gM q529 (gT (Ty.nat (List.length (JC ch))) rfl (fun B G H I J d0=>rP (own_len Try.underlying54 (al (R:=(Pr.own 70 68 1 (List.length (JC ch)) (List.map Ty.val (JC ch)))) (eI d0) (Own.k0 o233 H)))) (gT (Ty.int (0:Int)) rfl (fun B G H I J=>rP (Jc rfl)) (gE ok44 fun a70 s60 ok65 D44=>?_))));have o381:=Own.k0 o230 D44.stp;have o382:=RowsI.k0 o231 D44.stp;have o383:=PlM.k0 o232 D44.stp;have o384:=Own.k0 o233 D44.stp;have o385:=OwnP.k0 o234 D44.stp
         have q801:At (Ty.val x18_2) s60 a70 (.tmp 146):=D44.done 0
         refine tn (Je ?_)
         refine Kf (fun n11 a71 w11=>∃ (t28:GW) (r:Nat),t28.w = w11∧FromL [999,60,70,71,72,73,74,75,76,77,78,79,80,81,82,83,84,85,86,87,88,89] t12 t28∧Ok 162 [] a71∧At (Ty.nat r) t28 a71 (.tmp 148)∧At (Ty.val x24_3) t28 a71 (.tmp 24)∧At (Ty.val v3_) t28 a71 (.tmp 3)∧At (Ty.val (Jg wg 0)) t28 a71 (.tmp 19)∧At (Ty.val x18_2) t28 a71 (.tmp 146)∧At (Ty.nat (List.length (JC ch))) t28 a71 (.tmp 147)∧PlM c (c.nClose r) ch t28∧Own t28 75 26 1 x24_3 (List.length us) (List.map Ty.val us)∧RowsI t28 76 3 us xss∧Own t28 70 68 1 x18_2 (List.length (JC ch)) (List.map Ty.val (JC ch))∧(r ≤ c.n)∧n11 = c.n - r) (c.n - (0)) ?_ ?_
         ·
          exact ⟨s60,0,rfl,(F55.step0 D44.stp),ok65,(cJ (D44.m 2 rfl)),(D44.k q528),(D44.k q531),(D44.k q534),q801,(D44.m 1 rfl),(Qy (by unfold Co.nRow;rw [if_pos (by rw [hcA_];omega)]) rfl o383),o381,o382,o384,by omega,rfl⟩
         ·
          rintro n12 a72 w12 ⟨t29,r,rfl,F81,ok66,q804,q805,q806,q807,q808,q809,o386,o387,o388,o389,hr,rfl⟩
          refine Ja ?_
          refine gI a72 t29 ok66 (gS rfl (fun B G H I J=>rP (Jw (kp (J 148 rfl) H q804) (kp (J 147 rfl) H q809))) (gE ok66 fun a73 s61 ok67 D45=>?_));have F82:=F81.step0 D45.stp;have q810:=D45.k q804;have q811:=D45.k q805;have q812:=D45.k q806;have q813:=D45.k q807;have q814:=D45.k q808;have o390:=PlM.k0 o386 D45.stp;have o391:=Own.k0 o387 D45.stp;have o392:=RowsI.k0 o388 D45.stp;have o393:=Own.k0 o389 D45.stp;refine tn (Ja ?_)
          refine Jl (p:=(((r:Nat):Int) < (((List.length (JC ch)):Nat):Int))) (D45.m 0 rfl) (fun c9=>?_) (fun c9=>?_)
          ·
           obtain ⟨h,hh⟩:∃ h,ch[r]? = some h:=⟨_,List.getElem?_eq_getElem (show r < ch.length by omega)⟩
           refine Jf (tn (Ja (Je (Ja ?_))))
           refine gI a73 s61 ok67 (gT (Ty.val (JU x18_2 r)) rfl (fun B G H I J=>rP (Kn (i:=((r:Nat):Int)) Try.underlying54 Try.inf68 (Own.k0 o393 H) (kp (J 146 rfl) H q814) (kp (J 148 rfl) H q810) oM oM)) (gS rfl (fun B G H I J d0=>rP (QT Try.underlying68 rfl (Own.k0 o393 H) (eI d0) (Ju Ty.val (JC ch) undef r oM))) (gB 0 (gE ok67 fun a74 s62 ok68 D46=>?_))));have o394:=PlM.k0 o390 D46.stp;have o395:=Own.k0 o391 D46.stp;have o396:=RowsI.k0 o392 D46.stp;have o397:=Own.k0 o393 D46.stp
           have q824:At (Ty.val (Jg h.S 0)) s62 a74 (.tmp 29):=(cvt (by (rw [ptrs_at hh])) (D46.m 2 rfl))
           refine tn ?_
           have o398:PlM c (.close r) ch s62:=Qy (by exact if_pos oM) rfl o394
           refine regX (a:=a74) (σ:=s62) rfl 4 (fun i_=>List.getD [(Ty.pr (Ty.val (Jg h.S 0))),(Ty.pr (Ty.val (Jg h.S 0))),(Ty.pr (Ty.val (Jg h.S 3))),(Ty.pr (Ty.val (chv h.goes)))] i_ Pr.any) ok68 rfl dE rfl (by rfl) ⟨?_,?_,?_,?_,trivial⟩ ?_
           · intro B G H I J;exact rP (Jc (kp (J 29 rfl) H q824))
           · intro B G H I J d0;exact rP (KS (eI d0))
           · intro B G H I J d0;exact rP (JY Try.fld71_3 Try.inf69 dE (eI d0) rfl)
           · intro B G H I J d0
             exact cj_ldS Try.underlying69 rfl (PlM.k0 o398 H) (eI d0) hh dE rfl
           intro a75 s63 D47;have ok69:=D47.ok
           have o399:PlM c (.close r) ch s63:=PlM.k0 o398 D47.stp
           have o400:Own s63 75 26 1 x24_3 (List.length us) (List.map Ty.val us):=Own.k0 o395 D47.stp
           have o401:RowsI s63 76 3 us xss:=RowsI.k0 o396 D47.stp
           have o402:Own s63 70 68 1 x18_2 (List.length (JC ch)) (List.map Ty.val (JC ch)):=Own.k0 o397 D47.stp
           have hm_:=List.mem_of_getElem? hh
           refine xm_close (r:=r) ok69 rfl (by intro e_ h_;cases h_ <;> decide) o399 hh (D47.m 3 rfl) (hA.wg _ hm_) (fun x hx=>hA.nS x hx _ hm_) (hA.nin _ hm_).2.2.1 ?_
           intro a76 t30 hs22 ho3 hst3 ok70 hu5 sm17;have F85:=((F82.step0 D46.stp).step0 D47.stp).step hs22 dE
           have q832:At (Ty.nat r) t30 a76 (.tmp 148):=kp9 hs22 (sm17 148 dE) (D47.k (D46.k q810))
           have q833:At (Ty.val x24_3) t30 a76 (.tmp 24):=kp9 hs22 (sm17 24 dE) (D47.k (D46.k q811))
           have q834:At (Ty.val v3_) t30 a76 (.tmp 3):=kp9 hs22 (sm17 3 dE) (D47.k (D46.k q812))
           have q835:At (Ty.val (Jg wg 0)) t30 a76 (.tmp 19):=kp9 hs22 (sm17 19 dE) (D47.k (D46.k q813))
           have q836:At (Ty.val x18_2) t30 a76 (.tmp 146):=kp9 hs22 (sm17 146 dE) (D47.k (D46.k q814))
           have q837:At (Ty.nat (List.length (JC ch))) t30 a76 (.tmp 147):=kp9 hs22 (sm17 147 dE) (D47.k (D46.k (D45.k q809)))
           have o403:Own t30 75 26 1 x24_3 (List.length us) (List.map Ty.val us):=Own.keepL o400 (hs22.toL (L:=[999]) (by simp)) dE dE
           have o404:RowsI t30 76 3 us xss:=RowsI.keepL o401 (hs22.toL (L:=[999]) (by simp)) dE dE
           have o405:Own t30 70 68 1 x18_2 (List.length (JC ch)) (List.map Ty.val (JC ch)):=Own.keepL o402 (hs22.toL (L:=[999]) (by simp)) dE dE
           have o406:PlM c (c.nClose (r + 1)) ch t30:=(o399).to hst3 ho3
           refine XT.fin ?_
           refine bn (tn ?_)
           refine gI a76 t30 ok70 (gT (Ty.nat (r + 1)) rfl (fun B G H I J=>rP ((JF (kp (J 148 rfl) H q832) rfl wX).mono (fun τ _ h=>cN (σ:=τ) h))) (gS rfl (fun B G H I J d0=>rP (Jc (eI d0))) (gE ok70 fun a77 s64 ok71 D48=>?_)));have o407:=Own.k0 o403 D48.stp;have o408:=RowsI.k0 o404 D48.stp;have o409:=Own.k0 o405 D48.stp;have o410:=PlM.k0 o406 D48.stp
           exact tn ⟨c.n - ((r+1)),by omega,s64,(r+1),rfl,(F85.step0 D48.stp),ok71,(cJ (D48.m 1 rfl)),(D48.k q833),(D48.k q834),(D48.k q835),(D48.k q836),(D48.k q837),(Qy (by rfl) rfl o410),o407,o408,o409,by omega,rfl⟩
          ·
           refine Jv (tx (tx (bx (tn (Ja ?_)))))
           have o411:PlM c .kd ch s61:=Qy (by exact if_neg oM) rfl o390
           refine regX (a:=a73) (σ:=s61) rfl 0 (fun i_=>List.getD [] i_ Pr.any) ok67 rfl dE rfl (by rfl) trivial ?_
           intro a78 s65 D49;have ok72:=D49.ok
           have o412:PlM c .kd ch s65:=PlM.k0 o411 D49.stp
           have o413:Own s65 75 26 1 x24_3 (List.length us) (List.map Ty.val us):=Own.k0 o391 D49.stp
           have o414:RowsI s65 76 3 us xss:=RowsI.k0 o392 D49.stp
           have o415:Own s65 70 68 1 x18_2 (List.length (JC ch)) (List.map Ty.val (JC ch)):=Own.k0 o393 D49.stp
           refine xm_wait Try.wgLib B_.tWg (by rw [hcn_];omega) ok72 rfl (by intro e_ h_;cases h_ <;> decide) o412 (by rw [hcw_];exact (D49.k q813)) ?_
           intro a79 t31 hs23 ho4 hst4 ok73 hu6 sm18;have F88:=(F82.step0 D49.stp).step hs23 dE
           have q847:At (Ty.val x24_3) t31 a79 (.tmp 24):=kp9 hs23 (sm18 24 dE) (D49.k q811)
           have q848:At (Ty.val v3_) t31 a79 (.tmp 3):=kp9 hs23 (sm18 3 dE) (D49.k q812)
           have o416:Own t31 75 26 1 x24_3 (List.length us) (List.map Ty.val us):=Own.keepL o413 (hs23.toL (L:=[999]) (by simp)) dE dE
           have o417:RowsI t31 76 3 us xss:=RowsI.keepL o414 (hs23.toL (L:=[999]) (by simp)) dE dE
           have o418:Own t31 70 68 1 x18_2 (List.length (JC ch)) (List.map Ty.val (JC ch)):=Own.keepL o415 (hs23.toL (L:=[999]) (by simp)) dE dE
           have o419:PlM c .back ch t31:=(o412).to hst4 ho4
           refine XT.fin ?_
           refine tn ?_
           refine xp_back o419 (hA.back hgh_ hnhd_) (fun b o h=>(roOf_some (by rw [← B_.ro];exact h)).2.2) (by rw [B_.gh0,hcw_];exact hid_push.2 (.inl (hid_push.2 (.inr rfl)))) (by rw [B_.gh0,hcr_];exact hid_push.2 (.inr rfl)) (fun t32 hB1 hp7=>?_)
           have F89:=Bck.from F0s_ hI_ B_.ro dE dE F88 hB1
           have hle_:=Bck.le hI_ B_.ro dE F88 hB1
           have q849:At (Ty.val x24_3) t32 a79 (.tmp 24):=Ty.up _ (hB1.stp.le dE) q847
           have q850:At (Ty.lstc 3 Qd sl) t32 a79 (.tmp 3):=by have e_:a79.eval (.tmp 3) = v3_:=q848;show Ty.has _ _ _;rw [e_];exact Ty.up _ hle_ hsl_
           have o420:Own t32 75 26 1 x24_3 (List.length us) (List.map Ty.val us):=Own.keepL o416 (hB1.stp.toL (L:=[999]) (by simp)) dE dE
           have o421:RowsI t32 76 3 us xss:=RowsI.keepL o417 (hB1.stp.toL (L:=[999]) (by simp)) dE dE
           have htl_:=QB hok hin _ (Nat.le_refl _)
           have hxeq_:xss = (JA n.toNat l cs leads leads.length):=by rw [hxs,List.take_of_length_le (by rw [htl_];omega)]
           have hxl_:xss.length ≤ 1000000:=by rw [hxeq_,htl_];omega
           have hxr_:∀ i,i < xss.length → (xss.getD i []).length = n.toNat:=by intro i hi;rw [hxeq_] at hi ⊢;rw [htl_] at hi;exact (tRows_row hok hin oM).2
           have hsl2_:∀ i,i < sl.length → ¬ KA ((n.toNat:Nat):Int) ((leads.length * l.length:Nat):Int) (sl.getD i Sl0):=by rw [hnn];exact (slipsMay_ok hs0).2
           refine Ja ?_
           refine gI a79 t32 ok73 (gM q849 (gM q850 (gE2 ok73 fun a80 s66 ok74 D50=>?_)));have o422:=Own.k0 o420 D50.stp;have o423:=RowsI.k0 o421 D50.stp;have o424:=PlS.k0 hp7 D50.stp
           have q852:At (Ty.val x24_3) s66 a80 (.tmp 158):=D50.done 0 dE
           refine tailL (R:=(fun v τ'=>∃ τ,(fun v τ=>True∧(Own τ 40 26 1 x24_3 (List.length us) (List.map Ty.val us))∧(RowsI τ 41 3 us (Qr xss sl))) v τ∧Back [(40,75),(41,76)] τ τ')) rfl rfl dE ok74 (y_callL (L:=[40,41]) [(75,40),(76,41)] [(40,75),(41,76)] #[a80.eval (.tmp 158),a80.eval (.tmp 159)] rfl dE Try.func32 rfl rfl my2 (slip_fn (x24_3) (us) (_) (sl) (_) (_) _ lW _ _ (uL q852) (uL (D50.m 1 rfl)) (Own.ren o422 (GW.ren_lend _ _ dE rfl)) (RowsI.ren o423 (GW.ren_lend _ _ dE rfl)) oX oX oX oX oX)) (fun a81 s67 hs24 ok75 r17 sm19=>?_) (Go.KL.Qu (fun _ _ _ hz_ hy_=>by obtain ⟨h0_,h1_,h2_⟩:=hy_;exact ⟨trivial,Own.k0 h1_ hz_,RowsI.k0 h2_ hz_⟩))
           have o429:=PlS.keepL o424 hs24 dE dE
           obtain ⟨t33,⟨hT3,o425,o426⟩,B3⟩:=r17
           have o427:Own s67 75 26 1 x24_3 (List.length us) (List.map Ty.val us):=Own.ren o425 (B3.ren dE rfl)
           have o428:RowsI s67 76 3 us (Qr xss sl):=RowsI.ren o426 (B3.ren dE rfl)
           refine Jh (tn ?_)
           have hgl2_:List.length us = List.length (Qr xss sl):=(o428).1
           have hbz_:Ke nm n l cs leads sl = 0:=by rw [hbe_];exact hs0
           have hbr_:Jr nm n l cs leads sl = Qr xss sl:=by unfold Jr;rw [if_pos hbz_,hxeq_]
           obtain ⟨t34,e10,h10,o430⟩:=RowsI.seal o428 dE o427 dE
           rw [← e10]
           have F92:=((F89.step0 D50.stp).sl hs24).step h10 dE
           have q856:At (Ty.val x24_3) t34 a81 (.tmp 24):=Ty.up _ (h10.le dE) (kq hs24 sm19 24 (D50.k q849))
           have o431:=PlS.keepL o429 (h10.toL (L:=[76]) (by simp)) dE dE;refine Ja ?_
           refine gI a81 t34 ok75 (gM q856 (gB 0 (gC (Ty.int (0:Int)) (gE ok75 fun a82 s68 ok76 D51=>?_))));have o432:=PlS.k0 o431 D51.stp;have o433:=Own.k0 o430 D51.stp
           have q857:At (Ty.val x24_3) s68 a82 (.tmp 8):=D51.done 1
           refine tn (Jj ?_)
           obtain ⟨t35,e11,h11,q859⟩:=Own.seal o433 dE
           rw [← e11]
           have F94:=(F92.step0 D51.stp).step h11 dE;have o434:=PlS.keepL o432 (h11.toL (L:=[75]) (by simp)) dE dE
           have q860:At (Ty.sl 1 (List.length us) (List.map Ty.ints (Qr xss sl))) t35 a82 (.tmp 8):=by have e:a82.eval (.tmp 8) = x24_3:=q857;show Ty.has _ _ _;rw [e];exact q859
           have q861:=Ty.up (Ty.int (0:Int)) (h11.le dE) (D51.m 2 rfl)
           refine ⟨by rw [(o434).out];exact (o434).nph,?_⟩
           exact retL2 rfl ok76 F94 ⟨(ghE c ch),(hasT2 (cvt (by (show Ty.sl 1 (List.length us) _ = Ty.sl 1 (Jr nm n l cs leads sl).length _;rw [hbr_,hgl2_])) q860) (cvi (by (exact hbz_.symm)) q861)),(cvpls (by rfl) o434)⟩
end Go.Proofs.Ytodmoedmijfciaa
