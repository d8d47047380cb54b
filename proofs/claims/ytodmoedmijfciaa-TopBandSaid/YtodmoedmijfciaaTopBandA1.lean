/- The functions that the law TopBand reaches, each by its contract. Part 1. -/
import Derived.Test.YtodmoedmijfciaaTopBandK2
import Derived.Test.YtodmoedmijfciaaTopBandK1
import Derived.Test.YtodmoedmijfciaaTopBandK3
import Derived.Test.YtodmoedmijfciaaProg
namespace Go.Proofs.Ytodmoedmijfciaa
open Go.KL
variable {J:Go.KL.JdOf Try.prog} [Go.KL.Al J]
set_option maxRecDepth 100000 in
theorem pick_fn (c:Int) (n:Nat) (σ:GW) (v0 v1:Value) (hv0:Ty.has (Ty.int c) σ v0) (hv1:Ty.has (Ty.nat n) σ v1) (hc:-9223372036854775808 ≤ c∧c ≤ 9223372036854775807) (hn:0 < n) :
    FnC J 16 #[v0,v1] σ (Ty.nat (pick c n)):=by
 refine Kw Try.func16 rfl Try.ntmps16 (Xj rfl) (fun s0 a0 hle F0 ok0 hargs=>?_)
 have p0:=pA hle (hargs 0 _ rfl) hv0
 have p1:=pA hle (hargs 1 _ rfl) hv1
 clear hargs;refine Jb ?_
 refine gI a0 s0 ok0 (gC (Ty.int (0:Int)) (gE ok0 fun a1 s1 ok1 D1=>?_));have q1:=D1.k p0;refine tn (Jb (Jb ?_))
 refine gI a1 s1 ok1 (gM q1 (gS rfl (fun A B E G H d0=>rP (JL (eI d0) rfl)) (gE ok1 fun a2 s2 ok2 D2=>?_)));have F2:=(F0.step0 D1.stp).step0 D2.stp;have q3:=D2.k q1;have q4:=D2.k (D1.k p1);refine tn ?_
 refine Jm (p:=(c < (0:Int))) (D2.m 1 rfl) (fun c1=>?_) (fun c1=>?_)
 ·
  refine gI a2 s2 ok2 (gM q3 (gT (Ty.int (c + (1:Int))) rfl (fun A B E G H d0=>rP (Jy (eI d0) rfl wX)) (gT (Ty.int (-(c + (1:Int)))) rfl (fun A B E G H d0=>rP (y_neg (eI d0) wX)) (gB 0 (gE ok2 fun a3 s3 ok3 D3=>?_)))));refine tn (Jb ?_)
  refine gI a3 s3 ok3 (gM (D3.m 3 rfl) (gM (D3.k q4) (gT (Ty.nat (((-(c + (1:Int)))).toNat % n)) rfl (fun A B E G H d0 d1=>rP (y_remN (toN (σ:=B) (eI d0) oM) (eI d1) oM)) (gB 0 (gE ok3 fun a4 s4 ok4 D4=>?_)))));refine tn (Jj ?_)
  exact QT rfl ok4 ((F2.step0 D3.stp).step0 D4.stp) (cvi (by (unfold pick;rw [if_pos (by assumption)])) (D4.m 3 rfl))
 ·
  refine Ji (tn (Jb ?_))
  refine gI a2 s2 ok2 (gM q3 (gM q4 (gT (Ty.nat ((c).toNat % n)) rfl (fun A B E G H d0 d1=>rP (y_remN (toN (σ:=B) (eI d0) oM) (eI d1) oM)) (gB 0 (gE ok2 fun a5 s5 ok5 D5=>?_)))));refine tn (Jj ?_)
  exact QT rfl ok5 (F2.step0 D5.stp) (cvi (by (unfold pick;rw [if_neg (by assumption)])) (D5.m 3 rfl))
theorem Try.inf3:Info Try.prog 3 (.int .i64 0) 1 8:=by unfold Info;kernel_rfl
set_option maxRecDepth 100000 in
theorem raw_fn (raw:List Int) (k:Nat) (σ:GW) (v0 v1:Value) (hv0:Ty.has (Ty.lst Ty.int raw) σ v0) (hv1:Ty.has (Ty.nat k) σ v1)  :
    FnC J 38 #[v0,v1] σ (Ty.int (Kp raw k)):=by
 refine Kw Try.func38 rfl Try.ntmps38 (Xj rfl) (fun s0 a0 hle F0 ok0 hargs=>?_)
 have p0:=pA hle (hargs 0 _ rfl) hv0
 have b1:=Ke p0
 have p1:=pA hle (hargs 1 _ rfl) hv1
 clear hargs;refine Jb ?_
 refine gI a0 s0 ok0 (gC (Ty.int (0:Int)) (gE ok0 fun a1 s1 ok1 D1=>?_));have q1:=D1.k p0;refine tn (Jb (Jb ?_))
 refine gI a1 s1 ok1 (gM q1 (gS rfl (fun A B E G H d0=>rP (JE Try.underlying26 (eI d0))) (gS rfl (fun A B E G H d0=>rP (y_eql (eI d0) rfl)) (gE ok1 fun a2 s2 ok2 D2=>?_))));have F2:=(F0.step0 D1.stp).step0 D2.stp;have q3:=D2.k q1;refine tn ?_
 refine Jm (p:=((((List.length raw):Nat):Int) = (0:Int))) (D2.m 2 rfl) (fun c1=>?_) (fun c1=>?_)
 ·
  refine Jb ?_
  refine gI a2 s2 ok2 (gC (Ty.int (0:Int)) (gE ok2 fun a3 s3 ok3 D3=>?_));refine tn (Jj (tr ?_))
  exact QT rfl ok3 (F2.step0 D3.stp) (cvi (by (unfold Kp;rw [if_pos oM])) (D3.m 0 rfl))
 ·
  have hml:=Nat.mod_lt k (show 0 < raw.length by omega)
  refine Ji (tn (Jb ?_))
  refine gI a2 s2 ok2 (gM q3 (gM (D2.k (D1.k p1)) (gM q3 (gS rfl (fun A B E G H d0=>rP (JE Try.underlying26 (eI d0))) (gT (Ty.nat (k % (List.length raw))) rfl (fun A B E G H d0 d1=>rP (y_remN (eI d0) (eI d1) oM)) (gT (Ty.ref [(Ty.int (raw.getD (k % (List.length raw)) 0))]) rfl (fun A B E G H d0 d1=>rP (JM Try.underlying26 Try.inf3 (eI d0) (eI d1) oM (JJ Ty.int raw 0 (k % (List.length raw)) oM))) (gS rfl (fun A B E G H d0=>rP (JD Try.underlying3 rfl (eI d0) rfl)) (gB 0 (gE ok2 fun a4 s4 ok4 D4=>?_)))))))));refine tn (Jj ?_)
  exact QT rfl ok4 (F2.step0 D4.stp) (cvi (by (unfold Kp;rw [if_neg oM])) (D4.m 7 rfl))
set_option maxRecDepth 100000 in
theorem changeOf_fn (c:Int) (n:Nat) (σ:GW) (v0 v1:Value) (hv0:Ty.has (Ty.int c) σ v0) (hv1:Ty.has (Ty.nat n) σ v1) (hc:-9223372036854775808 ≤ c∧c ≤ 9223372036854775807) (hn:n ≤ 100) :
    FnC J 69 #[v0,v1] σ (Ty.lst Ty.int (Kr c n)):=by
 refine Kw Try.func69 rfl Try.ntmps69 (Xj rfl) (fun s0 a0 hle F0 ok0 hargs=>?_)
 have p0:=pA hle (hargs 0 _ rfl) hv0
 have p1:=pA hle (hargs 1 _ rfl) hv1
 clear hargs;refine Jb ?_
 refine gI a0 s0 ok0 (gC (Ty.val (Value.slice none 0 0)) (gE ok0 fun a1 s1 ok1 D1=>?_));refine tn (Jb ?_)
 refine gI a1 s1 ok1 (gM (D1.k p0) (gS rfl (fun A B E G H d0=>rP (Jw _ Try.func16 rfl rfl my2 (pick_fn (c) (1099511627776) _ _ _ (eI d0) rfl oM oM))) (gB 0 (gE ok1 fun a2 s2 ok2 D2=>?_))));refine tn (Jb ?_)
 refine gI a2 s2 ok2 (gC (Ty.val (Value.slice none 0 0)) (gE ok2 fun a3 s3 ok3 D3=>?_));refine tn (Jb ?_)
 refine gI a3 s3 ok3 (gC (Ty.int (1:Int)) (gE ok3 fun a4 s4 ok4 D4=>?_));refine tn (Jb (Je ?_))
 refine KB (fun n1 a5 w1=>∃ (t1:GW) (xs:List Int) (d:Nat) (t:Nat) (f:Nat),t1.w = w1∧From s0 t1∧Ok 31 [] a5∧(Pr.own 2 3 1 (List.length xs) (List.map Ty.int xs)).has t1 (a5.eval (.tmp 5))∧At (Ty.nat d) t1 a5 (.tmp 0)∧At (Ty.nat t) t1 a5 (.tmp 6)∧At (Ty.nat n) t1 a5 (.tmp 1)∧(xs.length ≤ t)∧(1 ≤ t)∧(t ≤ n + 2)∧(d ≤ 1099511627776)∧(n + 1 ≤ f + t)∧(xs ++ chgF f d t n = Kr c n)∧n1 = n + 3 - t) (n + 3 - (1)) ?_ ?_
 ·
  exact ⟨s4,[],(pick c 1099511627776),1,(n+1),rfl,((((F0.step0 D1.stp).step0 D2.stp).step0 D3.stp).step0 D4.stp),ok4,(by have e:a4.eval (.tmp 5) = _:=(D4.k (D3.m 0 rfl));rw [e];exact Own.nil _ _ _ _),(cJ (D4.k (D3.k (D2.m 2 rfl)))),(cJ (D4.m 0 rfl)),(D4.k (D3.k (D2.k (D1.k p1)))),by simp,by omega,by omega,by have:=pick_lt c (n:=1099511627776) oM;omega,by omega,rfl,rfl⟩
 ·
  rintro n2 a6 w2 ⟨t2,xs,d,t,f,rfl,F5,ok5,q12,q13,q14,q15,hxs,ht,ht2,hd,hf,heq,rfl⟩
  refine Jb (Jb ?_)
  refine gI a6 t2 ok5 (gM q14 (gM q15 (gS rfl (fun A B E G H d0 d1=>rP (y_leq (eI d0) (eI d1))) (gE ok5 fun a7 s5 ok6 D5=>?_))));have F6:=F5.step0 D5.stp
  have q16:(Pr.own 2 3 1 (List.length xs) (List.map Ty.int xs)).has s5 (a7.eval (.tmp 5)):=D5.ko q12 rfl
  have q17:=D5.k q13;have q18:=D5.k q14;have q19:=D5.k q15;refine tn ?_
  refine Jm (p:=(((t:Nat):Int) ≤ ((n:Nat):Int))) (D5.m 2 rfl) (fun c1=>?_) (fun c1=>?_)
  ·
   refine Ji (tn (Je (Jb (Jb ?_))))
   refine gI a7 s5 ok6 (gM q17 (gT (Ty.nat (d % 3)) rfl (fun A B E G H d0=>rP (y_remN (eI d0) (toN (σ:=B) rfl oM) oM)) (gS rfl (fun A B E G H d0=>rP (y_eql (eI d0) rfl)) (gS rfl (fun A B E G H d0=>rP (Jc (eI d0))) (gS rfl (fun A B E G H d0=>gu G (eI d0) fun hg=>Jc (kp (H 6 rfl) E q18)) (gS rfl (fun A B E G H d0=>gu G (eI d0) fun hg=>Jc (kp (H 1 rfl) E q19)) (gS rfl (fun A B E G H d0 d1 d2=>gu G (eI d2) fun hg=>y_eql ((ef d0 rfl).1 hg) ((ef d1 rfl).1 hg)) (gS rfl (fun A B E G H d0 d1=>rP (Jv (eI d0) rfl (eI d1))) (gE ok6 fun a8 s6 ok7 D6=>?_)))))))));have F7:=F6.step0 D6.stp
   have q21:(Pr.own 2 3 1 (List.length xs) (List.map Ty.int xs)).has s6 (a8.eval (.tmp 5)):=D6.ko q16 rfl
   have q22:=D6.k q17;have q23:=D6.k q18;have q24:=D6.k q19;refine tn ?_
   refine KM (D6.m 7 rfl) (fun c2=>?_) (fun c2=>?_)
   ·
    refine Jb ?_
    refine gI a8 s6 ok7 (gT (Ty.val (a8.eval (.tmp 5))) rfl (fun A B E G H=>rP (Jc (H 5 rfl))) (gM q23 (gT (Ty.sl 1 1 [(Ty.nat t)]) rfl (fun A B E G H d0=>rP (Qs Try.underlying26 Try.inf3 rfl (Jk rfl) (eI d0))) (gE2 ok7 fun a9 s7 ok8 D7=>?_))));have q26:=(Pr.own 2 3 1 (List.length xs) (List.map Ty.int xs)).up D7.stp q21
    have q27:a9.eval (.tmp 5) = a8.eval (.tmp 5):=D7.same 5 rfl
    have q32:=D7.m 2 rfl
    refine Qf (m:=2) (R:=(fun v τ=>Own τ 2 3 1 v ((List.length xs) + 1) ((List.map Ty.int xs) ++ [(Ty.nat t)]))) rfl rfl dE ok8 (Qg Try.underlying26 Try.inf3 dE rfl dE (al (D7.m 0 rfl) q26) q32 (by intro U hU;simp at hU;  subst hU;exact Jk rfl) oM oM) (fun a10 s8 hs1 ok9 r1 sm1=>?_)
    have F9:=(F7.step0 D7.stp).step hs1 dE
    have q33:At (Ty.nat d) s8 a10 (.tmp 0):=kpm hs1 dE (sm1 0 dE) (D7.k q22)
    have q34:At (Ty.nat t) s8 a10 (.tmp 6):=kpm hs1 dE (sm1 6 dE) (D7.k q23)
    have q35:At (Ty.nat n) s8 a10 (.tmp 1):=kpm hs1 dE (sm1 1 dE) (D7.k q24)
    have q36:At (Ty.sl 1 1 [(Ty.nat t)]) s8 a10 (.tmp 22):=kpm hs1 dE (sm1 22 dE) q32
    have q37:(Pr.own 2 3 1 (List.length (xs ++ [((t:Nat):Int)])) (List.map Ty.int (xs ++ [((t:Nat):Int)]))).has s8 (a10.eval (.tmp 23)):=(cvo (by simp) (by first | (rw [List.map_append];rfl) | simp) r1)
    refine Qf (m:=0) (R:=(fun v τ=>Pr.has (Pr.own 2 3 1 (List.length (xs ++ [((t:Nat):Int)])) (List.map Ty.int (xs ++ [((t:Nat):Int)]))) τ v)) rfl rfl dE ok9 (Yld.toM (KX q37)) (fun a11 s9 hs2 ok10 r2 sm2=>?_)
    have F10:=F9.step hs2 dE
    have q38:At (Ty.nat d) s9 a11 (.tmp 0):=kpm hs2 dE (sm2 0 dE) q33
    have q39:At (Ty.nat t) s9 a11 (.tmp 6):=kpm hs2 dE (sm2 6 dE) q34
    have q40:At (Ty.nat n) s9 a11 (.tmp 1):=kpm hs2 dE (sm2 1 dE) q35
    have q41:At (Ty.sl 1 1 [(Ty.nat t)]) s9 a11 (.tmp 22):=kpm hs2 dE (sm2 22 dE) q36
    have q42:(Pr.own 2 3 1 (List.length (xs ++ [((t:Nat):Int)])) (List.map Ty.int (xs ++ [((t:Nat):Int)]))).has s9 (a11.eval (.tmp 23)):=kpmo hs2 dE (.inl rfl) (sm2 23 dE) q37
    have q43:(Pr.own 2 3 1 (List.length (xs ++ [((t:Nat):Int)])) (List.map Ty.int (xs ++ [((t:Nat):Int)]))).has s9 (a11.eval (.tmp 5)):=r2
    refine Jh (tn ?_)
    refine gI a11 s9 ok10 (gM q39 (gT (Ty.int (((t:Nat):Int) + (1:Int))) rfl (fun A B E G H d0=>rP (Jy (eI d0) rfl wX)) (gB 0 (gE ok10 fun a12 s10 ok11 D8=>?_))))
    have q46:(Pr.own 2 3 1 (List.length (xs ++ [((t:Nat):Int)])) (List.map Ty.int (xs ++ [((t:Nat):Int)]))).has s10 (a12.eval (.tmp 5)):=D8.ko q43 rfl
    refine tn ?_
    refine gI a12 s10 ok11 (gM (D8.k q38) (gT (Ty.nat (d / 3)) rfl (fun A B E G H d0=>rP (y_quoN (eI d0) (toN (σ:=B) rfl oM) oM oM)) (gB 0 (gE ok11 fun a13 s11 ok12 D9=>?_))))
    have q49:(Pr.own 2 3 1 (List.length (xs ++ [((t:Nat):Int)])) (List.map Ty.int (xs ++ [((t:Nat):Int)]))).has s11 (a13.eval (.tmp 5)):=D9.ko q46 rfl
    refine bn ?_
    exact tn ⟨n + 3 - ((t+1)),by omega,s11,(xs ++ [((t:Nat):Int)]),(d / 3),(t+1),(f-1),rfl,((F10.step0 D8.stp).step0 D9.stp),ok12,(cvo (by (simp)) (by (simp)) q49),(cJ (D9.m 2 rfl)),(cJ (D9.k (D8.m 2 rfl))),(D9.k (D8.k q40)),by simp;omega,by omega,by omega,by omega,by omega,chgF_yes heq oM oM (by simp only [Bool.or_eq_true,decide_eq_true_eq] at c2;omega),rfl⟩
   ·
    obtain ⟨d1,d2⟩:=Xf c2
    replace d1:=Xh d1
    replace d2:=Xh d2
    refine gI a8 s6 ok7 (gM q23 (gT (Ty.int (((t:Nat):Int) + (2:Int))) rfl (fun A B E G H d0=>rP (Jy (eI d0) rfl wX)) (gB 0 (gE ok7 fun a14 s12 ok13 D10=>?_))))
    have q52:(Pr.own 2 3 1 (List.length xs) (List.map Ty.int xs)).has s12 (a14.eval (.tmp 5)):=D10.ko q21 rfl
    refine tn ?_
    refine gI a14 s12 ok13 (gM (D10.k q22) (gT (Ty.nat (d / 3)) rfl (fun A B E G H d0=>rP (y_quoN (eI d0) (toN (σ:=B) rfl oM) oM oM)) (gB 0 (gE ok13 fun a15 s13 ok14 D11=>?_))))
    have q56:(Pr.own 2 3 1 (List.length xs) (List.map Ty.int xs)).has s13 (a15.eval (.tmp 5)):=D11.ko q52 rfl
    refine bn ?_
    exact tn ⟨n + 3 - ((t+2)),by omega,s13,xs,(d / 3),(t+2),(f-1),rfl,((F7.step0 D10.stp).step0 D11.stp),ok14,q56,(cJ (D11.m 2 rfl)),(cJ (D11.k (D10.m 2 rfl))),(D11.k (D10.k q24)),by omega,by omega,by omega,by omega,by omega,chgF_no heq oM oM (by simp only [Bool.or_eq_false_iff,decide_eq_false_iff_not] at c2;omega),rfl⟩
  ·
   refine Jx (tx (tx (bx (tn (Jb ?_)))))
   refine gI a7 s5 ok6 (gT (Ty.val (a7.eval (.tmp 5))) rfl (fun A B E G H=>rP (Jc (H 5 rfl))) (gB 0 (gE ok6 fun a16 s14 ok15 D12=>?_)))
   have q60:(Pr.own 2 3 1 (List.length xs) (List.map Ty.int xs)).has s14 (a16.eval (.tmp 4)):=al (show _ = _ from D12.done 1) ((Pr.own 2 3 1 (List.length xs) (List.map Ty.int xs)).up D12.stp q16)
   refine tn (Jj ?_)
   obtain ⟨t3,e1,h1,q61⟩:=Own.seal q60 dE
   rw [← e1]
   have F16:=(F6.step0 D12.stp).step h1 dE
   exact QT rfl ok15 F16 (cvt (by (rw [← heq,chgF_end oM,List.append_nil])) q61)
theorem Try.inf26:Info Try.prog 26 (.slice none 0 0) 1 24:=by unfold Info;kernel_rfl
set_option maxRecDepth 100000 in
theorem changesOf_fn (raw:List Int) (b:Nat) (n:Nat) (many:Nat) (σ:GW) (v0 v1 v2 v3:Value) (hv0:Ty.has (Ty.lst Ty.int raw) σ v0) (hv1:Ty.has (Ty.nat b) σ v1) (hv2:Ty.has (Ty.nat n) σ v2) (hv3:Ty.has (Ty.nat many) σ v3) (hn:n ≤ 100) (hm:many ≤ 1000) (hb:b ≤ 1000) (hr:∀ k,-9223372036854775808 ≤ Kp raw k∧Kp raw k ≤ 9223372036854775807) :
    FnC J 37 #[v0,v1,v2,v3] σ (Ty.lst Ty.ints (Jg raw b n many)):=by
 refine Kw Try.func37 rfl Try.ntmps37 (Xj rfl) (fun s0 a0 hle F0 ok0 hargs=>?_)
 have p0:=pA hle (hargs 0 _ rfl) hv0
 have b1:=Ke p0
 have p1:=pA hle (hargs 1 _ rfl) hv1
 have p2:=pA hle (hargs 2 _ rfl) hv2
 have p3:=pA hle (hargs 3 _ rfl) hv3
 clear hargs;refine Jb ?_
 refine gI a0 s0 ok0 (gC (Ty.val (Value.slice none 0 0)) (gE ok0 fun a1 s1 ok1 D1=>?_));refine tn (Jb ?_)
 refine gI a1 s1 ok1 (gC (Ty.val (Value.slice none 0 0)) (gE ok1 fun a2 s2 ok2 D2=>?_));refine tn (Jb (Jb ?_))
 refine gI a2 s2 ok2 (gC (Ty.int (0:Int)) (gE ok2 fun a3 s3 ok3 D3=>?_));refine tn (Je ?_)
 refine KB (fun n1 a4 w1=>∃ (t1:GW) (k:Nat),t1.w = w1∧From s0 t1∧Ok 29 [] a4∧(Pr.own 2 26 1 (List.length (Jg raw b n k)) (List.map Ty.ints (Jg raw b n k))).has t1 (a4.eval (.tmp 9))∧At (Ty.nat k) t1 a4 (.tmp 10)∧At (Ty.lst Ty.int raw) t1 a4 (.tmp 0)∧At (Ty.nat b) t1 a4 (.tmp 1)∧At (Ty.nat n) t1 a4 (.tmp 2)∧At (Ty.nat many) t1 a4 (.tmp 3)∧(k ≤ many)∧n1 = many - k) (many - (0)) ?_ ?_
 ·
  exact ⟨s3,0,rfl,(((F0.step0 D1.stp).step0 D2.stp).step0 D3.stp),ok3,(by have e:a3.eval (.tmp 9) = _:=(D3.k (D2.m 0 rfl));rw [e];exact Own.nil _ _ _ _),(cJ (D3.m 0 rfl)),(D3.k (D2.k (D1.k p0))),(D3.k (D2.k (D1.k p1))),(D3.k (D2.k (D1.k p2))),(D3.k (D2.k (D1.k p3))),by omega,rfl⟩
 ·
  rintro n2 a5 w2 ⟨t2,k,rfl,F4,ok4,q16,q17,q18,q19,q20,q21,hk,rfl⟩
  have hp:=Qw raw b n k
  have hrk:=hr (b + k)
  refine Jb (Jb ?_)
  refine gI a5 t2 ok4 (gM q17 (gM q21 (gS rfl (fun A B E G H d0 d1=>rP (JL (eI d0) (eI d1))) (gE ok4 fun a6 s4 ok5 D4=>?_))));have F5:=F4.step0 D4.stp
  have q22:(Pr.own 2 26 1 (List.length (Jg raw b n k)) (List.map Ty.ints (Jg raw b n k))).has s4 (a6.eval (.tmp 9)):=D4.ko q16 rfl
  have q23:=D4.k q17;have q24:=D4.k q18;have q25:=D4.k q19;have q26:=D4.k q20;refine tn ?_
  refine Jm (p:=(((k:Nat):Int) < ((many:Nat):Int))) (D4.m 2 rfl) (fun c1=>?_) (fun c1=>?_)
  ·
   refine Ji (tn (Jb (Je (Jb ?_))))
   refine gI a6 s4 ok5 (gM q24 (gM q25 (gM q23 (gT (Ty.nat (b + k)) rfl (fun A B E G H d0 d1=>rP ((Jy (eI d0) (eI d1) wX).mono (fun τ _ h=>cN (σ:=τ) h))) (gS rfl (fun A B E G H d0 d1=>rP (Jw _ Try.func38 rfl rfl my2 (raw_fn (raw) ((b + k)) _ _ _ (eI d0) (eI d1) ))) (gM q26 (gS rfl (fun A B E G H d0 d1 d2=>rP (Jw _ Try.func69 rfl rfl my2 (changeOf_fn ((Kp raw ((b + k)))) (n) _ _ _ (eI d0) (eI d1) oM oM))) (gB 0 (gE ok5 fun a7 s5 ok6 D5=>?_)))))))))
   have q29:(Pr.own 2 26 1 (List.length (Jg raw b n k)) (List.map Ty.ints (Jg raw b n k))).has s5 (a7.eval (.tmp 9)):=D5.ko q22 rfl
   refine tn ?_
   refine gI a7 s5 ok6 (gT (Ty.val (a7.eval (.tmp 9))) rfl (fun A B E G H=>rP (Jc (H 9 rfl))) (gM (D5.m 7 rfl) (gT (Ty.sl 1 1 [(Ty.lst Ty.int (Kr ((Kp raw ((b + k)))) n))]) rfl (fun A B E G H d0=>rP (Qs Try.underlying22 Try.inf26 rfl (KZ) (eI d0))) (gE2 ok6 fun a8 s6 ok7 D6=>?_))));have q36:=(Pr.own 2 26 1 (List.length (Jg raw b n k)) (List.map Ty.ints (Jg raw b n k))).up D6.stp q29
   have q37:a8.eval (.tmp 9) = a7.eval (.tmp 9):=D6.same 9 rfl
   have q44:=D6.m 2 rfl
   refine Qf (m:=2) (R:=(fun v τ=>Own τ 2 26 1 v ((List.length (Jg raw b n k)) + 1) ((List.map Ty.ints (Jg raw b n k)) ++ [(Ty.lst Ty.int (Kr ((Kp raw ((b + k)))) n))]))) rfl rfl dE ok7 (Qg Try.underlying22 Try.inf26 dE rfl dE (al (D6.m 0 rfl) q36) q44 (by intro U hU;simp at hU;  subst hU;exact KZ) oM oM) (fun a9 s7 hs1 ok8 r1 sm1=>?_)
   have F8:=((F5.step0 D5.stp).step0 D6.stp).step hs1 dE
   have q45:At (Ty.nat k) s7 a9 (.tmp 10):=kpm hs1 dE (sm1 10 dE) (D6.k (D5.k q23))
   have q46:At (Ty.lst Ty.int raw) s7 a9 (.tmp 0):=kpm hs1 dE (sm1 0 dE) (D6.k (D5.k q24))
   have q47:At (Ty.nat b) s7 a9 (.tmp 1):=kpm hs1 dE (sm1 1 dE) (D6.k (D5.k q25))
   have q48:At (Ty.nat n) s7 a9 (.tmp 2):=kpm hs1 dE (sm1 2 dE) (D6.k (D5.k q26))
   have q49:At (Ty.nat many) s7 a9 (.tmp 3):=kpm hs1 dE (sm1 3 dE) (D6.k (D5.k (D4.k q21)))
   have q50:At (Ty.sl 1 1 [(Ty.lst Ty.int (Kr ((Kp raw ((b + k)))) n))]) s7 a9 (.tmp 26):=kpm hs1 dE (sm1 26 dE) q44
   have q51:(Pr.own 2 26 1 (List.length ((Jg raw b n k) ++ [(Kr ((Kp raw ((b + k)))) n)])) (List.map Ty.ints ((Jg raw b n k) ++ [(Kr ((Kp raw ((b + k)))) n)]))).has s7 (a9.eval (.tmp 27)):=(cvo (by simp) (by first | (rw [List.map_append];rfl) | simp) r1)
   refine Qf (m:=0) (R:=(fun v τ=>Pr.has (Pr.own 2 26 1 (List.length ((Jg raw b n k) ++ [(Kr ((Kp raw ((b + k)))) n)])) (List.map Ty.ints ((Jg raw b n k) ++ [(Kr ((Kp raw ((b + k)))) n)]))) τ v)) rfl rfl dE ok8 (Yld.toM (KX q51)) (fun a10 s8 hs2 ok9 r2 sm2=>?_)
   have F9:=F8.step hs2 dE
   have q52:At (Ty.nat k) s8 a10 (.tmp 10):=kpm hs2 dE (sm2 10 dE) q45
   have q53:At (Ty.lst Ty.int raw) s8 a10 (.tmp 0):=kpm hs2 dE (sm2 0 dE) q46
   have q54:At (Ty.nat b) s8 a10 (.tmp 1):=kpm hs2 dE (sm2 1 dE) q47
   have q55:At (Ty.nat n) s8 a10 (.tmp 2):=kpm hs2 dE (sm2 2 dE) q48
   have q56:At (Ty.nat many) s8 a10 (.tmp 3):=kpm hs2 dE (sm2 3 dE) q49
   have q57:At (Ty.sl 1 1 [(Ty.lst Ty.int (Kr ((Kp raw ((b + k)))) n))]) s8 a10 (.tmp 26):=kpm hs2 dE (sm2 26 dE) q50
   have q58:(Pr.own 2 26 1 (List.length ((Jg raw b n k) ++ [(Kr ((Kp raw ((b + k)))) n)])) (List.map Ty.ints ((Jg raw b n k) ++ [(Kr ((Kp raw ((b + k)))) n)]))).has s8 (a10.eval (.tmp 27)):=kpmo hs2 dE (.inl rfl) (sm2 27 dE) q51
   have q59:(Pr.own 2 26 1 (List.length ((Jg raw b n k) ++ [(Kr ((Kp raw ((b + k)))) n)])) (List.map Ty.ints ((Jg raw b n k) ++ [(Kr ((Kp raw ((b + k)))) n)]))).has s8 (a10.eval (.tmp 9)):=r2
   refine Jh (bn (tn ?_))
   refine gI a10 s8 ok9 (gM q52 (gT (Ty.nat (k + 1)) rfl (fun A B E G H d0=>rP ((Jy (eI d0) rfl wX).mono (fun τ _ h=>cN (σ:=τ) h))) (gB 0 (gE ok9 fun a11 s9 ok10 D7=>?_))))
   have q64:(Pr.own 2 26 1 (List.length ((Jg raw b n k) ++ [(Kr ((Kp raw ((b + k)))) n)])) (List.map Ty.ints ((Jg raw b n k) ++ [(Kr ((Kp raw ((b + k)))) n)]))).has s9 (a11.eval (.tmp 9)):=D7.ko q59 rfl
   exact tn ⟨many - ((k+1)),by omega,s9,(k+1),rfl,(F9.step0 D7.stp),ok10,(cvo (by (rw [changesOf_succ raw b n k])) (by (rw [changesOf_succ raw b n k])) q64),(cJ (D7.m 2 rfl)),(D7.k q53),(D7.k q54),(D7.k q55),(D7.k q56),by omega,rfl⟩
  ·
   refine Jx (tx (tx (bx (tn (Jb ?_)))))
   refine gI a6 s4 ok5 (gT (Ty.val (a6.eval (.tmp 9))) rfl (fun A B E G H=>rP (Jc (H 9 rfl))) (gB 0 (gE ok5 fun a12 s10 ok11 D8=>?_)))
   have q66:(Pr.own 2 26 1 (List.length (Jg raw b n k)) (List.map Ty.ints (Jg raw b n k))).has s10 (a12.eval (.tmp 8)):=al (show _ = _ from D8.done 1) ((Pr.own 2 26 1 (List.length (Jg raw b n k)) (List.map Ty.ints (Jg raw b n k))).up D8.stp q22)
   refine tn (Jj ?_)
   obtain ⟨t3,e1,h1,q67⟩:=Own.seal q66 dE
   rw [← e1]
   have F12:=(F5.step0 D8.stp).step h1 dE
   exact QT rfl ok11 F12 (cvt (by (obtain rfl:k = many:=oM;rfl)) q67)
theorem Try.inf24:Info Try.prog 24 (.agg #[.string ByteArray.empty,.int .i64 0,.slice none 0 0]) 3 48:=by unfold Info;kernel_rfl
set_option maxRecDepth 100000 in
theorem methodOf_fn (raw:List Int) (n:Nat) (many:Nat) (σ:GW) (v0 v1 v2:Value) (hv0:Ty.has (Ty.lst Ty.int raw) σ v0) (hv1:Ty.has (Ty.nat n) σ v1) (hv2:Ty.has (Ty.nat many) σ v2) (hn:n ≤ 100) (hm:many ≤ 1000) (hr:∀ k,-9223372036854775808 ≤ Kp raw k∧Kp raw k ≤ 9223372036854775807) :
    FnC J 17 #[v0,v1,v2] σ (Ty.agg [(Ty.val (Value.string (ByteArray.mk #[84,114,105,101,100]))),(Ty.nat n),(Ty.lst Ty.ints (Jg raw 3 n many))]):=by
 refine Kw Try.func17 rfl Try.ntmps17 (Xj rfl) (fun s0 a0 hle F0 ok0 hargs=>?_)
 have p0:=pA hle (hargs 0 _ rfl) hv0
 have b1:=Ke p0
 have p1:=pA hle (hargs 1 _ rfl) hv1
 have p2:=pA hle (hargs 2 _ rfl) hv2
 clear hargs;refine Jb ?_
 refine gI a0 s0 ok0 (gR (Pr.ownp 12 [(Ty.val (.string ByteArray.empty)),(Ty.val (.int .i64 0)),(Ty.val (.slice none 0 0))]) rfl (by intro A B E G H;exact rP (y_alloc Try.inf24 rfl (JR (vs:=[.string ByteArray.empty,.int .i64 0,.slice none 0 0]) rfl))) (gE ok0 fun a1 s1 ok1 D1=>?_));have q2:=D1.k p1
 have q4:(Pr.ownp 12 [(Ty.val (.string ByteArray.empty)),(Ty.val (.int .i64 0)),(Ty.val (.slice none 0 0))]).has s1 (a1.eval (.tmp 6)):=D1.done 0
 refine tn (Jb ?_)
 refine gI a1 s1 ok1 (gM q2 (gM (D1.k p0) (gM q2 (gM (D1.k p2) (gS rfl (fun A B E G H d0 d1 d2=>rP (Jw _ Try.func37 rfl rfl my4 (changesOf_fn (raw) (3) (n) (many) _ _ _ _ _ (eI d0) rfl (eI d1) (eI d2) (by first | omega | exact hr _ | assumption) (by first | omega | exact hr _ | assumption) (by first | omega | exact hr _ | assumption) (by first | omega | exact hr _ | assumption)))) (gT (Ty.agg [(Ty.val (Value.string (ByteArray.mk #[84,114,105,101,100]))),(Ty.nat n),(Ty.lst Ty.ints (Jg raw (3) n many))]) rfl (fun A B E G H d0 d1=>rP (y_build3s rfl Try.inf24 rfl (Jk rfl) (Jk rfl) (KZ) rfl (eI d0) (eI d1))) (gE2 ok1 fun a2 s2 ok2 D2=>?_)))))));have q5:=(Pr.ownp 12 [(Ty.val (.string ByteArray.empty)),(Ty.val (.int .i64 0)),(Ty.val (.slice none 0 0))]).up D2.stp q4
 have q6:a2.eval (.tmp 6) = a1.eval (.tmp 6):=D2.same 6 rfl
 have q7:=D2.m 5 rfl
 refine tail_step0 (m:=12) (R:=(fun _ τ=>OwnP τ 12 (a1.eval (.tmp 6)) [(Ty.val (Value.string (ByteArray.mk #[84,114,105,101,100]))),(Ty.nat n),(Ty.lst Ty.ints (Jg raw (3) n many))])) rfl rfl (QU Try.inf24 dE q5 q6 rfl q7 (by intro U hU;simp only [List.mem_cons,List.not_mem_nil,or_false] at hU;rcases hU with rfl | rfl | rfl <;> first | exact Jk rfl | exact KZ | exact one_ref)) (fun v1 s3 hs1 r1=>?_)
 have F3:=((F0.step0 D1.stp).step0 D2.stp).step hs1 dE
 have q8:At (Ty.agg [(Ty.val (Value.string (ByteArray.mk #[84,114,105,101,100]))),(Ty.nat n),(Ty.lst Ty.ints (Jg raw (3) n many))]) s3 a2 (.tmp 12):=kpm hs1 dE rfl q7
 have q9:(Pr.ownp 12 [(Ty.val (Value.string (ByteArray.mk #[84,114,105,101,100]))),(Ty.nat n),(Ty.lst Ty.ints (Jg raw (3) n many))]).has s3 (a1.eval (.tmp 6)):=r1
 refine Jh ?_
 have q10:(Pr.ownp 12 [(Ty.val (Value.string (ByteArray.mk #[84,114,105,101,100]))),(Ty.nat n),(Ty.lst Ty.ints (Jg raw (3) n many))]).has s3 (a2.eval (.tmp 6)):=al q6 q9
 refine tn (Jj ?_)
 exact ret1s (ts:=[(Ty.val (Value.string (ByteArray.mk #[84,114,105,101,100]))),(Ty.nat n),(Ty.lst Ty.ints (Jg raw 3 n many))]) rfl ok2 F3 Try.underlying24 Try.inf24 (cvop (by rfl) q10)
theorem Try.inf51:Info Try.prog 51 (.agg #[.int .i32 0,.slice none 0 0]) 2 32:=by unfold Info;kernel_rfl
set_option maxHeartbeats 4000000 in
set_option maxRecDepth 100000 in
theorem callsOf_fn (raw:List Int) (n:Nat) (many:Nat) (σ:GW)  (v0 v1 v2:Value) (hv0:Ty.has (Ty.lst Ty.int raw) σ v0) (hv1:Ty.has (Ty.nat n) σ v1) (hv2:Ty.has (Ty.nat many) σ v2)  (hn:n ≤ 100) (hm:1 ≤ many∧many ≤ 50) (hr:∀ k,-9223372036854775808 ≤ Kp raw k∧Kp raw k ≤ 9223372036854775807) :
    FnC J 18 #[v0,v1,v2] σ (Ty.lstc 2 Kz (cOf raw n (many - 1))):=by
 refine KQ Try.func18 rfl Try.ntmps18 (Xj rfl) (fun s0 a0 hle F0 ok0 hargs=>?_)
 have p0:=pA hle (hargs 0 _ rfl) hv0
 have b1:=Ke p0
 have p1:=pA hle (hargs 1 _ rfl) hv1
 have p2:=pA hle (hargs 2 _ rfl) hv2
 clear hargs;refine Jb ?_
 refine gI a0 s0 ok0 (gC (Ty.val (Value.slice none 0 0)) (gE ok0 fun a1 s1 ok1 D1=>?_));refine tn (Jb ?_)
 refine gI a1 s1 ok1 (gT (Ty.agg [(Ty.val (Value.int .i32 (112:Int))),(Ty.val (Value.slice none 0 0))]) rfl (fun A B E G H=>rP (y_bld [(0,((Operand.const (Value.int IntKind.i32 112))),(Ty.val (Value.int .i32 (112:Int))))] [(Ty.val (Value.int .i32 0)),(Ty.val (Value.slice none 0 0))] (l:=[(0,1),(1,1)]) rfl Try.inf51 rfl (JR (vs:=[.int .i32 0,.slice none 0 0]) rfl) rfl (by intro p hp;simp only [List.mem_cons,List.not_mem_nil,or_false] at hp;rcases hp with rfl;exact ⟨Jk rfl,rfl⟩))) (gR (Pr.own 5 51 2 1 (List.flatMap Kz [((112:Int),([]:List (List Int)))])) rfl (by intro A B E G H d0;exact rP ((y_lit1c (k:=5) (c:=2) Try.underlying25 Try.inf51 rfl (by decide) (by decide) rfl (agg_cell 1 (Ty.lst Ty.ints ([]:List (List Int))) (ef d0 rfl) rfl (fun _ _ h=>nil_sl0 h))).mono (fun _ _ h=>cvo (by simp) rfl h))) (gE2 ok1 fun a2 s2 ok2 D2=>?_)))
 obtain ⟨x1,hx1⟩:∃ x,a2.eval (.tmp 10) = x:=⟨_,rfl⟩
 have q7:At (Ty.val x1) s2 a2 (.tmp 10):=hx1
 have o1:=al2 (R:=(Pr.own 5 51 2 1 (List.flatMap Kz [((112:Int),([]:List (List Int)))]))) hx1 (D2.done 1 (by decide))
 refine tL ok2 (Yld.toL (y_as q7)) fun a3 s3 hs1 ok3 r1 sm1=>?_
 have q11:At (Ty.val x1) s3 a3 (.tmp 7):=r1
 clear r1;refine Jh (tn (Jb (Jb ?_)))
 refine gI a3 s3 ok3 (gC (Ty.int (1:Int)) (gE ok3 fun a4 s4 ok4 D3=>?_));have o3:=Own.k0 (Own.kl o1 hs1) D3.stp;refine tn (Je ?_)
 refine KB (fun n1 a5 w1=>∃ (t1:GW) (k:Nat) (x7_0:Value),t1.w = w1∧FromL [] s0 t1∧Ok 29 [] a5∧At (Ty.nat (k + 1)) t1 a5 (.tmp 8)∧At (Ty.val x7_0) t1 a5 (.tmp 7)∧At (Ty.lst Ty.int raw) t1 a5 (.tmp 0)∧At (Ty.nat n) t1 a5 (.tmp 1)∧At (Ty.nat many) t1 a5 (.tmp 2)∧Own t1 5 51 2 x7_0 (List.length (cOf raw n k)) (List.flatMap Kz (cOf raw n k))∧(k + 1 ≤ many)∧n1 = many - k) (many - (0)) ?_ ?_
 ·
  exact ⟨s4,0,x1,rfl,((((F0.step0 D1.stp).step0 D2.stp).sl hs1).step0 D3.stp),ok4,(cvi (by (rfl)) (D3.m 0 rfl)),(D3.k q11),(D3.k (kq hs1 sm1 0 (D2.k (D1.k p0)))),(D3.k (kq hs1 sm1 1 (D2.k (D1.k p1)))),(D3.k (kq hs1 sm1 2 (D2.k (D1.k p2)))),(cvo (by (rfl)) (by (rfl)) o3),by omega,rfl⟩
 ·
  rintro n2 a6 w2 ⟨t2,k,x7_0,rfl,F5,ok5,q17,q18,q19,q20,q21,o4,hk,rfl⟩
  have hcl:=cOf_len raw n k
  refine Jb (Jb ?_)
  refine gI a6 t2 ok5 (gM q17 (gM q21 (gS rfl (fun A B E G H d0 d1=>rP (JL (ef d0 rfl) (ef d1 rfl))) (gE ok5 fun a7 s5 ok6 D4=>?_))));have F6:=F5.step0 D4.stp;have q22:=D4.k q17;have q23:=D4.k q18;have q24:=D4.k q19;have q25:=D4.k q20;have o5:=Own.k0 o4 D4.stp;refine tn ?_
  refine Jm (p:=((((k + 1):Nat):Int) < ((many:Nat):Int))) (D4.m 2 rfl) (fun c1=>?_) (fun c1=>?_)
  ·
   have hl1_:List.length [((((97 + (k + 1):Nat):Int)),Jg raw (11 * (k + 1)) n 1)] = 1:=rfl
   refine Ji (tn (Jb (Je ?_)))
   refine gI a7 s5 ok6 (gM q23 (gM q22 (gT (Ty.nat (97 + (k + 1))) rfl (fun A B E G H d0=>rP ((Jy rfl (ef d0 rfl) (w64 (by omega) (by omega))).mono (fun τ _ h=>cvi (σ:=τ) (by first | omega | exact (Int.natCast_mul _ _).symm) h))) (gT (Ty.val (Value.int .i32 (((97 + (k + 1)):Nat):Int))) rfl (fun A B E G H d0=>rP (y_conv Try.underlying21 (ef d0 rfl) (by exact wrap_i32 (by omega) (by omega)) (by rw [Try.underlying3];rfl))) (gM q24 (gM q22 (gT (Ty.nat (11 * (k + 1))) rfl (fun A B E G H d0=>rP ((y_mul rfl (ef d0 rfl) (w64 (by omega) (by omega))).mono (fun τ _ h=>cvi (σ:=τ) (by first | omega | exact (Int.natCast_mul _ _).symm) h))) (gM q25 (gS rfl (fun A B E G H d0 d1 d2=>rP (Jw #[A.eval (.tmp 20),A.eval (.tmp 22),A.eval (.tmp 23),A.eval ((Operand.const (Value.int IntKind.i64 1)))] Try.func37 rfl rfl my4 (changesOf_fn (raw) ((11 * (k + 1))) (n) (1) _ _ _ _ _ (ef d0 rfl) (cvi (σ:=B) (by first | omega | exact hr _ | assumption) (ef d1 rfl)) (ef d2 rfl) (cvi (σ:=B) (by first | omega | exact hr _ | assumption) rfl) (by first | omega | exact hr _ | assumption) (by first | omega | exact hr _ | assumption) (by first | omega | exact hr _ | assumption) (by first | omega | exact hr _ | assumption)))) ?_)))))))))
   refine gT (Ty.agg [(Ty.val (Value.int .i32 (((97 + (k + 1)):Nat):Int))),(Ty.lst Ty.ints (Jg raw ((11 * (k + 1))) n (1)))]) rfl (fun A B E G H d0 d1=>rP (y_bld [(0,(.tmp 19),(Ty.val (Value.int .i32 (((97 + (k + 1)):Nat):Int)))),(1,(.tmp 24),(Ty.lst Ty.ints (Jg raw ((11 * (k + 1))) n (1))))] [(Ty.val (Value.int .i32 0)),(Ty.val (Value.slice none 0 0))] (l:=[(0,1),(1,1)]) rfl Try.inf51 rfl (JR (vs:=[.int .i32 0,.slice none 0 0]) rfl) rfl (by intro p hp;simp only [List.mem_cons,List.not_mem_nil,or_false] at hp;rcases hp with rfl | rfl;exact ⟨Jk rfl,(ef d0 rfl)⟩;exact ⟨KZ,(ef d1 rfl)⟩))) (gT (Ty.lstc 2 Kz [((((97 + (k + 1)):Nat):Int),(Jg raw ((11 * (k + 1))) n (1)))]) rfl (fun A B E G H d0=>rP (y_build1c (c:=2) Try.underlying25 Try.inf51 rfl (by decide) (by decide) rfl (ef d0 rfl))) (gE2 ok6 fun a8 s6 ok7 D5=>?_));have o6:=Own.k0 o5 D5.stp
   have q33:At (Ty.val x7_0) s6 a8 (.tmp 16):=D5.done 0 (by decide)
   have q34:=D5.m 10 rfl
   have b2:=Ke q34
   refine tL ok7 (YldM.toL (Qg Try.underlying25 Try.inf51 (by decide) rfl (by decide) (al (R:=(Pr.own 5 51 2 (List.length (cOf raw n k)) (List.flatMap Kz (cOf raw n k)))) q33 o6) q34 (one_flat callOne) (by omega) (by omega))) fun a9 s7 hs2 ok8 r2 sm2=>?_
   have q36:=kq hs2 sm2 7 (D5.k q23)
   obtain ⟨x2,hx2⟩:∃ x,a9.eval (.tmp 27) = x:=⟨_,rfl⟩
   have q40:At (Ty.val x2) s7 a9 (.tmp 27):=hx2
   have o7:=al2 (R:=(Pr.own 5 51 2 (List.length ((cOf raw n k) ++ [((((97 + (k + 1)):Nat):Int),(Jg raw ((11 * (k + 1))) n (1)))])) (List.flatMap Kz ((cOf raw n k) ++ [((((97 + (k + 1)):Nat):Int),(Jg raw ((11 * (k + 1))) n (1)))])))) hx2 (cvo (by simp) (by first | (rw [List.map_append];rfl) | simp) r2)
   clear r2
   refine tL ok8 (Yld.toL (y_as q40)) fun a10 s8 hs3 ok9 r3 sm3=>?_
   have q45:At (Ty.val x2) s8 a10 (.tmp 7):=r3
   clear r3;refine Jh (bn (tn ?_))
   refine gI a10 s8 ok9 (gM (kq hs3 sm3 8 (kq hs2 sm2 8 (D5.k q22))) (gT (Ty.nat ((k + 1) + 1)) rfl (fun A B E G H d0=>rP ((Jy (ef d0 rfl) rfl (w64 (by omega) (by omega))).mono (fun τ _ h=>cvi (σ:=τ) (by first | omega | exact (Int.natCast_mul _ _).symm) h))) (gB 0 (gE ok9 fun a11 s9 ok10 D6=>?_))));have o9:=Own.k0 (Own.kl o7 hs3) D6.stp
   exact tn ⟨many - ((k + 1)),by omega,s9,(k + 1),x2,rfl,((((F6.step0 D5.stp).sl hs2).sl hs3).step0 D6.stp),ok10,(cvi (by (first | rfl | omega | (simp_all;done) | (simp_all;omega))) (D6.m 2 rfl)),(D6.k q45),(D6.k (kq hs3 sm3 0 (kq hs2 sm2 0 (D5.k q24)))),(D6.k (kq hs3 sm3 1 (kq hs2 sm2 1 (D5.k q25)))),(D6.k (kq hs3 sm3 2 (kq hs2 sm2 2 (D5.k (D4.k q21))))),(cvo (by (rw [cOf_succ])) (by (rw [cOf_succ])) o9),by omega,rfl⟩
  ·
   refine Jx (tx (tx (bx (tn (Jb ?_)))))
   refine gI a7 s5 ok6 (gM q23 (gB 0 (gE ok6 fun a12 s10 ok11 D7=>?_)));have o10:=Own.k0 o5 D7.stp
   have q51:At (Ty.val x7_0) s10 a12 (.tmp 6):=D7.done 1
   refine tn (Jj ?_)
   obtain ⟨t3,e1,h1,q52⟩:=Own.seal o10 (by decide)
   rw [← e1]
   have F12:=(F6.step0 D7.stp).step h1 (by decide)
   have q53:At (Ty.lstc 2 Kz (cOf raw n k)) t3 a12 (.tmp 6):=by have e:a12.eval (.tmp 6) = x7_0:=q51;show Ty.has _ _ _;rw [e];exact q52
   exact KP rfl ok11 F12 (cvt (by (rw [show k = many - 1 by omega])) q53)
set_option maxHeartbeats 4000000 in
set_option maxRecDepth 100000 in
theorem rLeadsOf_fn (raw:List Int) (many:Nat) (calls:Nat) (σ:GW)  (v0 v1 v2:Value) (hv0:Ty.has (Ty.lst Ty.int raw) σ v0) (hv1:Ty.has (Ty.nat many) σ v1) (hv2:Ty.has (Ty.nat calls) σ v2)  (hm:many ≤ 1000) (hc:0 < calls) (hr:∀ k,-9223372036854775808 ≤ Kp raw k∧Kp raw k ≤ 9223372036854775807) :
    FnC J 19 #[v0,v1,v2] σ (Ty.lst Ty.int (Qe raw many calls)):=by
 refine KQ Try.func19 rfl Try.ntmps19 (Xj rfl) (fun s0 a0 hle F0 ok0 hargs=>?_)
 have p0:=pA hle (hargs 0 _ rfl) hv0
 have b1:=Ke p0
 have p1:=pA hle (hargs 1 _ rfl) hv1
 have p2:=pA hle (hargs 2 _ rfl) hv2
 clear hargs;refine Jb ?_
 refine gI a0 s0 ok0 (gC (Ty.val (Value.slice none 0 0)) (gE ok0 fun a1 s1 ok1 D1=>?_));refine tn (Jb ?_)
 refine gI a1 s1 ok1 (gC (Ty.val (Value.slice none 0 0)) (gE ok1 fun a2 s2 ok2 D2=>?_));refine tn (Jb (Jb ?_))
 refine gI a2 s2 ok2 (gC (Ty.int (0:Int)) (gE ok2 fun a3 s3 ok3 D3=>?_));refine tn (Je ?_)
 have o1:Own s3 2 3 1 (Value.slice none 0 0) 0 (List.map Ty.int ([]:List Int)):=Own.nil _ _ _ _
 refine KB (fun n1 a4 w1=>∃ (t1:GW) (k:Nat) (x7_0:Value),t1.w = w1∧FromL [] s0 t1∧Ok 23 [] a4∧At (Ty.nat k) t1 a4 (.tmp 8)∧At (Ty.val x7_0) t1 a4 (.tmp 7)∧At (Ty.lst Ty.int raw) t1 a4 (.tmp 0)∧At (Ty.nat many) t1 a4 (.tmp 1)∧At (Ty.nat calls) t1 a4 (.tmp 2)∧Own t1 2 3 1 x7_0 (List.length (Qe raw k calls)) (List.map Ty.int (Qe raw k calls))∧(k ≤ many)∧n1 = many - k) (many - (0)) ?_ ?_
 ·
  exact ⟨s3,0,(Value.slice none 0 0),rfl,(((F0.step0 D1.stp).step0 D2.stp).step0 D3.stp),ok3,(cJ (D3.m 0 rfl)),(D3.k (D2.m 0 rfl)),(D3.k (D2.k (D1.k p0))),(D3.k (D2.k (D1.k p1))),(D3.k (D2.k (D1.k p2))),(cvo (by (rfl)) (by (rfl)) o1),by omega,rfl⟩
 ·
  rintro n2 a5 w2 ⟨t2,k,x7_0,rfl,F4,ok4,q13,q14,q15,q16,q17,o2,hk,rfl⟩
  have hll:=leadsOf_len raw k calls
  have hrk:=hr k
  refine Jb (Jb ?_)
  refine gI a5 t2 ok4 (gM q13 (gM q16 (gS rfl (fun A B E G H d0 d1=>rP (JL (eI d0) (eI d1))) (gE ok4 fun a6 s4 ok5 D4=>?_))));have F5:=F4.step0 D4.stp;have q18:=D4.k q13;have q19:=D4.k q14;have q20:=D4.k q15;have q22:=D4.k q17;have o3:=Own.k0 o2 D4.stp;refine tn ?_
  refine Jm (p:=(((k:Nat):Int) < ((many:Nat):Int))) (D4.m 2 rfl) (fun c1=>?_) (fun c1=>?_)
  ·
   refine Ji (tn (Jb (Je ?_)))
   refine gI a6 s4 ok5 (gM q19 (gM q20 (gM q18 (gS rfl (fun A B E G H d0 d1=>rP (Jw _ Try.func38 rfl rfl my2 (raw_fn (raw) (k) _ _ _ (eI d0) (eI d1) ))) (gM q22 (gS rfl (fun A B E G H d0 d1 d2=>rP (Jw _ Try.func16 rfl rfl my2 (pick_fn ((Kp raw k)) (calls) _ _ _ (cvi (σ:=B) oM (ef d0 rfl)) (cvi (σ:=B) oM (ef d1 rfl)) oM oM))) (gT (Ty.sl 1 1 [(Ty.nat (pick ((Kp raw k)) (calls)))]) rfl (fun A B E G H d0=>rP (Qs Try.underlying26 Try.inf3 rfl (Jk rfl) (eI d0))) (gE2 ok5 fun a7 s5 ok6 D5=>?_))))))));have o4:=Own.k0 o3 D5.stp
   have q29:At (Ty.val x7_0) s5 a7 (.tmp 14):=D5.done 0 dE
   have q30:=D5.m 6 rfl
   have b2:=Ke q30
   refine tL ok6 (YldM.toL (Qg Try.underlying26 Try.inf3 dE rfl dE (al (R:=(Pr.own 2 3 1 (List.length (Qe raw k calls)) (List.map Ty.int (Qe raw k calls)))) q29 o4) q30 (by intro U hU;simp at hU;subst hU;exact Jk rfl) oM oM)) fun a8 s6 hs1 ok7 r1 sm1=>?_
   have q32:=kq hs1 sm1 7 (D5.k q19)
   obtain ⟨x1,hx1⟩:∃ x,a8.eval (.tmp 21) = x:=⟨_,rfl⟩
   have q36:At (Ty.val x1) s6 a8 (.tmp 21):=hx1
   have o5:=al2 (R:=(Pr.own 2 3 1 (List.length ((Qe raw k calls) ++ [(((pick ((Kp raw k)) (calls)):Nat):Int)])) (List.map Ty.int ((Qe raw k calls) ++ [(((pick ((Kp raw k)) (calls)):Nat):Int)])))) hx1 (cvo (by simp) (by first | (rw [List.map_append];rfl) | simp) r1)
   clear r1
   refine tL ok7 (Yld.toL (y_as q36)) fun a9 s7 hs2 ok8 r2 sm2=>?_
   have q41:At (Ty.val x1) s7 a9 (.tmp 7):=r2
   clear r2;refine Jh (bn (tn ?_))
   refine gI a9 s7 ok8 (gM (kq hs2 sm2 8 (kq hs1 sm1 8 (D5.k q18))) (gT (Ty.int (((k:Nat):Int) + (1:Int))) rfl (fun A B E G H d0=>rP (Jy (eI d0) rfl wX)) (gB 0 (gE ok8 fun a10 s8 ok9 D6=>?_))));have o7:=Own.k0 (Own.kl o5 hs2) D6.stp
   exact tn ⟨many - ((k+1)),by omega,s8,(k+1),x1,rfl,((((F5.step0 D5.stp).sl hs1).sl hs2).step0 D6.stp),ok9,(cJ (D6.m 2 rfl)),(D6.k q41),(D6.k (kq hs2 sm2 0 (kq hs1 sm1 0 (D5.k q20)))),(D6.k (kq hs2 sm2 1 (kq hs1 sm1 1 (D5.k (D4.k q16))))),(D6.k (kq hs2 sm2 2 (kq hs1 sm1 2 (D5.k q22)))),(cvo (by (rw [leadsOf_succ])) (by (rw [leadsOf_succ])) o7),by omega,rfl⟩
  ·
   refine Jx (tx (tx (bx (tn (Jb ?_)))))
   refine gI a6 s4 ok5 (gM q19 (gB 0 (gE ok5 fun a11 s9 ok10 D7=>?_)));have o8:=Own.k0 o3 D7.stp
   have q47:At (Ty.val x7_0) s9 a11 (.tmp 6):=D7.done 1
   refine tn (Jj ?_)
   obtain ⟨t3,e1,h1,q48⟩:=Own.seal o8 dE
   rw [← e1]
   have F11:=(F5.step0 D7.stp).step h1 dE
   have q49:At (Ty.lst Ty.int (Qe raw k calls)) t3 a11 (.tmp 6):=by have e:a11.eval (.tmp 6) = x7_0:=q47;show Ty.has _ _ _;rw [e];exact q48
   exact KP rfl ok10 F11 (cvt (by (obtain rfl:many = k:=oM;rfl)) q49)
set_option maxRecDepth 100000 in
theorem letter_fn (c:Int) (σ:GW) (v0:Value) (hv0:Ty.has (Ty.val (Value.int .i32 c)) σ v0)  :
    FnC J 90 #[v0] σ (Ty.bool (letterB c)):=by
 refine Kw Try.func90 rfl Try.ntmps90 (Xj rfl) (fun s0 a0 hle F0 ok0 hargs=>?_)
 have p0:=pA hle (hargs 0 _ rfl) hv0
 clear hargs;refine Jb ?_
 refine gI a0 s0 ok0 (gC (Ty.bool false) (gE ok0 fun a1 s1 ok1 D1=>?_));have q1:=D1.k p0;refine tn (Jb ?_)
 refine gI a1 s1 ok1 (gM q1 (gS rfl (fun A B E G H d0=>rP (y_geq (eI d0) rfl)) (gS rfl (fun A B E G H d0=>rP (Jc (eI d0))) (gS rfl (fun A B E G H d0=>gu G (eI d0) fun hg=>Jc (kp (H 0 rfl) E q1)) (gS rfl (fun A B E G H d0 d1=>gu G (eI d1) fun hg=>y_leq ((ef d0 rfl).1 hg) rfl) (gS rfl (fun A B E G H d0 d1=>rP (Ki (eI d0) (eI d1) rfl)) (gS rfl (fun A B E G H d0 d1=>rP (Jc (eI d0))) (gS rfl (fun A B E G H d0=>gu G (eI d0) fun hg=>Jc (kp (H 0 rfl) E q1)) (gS rfl (fun A B E G H d0 d1=>gu G (eI d1) fun hg=>y_geq ((ef d0 rfl).1 hg) rfl) (gS rfl (fun A B E G H d0 d1 d2=>gu G (eI d1) fun hg=>y_mv ((ef d0 rfl).1 hg)) (gS rfl (fun A B E G H d0=>gu2 G (eI d0) fun hg=>Jc (kp (H 0 rfl) E q1)) (gS rfl (fun A B E G H d0 d1=>gu2 G (eI d1) fun hg=>y_leq ((ef d0 rfl).1 hg) rfl) (gS rfl (fun A B E G H d0 d1 d2=>gu G (eI d2) fun hg=>Ki ((ef d0 rfl).1 hg) (grd_part hg (eI d1)) rfl) (gS rfl (fun A B E G H d0 d1=>rP (Jv (eI d0) rfl (eI d1))) (gS rfl (fun A B E G H d0 d1=>rP (Jc (eI d0))) (gT (Ty.grd ((((decide ((65:Int) ≤ c)) && (decide (c ≤ (90:Int)))) || ((decide ((97:Int) ≤ c)) && (decide (c ≤ (122:Int))))) = false) (Ty.val (Value.int .i32 c))) rfl (by intro A B E G H d0;refine Jd G rfl rfl dE (eI d0) (fun hg=>?_);obtain ⟨d1,d2⟩:=Xf hg;exact Jc (kp (H 0 rfl) E q1)) ?_))))))))))))))))
 refine gT (Ty.grd ((((decide ((65:Int) ≤ c)) && (decide (c ≤ (90:Int)))) || ((decide ((97:Int) ≤ c)) && (decide (c ≤ (122:Int))))) = false) (Ty.bool (decide ((48:Int) ≤ c)))) rfl (by intro A B E G H d0 d1;refine Jd G rfl rfl dE (eI d1) (fun hg=>?_);obtain ⟨d3,d4⟩:=Xf hg;exact y_geq ((ef d0 rfl).1 hg) rfl) (gT (Ty.grd ((((decide ((65:Int) ≤ c)) && (decide (c ≤ (90:Int)))) || ((decide ((97:Int) ≤ c)) && (decide (c ≤ (122:Int))))) = false) (Ty.bool (decide ((48:Int) ≤ c)))) rfl (by intro A B E G H d0 d1 d2;refine Jd G rfl rfl dE (eI d1) (fun hg=>?_);obtain ⟨d5,d6⟩:=Xf hg;exact Jc ((ef d0 rfl).1 hg)) (gS rfl (fun A B E G H d0=>gu2 G (eI d0) fun hg=>Jc (kp (H 0 rfl) E q1)) (gS rfl (fun A B E G H d0 d1=>gu2 G (eI d1) fun hg=>y_leq ((ef d0 rfl).1 hg) rfl) (gT (Ty.grd ((((decide ((65:Int) ≤ c)) && (decide (c ≤ (90:Int)))) || ((decide ((97:Int) ≤ c)) && (decide (c ≤ (122:Int))))) = false) (Ty.bool ((decide ((48:Int) ≤ c)) && (decide (c ≤ (57:Int)))))) rfl (by intro A B E G H d0 d1 d2;refine Jd G rfl rfl dE (eI d2) (fun hg=>?_);obtain ⟨d7,d8⟩:=Xf hg;exact Ki ((ef d0 rfl).1 hg) (grd_part hg (eI d1)) rfl) (gS rfl (fun A B E G H d0 d1=>rP (Jv (eI d0) rfl (eI d1))) (gS rfl (fun A B E G H d0 d1=>rP (Jc (eI d0))) ?_))))))
 refine gT (Ty.grd (((((decide ((65:Int) ≤ c)) && (decide (c ≤ (90:Int)))) || ((decide ((97:Int) ≤ c)) && (decide (c ≤ (122:Int))))) || ((decide ((48:Int) ≤ c)) && (decide (c ≤ (57:Int))))) = false) (Ty.val (Value.int .i32 c))) rfl (by intro A B E G H d0;refine Jd G rfl rfl dE (eI d0) (fun hg=>?_);obtain ⟨d9,d10⟩:=Xf hg;obtain ⟨d11,d12⟩:=Xf d9;exact Jc (kp (H 0 rfl) E q1)) (gT (Ty.grd (((((decide ((65:Int) ≤ c)) && (decide (c ≤ (90:Int)))) || ((decide ((97:Int) ≤ c)) && (decide (c ≤ (122:Int))))) || ((decide ((48:Int) ≤ c)) && (decide (c ≤ (57:Int))))) = false) (Ty.bool (decide (c = (32:Int))))) rfl (by intro A B E G H d0 d1;refine Jd G rfl rfl dE (eI d1) (fun hg=>?_);obtain ⟨d13,d14⟩:=Xf hg;obtain ⟨d15,d16⟩:=Xf d13;exact y_eql ((ef d0 rfl).1 hg) rfl) (gS rfl (fun A B E G H d0 d1=>rP (Jv (eI d0) rfl (eI d1))) (gS rfl (fun A B E G H d0 d1=>rP (Jc (eI d0))) (gT (Ty.grd ((((((decide ((65:Int) ≤ c)) && (decide (c ≤ (90:Int)))) || ((decide ((97:Int) ≤ c)) && (decide (c ≤ (122:Int))))) || ((decide ((48:Int) ≤ c)) && (decide (c ≤ (57:Int))))) || (decide (c = (32:Int)))) = false) (Ty.val (Value.int .i32 c))) rfl (by intro A B E G H d0;refine Jd G rfl rfl dE (eI d0) (fun hg=>?_);obtain ⟨d17,d18⟩:=Xf hg;obtain ⟨d19,d20⟩:=Xf d17;obtain ⟨d21,d22⟩:=Xf d19;have d18:=Xh d18;exact Jc (kp (H 0 rfl) E q1)) ?_))))
 refine gT (Ty.grd ((((((decide ((65:Int) ≤ c)) && (decide (c ≤ (90:Int)))) || ((decide ((97:Int) ≤ c)) && (decide (c ≤ (122:Int))))) || ((decide ((48:Int) ≤ c)) && (decide (c ≤ (57:Int))))) || (decide (c = (32:Int)))) = false) (Ty.bool (decide ((192:Int) ≤ c)))) rfl (by intro A B E G H d0 d1;refine Jd G rfl rfl dE (eI d1) (fun hg=>?_);obtain ⟨d23,d24⟩:=Xf hg;obtain ⟨d25,d26⟩:=Xf d23;obtain ⟨d27,d28⟩:=Xf d25;have d24:=Xh d24;exact y_geq ((ef d0 rfl).1 hg) rfl) (gT (Ty.grd ((((((decide ((65:Int) ≤ c)) && (decide (c ≤ (90:Int)))) || ((decide ((97:Int) ≤ c)) && (decide (c ≤ (122:Int))))) || ((decide ((48:Int) ≤ c)) && (decide (c ≤ (57:Int))))) || (decide (c = (32:Int)))) = false) (Ty.bool (decide ((192:Int) ≤ c)))) rfl (by intro A B E G H d0 d1 d2;refine Jd G rfl rfl dE (eI d1) (fun hg=>?_);obtain ⟨d29,d30⟩:=Xf hg;obtain ⟨d31,d32⟩:=Xf d29;obtain ⟨d33,d34⟩:=Xf d31;have d30:=Xh d30;exact Jc ((ef d0 rfl).1 hg)) (gS rfl (fun A B E G H d0=>gu2 G (eI d0) fun hg=>Jc (kp (H 0 rfl) E q1)) (gS rfl (fun A B E G H d0 d1=>gu2 G (eI d1) fun hg=>y_leq ((ef d0 rfl).1 hg) rfl) ?_)))
 refine gT (Ty.grd ((((((decide ((65:Int) ≤ c)) && (decide (c ≤ (90:Int)))) || ((decide ((97:Int) ≤ c)) && (decide (c ≤ (122:Int))))) || ((decide ((48:Int) ≤ c)) && (decide (c ≤ (57:Int))))) || (decide (c = (32:Int)))) = false) (Ty.bool ((decide ((192:Int) ≤ c)) && (decide (c ≤ (382:Int)))))) rfl (by intro A B E G H d0 d1 d2;refine Jd G rfl rfl dE (eI d2) (fun hg=>?_);obtain ⟨d35,d36⟩:=Xf hg;obtain ⟨d37,d38⟩:=Xf d35;obtain ⟨d39,d40⟩:=Xf d37;have d36:=Xh d36;exact Ki ((ef d0 rfl).1 hg) (grd_part hg (eI d1)) rfl) (gT (Ty.grd ((((((decide ((65:Int) ≤ c)) && (decide (c ≤ (90:Int)))) || ((decide ((97:Int) ≤ c)) && (decide (c ≤ (122:Int))))) || ((decide ((48:Int) ≤ c)) && (decide (c ≤ (57:Int))))) || (decide (c = (32:Int)))) = false) (Ty.bool ((decide ((192:Int) ≤ c)) && (decide (c ≤ (382:Int)))))) rfl (by intro A B E G H d0 d1 d2;refine Jd G rfl rfl dE (eI d2) (fun hg=>?_);obtain ⟨d41,d42⟩:=Xf hg;obtain ⟨d43,d44⟩:=Xf d41;obtain ⟨d45,d46⟩:=Xf d43;have d42:=Xh d42;exact Jc ((ef d0 rfl).1 hg)) (gT (Ty.grd (((((((decide ((65:Int) ≤ c)) && (decide (c ≤ (90:Int)))) || ((decide ((97:Int) ≤ c)) && (decide (c ≤ (122:Int))))) || ((decide ((48:Int) ≤ c)) && (decide (c ≤ (57:Int))))) || (decide (c = (32:Int)))) = false)∧((decide ((192:Int) ≤ c)) && (decide (c ≤ (382:Int)))) = true) (Ty.val (Value.int .i32 c))) rfl (by intro A B E G H d0;refine run_guard2 G rfl rfl dE (eI d0) (fun hg=>?_);obtain ⟨d47,d48⟩:=Xg hg.2;have d47:=Xi d47;have d48:=Xi d48;exact Jc (kp (H 0 rfl) E q1)) ?_))
 refine gT (Ty.grd (((((((decide ((65:Int) ≤ c)) && (decide (c ≤ (90:Int)))) || ((decide ((97:Int) ≤ c)) && (decide (c ≤ (122:Int))))) || ((decide ((48:Int) ≤ c)) && (decide (c ≤ (57:Int))))) || (decide (c = (32:Int)))) = false)∧((decide ((192:Int) ≤ c)) && (decide (c ≤ (382:Int)))) = true) (Ty.bool (decide (c ≠ (215:Int))))) rfl (by intro A B E G H d0 d1;refine run_guard2 G rfl rfl dE (eI d1) (fun hg=>?_);obtain ⟨d49,d50⟩:=Xg hg.2;have d49:=Xi d49;have d50:=Xi d50;exact QH ((ef d0 rfl).1 hg) rfl) (gT (Ty.grd ((((((decide ((65:Int) ≤ c)) && (decide (c ≤ (90:Int)))) || ((decide ((97:Int) ≤ c)) && (decide (c ≤ (122:Int))))) || ((decide ((48:Int) ≤ c)) && (decide (c ≤ (57:Int))))) || (decide (c = (32:Int)))) = false) (Ty.bool (((decide ((192:Int) ≤ c)) && (decide (c ≤ (382:Int)))) && (decide (c ≠ (215:Int)))))) rfl (by intro A B E G H d0 d1 d2;refine Jd G rfl rfl dE (eI d2) (fun hg=>?_);obtain ⟨d51,d52⟩:=Xf hg;obtain ⟨d53,d54⟩:=Xf d51;obtain ⟨d55,d56⟩:=Xf d53;have d52:=Xh d52;exact Ki ((ef d0 rfl).1 hg) (grd_part hg (eI d1)) rfl) ?_)
 refine gT (Ty.grd ((((((decide ((65:Int) ≤ c)) && (decide (c ≤ (90:Int)))) || ((decide ((97:Int) ≤ c)) && (decide (c ≤ (122:Int))))) || ((decide ((48:Int) ≤ c)) && (decide (c ≤ (57:Int))))) || (decide (c = (32:Int)))) = false) (Ty.bool (((decide ((192:Int) ≤ c)) && (decide (c ≤ (382:Int)))) && (decide (c ≠ (215:Int)))))) rfl (by intro A B E G H d0 d1 d2;refine Jd G rfl rfl dE (eI d2) (fun hg=>?_);obtain ⟨d57,d58⟩:=Xf hg;obtain ⟨d59,d60⟩:=Xf d57;obtain ⟨d61,d62⟩:=Xf d59;have d58:=Xh d58;exact Jc ((ef d0 rfl).1 hg)) (gT (Ty.grd (((((((decide ((65:Int) ≤ c)) && (decide (c ≤ (90:Int)))) || ((decide ((97:Int) ≤ c)) && (decide (c ≤ (122:Int))))) || ((decide ((48:Int) ≤ c)) && (decide (c ≤ (57:Int))))) || (decide (c = (32:Int)))) = false)∧(((decide ((192:Int) ≤ c)) && (decide (c ≤ (382:Int)))) && (decide (c ≠ (215:Int)))) = true) (Ty.val (Value.int .i32 c))) rfl (by intro A B E G H d0;refine run_guard2 G rfl rfl dE (eI d0) (fun hg=>?_);obtain ⟨d63,d64⟩:=Xg hg.2;obtain ⟨d65,d66⟩:=Xg d63;have d65:=Xi d65;have d66:=Xi d66;have d64:=Xi d64;exact Jc (kp (H 0 rfl) E q1)) ?_)
 refine gT (Ty.grd (((((((decide ((65:Int) ≤ c)) && (decide (c ≤ (90:Int)))) || ((decide ((97:Int) ≤ c)) && (decide (c ≤ (122:Int))))) || ((decide ((48:Int) ≤ c)) && (decide (c ≤ (57:Int))))) || (decide (c = (32:Int)))) = false)∧(((decide ((192:Int) ≤ c)) && (decide (c ≤ (382:Int)))) && (decide (c ≠ (215:Int)))) = true) (Ty.bool (decide (c ≠ (247:Int))))) rfl (by intro A B E G H d0 d1;refine run_guard2 G rfl rfl dE (eI d1) (fun hg=>?_);obtain ⟨d67,d68⟩:=Xg hg.2;obtain ⟨d69,d70⟩:=Xg d67;have d69:=Xi d69;have d70:=Xi d70;have d68:=Xi d68;exact QH ((ef d0 rfl).1 hg) rfl) (gT (Ty.grd ((((((decide ((65:Int) ≤ c)) && (decide (c ≤ (90:Int)))) || ((decide ((97:Int) ≤ c)) && (decide (c ≤ (122:Int))))) || ((decide ((48:Int) ≤ c)) && (decide (c ≤ (57:Int))))) || (decide (c = (32:Int)))) = false) (Ty.bool ((((decide ((192:Int) ≤ c)) && (decide (c ≤ (382:Int)))) && (decide (c ≠ (215:Int)))) && (decide (c ≠ (247:Int)))))) rfl (by intro A B E G H d0 d1 d2;refine Jd G rfl rfl dE (eI d2) (fun hg=>?_);obtain ⟨d71,d72⟩:=Xf hg;obtain ⟨d73,d74⟩:=Xf d71;obtain ⟨d75,d76⟩:=Xf d73;have d72:=Xh d72;exact Ki ((ef d0 rfl).1 hg) (grd_part hg (eI d1)) rfl) (gS rfl (fun A B E G H d0 d1=>rP (Jv (eI d0) rfl (eI d1))) (gB 0 (gE ok1 fun a2 s2 ok2 D2=>?_))));refine tn (Jj ?_)
 exact QT rfl ok2 ((F0.step0 D1.stp).step0 D2.stp) (cvb (by (rfl)) (D2.m 42 rfl))
set_option maxRecDepth 100000 in
theorem mName_fn (s:ByteArray) (σ:GW) (v0:Value) (hv0:Ty.has (Ty.val (Value.string s)) σ v0) (E:s.size ≤ 1099511627776) :
    FnC J 87 #[v0] σ (Ty.bool (nameL s)):=by
 refine Kw Try.func87 rfl Try.ntmps87 (Xj rfl) (fun s0 a0 hle F0 ok0 hargs=>?_)
 have p0:=pA hle (hargs 0 _ rfl) hv0
 clear hargs;refine Jb ?_
 refine gI a0 s0 ok0 (gC (Ty.bool false) (gE ok0 fun a1 s1 ok1 D1=>?_));refine tn (Jb ?_)
 refine gI a1 s1 ok1 (gC (Ty.int (0:Int)) (gE ok1 fun a2 s2 ok2 D2=>?_));have q2:=D2.k (D1.k p0);refine tn (Jb (Jb ?_))
 refine gI a2 s2 ok2 (gM q2 (gR (Pr.iter 7 s 0) rfl (by intro A B E G H d0;exact rP (y_range 7 Try.underlying9 (eI d0))) (gE ok2 fun a3 s3 ok3 D3=>?_)))
 have q6:(Pr.iter 7 s 0).has s3 (a3.eval (.tmp 7)):=D3.done 1
 refine tn (Je ?_)
 refine KB (fun n1 a4 w1=>∃ (t1:GW) (xs:List Nat) (p:Nat) (f:Nat),t1.w = w1∧From s0 t1∧Ok 35 [] a4∧(Pr.iter 7 s p).has t1 (a4.eval (.tmp 7))∧At (Ty.nat xs.length) t1 a4 (.tmp 3)∧At (Ty.val (Value.string s)) t1 a4 (.tmp 0)∧(∀ c ∈ xs,letterB ((c:Nat):Int) = true)∧(xs ++ runesF s f p = runesL s)∧(s.size ≤ f + p)∧(p ≤ s.size + 4)∧(xs.length ≤ p)∧(xs.length = 0 ∨ 0 < s.size)∧n1 = s.size + 8 - p) (s.size + 8 - (0)) ?_ ?_
 ·
  exact ⟨s3,([]:List Nat),0,s.size,rfl,(((F0.step0 D1.stp).step0 D2.stp).step0 D3.stp),ok3,(cvit oM q6),(cJ (D3.k (D2.m 0 rfl))),(D3.k q2),fun c hc=>by simp at hc,rfl,by omega,by omega,by simp,.inl rfl,rfl⟩
 ·
  rintro n2 a5 w2 ⟨t2,xs,p,f,rfl,F4,ok4,q7,q8,q9,hall,heq,hf,hp,hx,hz,rfl⟩
  have hw:=wid_pos s p
  have hw2:=wid_le s p
  refine Jb ?_
  refine gI a5 t2 ok4 (gE2 ok4 fun a6 s4 ok5 D4=>?_);have q10:=(Pr.iter 7 s p).up D4.stp q7
  have q11:a6.eval (.tmp 7) = a5.eval (.tmp 7):=D4.same 7 rfl
  refine Qf (m:=7) (R:=(fun v τ=>(Ty.nxt (decide (p < s.size)) p (run1 s p)).has τ v∧Iter τ 7 (a5.eval (.tmp 7)) s (stepTo s p))) rfl rfl dE ok5 (m_next dE q10 q11) (fun a7 s5 hs1 ok6 r1 sm1=>?_)
  have F6:=(F4.step0 D4.stp).step hs1 dE
  have q14:(Pr.iter 7 s (stepTo s p)).has s5 (a5.eval (.tmp 7)):=(r1).2
  have q15:=(sm1 7 dE).trans q11
  have q16:At (Ty.nat xs.length) s5 a7 (.tmp 3):=kpm hs1 dE (sm1 3 dE) (D4.k q8)
  have q17:At (Ty.val (Value.string s)) s5 a7 (.tmp 0):=kpm hs1 dE (sm1 0 dE) (D4.k q9)
  have q18:At (Ty.nxt (decide (p < s.size)) p (run1 s p)) s5 a7 (.tmp 8):=(r1).1
  refine Qf (m:=0) (R:=(fun v τ=>Pr.has (Ty.pr (Ty.bool (decide (p < s.size)))) τ v)) rfl rfl dE ok6 (Yld.toM (y_ext_n0 q18)) (fun a8 s6 hs2 ok7 r2 sm2=>?_)
  have F7:=F6.step hs2 dE;have q19:=Iter.keep q14 hs2 dE (.inl rfl);have q20:=(sm2 7 dE).trans q15
  have q21:At (Ty.nat xs.length) s6 a8 (.tmp 3):=kpm hs2 dE (sm2 3 dE) q16
  have q22:At (Ty.val (Value.string s)) s6 a8 (.tmp 0):=kpm hs2 dE (sm2 0 dE) q17
  have q23:At (Ty.nxt (decide (p < s.size)) p (run1 s p)) s6 a8 (.tmp 8):=kpm hs2 dE (sm2 8 dE) q18
  have q24:At (Ty.bool (decide (p < s.size))) s6 a8 (.tmp 9):=r2
  refine Jh ?_
  have q25:(Pr.iter 7 s (stepTo s p)).has s6 (a8.eval (.tmp 7)):=al q20 q19
  refine tn (Jb ?_)
  refine Jm (p:=(p < s.size)) q24 (fun c1=>?_) (fun c1=>?_)
  ·
   refine Ji (tn (Je (Jb ?_)))
   refine gI a8 s6 ok7 (gT (Ty.val (Value.int .i32 ((run1 s p:Nat):Int))) rfl (fun A B E G H=>rP (y_ext_n2 (kp (H 8 rfl) E q23) (decide_eq_true oM))) (gB 0 (gE ok7 fun a9 s7 ok8 D5=>?_)))
   have q26:(Pr.iter 7 s (stepTo s p)).has s7 (a9.eval (.tmp 7)):=D5.ko q25 rfl
   refine tn (Jb (Jb ?_))
   refine gI a9 s7 ok8 (gM (D5.m 1 rfl) (gS rfl (fun A B E G H d0=>rP (Jw _ Try.func90 rfl rfl my1 (letter_fn (((run1 s p:Nat):Int)) _ _ (eI d0) ))) (gS rfl (fun A B E G H d0=>rP (y_not (eI d0))) (gE ok8 fun a10 s8 ok9 D6=>?_))));have F9:=(F7.step0 D5.stp).step0 D6.stp
   have q30:(Pr.iter 7 s (stepTo s p)).has s8 (a10.eval (.tmp 7)):=D6.ko q26 rfl
   refine tn ?_
   refine KM (D6.m 2 rfl) (fun c2=>?_) (fun c2=>?_)
   ·
    have hlet:letterB (run1 s p:Nat) = false:=(by simpa using c2)
    refine Jb ?_
    refine gI a10 s8 ok9 (gC (Ty.bool false) (gE ok9 fun a11 s9 ok10 D7=>?_));refine tn (Jj (tr (br (tr (br (tr ?_))))))
    exact QT rfl ok10 (F9.step0 D7.stp) (cvb (by (exact (nameL_no heq oM oM hlet).symm)) (D7.m 0 rfl))
   ·
    have hlet:letterB (run1 s p:Nat) = true:=(by simpa using c2)
    refine Ji (tn ?_)
    refine gI a10 s8 ok9 (gM (D6.k (D5.k q21)) (gT (Ty.int (((xs.length:Nat):Int) + (1:Int))) rfl (fun A B E G H d0=>rP (Jy (eI d0) rfl wX)) (gB 0 (gE ok9 fun a12 s10 ok11 D8=>?_))))
    have q35:(Pr.iter 7 s (stepTo s p)).has s10 (a12.eval (.tmp 7)):=D8.ko q30 rfl
    refine bn ?_
    exact tn ⟨s.size + 8 - ((p + wid s p)),by omega,s10,(xs ++ [run1 s p]),(p + wid s p),(f - 1),rfl,(F9.step0 D8.stp),ok11,(cvit (by unfold stepTo;rw [if_pos oM]) q35),(cvi (by (simp)) (D8.m 2 rfl)),(D8.k (D6.k (D5.k q22))),fun c hc=>by (rcases List.mem_append.1 hc with h | h;exact hall c h;simp at h;subst h;exact hlet),runesF_step heq oM oM,by omega,by omega,by simp;omega,.inr oM,rfl⟩
  ·
   refine Jx (tx (tx (bx (tn (Jb ?_)))))
   refine gI a8 s6 ok7 (gM q21 (gS rfl (fun A B E G H d0=>rP (y_geq (eI d0) rfl)) (gS rfl (fun A B E G H d0=>rP (Jc (eI d0))) (gS rfl (fun A B E G H d0=>gu G (eI d0) fun hg=>Jc (kp (H 3 rfl) E q21)) (gS rfl (fun A B E G H d0 d1=>gu G (eI d1) fun hg=>y_leq ((ef d0 rfl).1 hg) rfl) (gS rfl (fun A B E G H d0 d1=>rP (Ki (eI d0) (eI d1) rfl)) (gS rfl (fun A B E G H d0 d1=>rP (Jc (eI d0))) (gT (Ty.grd (((decide ((1:Int) ≤ ((xs.length:Nat):Int))) && (decide (((xs.length:Nat):Int) ≤ (20:Int)))) = true) (Ty.val (Value.string s))) rfl (by intro A B E G H d0;refine Jd G rfl rfl dE (eI d0) (fun hg=>?_);obtain ⟨d1,d2⟩:=Xg hg;have d1:=Xi d1;have d2:=Xi d2;exact Jc (kp (H 0 rfl) E q22)) (gT (Ty.grd (((decide ((1:Int) ≤ ((xs.length:Nat):Int))) && (decide (((xs.length:Nat):Int) ≤ (20:Int)))) = true) (Ty.val (Value.int .u8 (((s.get! ((0:Int)).toNat).toNat:Nat):Int)))) rfl (by intro A B E G H d0 d1;refine Jd G rfl rfl dE (eI d1) (fun hg=>?_);obtain ⟨d3,d4⟩:=Xg hg;have d3:=Xi d3;have d4:=Xi d4;exact y_sindex Try.underlying9 ((ef d0 rfl).1 hg) rfl oM oM) (gT (Ty.grd (((decide ((1:Int) ≤ ((xs.length:Nat):Int))) && (decide (((xs.length:Nat):Int) ≤ (20:Int)))) = true) (Ty.bool (decide ((((s.get! ((0:Int)).toNat).toNat:Nat):Int) ≠ (32:Int))))) rfl (by intro A B E G H d0 d1;refine Jd G rfl rfl dE (eI d1) (fun hg=>?_);obtain ⟨d5,d6⟩:=Xg hg;have d5:=Xi d5;have d6:=Xi d6;exact QH ((ef d0 rfl).1 hg) rfl) ?_))))))))))
   refine gS rfl (fun A B E G H d0 d1=>rP (Ki (eI d0) (eI d1) rfl)) (gS rfl (fun A B E G H d0 d1=>rP (Jc (eI d0))) (gT (Ty.grd ((((decide ((1:Int) ≤ ((xs.length:Nat):Int))) && (decide (((xs.length:Nat):Int) ≤ (20:Int)))) && (decide ((((s.get! ((0:Int)).toNat).toNat:Nat):Int) ≠ (32:Int)))) = true) (Ty.val (Value.string s))) rfl (by intro A B E G H d0;refine Jd G rfl rfl dE (eI d0) (fun hg=>?_);obtain ⟨d7,d8⟩:=Xg hg;obtain ⟨d9,d10⟩:=Xg d7;have d9:=Xi d9;have d10:=Xi d10;have d8:=Xi d8;exact Jc (kp (H 0 rfl) E q22)) (gT (Ty.grd ((((decide ((1:Int) ≤ ((xs.length:Nat):Int))) && (decide (((xs.length:Nat):Int) ≤ (20:Int)))) && (decide ((((s.get! ((0:Int)).toNat).toNat:Nat):Int) ≠ (32:Int)))) = true) (Ty.val (Value.string s))) rfl (by intro A B E G H d0;refine Jd G rfl rfl dE (eI d0) (fun hg=>?_);obtain ⟨d11,d12⟩:=Xg hg;obtain ⟨d13,d14⟩:=Xg d11;have d13:=Xi d13;have d14:=Xi d14;have d12:=Xi d12;exact Jc (kp (H 0 rfl) E q22)) (gT (Ty.grd ((((decide ((1:Int) ≤ ((xs.length:Nat):Int))) && (decide (((xs.length:Nat):Int) ≤ (20:Int)))) && (decide ((((s.get! ((0:Int)).toNat).toNat:Nat):Int) ≠ (32:Int)))) = true) (Ty.nat (ByteArray.size s))) rfl (by intro A B E G H d0 d1;refine Jd G rfl rfl dE (eI d1) (fun hg=>?_);obtain ⟨d15,d16⟩:=Xg hg;obtain ⟨d17,d18⟩:=Xg d15;have d17:=Xi d17;have d18:=Xi d18;have d16:=Xi d16;exact y_len_str Try.underlying9 ((ef d0 rfl).1 hg)) ?_))))
   refine gT (Ty.grd ((((decide ((1:Int) ≤ ((xs.length:Nat):Int))) && (decide (((xs.length:Nat):Int) ≤ (20:Int)))) && (decide ((((s.get! ((0:Int)).toNat).toNat:Nat):Int) ≠ (32:Int)))) = true) (Ty.int ((((ByteArray.size s):Nat):Int) - (1:Int)))) rfl (by intro A B E G H d0 d1;refine Jd G rfl rfl dE (eI d1) (fun hg=>?_);obtain ⟨d19,d20⟩:=Xg hg;obtain ⟨d21,d22⟩:=Xg d19;have d21:=Xi d21;have d22:=Xi d22;have d20:=Xi d20;exact y_sub ((ef d0 rfl).1 hg) rfl wX) (gT (Ty.grd ((((decide ((1:Int) ≤ ((xs.length:Nat):Int))) && (decide (((xs.length:Nat):Int) ≤ (20:Int)))) && (decide ((((s.get! ((0:Int)).toNat).toNat:Nat):Int) ≠ (32:Int)))) = true) (Ty.val (Value.int .u8 (((s.get! (((((ByteArray.size s):Nat):Int) - (1:Int))).toNat).toNat:Nat):Int)))) rfl (by intro A B E G H d0 d1 d2;refine Jd G rfl rfl dE (eI d2) (fun hg=>?_);obtain ⟨d23,d24⟩:=Xg hg;obtain ⟨d25,d26⟩:=Xg d23;have d25:=Xi d25;have d26:=Xi d26;have d24:=Xi d24;exact y_sindex Try.underlying9 ((ef d0 rfl).1 hg) ((ef d1 rfl).1 hg) oM oM) ?_)
   refine gT (Ty.grd ((((decide ((1:Int) ≤ ((xs.length:Nat):Int))) && (decide (((xs.length:Nat):Int) ≤ (20:Int)))) && (decide ((((s.get! ((0:Int)).toNat).toNat:Nat):Int) ≠ (32:Int)))) = true) (Ty.bool (decide ((((s.get! (((((ByteArray.size s):Nat):Int) - (1:Int))).toNat).toNat:Nat):Int) ≠ (32:Int))))) rfl (by intro A B E G H d0 d1;refine Jd G rfl rfl dE (eI d1) (fun hg=>?_);obtain ⟨d27,d28⟩:=Xg hg;obtain ⟨d29,d30⟩:=Xg d27;have d29:=Xi d29;have d30:=Xi d30;have d28:=Xi d28;exact QH ((ef d0 rfl).1 hg) rfl) (gS rfl (fun A B E G H d0 d1=>rP (Ki (eI d0) (eI d1) rfl)) (gB 0 (gE ok7 fun a13 s11 ok12 D9=>?_)));refine tn (Jj ?_)
   exact QT rfl ok12 (F7.step0 D9.stp) (cvb (by (rw [runesF_end oM,List.append_nil] at heq;rw [nameL_all (by rw [← heq];exact hall),heq];simp)) (D9.m 19 rfl))
set_option maxRecDepth 100000 in
theorem pCheck_fn (n:Int) (l:List Int) (σ:GW) (v0 v1:Value) (hv0:Ty.has (Ty.int n) σ v0) (hv1:Ty.has (Ty.lst Ty.int l) σ v1) (hn:-9223372036854775808 ≤ n∧n ≤ 9223372036854775807) :
    FnC J 77 #[v0,v1] σ (Ty.int (Qi n l)):=by
 refine Kw Try.func77 rfl Try.ntmps77 (Xj rfl) (fun s0 a0 hle F0 ok0 hargs=>?_)
 have p0:=pA hle (hargs 0 _ rfl) hv0
 have p1:=pA hle (hargs 1 _ rfl) hv1
 have b1:=Ke p1
 clear hargs;refine Jb ?_
 refine gI a0 s0 ok0 (gC (Ty.int (0:Int)) (gE ok0 fun a1 s1 ok1 D1=>?_));have q1:=D1.k p0;refine tn (Jb (Jb ?_))
 refine gI a1 s1 ok1 (gM q1 (gS rfl (fun A B E G H d0=>rP (JL (eI d0) rfl)) (gS rfl (fun A B E G H d0=>rP (Jc (eI d0))) (gS rfl (fun A B E G H d0=>gu G (eI d0) fun hg=>Jc (kp (H 0 rfl) E q1)) (gS rfl (fun A B E G H d0 d1=>gu G (eI d1) fun hg=>y_gtr ((ef d0 rfl).1 hg) rfl) (gS rfl (fun A B E G H d0 d1=>rP (Jv (eI d0) rfl (eI d1))) (gE ok1 fun a2 s2 ok2 D2=>?_)))))));have F2:=(F0.step0 D1.stp).step0 D2.stp;refine tn ?_
 refine KM (D2.m 5 rfl) (fun c1=>?_) (fun c1=>?_)
 ·
  simp only [Bool.or_eq_true,decide_eq_true_eq] at c1
  refine Jb ?_
  refine gI a2 s2 ok2 (gC (Ty.int (1:Int)) (gE ok2 fun a3 s3 ok3 D3=>?_));refine tn (Jj (tr ?_))
  exact QT rfl ok3 (F2.step0 D3.stp) (cvi (by (exact (chgMay_cnt oM).symm)) (D3.m 0 rfl))
 ·
  obtain ⟨d1,d2⟩:=Xf c1
  replace d1:=Xh d1
  replace d2:=Xh d2
  refine Ji (tn (Jb ?_))
  refine gI a2 s2 ok2 (gC (Ty.int (0:Int)) (gE ok2 fun a4 s4 ok4 D4=>?_));refine tn (Jb (Jb ?_))
  refine gI a4 s4 ok4 (gM (D4.k (D2.k (D1.k p1))) (gS rfl (fun A B E G H d0=>rP (JE Try.underlying26 (eI d0))) (gT (Ty.int (0:Int)) rfl (fun A B E G H=>rP (Jc rfl)) (gE ok4 fun a5 s5 ok5 D5=>?_))));refine tn (Je ?_)
  refine KB (fun n1 a6 w1=>∃ (t1:GW) (k:Nat) (z:Int),t1.w = w1∧From s0 t1∧Ok 42 [] a6∧At (Ty.nat k) t1 a6 (.tmp 16)∧At (Ty.int z) t1 a6 (.tmp 5)∧At (Ty.int n) t1 a6 (.tmp 0)∧At (Ty.lst Ty.int l) t1 a6 (.tmp 14)∧At (Ty.nat (List.length l)) t1 a6 (.tmp 15)∧(k ≤ l.length)∧(QK n l k = some z)∧(0 ≤ z∧z ≤ n)∧n1 = l.length - k) (l.length - (0)) ?_ ?_
  ·
   exact ⟨s5,0,0,rfl,((F2.step0 D4.stp).step0 D5.stp),ok5,(cJ (D5.m 2 rfl)),(cJ (D5.k (D4.m 0 rfl))),(D5.k (D4.k (D2.k q1))),(D5.m 0 rfl),(D5.m 1 rfl),by omega,rfl,by omega,rfl⟩
  ·
   rintro n2 a7 w2 ⟨t2,k,z,rfl,F6,ok6,q15,q16,q17,q18,q19,hk,E,hz,rfl⟩
   refine Jb ?_
   refine gI a7 t2 ok6 (gS rfl (fun A B E G H=>rP (JL (kp (H 16 rfl) E q15) (kp (H 15 rfl) E q19))) (gE ok6 fun a8 s6 ok7 D6=>?_));have F7:=F6.step0 D6.stp;have q20:=D6.k q15;have q21:=D6.k q16;have q22:=D6.k q17;have q23:=D6.k q18;refine tn (Jb ?_)
   refine Jm (p:=(((k:Nat):Int) < (((List.length l):Nat):Int))) (D6.m 0 rfl) (fun c2=>?_) (fun c2=>?_)
   ·
    refine Ji (tn (Jb (Je (Jb ?_))))
    refine gI a8 s6 ok7 (gT (Ty.ref [(Ty.int (l.getD k 0))]) rfl (fun A B E G H=>rP (JM Try.underlying26 Try.inf3 (kp (H 14 rfl) E q23) (kp (H 16 rfl) E q20) oM (JJ Ty.int l 0 k oM))) (gS rfl (fun A B E G H d0=>rP (JD Try.underlying3 rfl (eI d0) rfl)) (gB 0 (gE ok7 fun a9 s7 ok8 D7=>?_))));have q27:=D7.k q21;have q28:=D7.k q22;have q31:=D7.m 2 rfl;refine tn (Jb (Jb ?_))
    refine gI a9 s7 ok8 (gM q31 (gM q27 (gS rfl (fun A B E G H d0 d1=>rP (y_leq (eI d0) (eI d1))) (gS rfl (fun A B E G H d0=>rP (Jc (eI d0))) (gS rfl (fun A B E G H d0=>gu G (eI d0) fun hg=>Jc (kp (H 7 rfl) E q31)) (gS rfl (fun A B E G H d0=>gu G (eI d0) fun hg=>Jc (kp (H 0 rfl) E q28)) (gS rfl (fun A B E G H d0 d1 d2=>gu G (eI d2) fun hg=>y_gtr ((ef d0 rfl).1 hg) ((ef d1 rfl).1 hg)) (gS rfl (fun A B E G H d0 d1=>rP (Jv (eI d0) rfl (eI d1))) (gS rfl (fun A B E G H d0 d1=>rP (Jc (eI d0))) (gT (Ty.grd (((decide ((l.getD k 0) ≤ z)) || (decide (n < (l.getD k 0)))) = false) (Ty.int (l.getD k 0))) rfl (by intro A B E G H d0;refine Jd G rfl rfl dE (eI d0) (fun hg=>?_);obtain ⟨d3,d4⟩:=Xf hg;have d3:=Xh d3;have d4:=Xh d4;exact Jc (kp (H 7 rfl) E q31)) (gT (Ty.grd (((decide ((l.getD k 0) ≤ z)) || (decide (n < (l.getD k 0)))) = false) (Ty.int z)) rfl (by intro A B E G H d0;refine Jd G rfl rfl dE (eI d0) (fun hg=>?_);obtain ⟨d5,d6⟩:=Xf hg;have d5:=Xh d5;have d6:=Xh d6;exact Jc (kp (H 5 rfl) E q27)) (gT (Ty.grd (((decide ((l.getD k 0) ≤ z)) || (decide (n < (l.getD k 0)))) = false) (Ty.int ((l.getD k 0) - z))) rfl (by intro A B E G H d0 d1 d2;refine Jd G rfl rfl dE (eI d2) (fun hg=>?_);obtain ⟨d7,d8⟩:=Xf hg;have d7:=Xh d7;have d8:=Xh d8;exact y_sub ((ef d0 rfl).1 hg) ((ef d1 rfl).1 hg) wX) ?_))))))))))))
    refine gT (Ty.grd (((decide ((l.getD k 0) ≤ z)) || (decide (n < (l.getD k 0)))) = false) (Ty.nat ((((l.getD k 0) - z)).toNat % 2))) rfl (by intro A B E G H d0 d1;refine Jd G rfl rfl dE (eI d1) (fun hg=>?_);obtain ⟨d9,d10⟩:=Xf hg;have d9:=Xh d9;have d10:=Xh d10;exact y_remN (toN (σ:=B) ((ef d0 rfl).1 hg) oM) (toN (σ:=B) rfl oM) oM) (gT (Ty.grd (((decide ((l.getD k 0) ≤ z)) || (decide (n < (l.getD k 0)))) = false) (Ty.bool (decide (((((((l.getD k 0) - z)).toNat % 2):Nat):Int) = (0:Int))))) rfl (by intro A B E G H d0 d1;refine Jd G rfl rfl dE (eI d1) (fun hg=>?_);obtain ⟨d11,d12⟩:=Xf hg;have d11:=Xh d11;have d12:=Xh d12;exact y_eql ((ef d0 rfl).1 hg) rfl) (gS rfl (fun A B E G H d0 d1=>rP (Jv (eI d0) rfl (eI d1))) (gE ok8 fun a10 s8 ok9 D8=>?_)));have F9:=(F7.step0 D7.stp).step0 D8.stp;refine tn ?_
    refine KM (D8.m 14 rfl) (fun c3=>?_) (fun c3=>?_)
    ·
     simp only [Bool.or_eq_true,decide_eq_true_eq] at c3
     refine Jb ?_
     refine gI a10 s8 ok9 (gC (Ty.int (6:Int)) (gE ok9 fun a11 s9 ok10 D9=>?_));refine tn (Jj (tr (br (tr (tr (br (tr ?_)))))))
     exact QT rfl ok10 (F9.step0 D9.stp) (cvi (by (exact (chgMay_scan oM E oM oM).symm)) (D9.m 0 rfl))
    ·
     obtain ⟨d13,d14⟩:=Xf c3
     obtain ⟨d15,d16⟩:=Xf d13
     replace d15:=Xh d15
     replace d16:=Xh d16
     replace d14:=Xh d14
     refine Ji (tn ?_)
     refine gI a10 s8 ok9 (gM (D8.k q31) (gB 0 (gE ok9 fun a12 s10 ok11 D10=>?_)));refine bn (tn ?_)
     refine gI a12 s10 ok11 (gT (Ty.int (((k:Nat):Int) + (1:Int))) rfl (fun A B E G H=>rP (Jy (kp (H 16 rfl) E (D10.k (D8.k (D7.k q20)))) rfl wX)) (gS rfl (fun A B E G H d0=>rP (Jc (eI d0))) (gE ok11 fun a13 s11 ok12 D11=>?_)))
     have d1_:=(Xh (Bool.or_eq_false_iff.1 c3).2)
     have d2_:=Xh (Bool.or_eq_false_iff.1 (Bool.or_eq_false_iff.1 c3).1).1
     have d3_:=Xh (Bool.or_eq_false_iff.1 (Bool.or_eq_false_iff.1 c3).1).2
     exact tn ⟨l.length - ((k+1)),by omega,s11,(k+1),(l.getD k 0),rfl,((F9.step0 D10.stp).step0 D11.stp),ok12,(cJ (D11.m 1 rfl)),(cJ (D11.k (D10.m 1 rfl))),(D11.k (D10.k (D8.k q28))),(D11.k (D10.k (D8.k (D7.k q23)))),(D11.k (D10.k (D8.k (D7.k (D6.k q19))))),by omega,scan_step E oM oM oM d1_,by omega,rfl⟩
   ·
    have hk2:k = l.length:=oM
    refine Jx (tx (tx (bx (tn (Jb (Jb ?_))))))
    refine gI a8 s6 ok7 (gM q22 (gM q21 (gT (Ty.int (n - z)) rfl (fun A B E G H d0 d1=>rP (y_sub (eI d0) (eI d1) wX)) (gT (Ty.nat (((n - z)).toNat % 2)) rfl (fun A B E G H d0=>rP (y_remN (toN (σ:=B) (eI d0) oM) (toN (σ:=B) rfl oM) oM)) (gS rfl (fun A B E G H d0=>rP (y_eql (eI d0) rfl)) (gE ok7 fun a14 s12 ok13 D12=>?_))))));have F13:=F7.step0 D12.stp;refine tn ?_
    refine Jm (p:=((((((n - z)).toNat % 2):Nat):Int) = (1:Int))) (D12.m 4 rfl) (fun c4=>?_) (fun c4=>?_)
    ·
     refine Jb ?_
     refine gI a14 s12 ok13 (gC (Ty.int (6:Int)) (gE ok13 fun a15 s13 ok14 D13=>?_));refine tn (Jj (tr ?_))
     exact QT rfl ok14 (F13.step0 D13.stp) (cvi (by (exact (chgMay_odd oM (by rw [← hk2];exact E) oM).symm)) (D13.m 0 rfl))
    ·
     refine Ji (tn (Jb ?_))
     refine gI a14 s12 ok13 (gC (Ty.int (0:Int)) (gE ok13 fun a16 s14 ok15 D14=>?_));refine tn (Jj ?_)
     exact QT rfl ok15 (F13.step0 D14.stp) (cvi (by (exact (chgMay_ok oM (by rw [← hk2];exact E) oM).symm)) (D14.m 0 rfl))
theorem Try.inf9:Info Try.prog 9 (.string ByteArray.empty) 1 16:=by unfold Info;kernel_rfl
theorem Try.inf22:Info Try.prog 22 (.slice none 0 0) 1 24:=by unfold Info;kernel_rfl
theorem Try.fld24_0:KG Try.prog 24 0 = some (9,0):=by kernel_rfl
theorem Try.fld24_1:KG Try.prog 24 1 = some (3,1):=by kernel_rfl
theorem Try.fld24_2:KG Try.prog 24 2 = some (22,2):=by kernel_rfl
set_option maxRecDepth 100000 in
theorem mCheck_fn (nm:ByteArray) (n:Int) (l:List (List Int)) (σ:GW) (v0:Value) (hv0:Ty.has (Ty.agg [(Ty.val (Value.string nm)),(Ty.int n),(Ty.lst Ty.ints l)]) σ v0) (hnm:nm.size ≤ 1099511627776) (hn:-9223372036854775808 ≤ n∧n ≤ 9223372036854775807) :
    FnC J 73 #[v0] σ (Ty.int (Qd nm n l)):=by
 refine Kw Try.func73 rfl Try.ntmps73 (Xj rfl) (fun s0 a0 hle F0 ok0 hargs=>?_)
 have p0:=pA hle (hargs 0 _ rfl) hv0
 clear hargs;refine Jb ?_
 refine gI a0 s0 ok0 (gS rfl (fun A B E G H=>rP (y_boxagg (kp (H 0 rfl) E p0))) (gC (Ty.int (0:Int)) (gE ok0 fun a1 s1 ok1 D1=>?_)));have q1:=D1.m 0 rfl;refine tn (Jb (Je (Jb ?_)))
 refine gI a1 s1 ok1 (gS rfl (fun A B E G H=>rP (KU Try.fld24_0 Try.inf9 dE (kp (H 1 rfl) E q1) rfl)) (gS rfl (fun A B E G H d0=>rP (JD Try.underlying9 rfl (eI d0) rfl)) (gS rfl (fun A B E G H d0=>rP (Jw _ Try.func87 rfl rfl my1 (mName_fn (nm) _ _ (eI d0) oX))) (gS rfl (fun A B E G H d0=>rP (y_not (eI d0))) (gB 0 (gE ok1 fun a2 s2 ok2 D2=>?_))))));have F2:=(F0.step0 D1.stp).step0 D2.stp;have q2:=D2.k q1;refine tn ?_
 refine KM (D2.m 4 rfl) (fun c1=>?_) (fun c1=>?_)
 ·
  have hnn:nameL nm = false:=(by simpa using c1)
  refine Jb ?_
  refine gI a2 s2 ok2 (gC (Ty.int (7:Int)) (gE ok2 fun a3 s3 ok3 D3=>?_));refine tn (Jj (br (tr ?_)))
  exact QT rfl ok3 (F2.step0 D3.stp) (cvi (by (unfold Qd;rw [if_pos hnn])) (D3.m 0 rfl))
 ·
  have hnn:¬ nameL nm = false:=(by simpa using c1)
  refine Jb ?_
  refine gI a2 s2 ok2 (gS rfl (fun A B E G H=>rP (KU Try.fld24_1 Try.inf3 dE (kp (H 1 rfl) E q2) rfl)) (gS rfl (fun A B E G H d0=>rP (JD Try.underlying3 rfl (eI d0) rfl)) (gS rfl (fun A B E G H d0=>rP (JL (eI d0) rfl)) (gS rfl (fun A B E G H d0=>rP (Jc (eI d0))) (gS rfl (fun A B E G H d0=>guf G (eI d0) fun hg hp=>KU Try.fld24_1 Try.inf3 dE (kp (H 1 rfl) E q2) rfl) (gS rfl (fun A B E G H d0 d1=>gu G (eI d1) fun hg=>JD Try.underlying3 rfl ((ef d0 rfl).1 hg) rfl) (gS rfl (fun A B E G H d0 d1=>gu G (eI d1) fun hg=>y_gtr ((ef d0 rfl).1 hg) rfl) (gS rfl (fun A B E G H d0 d1=>rP (Jv (eI d0) rfl (eI d1))) (gS rfl (fun A B E G H d0 d1=>rP (Jc (eI d0))) (gT (Ty.grd (((decide (n < (2:Int))) || (decide ((12:Int) < n))) = false) (Ty.ref [(Ty.lst Ty.ints l)])) rfl (by intro A B E G H d0;refine Jd G rfl rfl dE (eI d0) (fun hg=>?_);obtain ⟨d1,d2⟩:=Xf hg;have d1:=Xh d1;have d2:=Xh d2;exact KU Try.fld24_2 Try.inf22 dE (kp (H 1 rfl) E q2) rfl) (gT (Ty.grd (((decide (n < (2:Int))) || (decide ((12:Int) < n))) = false) (Ty.lst Ty.ints l)) rfl (by intro A B E G H d0 d1;refine Jd G rfl rfl dE (eI d1) (fun hg=>?_);obtain ⟨d3,d4⟩:=Xf hg;have d3:=Xh d3;have d4:=Xh d4;exact JD Try.underlying22 rfl ((ef d0 rfl).1 hg) rfl) ?_)))))))))))
  refine gT (Ty.grd (((decide (n < (2:Int))) || (decide ((12:Int) < n))) = false) (Ty.nat (List.length l))) rfl (by intro A B E G H d0 d1;refine Jd G rfl rfl dE (eI d1) (fun hg=>?_);obtain ⟨d5,d6⟩:=Xf hg;have d5:=Xh d5;have d6:=Xh d6;exact JE Try.underlying22 ((ef d0 rfl).1 hg)) (gT (Ty.grd (((decide (n < (2:Int))) || (decide ((12:Int) < n))) = false) (Ty.bool (decide ((((List.length l):Nat):Int) < (1:Int))))) rfl (by intro A B E G H d0 d1;refine Jd G rfl rfl dE (eI d1) (fun hg=>?_);obtain ⟨d7,d8⟩:=Xf hg;have d7:=Xh d7;have d8:=Xh d8;exact JL ((ef d0 rfl).1 hg) rfl) (gS rfl (fun A B E G H d0 d1=>rP (Jv (eI d0) rfl (eI d1))) (gS rfl (fun A B E G H d0 d1=>rP (Jc (eI d0))) (gT (Ty.grd ((((decide (n < (2:Int))) || (decide ((12:Int) < n))) || (decide ((((List.length l):Nat):Int) < (1:Int)))) = false) (Ty.ref [(Ty.lst Ty.ints l)])) rfl (by intro A B E G H d0;refine Jd G rfl rfl dE (eI d0) (fun hg=>?_);obtain ⟨d9,d10⟩:=Xf hg;obtain ⟨d11,d12⟩:=Xf d9;have d11:=Xh d11;have d12:=Xh d12;have d10:=Xh d10;exact KU Try.fld24_2 Try.inf22 dE (kp (H 1 rfl) E q2) rfl) ?_))))
  refine gT (Ty.grd ((((decide (n < (2:Int))) || (decide ((12:Int) < n))) || (decide ((((List.length l):Nat):Int) < (1:Int)))) = false) (Ty.lst Ty.ints l)) rfl (by intro A B E G H d0 d1;refine Jd G rfl rfl dE (eI d1) (fun hg=>?_);obtain ⟨d13,d14⟩:=Xf hg;obtain ⟨d15,d16⟩:=Xf d13;have d15:=Xh d15;have d16:=Xh d16;have d14:=Xh d14;exact JD Try.underlying22 rfl ((ef d0 rfl).1 hg) rfl) (gT (Ty.grd ((((decide (n < (2:Int))) || (decide ((12:Int) < n))) || (decide ((((List.length l):Nat):Int) < (1:Int)))) = false) (Ty.nat (List.length l))) rfl (by intro A B E G H d0 d1;refine Jd G rfl rfl dE (eI d1) (fun hg=>?_);obtain ⟨d17,d18⟩:=Xf hg;obtain ⟨d19,d20⟩:=Xf d17;have d19:=Xh d19;have d20:=Xh d20;have d18:=Xh d18;exact JE Try.underlying22 ((ef d0 rfl).1 hg)) (gT (Ty.grd ((((decide (n < (2:Int))) || (decide ((12:Int) < n))) || (decide ((((List.length l):Nat):Int) < (1:Int)))) = false) (Ty.bool (decide ((200:Int) < (((List.length l):Nat):Int))))) rfl (by intro A B E G H d0 d1;refine Jd G rfl rfl dE (eI d1) (fun hg=>?_);obtain ⟨d21,d22⟩:=Xf hg;obtain ⟨d23,d24⟩:=Xf d21;have d23:=Xh d23;have d24:=Xh d24;have d22:=Xh d22;exact y_gtr ((ef d0 rfl).1 hg) rfl) (gS rfl (fun A B E G H d0 d1=>rP (Jv (eI d0) rfl (eI d1))) (gB 0 (gE ok2 fun a4 s4 ok4 D4=>?_)))));have F4:=F2.step0 D4.stp;have q5:=D4.k q2;refine tn ?_
  refine KM (D4.m 20 rfl) (fun c2=>?_) (fun c2=>?_)
  ·
   simp only [Bool.or_eq_true,decide_eq_true_eq] at c2;have h4:n < 2 ∨ 12 < n ∨ l.length < 1 ∨ 200 < l.length:=oM
   refine Jb ?_
   refine gI a4 s4 ok4 (gC (Ty.int (1:Int)) (gE ok4 fun a5 s5 ok5 D5=>?_));refine tn (Jj (br (tr ?_)))
   exact QT rfl ok5 (F4.step0 D5.stp) (cvi (by (unfold Qd;rw [if_neg hnn,if_pos h4])) (D5.m 0 rfl))
  ·
   obtain ⟨d25,d26⟩:=Xf c2
   obtain ⟨d27,d28⟩:=Xf d25
   obtain ⟨d29,d30⟩:=Xf d27
   replace d29:=Xh d29
   replace d30:=Xh d30
   replace d28:=Xh d28
   replace d26:=Xh d26
   have h4:¬ (n < 2 ∨ 12 < n ∨ l.length < 1 ∨ 200 < l.length):=(by simp only [Bool.or_eq_false_iff,decide_eq_false_iff_not] at c2;omega);have hmm:Qd nm n l = KV n l:=(by unfold Qd;rw [if_neg hnn,if_neg h4])
   refine Ji (bn (tn (Jb (Jb ?_))))
   refine gI a4 s4 ok4 (gS rfl (fun A B E G H=>rP (KU Try.fld24_2 Try.inf22 dE (kp (H 1 rfl) E q5) rfl)) (gS rfl (fun A B E G H d0=>rP (JD Try.underlying22 rfl (eI d0) rfl)) (gS rfl (fun A B E G H d0=>rP (JE Try.underlying22 (eI d0))) (gT (Ty.int (0:Int)) rfl (fun A B E G H=>rP (Jc rfl)) (gE ok4 fun a6 s6 ok6 D6=>?_)))));have q9:=D6.m 1 rfl
   have b1:=Ke q9
   refine tn (Je ?_)
   refine KB (fun n1 a7 w1=>∃ (t1:GW) (k:Nat),t1.w = w1∧From s0 t1∧Ok 47 [] a7∧At (Ty.nat k) t1 a7 (.tmp 35)∧At (Ty.ref [(Ty.val (Value.string nm)),(Ty.int n),(Ty.lst Ty.ints l)]) t1 a7 (.tmp 1)∧At (Ty.lst Ty.ints l) t1 a7 (.tmp 33)∧At (Ty.nat (List.length l)) t1 a7 (.tmp 34)∧(k ≤ l.length)∧(KV n (l.drop k) = KV n l)∧n1 = l.length - k) (l.length - (0)) ?_ ?_
   ·
    exact ⟨s6,0,rfl,(F4.step0 D6.stp),ok6,(cJ (D6.m 3 rfl)),(D6.k q5),q9,(D6.m 2 rfl),by omega,rfl,rfl⟩
   ·
    rintro n2 a8 w2 ⟨t2,k,rfl,F7,ok7,q12,q13,q14,q15,hk,ha,rfl⟩
    refine Jb ?_
    refine gI a8 t2 ok7 (gS rfl (fun A B E G H=>rP (JL (kp (H 35 rfl) E q12) (kp (H 34 rfl) E q15))) (gE ok7 fun a9 s7 ok8 D7=>?_));have F8:=F7.step0 D7.stp;have q16:=D7.k q12;have q18:=D7.k q14;refine tn (Jb ?_)
    refine Jm (p:=(((k:Nat):Int) < (((List.length l):Nat):Int))) (D7.m 0 rfl) (fun c3=>?_) (fun c3=>?_)
    ·
     refine Ji (tn (Jb (Je (Jb ?_))))
     refine gI a9 s7 ok8 (gT (Ty.ref [(Ty.lst Ty.int (l.getD k []))]) rfl (fun A B E G H=>rP (JM Try.underlying22 Try.inf26 (kp (H 33 rfl) E q18) (kp (H 35 rfl) E q16) oM (JJ Ty.ints l [] k oM))) (gS rfl (fun A B E G H d0=>rP (JD Try.underlying26 rfl (eI d0) rfl)) (gB 0 (gE ok8 fun a10 s8 ok9 D8=>?_))));have q22:=D8.k (D7.k q13);refine tn (Jb ?_)
     refine gI a10 s8 ok9 (gS rfl (fun A B E G H=>rP (KU Try.fld24_1 Try.inf3 dE (kp (H 1 rfl) E q22) rfl)) (gS rfl (fun A B E G H d0=>rP (JD Try.underlying3 rfl (eI d0) rfl)) (gM (D8.m 2 rfl) (gS rfl (fun A B E G H d0 d1=>rP (Jw _ Try.func77 rfl rfl my2 (pCheck_fn (n) ((l.getD k [])) _ _ _ (eI d0) (eI d1) oM))) (gB 0 (gE ok9 fun a11 s9 ok10 D9=>?_))))));have q30:=D9.m 4 rfl;refine tn (Jb ?_)
     refine gI a11 s9 ok10 (gM q30 (gS rfl (fun A B E G H d0=>rP (QH (eI d0) rfl)) (gE ok10 fun a12 s10 ok11 D10=>?_)));have F11:=((F8.step0 D8.stp).step0 D9.stp).step0 D10.stp;refine tn ?_
     refine Jm (p:=((Qi n ((l.getD k []))) ≠ (0:Int))) (D10.m 1 rfl) (fun c4=>?_) (fun c4=>?_)
     ·
      refine Jb ?_
      refine gI a12 s10 ok11 (gM (D10.k q30) (gB 0 (gE ok11 fun a13 s11 ok12 D11=>?_)));refine tn (Jj (br (tr (tr (br (tr ?_))))))
      exact QT rfl ok12 (F11.step0 D11.stp) (cvi (by (rw [hmm];exact (allMay_stop ha oM c4).symm)) (D11.m 1 rfl))
     ·
      refine Ji (bn (tn ?_))
      refine gI a12 s10 ok11 (gT (Ty.int (((k:Nat):Int) + (1:Int))) rfl (fun A B E G H=>rP (Jy (kp (H 35 rfl) E (D10.k (D9.k (D8.k q16)))) rfl wX)) (gS rfl (fun A B E G H d0=>rP (Jc (eI d0))) (gE ok11 fun a14 s12 ok13 D12=>?_)))
      exact tn ⟨l.length - ((k+1)),by omega,s12,(k+1),rfl,(F11.step0 D12.stp),ok13,(cJ (D12.m 1 rfl)),(D12.k (D10.k (D9.k q22))),(D12.k (D10.k (D9.k (D8.k q18)))),(D12.k (D10.k (D9.k (D8.k (D7.k q15))))),by omega,allMay_step ha oM c4,rfl⟩
    ·
     refine Jx (tx (tx (bx (tn (Jb ?_)))))
     refine gI a9 s7 ok8 (gC (Ty.int (0:Int)) (gE ok8 fun a15 s13 ok14 D13=>?_));refine tn (Jj ?_)
     exact QT rfl ok14 (F8.step0 D13.stp) (cvi (by (rw [hmm];exact (allMay_end ha oM).symm)) (D13.m 0 rfl))
end Go.Proofs.Ytodmoedmijfciaa
