/- The functions that the law BandMade reaches, each by its contract. Part 1. -/
import Derived.Test.YtodmoedmijfciaaBandMadeK2
import Derived.Test.YtodmoedmijfciaaBandMadeK1
import Derived.Test.YtodmoedmijfciaaBandMadeK3
import Derived.Test.YtodmoedmijfciaaProg
namespace Go.Proofs.Ytodmoedmijfciaa
open Go.KL
variable {J:Go.KL.JdOf Try.prog} [Go.KL.Al J]
set_option maxRecDepth 100000 in
theorem pick_fn (c:Int) (n:Nat) (σ:GW) (v0 v1:Value) (hv0:Ty.has (Ty.int c) σ v0) (hv1:Ty.has (Ty.nat n) σ v1) (hc:-9223372036854775808 ≤ c∧c ≤ 9223372036854775807) (hn:0 < n) :
    FnC J 16 #[v0,v1] σ (Ty.nat (pick c n)):=by
 refine Kt Try.func16 rfl Try.ntmps16 (Xy rfl) (fun s0 a0 hle F0 ok0 hargs=>?_)
 have p0:=pA hle (hargs 0 _ rfl) hv0
 have p1:=pA hle (hargs 1 _ rfl) hv1
 clear hargs;refine Ja ?_
 refine gI a0 s0 ok0 (gC (Ty.int (0:Int)) (gE ok0 fun a1 s1 ok1 D1=>?_));have q1:=D1.k p0;refine tn (Ja (Ja ?_))
 refine gI a1 s1 ok1 (gM q1 (gS rfl (fun A B E G H d0=>rP (Jx (eI d0) rfl)) (gE ok1 fun a2 s2 ok2 D2=>?_)));have F2:=(F0.step0 D1.stp).step0 D2.stp;have q3:=D2.k q1;have q4:=D2.k (D1.k p1);refine tn ?_
 refine Jl (p:=(c < (0:Int))) (D2.m 1 rfl) (fun c1=>?_) (fun c1=>?_)
 ·
  refine gI a2 s2 ok2 (gM q3 (gT (Ty.int (c + (1:Int))) rfl (fun A B E G H d0=>rP (JA (eI d0) rfl wX)) (gT (Ty.int (-(c + (1:Int)))) rfl (fun A B E G H d0=>rP (y_neg (eI d0) wX)) (gB 0 (gE ok2 fun a3 s3 ok3 D3=>?_)))));refine tn (Ja ?_)
  refine gI a3 s3 ok3 (gM (D3.m 3 rfl) (gM (D3.k q4) (gT (Ty.nat (((-(c + (1:Int)))).toNat % n)) rfl (fun A B E G H d0 d1=>rP (y_remN (toN (σ:=B) (eI d0) oM) (eI d1) oM)) (gB 0 (gE ok3 fun a4 s4 ok4 D4=>?_)))));refine tn (Ji ?_)
  exact QD rfl ok4 ((F2.step0 D3.stp).step0 D4.stp) (cvi (by (unfold pick;rw [if_pos (by assumption)])) (D4.m 3 rfl))
 ·
  refine Jf (tn (Ja ?_))
  refine gI a2 s2 ok2 (gM q3 (gM q4 (gT (Ty.nat ((c).toNat % n)) rfl (fun A B E G H d0 d1=>rP (y_remN (toN (σ:=B) (eI d0) oM) (eI d1) oM)) (gB 0 (gE ok2 fun a5 s5 ok5 D5=>?_)))));refine tn (Ji ?_)
  exact QD rfl ok5 (F2.step0 D5.stp) (cvi (by (unfold pick;rw [if_neg (by assumption)])) (D5.m 3 rfl))
theorem Try.inf3:Info Try.prog 3 (.int .i64 0) 1 8:=by unfold Info;kernel_rfl
set_option maxRecDepth 100000 in
theorem raw_fn (raw:List Int) (k:Nat) (σ:GW) (v0 v1:Value) (hv0:Ty.has (Ty.lst Ty.int raw) σ v0) (hv1:Ty.has (Ty.nat k) σ v1)  :
    FnC J 38 #[v0,v1] σ (Ty.int (KC raw k)):=by
 refine Kt Try.func38 rfl Try.ntmps38 (Xy rfl) (fun s0 a0 hle F0 ok0 hargs=>?_)
 have p0:=pA hle (hargs 0 _ rfl) hv0
 have b1:=JI p0
 have p1:=pA hle (hargs 1 _ rfl) hv1
 clear hargs;refine Ja ?_
 refine gI a0 s0 ok0 (gC (Ty.int (0:Int)) (gE ok0 fun a1 s1 ok1 D1=>?_));have q1:=D1.k p0;refine tn (Ja (Ja ?_))
 refine gI a1 s1 ok1 (gM q1 (gS rfl (fun A B E G H d0=>rP (Jt Try.underlying26 (eI d0))) (gS rfl (fun A B E G H d0=>rP (Qc (eI d0) rfl)) (gE ok1 fun a2 s2 ok2 D2=>?_))));have F2:=(F0.step0 D1.stp).step0 D2.stp;have q3:=D2.k q1;refine tn ?_
 refine Jl (p:=((((List.length raw):Nat):Int) = (0:Int))) (D2.m 2 rfl) (fun c1=>?_) (fun c1=>?_)
 ·
  refine Ja ?_
  refine gI a2 s2 ok2 (gC (Ty.int (0:Int)) (gE ok2 fun a3 s3 ok3 D3=>?_));refine tn (Ji (tr ?_))
  exact QD rfl ok3 (F2.step0 D3.stp) (cvi (by (unfold KC;rw [if_pos oM])) (D3.m 0 rfl))
 ·
  have hml:=Nat.mod_lt k (show 0 < raw.length by omega)
  refine Jf (tn (Ja ?_))
  refine gI a2 s2 ok2 (gM q3 (gM (D2.k (D1.k p1)) (gM q3 (gS rfl (fun A B E G H d0=>rP (Jt Try.underlying26 (eI d0))) (gT (Ty.nat (k % (List.length raw))) rfl (fun A B E G H d0 d1=>rP (y_remN (eI d0) (eI d1) oM)) (gT (Ty.ref [(Ty.int (raw.getD (k % (List.length raw)) 0))]) rfl (fun A B E G H d0 d1=>rP (Jy Try.underlying26 Try.inf3 (eI d0) (eI d1) oM (Jw Ty.int raw 0 (k % (List.length raw)) oM))) (gS rfl (fun A B E G H d0=>rP (Jo Try.underlying3 rfl (eI d0) rfl)) (gB 0 (gE ok2 fun a4 s4 ok4 D4=>?_)))))))));refine tn (Ji ?_)
  exact QD rfl ok4 (F2.step0 D4.stp) (cvi (by (unfold KC;rw [if_neg oM])) (D4.m 7 rfl))
set_option maxRecDepth 100000 in
theorem changeOf_fn (c:Int) (n:Nat) (σ:GW) (v0 v1:Value) (hv0:Ty.has (Ty.int c) σ v0) (hv1:Ty.has (Ty.nat n) σ v1) (hc:-9223372036854775808 ≤ c∧c ≤ 9223372036854775807) (hn:n ≤ 100) :
    FnC J 69 #[v0,v1] σ (Ty.lst Ty.int (KM c n)):=by
 refine Kt Try.func69 rfl Try.ntmps69 (Xy rfl) (fun s0 a0 hle F0 ok0 hargs=>?_)
 have p0:=pA hle (hargs 0 _ rfl) hv0
 have p1:=pA hle (hargs 1 _ rfl) hv1
 clear hargs;refine Ja ?_
 refine gI a0 s0 ok0 (gC (Ty.val (Value.slice none 0 0)) (gE ok0 fun a1 s1 ok1 D1=>?_));refine tn (Ja ?_)
 refine gI a1 s1 ok1 (gM (D1.k p0) (gS rfl (fun A B E G H d0=>rP (JB _ Try.func16 rfl rfl my2 (pick_fn (c) (1099511627776) _ _ _ (eI d0) rfl oM oM))) (gB 0 (gE ok1 fun a2 s2 ok2 D2=>?_))));refine tn (Ja ?_)
 refine gI a2 s2 ok2 (gC (Ty.val (Value.slice none 0 0)) (gE ok2 fun a3 s3 ok3 D3=>?_));refine tn (Ja ?_)
 refine gI a3 s3 ok3 (gC (Ty.int (1:Int)) (gE ok3 fun a4 s4 ok4 D4=>?_));refine tn (Ja (Je ?_))
 refine JY (fun n1 a5 w1=>∃ (t1:GW) (xs:List Int) (d:Nat) (t:Nat) (f:Nat),t1.w = w1∧From s0 t1∧Ok 31 [] a5∧(Pr.own 2 3 1 (List.length xs) (List.map Ty.int xs)).has t1 (a5.eval (.tmp 5))∧At (Ty.nat d) t1 a5 (.tmp 0)∧At (Ty.nat t) t1 a5 (.tmp 6)∧At (Ty.nat n) t1 a5 (.tmp 1)∧(xs.length ≤ t)∧(1 ≤ t)∧(t ≤ n + 2)∧(d ≤ 1099511627776)∧(n + 1 ≤ f + t)∧(xs ++ chgF f d t n = KM c n)∧n1 = n + 3 - t) (n + 3 - (1)) ?_ ?_
 ·
  exact ⟨s4,[],(pick c 1099511627776),1,(n+1),rfl,((((F0.step0 D1.stp).step0 D2.stp).step0 D3.stp).step0 D4.stp),ok4,(by have e:a4.eval (.tmp 5) = _:=(D4.k (D3.m 0 rfl));rw [e];exact Own.nil _ _ _ _),(cJ (D4.k (D3.k (D2.m 2 rfl)))),(cJ (D4.m 0 rfl)),(D4.k (D3.k (D2.k (D1.k p1)))),by simp,by omega,by omega,by have:=pick_lt c (n:=1099511627776) oM;omega,by omega,rfl,rfl⟩
 ·
  rintro n2 a6 w2 ⟨t2,xs,d,t,f,rfl,F5,ok5,q12,q13,q14,q15,hxs,ht,ht2,hd,hf,heq,rfl⟩
  refine Ja (Ja ?_)
  refine gI a6 t2 ok5 (gM q14 (gM q15 (gS rfl (fun A B E G H d0 d1=>rP (y_leq (eI d0) (eI d1))) (gE ok5 fun a7 s5 ok6 D5=>?_))));have F6:=F5.step0 D5.stp
  have q16:(Pr.own 2 3 1 (List.length xs) (List.map Ty.int xs)).has s5 (a7.eval (.tmp 5)):=D5.ko q12 rfl
  have q17:=D5.k q13;have q18:=D5.k q14;have q19:=D5.k q15;refine tn ?_
  refine Jl (p:=(((t:Nat):Int) ≤ ((n:Nat):Int))) (D5.m 2 rfl) (fun c1=>?_) (fun c1=>?_)
  ·
   refine Jf (tn (Je (Ja (Ja ?_))))
   refine gI a7 s5 ok6 (gM q17 (gT (Ty.nat (d % 3)) rfl (fun A B E G H d0=>rP (y_remN (eI d0) (toN (σ:=B) rfl oM) oM)) (gS rfl (fun A B E G H d0=>rP (Qc (eI d0) rfl)) (gS rfl (fun A B E G H d0=>rP (Jc (eI d0))) (gS rfl (fun A B E G H d0=>gu G (eI d0) fun hg=>Jc (kp (H 6 rfl) E q18)) (gS rfl (fun A B E G H d0=>gu G (eI d0) fun hg=>Jc (kp (H 1 rfl) E q19)) (gS rfl (fun A B E G H d0 d1 d2=>gu G (eI d2) fun hg=>Qc ((ef d0 rfl).1 hg) ((ef d1 rfl).1 hg)) (gS rfl (fun A B E G H d0 d1=>rP (Jk (eI d0) rfl (eI d1))) (gE ok6 fun a8 s6 ok7 D6=>?_)))))))));have F7:=F6.step0 D6.stp
   have q21:(Pr.own 2 3 1 (List.length xs) (List.map Ty.int xs)).has s6 (a8.eval (.tmp 5)):=D6.ko q16 rfl
   have q22:=D6.k q17;have q23:=D6.k q18;have q24:=D6.k q19;refine tn ?_
   refine JU (D6.m 7 rfl) (fun c2=>?_) (fun c2=>?_)
   ·
    refine Ja ?_
    refine gI a8 s6 ok7 (gT (Ty.val (a8.eval (.tmp 5))) rfl (fun A B E G H=>rP (Jc (H 5 rfl))) (gM q23 (gT (Ty.sl 1 1 [(Ty.nat t)]) rfl (fun A B E G H d0=>rP (KE Try.underlying26 Try.inf3 rfl (Jn rfl) (eI d0))) (gE2 ok7 fun a9 s7 ok8 D7=>?_))));have q26:=(Pr.own 2 3 1 (List.length xs) (List.map Ty.int xs)).up D7.stp q21
    have q27:a9.eval (.tmp 5) = a8.eval (.tmp 5):=D7.same 5 rfl
    have q32:=D7.m 2 rfl
    refine Ka (m:=2) (R:=(fun v τ=>Own τ 2 3 1 v ((List.length xs) + 1) ((List.map Ty.int xs) ++ [(Ty.nat t)]))) rfl rfl dE ok8 (Kp Try.underlying26 Try.inf3 dE rfl dE (al (D7.m 0 rfl) q26) q32 (by intro U hU;simp at hU;  subst hU;exact Jn rfl) oM oM) (fun a10 s8 hs1 ok9 r1 sm1=>?_)
    have F9:=(F7.step0 D7.stp).step hs1 dE
    have q33:At (Ty.nat d) s8 a10 (.tmp 0):=kpm hs1 dE (sm1 0 dE) (D7.k q22)
    have q34:At (Ty.nat t) s8 a10 (.tmp 6):=kpm hs1 dE (sm1 6 dE) (D7.k q23)
    have q35:At (Ty.nat n) s8 a10 (.tmp 1):=kpm hs1 dE (sm1 1 dE) (D7.k q24)
    have q36:At (Ty.sl 1 1 [(Ty.nat t)]) s8 a10 (.tmp 22):=kpm hs1 dE (sm1 22 dE) q32
    have q37:(Pr.own 2 3 1 (List.length (xs ++ [((t:Nat):Int)])) (List.map Ty.int (xs ++ [((t:Nat):Int)]))).has s8 (a10.eval (.tmp 23)):=(cvo (by simp) (by first | (rw [List.map_append];rfl) | simp) r1)
    refine Ka (m:=0) (R:=(fun v τ=>Pr.has (Pr.own 2 3 1 (List.length (xs ++ [((t:Nat):Int)])) (List.map Ty.int (xs ++ [((t:Nat):Int)]))) τ v)) rfl rfl dE ok9 (Yld.toM (Qg q37)) (fun a11 s9 hs2 ok10 r2 sm2=>?_)
    have F10:=F9.step hs2 dE
    have q38:At (Ty.nat d) s9 a11 (.tmp 0):=kpm hs2 dE (sm2 0 dE) q33
    have q39:At (Ty.nat t) s9 a11 (.tmp 6):=kpm hs2 dE (sm2 6 dE) q34
    have q40:At (Ty.nat n) s9 a11 (.tmp 1):=kpm hs2 dE (sm2 1 dE) q35
    have q41:At (Ty.sl 1 1 [(Ty.nat t)]) s9 a11 (.tmp 22):=kpm hs2 dE (sm2 22 dE) q36
    have q42:(Pr.own 2 3 1 (List.length (xs ++ [((t:Nat):Int)])) (List.map Ty.int (xs ++ [((t:Nat):Int)]))).has s9 (a11.eval (.tmp 23)):=kpmo hs2 dE (.inl rfl) (sm2 23 dE) q37
    have q43:(Pr.own 2 3 1 (List.length (xs ++ [((t:Nat):Int)])) (List.map Ty.int (xs ++ [((t:Nat):Int)]))).has s9 (a11.eval (.tmp 5)):=r2
    refine Jg (tn ?_)
    refine gI a11 s9 ok10 (gM q39 (gT (Ty.int (((t:Nat):Int) + (1:Int))) rfl (fun A B E G H d0=>rP (JA (eI d0) rfl wX)) (gB 0 (gE ok10 fun a12 s10 ok11 D8=>?_))))
    have q46:(Pr.own 2 3 1 (List.length (xs ++ [((t:Nat):Int)])) (List.map Ty.int (xs ++ [((t:Nat):Int)]))).has s10 (a12.eval (.tmp 5)):=D8.ko q43 rfl
    refine tn ?_
    refine gI a12 s10 ok11 (gM (D8.k q38) (gT (Ty.nat (d / 3)) rfl (fun A B E G H d0=>rP (y_quoN (eI d0) (toN (σ:=B) rfl oM) oM oM)) (gB 0 (gE ok11 fun a13 s11 ok12 D9=>?_))))
    have q49:(Pr.own 2 3 1 (List.length (xs ++ [((t:Nat):Int)])) (List.map Ty.int (xs ++ [((t:Nat):Int)]))).has s11 (a13.eval (.tmp 5)):=D9.ko q46 rfl
    refine bn ?_
    exact tn ⟨n + 3 - ((t+1)),by omega,s11,(xs ++ [((t:Nat):Int)]),(d / 3),(t+1),(f-1),rfl,((F10.step0 D8.stp).step0 D9.stp),ok12,(cvo (by (simp)) (by (simp)) q49),(cJ (D9.m 2 rfl)),(cJ (D9.k (D8.m 2 rfl))),(D9.k (D8.k q40)),by simp;omega,by omega,by omega,by omega,by omega,chgF_yes heq oM oM (by simp only [Bool.or_eq_true,decide_eq_true_eq] at c2;omega),rfl⟩
   ·
    obtain ⟨d1,d2⟩:=Xu c2
    replace d1:=Xw d1
    replace d2:=Xw d2
    refine gI a8 s6 ok7 (gM q23 (gT (Ty.int (((t:Nat):Int) + (2:Int))) rfl (fun A B E G H d0=>rP (JA (eI d0) rfl wX)) (gB 0 (gE ok7 fun a14 s12 ok13 D10=>?_))))
    have q52:(Pr.own 2 3 1 (List.length xs) (List.map Ty.int xs)).has s12 (a14.eval (.tmp 5)):=D10.ko q21 rfl
    refine tn ?_
    refine gI a14 s12 ok13 (gM (D10.k q22) (gT (Ty.nat (d / 3)) rfl (fun A B E G H d0=>rP (y_quoN (eI d0) (toN (σ:=B) rfl oM) oM oM)) (gB 0 (gE ok13 fun a15 s13 ok14 D11=>?_))))
    have q56:(Pr.own 2 3 1 (List.length xs) (List.map Ty.int xs)).has s13 (a15.eval (.tmp 5)):=D11.ko q52 rfl
    refine bn ?_
    exact tn ⟨n + 3 - ((t+2)),by omega,s13,xs,(d / 3),(t+2),(f-1),rfl,((F7.step0 D10.stp).step0 D11.stp),ok14,q56,(cJ (D11.m 2 rfl)),(cJ (D11.k (D10.m 2 rfl))),(D11.k (D10.k q24)),by omega,by omega,by omega,by omega,by omega,chgF_no heq oM oM (by simp only [Bool.or_eq_false_iff,decide_eq_false_iff_not] at c2;omega),rfl⟩
  ·
   refine Jv (tx (tx (bx (tn (Ja ?_)))))
   refine gI a7 s5 ok6 (gT (Ty.val (a7.eval (.tmp 5))) rfl (fun A B E G H=>rP (Jc (H 5 rfl))) (gB 0 (gE ok6 fun a16 s14 ok15 D12=>?_)))
   have q60:(Pr.own 2 3 1 (List.length xs) (List.map Ty.int xs)).has s14 (a16.eval (.tmp 4)):=al (show _ = _ from D12.done 1) ((Pr.own 2 3 1 (List.length xs) (List.map Ty.int xs)).up D12.stp q16)
   refine tn (Ji ?_)
   obtain ⟨t3,e1,h1,q61⟩:=Own.seal q60 dE
   rw [← e1]
   have F16:=(F6.step0 D12.stp).step h1 dE
   exact QD rfl ok15 F16 (cvt (by (rw [← heq,chgF_end oM,List.append_nil])) q61)
theorem Try.inf26:Info Try.prog 26 (.slice none 0 0) 1 24:=by unfold Info;kernel_rfl
set_option maxRecDepth 100000 in
theorem changesOf_fn (raw:List Int) (b:Nat) (n:Nat) (many:Nat) (σ:GW) (v0 v1 v2 v3:Value) (hv0:Ty.has (Ty.lst Ty.int raw) σ v0) (hv1:Ty.has (Ty.nat b) σ v1) (hv2:Ty.has (Ty.nat n) σ v2) (hv3:Ty.has (Ty.nat many) σ v3) (hn:n ≤ 100) (hm:many ≤ 1000) (hb:b ≤ 1000) (hr:∀ k,-9223372036854775808 ≤ KC raw k∧KC raw k ≤ 9223372036854775807) :
    FnC J 37 #[v0,v1,v2,v3] σ (Ty.lst Ty.ints (Jm raw b n many)):=by
 refine Kt Try.func37 rfl Try.ntmps37 (Xy rfl) (fun s0 a0 hle F0 ok0 hargs=>?_)
 have p0:=pA hle (hargs 0 _ rfl) hv0
 have b1:=JI p0
 have p1:=pA hle (hargs 1 _ rfl) hv1
 have p2:=pA hle (hargs 2 _ rfl) hv2
 have p3:=pA hle (hargs 3 _ rfl) hv3
 clear hargs;refine Ja ?_
 refine gI a0 s0 ok0 (gC (Ty.val (Value.slice none 0 0)) (gE ok0 fun a1 s1 ok1 D1=>?_));refine tn (Ja ?_)
 refine gI a1 s1 ok1 (gC (Ty.val (Value.slice none 0 0)) (gE ok1 fun a2 s2 ok2 D2=>?_));refine tn (Ja (Ja ?_))
 refine gI a2 s2 ok2 (gC (Ty.int (0:Int)) (gE ok2 fun a3 s3 ok3 D3=>?_));refine tn (Je ?_)
 refine JY (fun n1 a4 w1=>∃ (t1:GW) (k:Nat),t1.w = w1∧From s0 t1∧Ok 29 [] a4∧(Pr.own 2 26 1 (List.length (Jm raw b n k)) (List.map Ty.ints (Jm raw b n k))).has t1 (a4.eval (.tmp 9))∧At (Ty.nat k) t1 a4 (.tmp 10)∧At (Ty.lst Ty.int raw) t1 a4 (.tmp 0)∧At (Ty.nat b) t1 a4 (.tmp 1)∧At (Ty.nat n) t1 a4 (.tmp 2)∧At (Ty.nat many) t1 a4 (.tmp 3)∧(k ≤ many)∧n1 = many - k) (many - (0)) ?_ ?_
 ·
  exact ⟨s3,0,rfl,(((F0.step0 D1.stp).step0 D2.stp).step0 D3.stp),ok3,(by have e:a3.eval (.tmp 9) = _:=(D3.k (D2.m 0 rfl));rw [e];exact Own.nil _ _ _ _),(cJ (D3.m 0 rfl)),(D3.k (D2.k (D1.k p0))),(D3.k (D2.k (D1.k p1))),(D3.k (D2.k (D1.k p2))),(D3.k (D2.k (D1.k p3))),by omega,rfl⟩
 ·
  rintro n2 a5 w2 ⟨t2,k,rfl,F4,ok4,q16,q17,q18,q19,q20,q21,hk,rfl⟩
  have hp:=QJ raw b n k
  have hrk:=hr (b + k)
  refine Ja (Ja ?_)
  refine gI a5 t2 ok4 (gM q17 (gM q21 (gS rfl (fun A B E G H d0 d1=>rP (Jx (eI d0) (eI d1))) (gE ok4 fun a6 s4 ok5 D4=>?_))));have F5:=F4.step0 D4.stp
  have q22:(Pr.own 2 26 1 (List.length (Jm raw b n k)) (List.map Ty.ints (Jm raw b n k))).has s4 (a6.eval (.tmp 9)):=D4.ko q16 rfl
  have q23:=D4.k q17;have q24:=D4.k q18;have q25:=D4.k q19;have q26:=D4.k q20;refine tn ?_
  refine Jl (p:=(((k:Nat):Int) < ((many:Nat):Int))) (D4.m 2 rfl) (fun c1=>?_) (fun c1=>?_)
  ·
   refine Jf (tn (Ja (Je (Ja ?_))))
   refine gI a6 s4 ok5 (gM q24 (gM q25 (gM q23 (gT (Ty.nat (b + k)) rfl (fun A B E G H d0 d1=>rP ((JA (eI d0) (eI d1) wX).mono (fun τ _ h=>cN (σ:=τ) h))) (gS rfl (fun A B E G H d0 d1=>rP (JB _ Try.func38 rfl rfl my2 (raw_fn (raw) ((b + k)) _ _ _ (eI d0) (eI d1) ))) (gM q26 (gS rfl (fun A B E G H d0 d1 d2=>rP (JB _ Try.func69 rfl rfl my2 (changeOf_fn ((KC raw ((b + k)))) (n) _ _ _ (eI d0) (eI d1) oM oM))) (gB 0 (gE ok5 fun a7 s5 ok6 D5=>?_)))))))))
   have q29:(Pr.own 2 26 1 (List.length (Jm raw b n k)) (List.map Ty.ints (Jm raw b n k))).has s5 (a7.eval (.tmp 9)):=D5.ko q22 rfl
   refine tn ?_
   refine gI a7 s5 ok6 (gT (Ty.val (a7.eval (.tmp 9))) rfl (fun A B E G H=>rP (Jc (H 9 rfl))) (gM (D5.m 7 rfl) (gT (Ty.sl 1 1 [(Ty.lst Ty.int (KM ((KC raw ((b + k)))) n))]) rfl (fun A B E G H d0=>rP (KE Try.underlying22 Try.inf26 rfl (KG) (eI d0))) (gE2 ok6 fun a8 s6 ok7 D6=>?_))));have q36:=(Pr.own 2 26 1 (List.length (Jm raw b n k)) (List.map Ty.ints (Jm raw b n k))).up D6.stp q29
   have q37:a8.eval (.tmp 9) = a7.eval (.tmp 9):=D6.same 9 rfl
   have q44:=D6.m 2 rfl
   refine Ka (m:=2) (R:=(fun v τ=>Own τ 2 26 1 v ((List.length (Jm raw b n k)) + 1) ((List.map Ty.ints (Jm raw b n k)) ++ [(Ty.lst Ty.int (KM ((KC raw ((b + k)))) n))]))) rfl rfl dE ok7 (Kp Try.underlying22 Try.inf26 dE rfl dE (al (D6.m 0 rfl) q36) q44 (by intro U hU;simp at hU;  subst hU;exact KG) oM oM) (fun a9 s7 hs1 ok8 r1 sm1=>?_)
   have F8:=((F5.step0 D5.stp).step0 D6.stp).step hs1 dE
   have q45:At (Ty.nat k) s7 a9 (.tmp 10):=kpm hs1 dE (sm1 10 dE) (D6.k (D5.k q23))
   have q46:At (Ty.lst Ty.int raw) s7 a9 (.tmp 0):=kpm hs1 dE (sm1 0 dE) (D6.k (D5.k q24))
   have q47:At (Ty.nat b) s7 a9 (.tmp 1):=kpm hs1 dE (sm1 1 dE) (D6.k (D5.k q25))
   have q48:At (Ty.nat n) s7 a9 (.tmp 2):=kpm hs1 dE (sm1 2 dE) (D6.k (D5.k q26))
   have q49:At (Ty.nat many) s7 a9 (.tmp 3):=kpm hs1 dE (sm1 3 dE) (D6.k (D5.k (D4.k q21)))
   have q50:At (Ty.sl 1 1 [(Ty.lst Ty.int (KM ((KC raw ((b + k)))) n))]) s7 a9 (.tmp 26):=kpm hs1 dE (sm1 26 dE) q44
   have q51:(Pr.own 2 26 1 (List.length ((Jm raw b n k) ++ [(KM ((KC raw ((b + k)))) n)])) (List.map Ty.ints ((Jm raw b n k) ++ [(KM ((KC raw ((b + k)))) n)]))).has s7 (a9.eval (.tmp 27)):=(cvo (by simp) (by first | (rw [List.map_append];rfl) | simp) r1)
   refine Ka (m:=0) (R:=(fun v τ=>Pr.has (Pr.own 2 26 1 (List.length ((Jm raw b n k) ++ [(KM ((KC raw ((b + k)))) n)])) (List.map Ty.ints ((Jm raw b n k) ++ [(KM ((KC raw ((b + k)))) n)]))) τ v)) rfl rfl dE ok8 (Yld.toM (Qg q51)) (fun a10 s8 hs2 ok9 r2 sm2=>?_)
   have F9:=F8.step hs2 dE
   have q52:At (Ty.nat k) s8 a10 (.tmp 10):=kpm hs2 dE (sm2 10 dE) q45
   have q53:At (Ty.lst Ty.int raw) s8 a10 (.tmp 0):=kpm hs2 dE (sm2 0 dE) q46
   have q54:At (Ty.nat b) s8 a10 (.tmp 1):=kpm hs2 dE (sm2 1 dE) q47
   have q55:At (Ty.nat n) s8 a10 (.tmp 2):=kpm hs2 dE (sm2 2 dE) q48
   have q56:At (Ty.nat many) s8 a10 (.tmp 3):=kpm hs2 dE (sm2 3 dE) q49
   have q57:At (Ty.sl 1 1 [(Ty.lst Ty.int (KM ((KC raw ((b + k)))) n))]) s8 a10 (.tmp 26):=kpm hs2 dE (sm2 26 dE) q50
   have q58:(Pr.own 2 26 1 (List.length ((Jm raw b n k) ++ [(KM ((KC raw ((b + k)))) n)])) (List.map Ty.ints ((Jm raw b n k) ++ [(KM ((KC raw ((b + k)))) n)]))).has s8 (a10.eval (.tmp 27)):=kpmo hs2 dE (.inl rfl) (sm2 27 dE) q51
   have q59:(Pr.own 2 26 1 (List.length ((Jm raw b n k) ++ [(KM ((KC raw ((b + k)))) n)])) (List.map Ty.ints ((Jm raw b n k) ++ [(KM ((KC raw ((b + k)))) n)]))).has s8 (a10.eval (.tmp 9)):=r2
   refine Jg (bn (tn ?_))
   refine gI a10 s8 ok9 (gM q52 (gT (Ty.nat (k + 1)) rfl (fun A B E G H d0=>rP ((JA (eI d0) rfl wX).mono (fun τ _ h=>cN (σ:=τ) h))) (gB 0 (gE ok9 fun a11 s9 ok10 D7=>?_))))
   have q64:(Pr.own 2 26 1 (List.length ((Jm raw b n k) ++ [(KM ((KC raw ((b + k)))) n)])) (List.map Ty.ints ((Jm raw b n k) ++ [(KM ((KC raw ((b + k)))) n)]))).has s9 (a11.eval (.tmp 9)):=D7.ko q59 rfl
   exact tn ⟨many - ((k+1)),by omega,s9,(k+1),rfl,(F9.step0 D7.stp),ok10,(cvo (by (rw [changesOf_succ raw b n k])) (by (rw [changesOf_succ raw b n k])) q64),(cJ (D7.m 2 rfl)),(D7.k q53),(D7.k q54),(D7.k q55),(D7.k q56),by omega,rfl⟩
  ·
   refine Jv (tx (tx (bx (tn (Ja ?_)))))
   refine gI a6 s4 ok5 (gT (Ty.val (a6.eval (.tmp 9))) rfl (fun A B E G H=>rP (Jc (H 9 rfl))) (gB 0 (gE ok5 fun a12 s10 ok11 D8=>?_)))
   have q66:(Pr.own 2 26 1 (List.length (Jm raw b n k)) (List.map Ty.ints (Jm raw b n k))).has s10 (a12.eval (.tmp 8)):=al (show _ = _ from D8.done 1) ((Pr.own 2 26 1 (List.length (Jm raw b n k)) (List.map Ty.ints (Jm raw b n k))).up D8.stp q22)
   refine tn (Ji ?_)
   obtain ⟨t3,e1,h1,q67⟩:=Own.seal q66 dE
   rw [← e1]
   have F12:=(F5.step0 D8.stp).step h1 dE
   exact QD rfl ok11 F12 (cvt (by (obtain rfl:k = many:=oM;rfl)) q67)
theorem Try.inf24:Info Try.prog 24 (.agg #[.string ByteArray.empty,.int .i64 0,.slice none 0 0]) 3 48:=by unfold Info;kernel_rfl
set_option maxRecDepth 100000 in
theorem methodOf_fn (raw:List Int) (n:Nat) (many:Nat) (σ:GW) (v0 v1 v2:Value) (hv0:Ty.has (Ty.lst Ty.int raw) σ v0) (hv1:Ty.has (Ty.nat n) σ v1) (hv2:Ty.has (Ty.nat many) σ v2) (hn:n ≤ 100) (hm:many ≤ 1000) (hr:∀ k,-9223372036854775808 ≤ KC raw k∧KC raw k ≤ 9223372036854775807) :
    FnC J 17 #[v0,v1,v2] σ (Ty.agg [(Ty.val (Value.string (ByteArray.mk #[84,114,105,101,100]))),(Ty.nat n),(Ty.lst Ty.ints (Jm raw 3 n many))]):=by
 refine Kt Try.func17 rfl Try.ntmps17 (Xy rfl) (fun s0 a0 hle F0 ok0 hargs=>?_)
 have p0:=pA hle (hargs 0 _ rfl) hv0
 have b1:=JI p0
 have p1:=pA hle (hargs 1 _ rfl) hv1
 have p2:=pA hle (hargs 2 _ rfl) hv2
 clear hargs;refine Ja ?_
 refine gI a0 s0 ok0 (gR (Pr.ownp 12 [(Ty.val (.string ByteArray.empty)),(Ty.val (.int .i64 0)),(Ty.val (.slice none 0 0))]) rfl (by intro A B E G H;exact rP (Xo Try.inf24 rfl (JX (vs:=[.string ByteArray.empty,.int .i64 0,.slice none 0 0]) rfl))) (gE ok0 fun a1 s1 ok1 D1=>?_));have q2:=D1.k p1
 have q4:(Pr.ownp 12 [(Ty.val (.string ByteArray.empty)),(Ty.val (.int .i64 0)),(Ty.val (.slice none 0 0))]).has s1 (a1.eval (.tmp 6)):=D1.done 0
 refine tn (Ja ?_)
 refine gI a1 s1 ok1 (gM q2 (gM (D1.k p0) (gM q2 (gM (D1.k p2) (gS rfl (fun A B E G H d0 d1 d2=>rP (JB _ Try.func37 rfl rfl my4 (changesOf_fn (raw) (3) (n) (many) _ _ _ _ _ (eI d0) rfl (eI d1) (eI d2) (by first | omega | exact hr _ | assumption) (by first | omega | exact hr _ | assumption) (by first | omega | exact hr _ | assumption) (by first | omega | exact hr _ | assumption)))) (gT (Ty.agg [(Ty.val (Value.string (ByteArray.mk #[84,114,105,101,100]))),(Ty.nat n),(Ty.lst Ty.ints (Jm raw (3) n many))]) rfl (fun A B E G H d0 d1=>rP (y_build3s rfl Try.inf24 rfl (Jn rfl) (Jn rfl) (KG) rfl (eI d0) (eI d1))) (gE2 ok1 fun a2 s2 ok2 D2=>?_)))))));have q5:=(Pr.ownp 12 [(Ty.val (.string ByteArray.empty)),(Ty.val (.int .i64 0)),(Ty.val (.slice none 0 0))]).up D2.stp q4
 have q6:a2.eval (.tmp 6) = a1.eval (.tmp 6):=D2.same 6 rfl
 have q7:=D2.m 5 rfl
 refine tail_step0 (m:=12) (R:=(fun _ τ=>OwnP τ 12 (a1.eval (.tmp 6)) [(Ty.val (Value.string (ByteArray.mk #[84,114,105,101,100]))),(Ty.nat n),(Ty.lst Ty.ints (Jm raw (3) n many))])) rfl rfl (QA Try.inf24 dE q5 q6 rfl q7 (by intro U hU;simp only [List.mem_cons,List.not_mem_nil,or_false] at hU;rcases hU with rfl | rfl | rfl <;> first | exact Jn rfl | exact KG | exact one_ref)) (fun v1 s3 hs1 r1=>?_)
 have F3:=((F0.step0 D1.stp).step0 D2.stp).step hs1 dE
 have q8:At (Ty.agg [(Ty.val (Value.string (ByteArray.mk #[84,114,105,101,100]))),(Ty.nat n),(Ty.lst Ty.ints (Jm raw (3) n many))]) s3 a2 (.tmp 12):=kpm hs1 dE rfl q7
 have q9:(Pr.ownp 12 [(Ty.val (Value.string (ByteArray.mk #[84,114,105,101,100]))),(Ty.nat n),(Ty.lst Ty.ints (Jm raw (3) n many))]).has s3 (a1.eval (.tmp 6)):=r1
 refine Jg ?_
 have q10:(Pr.ownp 12 [(Ty.val (Value.string (ByteArray.mk #[84,114,105,101,100]))),(Ty.nat n),(Ty.lst Ty.ints (Jm raw (3) n many))]).has s3 (a2.eval (.tmp 6)):=al q6 q9
 refine tn (Ji ?_)
 exact ret1s (ts:=[(Ty.val (Value.string (ByteArray.mk #[84,114,105,101,100]))),(Ty.nat n),(Ty.lst Ty.ints (Jm raw 3 n many))]) rfl ok2 F3 Try.underlying24 Try.inf24 (cvop (by rfl) q10)
theorem Try.inf51:Info Try.prog 51 (.agg #[.int .i32 0,.slice none 0 0]) 2 32:=by unfold Info;kernel_rfl
set_option maxHeartbeats 4000000 in
set_option maxRecDepth 100000 in
theorem callsOf_fn (raw:List Int) (n:Nat) (many:Nat) (σ:GW)  (v0 v1 v2:Value) (hv0:Ty.has (Ty.lst Ty.int raw) σ v0) (hv1:Ty.has (Ty.nat n) σ v1) (hv2:Ty.has (Ty.nat many) σ v2)  (hn:n ≤ 100) (hm:1 ≤ many∧many ≤ 50) (hr:∀ k,-9223372036854775808 ≤ KC raw k∧KC raw k ≤ 9223372036854775807) :
    FnC J 18 #[v0,v1,v2] σ (Ty.lstc 2 Ky (cOf raw n (many - 1))):=by
 refine JR Try.func18 rfl Try.ntmps18 (Xy rfl) (fun s0 a0 hle F0 ok0 hargs=>?_)
 have p0:=pA hle (hargs 0 _ rfl) hv0
 have b1:=JI p0
 have p1:=pA hle (hargs 1 _ rfl) hv1
 have p2:=pA hle (hargs 2 _ rfl) hv2
 clear hargs;refine Ja ?_
 refine gI a0 s0 ok0 (gC (Ty.val (Value.slice none 0 0)) (gE ok0 fun a1 s1 ok1 D1=>?_));refine tn (Ja ?_)
 refine gI a1 s1 ok1 (gT (Ty.agg [(Ty.val (Value.int .i32 (112:Int))),(Ty.val (Value.slice none 0 0))]) rfl (fun A B E G H=>rP (y_bld [(0,((Operand.const (Value.int IntKind.i32 112))),(Ty.val (Value.int .i32 (112:Int))))] [(Ty.val (Value.int .i32 0)),(Ty.val (Value.slice none 0 0))] (l:=[(0,1),(1,1)]) rfl Try.inf51 rfl (JX (vs:=[.int .i32 0,.slice none 0 0]) rfl) rfl (by intro p hp;simp only [List.mem_cons,List.not_mem_nil,or_false] at hp;rcases hp with rfl;exact ⟨Jn rfl,rfl⟩))) (gR (Pr.own 5 51 2 1 (List.flatMap Ky [((112:Int),([]:List (List Int)))])) rfl (by intro A B E G H d0;exact rP ((y_lit1c (k:=5) (c:=2) Try.underlying25 Try.inf51 rfl (by decide) (by decide) rfl (agg_cell 1 (Ty.lst Ty.ints ([]:List (List Int))) (ef d0 rfl) rfl (fun _ _ h=>nil_sl0 h))).mono (fun _ _ h=>cvo (by simp) rfl h))) (gE2 ok1 fun a2 s2 ok2 D2=>?_)))
 obtain ⟨x1,hx1⟩:∃ x,a2.eval (.tmp 10) = x:=⟨_,rfl⟩
 have q7:At (Ty.val x1) s2 a2 (.tmp 10):=hx1
 have o1:=al2 (R:=(Pr.own 5 51 2 1 (List.flatMap Ky [((112:Int),([]:List (List Int)))]))) hx1 (D2.done 1 (by decide))
 refine tL ok2 (Yld.toL (y_as q7)) fun a3 s3 hs1 ok3 r1 sm1=>?_
 have q11:At (Ty.val x1) s3 a3 (.tmp 7):=r1
 clear r1;refine Jg (tn (Ja (Ja ?_)))
 refine gI a3 s3 ok3 (gC (Ty.int (1:Int)) (gE ok3 fun a4 s4 ok4 D3=>?_));have o3:=Own.k0 (Own.kl o1 hs1) D3.stp;refine tn (Je ?_)
 refine JY (fun n1 a5 w1=>∃ (t1:GW) (k:Nat) (x7_0:Value),t1.w = w1∧FromL [] s0 t1∧Ok 29 [] a5∧At (Ty.nat (k + 1)) t1 a5 (.tmp 8)∧At (Ty.val x7_0) t1 a5 (.tmp 7)∧At (Ty.lst Ty.int raw) t1 a5 (.tmp 0)∧At (Ty.nat n) t1 a5 (.tmp 1)∧At (Ty.nat many) t1 a5 (.tmp 2)∧Own t1 5 51 2 x7_0 (List.length (cOf raw n k)) (List.flatMap Ky (cOf raw n k))∧(k + 1 ≤ many)∧n1 = many - k) (many - (0)) ?_ ?_
 ·
  exact ⟨s4,0,x1,rfl,((((F0.step0 D1.stp).step0 D2.stp).sl hs1).step0 D3.stp),ok4,(cvi (by (rfl)) (D3.m 0 rfl)),(D3.k q11),(D3.k (kq hs1 sm1 0 (D2.k (D1.k p0)))),(D3.k (kq hs1 sm1 1 (D2.k (D1.k p1)))),(D3.k (kq hs1 sm1 2 (D2.k (D1.k p2)))),(cvo (by (rfl)) (by (rfl)) o3),by omega,rfl⟩
 ·
  rintro n2 a6 w2 ⟨t2,k,x7_0,rfl,F5,ok5,q17,q18,q19,q20,q21,o4,hk,rfl⟩
  have hcl:=cOf_len raw n k
  refine Ja (Ja ?_)
  refine gI a6 t2 ok5 (gM q17 (gM q21 (gS rfl (fun A B E G H d0 d1=>rP (Jx (ef d0 rfl) (ef d1 rfl))) (gE ok5 fun a7 s5 ok6 D4=>?_))));have F6:=F5.step0 D4.stp;have q22:=D4.k q17;have q23:=D4.k q18;have q24:=D4.k q19;have q25:=D4.k q20;have o5:=Own.k0 o4 D4.stp;refine tn ?_
  refine Jl (p:=((((k + 1):Nat):Int) < ((many:Nat):Int))) (D4.m 2 rfl) (fun c1=>?_) (fun c1=>?_)
  ·
   have hl1_:List.length [((((97 + (k + 1):Nat):Int)),Jm raw (11 * (k + 1)) n 1)] = 1:=rfl
   refine Jf (tn (Ja (Je ?_)))
   refine gI a7 s5 ok6 (gM q23 (gM q22 (gT (Ty.nat (97 + (k + 1))) rfl (fun A B E G H d0=>rP ((JA rfl (ef d0 rfl) (w64 (by omega) (by omega))).mono (fun τ _ h=>cvi (σ:=τ) (by first | omega | exact (Int.natCast_mul _ _).symm) h))) (gT (Ty.val (Value.int .i32 (((97 + (k + 1)):Nat):Int))) rfl (fun A B E G H d0=>rP (y_conv Try.underlying21 (ef d0 rfl) (by exact wrap_i32 (by omega) (by omega)) (by rw [Try.underlying3];rfl))) (gM q24 (gM q22 (gT (Ty.nat (11 * (k + 1))) rfl (fun A B E G H d0=>rP ((y_mul rfl (ef d0 rfl) (w64 (by omega) (by omega))).mono (fun τ _ h=>cvi (σ:=τ) (by first | omega | exact (Int.natCast_mul _ _).symm) h))) (gM q25 (gS rfl (fun A B E G H d0 d1 d2=>rP (JB #[A.eval (.tmp 20),A.eval (.tmp 22),A.eval (.tmp 23),A.eval ((Operand.const (Value.int IntKind.i64 1)))] Try.func37 rfl rfl my4 (changesOf_fn (raw) ((11 * (k + 1))) (n) (1) _ _ _ _ _ (ef d0 rfl) (cvi (σ:=B) (by first | omega | exact hr _ | assumption) (ef d1 rfl)) (ef d2 rfl) (cvi (σ:=B) (by first | omega | exact hr _ | assumption) rfl) (by first | omega | exact hr _ | assumption) (by first | omega | exact hr _ | assumption) (by first | omega | exact hr _ | assumption) (by first | omega | exact hr _ | assumption)))) ?_)))))))))
   refine gT (Ty.agg [(Ty.val (Value.int .i32 (((97 + (k + 1)):Nat):Int))),(Ty.lst Ty.ints (Jm raw ((11 * (k + 1))) n (1)))]) rfl (fun A B E G H d0 d1=>rP (y_bld [(0,(.tmp 19),(Ty.val (Value.int .i32 (((97 + (k + 1)):Nat):Int)))),(1,(.tmp 24),(Ty.lst Ty.ints (Jm raw ((11 * (k + 1))) n (1))))] [(Ty.val (Value.int .i32 0)),(Ty.val (Value.slice none 0 0))] (l:=[(0,1),(1,1)]) rfl Try.inf51 rfl (JX (vs:=[.int .i32 0,.slice none 0 0]) rfl) rfl (by intro p hp;simp only [List.mem_cons,List.not_mem_nil,or_false] at hp;rcases hp with rfl | rfl;exact ⟨Jn rfl,(ef d0 rfl)⟩;exact ⟨KG,(ef d1 rfl)⟩))) (gT (Ty.lstc 2 Ky [((((97 + (k + 1)):Nat):Int),(Jm raw ((11 * (k + 1))) n (1)))]) rfl (fun A B E G H d0=>rP (y_build1c (c:=2) Try.underlying25 Try.inf51 rfl (by decide) (by decide) rfl (ef d0 rfl))) (gE2 ok6 fun a8 s6 ok7 D5=>?_));have o6:=Own.k0 o5 D5.stp
   have q33:At (Ty.val x7_0) s6 a8 (.tmp 16):=D5.done 0 (by decide)
   have q34:=D5.m 10 rfl
   have b2:=JI q34
   refine tL ok7 (YldM.toL (Kp Try.underlying25 Try.inf51 (by decide) rfl (by decide) (al (R:=(Pr.own 5 51 2 (List.length (cOf raw n k)) (List.flatMap Ky (cOf raw n k)))) q33 o6) q34 (one_flat callOne) (by omega) (by omega))) fun a9 s7 hs2 ok8 r2 sm2=>?_
   have q36:=kq hs2 sm2 7 (D5.k q23)
   obtain ⟨x2,hx2⟩:∃ x,a9.eval (.tmp 27) = x:=⟨_,rfl⟩
   have q40:At (Ty.val x2) s7 a9 (.tmp 27):=hx2
   have o7:=al2 (R:=(Pr.own 5 51 2 (List.length ((cOf raw n k) ++ [((((97 + (k + 1)):Nat):Int),(Jm raw ((11 * (k + 1))) n (1)))])) (List.flatMap Ky ((cOf raw n k) ++ [((((97 + (k + 1)):Nat):Int),(Jm raw ((11 * (k + 1))) n (1)))])))) hx2 (cvo (by simp) (by first | (rw [List.map_append];rfl) | simp) r2)
   clear r2
   refine tL ok8 (Yld.toL (y_as q40)) fun a10 s8 hs3 ok9 r3 sm3=>?_
   have q45:At (Ty.val x2) s8 a10 (.tmp 7):=r3
   clear r3;refine Jg (bn (tn ?_))
   refine gI a10 s8 ok9 (gM (kq hs3 sm3 8 (kq hs2 sm2 8 (D5.k q22))) (gT (Ty.nat ((k + 1) + 1)) rfl (fun A B E G H d0=>rP ((JA (ef d0 rfl) rfl (w64 (by omega) (by omega))).mono (fun τ _ h=>cvi (σ:=τ) (by first | omega | exact (Int.natCast_mul _ _).symm) h))) (gB 0 (gE ok9 fun a11 s9 ok10 D6=>?_))));have o9:=Own.k0 (Own.kl o7 hs3) D6.stp
   exact tn ⟨many - ((k + 1)),by omega,s9,(k + 1),x2,rfl,((((F6.step0 D5.stp).sl hs2).sl hs3).step0 D6.stp),ok10,(cvi (by (first | rfl | omega | (simp_all;done) | (simp_all;omega))) (D6.m 2 rfl)),(D6.k q45),(D6.k (kq hs3 sm3 0 (kq hs2 sm2 0 (D5.k q24)))),(D6.k (kq hs3 sm3 1 (kq hs2 sm2 1 (D5.k q25)))),(D6.k (kq hs3 sm3 2 (kq hs2 sm2 2 (D5.k (D4.k q21))))),(cvo (by (rw [cOf_succ])) (by (rw [cOf_succ])) o9),by omega,rfl⟩
  ·
   refine Jv (tx (tx (bx (tn (Ja ?_)))))
   refine gI a7 s5 ok6 (gM q23 (gB 0 (gE ok6 fun a12 s10 ok11 D7=>?_)));have o10:=Own.k0 o5 D7.stp
   have q51:At (Ty.val x7_0) s10 a12 (.tmp 6):=D7.done 1
   refine tn (Ji ?_)
   obtain ⟨t3,e1,h1,q52⟩:=Own.seal o10 (by decide)
   rw [← e1]
   have F12:=(F6.step0 D7.stp).step h1 (by decide)
   have q53:At (Ty.lstc 2 Ky (cOf raw n k)) t3 a12 (.tmp 6):=by have e:a12.eval (.tmp 6) = x7_0:=q51;show Ty.has _ _ _;rw [e];exact q52
   exact JJ rfl ok11 F12 (cvt (by (rw [show k = many - 1 by omega])) q53)
set_option maxHeartbeats 4000000 in
set_option maxRecDepth 100000 in
theorem rLeadsOf_fn (raw:List Int) (many:Nat) (calls:Nat) (σ:GW)  (v0 v1 v2:Value) (hv0:Ty.has (Ty.lst Ty.int raw) σ v0) (hv1:Ty.has (Ty.nat many) σ v1) (hv2:Ty.has (Ty.nat calls) σ v2)  (hm:many ≤ 1000) (hc:0 < calls) (hr:∀ k,-9223372036854775808 ≤ KC raw k∧KC raw k ≤ 9223372036854775807) :
    FnC J 19 #[v0,v1,v2] σ (Ty.lst Ty.int (QM raw many calls)):=by
 refine JR Try.func19 rfl Try.ntmps19 (Xy rfl) (fun s0 a0 hle F0 ok0 hargs=>?_)
 have p0:=pA hle (hargs 0 _ rfl) hv0
 have b1:=JI p0
 have p1:=pA hle (hargs 1 _ rfl) hv1
 have p2:=pA hle (hargs 2 _ rfl) hv2
 clear hargs;refine Ja ?_
 refine gI a0 s0 ok0 (gC (Ty.val (Value.slice none 0 0)) (gE ok0 fun a1 s1 ok1 D1=>?_));refine tn (Ja ?_)
 refine gI a1 s1 ok1 (gC (Ty.val (Value.slice none 0 0)) (gE ok1 fun a2 s2 ok2 D2=>?_));refine tn (Ja (Ja ?_))
 refine gI a2 s2 ok2 (gC (Ty.int (0:Int)) (gE ok2 fun a3 s3 ok3 D3=>?_));refine tn (Je ?_)
 have o1:Own s3 2 3 1 (Value.slice none 0 0) 0 (List.map Ty.int ([]:List Int)):=Own.nil _ _ _ _
 refine JY (fun n1 a4 w1=>∃ (t1:GW) (k:Nat) (x7_0:Value),t1.w = w1∧FromL [] s0 t1∧Ok 23 [] a4∧At (Ty.nat k) t1 a4 (.tmp 8)∧At (Ty.val x7_0) t1 a4 (.tmp 7)∧At (Ty.lst Ty.int raw) t1 a4 (.tmp 0)∧At (Ty.nat many) t1 a4 (.tmp 1)∧At (Ty.nat calls) t1 a4 (.tmp 2)∧Own t1 2 3 1 x7_0 (List.length (QM raw k calls)) (List.map Ty.int (QM raw k calls))∧(k ≤ many)∧n1 = many - k) (many - (0)) ?_ ?_
 ·
  exact ⟨s3,0,(Value.slice none 0 0),rfl,(((F0.step0 D1.stp).step0 D2.stp).step0 D3.stp),ok3,(cJ (D3.m 0 rfl)),(D3.k (D2.m 0 rfl)),(D3.k (D2.k (D1.k p0))),(D3.k (D2.k (D1.k p1))),(D3.k (D2.k (D1.k p2))),(cvo (by (rfl)) (by (rfl)) o1),by omega,rfl⟩
 ·
  rintro n2 a5 w2 ⟨t2,k,x7_0,rfl,F4,ok4,q13,q14,q15,q16,q17,o2,hk,rfl⟩
  have hll:=leadsOf_len raw k calls
  have hrk:=hr k
  refine Ja (Ja ?_)
  refine gI a5 t2 ok4 (gM q13 (gM q16 (gS rfl (fun A B E G H d0 d1=>rP (Jx (eI d0) (eI d1))) (gE ok4 fun a6 s4 ok5 D4=>?_))));have F5:=F4.step0 D4.stp;have q18:=D4.k q13;have q19:=D4.k q14;have q20:=D4.k q15;have q22:=D4.k q17;have o3:=Own.k0 o2 D4.stp;refine tn ?_
  refine Jl (p:=(((k:Nat):Int) < ((many:Nat):Int))) (D4.m 2 rfl) (fun c1=>?_) (fun c1=>?_)
  ·
   refine Jf (tn (Ja (Je ?_)))
   refine gI a6 s4 ok5 (gM q19 (gM q20 (gM q18 (gS rfl (fun A B E G H d0 d1=>rP (JB _ Try.func38 rfl rfl my2 (raw_fn (raw) (k) _ _ _ (eI d0) (eI d1) ))) (gM q22 (gS rfl (fun A B E G H d0 d1 d2=>rP (JB _ Try.func16 rfl rfl my2 (pick_fn ((KC raw k)) (calls) _ _ _ (cvi (σ:=B) oM (ef d0 rfl)) (cvi (σ:=B) oM (ef d1 rfl)) oM oM))) (gT (Ty.sl 1 1 [(Ty.nat (pick ((KC raw k)) (calls)))]) rfl (fun A B E G H d0=>rP (KE Try.underlying26 Try.inf3 rfl (Jn rfl) (eI d0))) (gE2 ok5 fun a7 s5 ok6 D5=>?_))))))));have o4:=Own.k0 o3 D5.stp
   have q29:At (Ty.val x7_0) s5 a7 (.tmp 14):=D5.done 0 dE
   have q30:=D5.m 6 rfl
   have b2:=JI q30
   refine tL ok6 (YldM.toL (Kp Try.underlying26 Try.inf3 dE rfl dE (al (R:=(Pr.own 2 3 1 (List.length (QM raw k calls)) (List.map Ty.int (QM raw k calls)))) q29 o4) q30 (by intro U hU;simp at hU;subst hU;exact Jn rfl) oM oM)) fun a8 s6 hs1 ok7 r1 sm1=>?_
   have q32:=kq hs1 sm1 7 (D5.k q19)
   obtain ⟨x1,hx1⟩:∃ x,a8.eval (.tmp 21) = x:=⟨_,rfl⟩
   have q36:At (Ty.val x1) s6 a8 (.tmp 21):=hx1
   have o5:=al2 (R:=(Pr.own 2 3 1 (List.length ((QM raw k calls) ++ [(((pick ((KC raw k)) (calls)):Nat):Int)])) (List.map Ty.int ((QM raw k calls) ++ [(((pick ((KC raw k)) (calls)):Nat):Int)])))) hx1 (cvo (by simp) (by first | (rw [List.map_append];rfl) | simp) r1)
   clear r1
   refine tL ok7 (Yld.toL (y_as q36)) fun a9 s7 hs2 ok8 r2 sm2=>?_
   have q41:At (Ty.val x1) s7 a9 (.tmp 7):=r2
   clear r2;refine Jg (bn (tn ?_))
   refine gI a9 s7 ok8 (gM (kq hs2 sm2 8 (kq hs1 sm1 8 (D5.k q18))) (gT (Ty.int (((k:Nat):Int) + (1:Int))) rfl (fun A B E G H d0=>rP (JA (eI d0) rfl wX)) (gB 0 (gE ok8 fun a10 s8 ok9 D6=>?_))));have o7:=Own.k0 (Own.kl o5 hs2) D6.stp
   exact tn ⟨many - ((k+1)),by omega,s8,(k+1),x1,rfl,((((F5.step0 D5.stp).sl hs1).sl hs2).step0 D6.stp),ok9,(cJ (D6.m 2 rfl)),(D6.k q41),(D6.k (kq hs2 sm2 0 (kq hs1 sm1 0 (D5.k q20)))),(D6.k (kq hs2 sm2 1 (kq hs1 sm1 1 (D5.k (D4.k q16))))),(D6.k (kq hs2 sm2 2 (kq hs1 sm1 2 (D5.k q22)))),(cvo (by (rw [leadsOf_succ])) (by (rw [leadsOf_succ])) o7),by omega,rfl⟩
  ·
   refine Jv (tx (tx (bx (tn (Ja ?_)))))
   refine gI a6 s4 ok5 (gM q19 (gB 0 (gE ok5 fun a11 s9 ok10 D7=>?_)));have o8:=Own.k0 o3 D7.stp
   have q47:At (Ty.val x7_0) s9 a11 (.tmp 6):=D7.done 1
   refine tn (Ji ?_)
   obtain ⟨t3,e1,h1,q48⟩:=Own.seal o8 dE
   rw [← e1]
   have F11:=(F5.step0 D7.stp).step h1 dE
   have q49:At (Ty.lst Ty.int (QM raw k calls)) t3 a11 (.tmp 6):=by have e:a11.eval (.tmp 6) = x7_0:=q47;show Ty.has _ _ _;rw [e];exact q48
   exact JJ rfl ok10 F11 (cvt (by (obtain rfl:many = k:=oM;rfl)) q49)
set_option maxHeartbeats 4000000 in
set_option maxRecDepth 100000 in
theorem rRuneAt_fn (s:ByteArray) (σ:GW)  (v0:Value) (hv0:Ty.has (Ty.val (Value.string s)) σ v0)  (E:1 ≤ s.size) :
    FnC J 89 #[v0] σ (Ty.tup2 (Ty.int (QR s 0)) (Ty.nat (wid s 0))):=by
 have hb256:=UInt8.toNat_lt (s.get! 0)
 have hb257:=UInt8.toNat_lt (s.get! ((0:Int)).toNat)
 have hnb:=nb_bd ((s.get! 0).toNat)
 refine JR Try.func89 rfl Try.ntmps89 (Xy rfl) (fun s0 a0 hle F0 ok0 hargs=>?_)
 have p0:=pA hle (hargs 0 _ rfl) hv0
 clear hargs;refine Ja ?_
 refine gI a0 s0 ok0 (gC (Ty.int (0:Int)) (gC (Ty.int (0:Int)) (gE ok0 fun a1 s1 ok1 D1=>?_)));have q1:=D1.k p0;refine tn (Ja ?_)
 refine gI a1 s1 ok1 (gM q1 (gT (Ty.val (Value.int .u8 (((s.get! ((0:Int)).toNat).toNat:Nat):Int))) rfl (fun A B E G H d0=>rP (y_sindex Try.underlying9 (eI d0) rfl oM oM)) (gT (Ty.nat (s.get! ((0:Int)).toNat).toNat) rfl (fun A B E G H d0=>rP (y_conv Try.underlying3 (eI d0) (by exact w64 oM oM) (by rw [Try.underlying5];rfl))) (gB 0 (gE ok1 fun a2 s2 ok2 D2=>?_)))))
 have q4:At (Ty.nat ((s.get! 0).toNat)) s2 a2 (.tmp 4):=(cvi (by (rfl)) (D2.m 3 rfl))
 refine tn (Ja (Ja ?_))
 refine gI a2 s2 ok2 (gM q4 (gS rfl (fun A B E G H d0=>rP (Jx (eI d0) rfl)) (gE ok2 fun a3 s3 ok3 D3=>?_)));have F3:=((F0.step0 D1.stp).step0 D2.stp).step0 D3.stp;have q6:=D3.k q4;refine tn ?_
 refine Jl (p:=(((((s.get! 0).toNat):Nat):Int) < (128:Int))) (D3.m 1 rfl) (fun c1=>?_) (fun c1=>?_)
 ·
  refine Ja ?_
  refine gI a3 s3 ok3 (gM q6 (gB 0 (gC (Ty.int (1:Int)) (gE ok3 fun a4 s4 ok4 D4=>?_))));refine tn (Ji (tr ?_))
  exact retL2 rfl ok4 (F3.step0 D4.stp) (hasT2 (cvi (by (exact (rn_low oM).1.symm)) (D4.m 1 rfl)) (cvi (by (have:=(rn_low (s:=s) oM).2;omega)) (D4.m 2 rfl)))
 ·
  refine Jf (tn (Ja ?_))
  refine gI a3 s3 ok3 (gC (Ty.int (0:Int)) (gE ok3 fun a5 s5 ok5 D5=>?_));refine tn (Ja ?_)
  refine gI a5 s5 ok5 (gC (Ty.int (0:Int)) (gE ok5 fun a6 s6 ok6 D6=>?_));have q14:=D6.k (D5.k q6);refine tn (Ja (Ja ?_))
  refine gI a6 s6 ok6 (gM q14 (gS rfl (fun A B E G H d0=>rP (QB (eI d0) rfl)) (gS rfl (fun A B E G H d0=>rP (Jc (eI d0))) (gS rfl (fun A B E G H d0=>gu G (eI d0) fun hg=>Jc (kp (H 4 rfl) E q14)) (gS rfl (fun A B E G H d0 d1=>gu G (eI d1) fun hg=>Jx ((ef d0 rfl).1 hg) rfl) (gS rfl (fun A B E G H d0 d1=>rP (Jr (eI d0) (eI d1) rfl)) (gE ok6 fun a7 s7 ok7 D7=>?_)))))));have F7:=((F3.step0 D5.stp).step0 D6.stp).step0 D7.stp;have q17:=D7.k (D6.k (D5.k (D3.k (D2.k q1))));have q18:=D7.k q14;refine tn ?_
  refine Go.KL.join_then (Q':=fun a8 w1=>∃ (t1:GW),t1.w = w1∧FromL [] s0 t1∧Ok 86 [] a8∧At (Ty.nat (nB ((s.get! 0).toNat))) t1 a8 (.tmp 5)∧At (Ty.nat (cB ((s.get! 0).toNat))) t1 a8 (.tmp 4)∧At (Ty.nat (lowB ((s.get! 0).toNat))) t1 a8 (.tmp 6)∧At (Ty.val (Value.string s)) t1 a8 (.tmp 0)∧True) ?_ ?_
  ·
   refine JU (D7.m 5 rfl) (fun c2=>?_) (fun c2=>?_)
   ·
    obtain ⟨d1,d2⟩:=Xv c2
    replace d1:=Xx d1
    replace d2:=Xx d2
    simp only [Bool.and_eq_true,decide_eq_true_eq] at c2;obtain ⟨n1,n2,n3⟩:=nb2 (b:=((s.get! 0).toNat)) oM
    refine Ja ?_
    refine gI a7 s7 ok7 (gC (Ty.int (2:Int)) (gE ok7 fun a9 s8 ok8 D8=>?_));refine tn (Ja ?_)
    refine gI a9 s8 ok8 (gM (D8.k q18) (gT (Ty.int (((((s.get! 0).toNat):Nat):Int) - (192:Int))) rfl (fun A B E G H d0=>rP (Xn (eI d0) rfl wX)) (gB 0 (gE ok8 fun a10 s9 ok9 D9=>?_))));refine tn ?_
    refine gI a10 s9 ok9 (gC (Ty.int (128:Int)) (gE ok9 fun a11 s10 ok10 D10=>?_))
    exact tn ⟨s10,rfl,(((F7.step0 D8.stp).step0 D9.stp).step0 D10.stp),ok10,(cJ (D10.k (D9.k (D8.m 0 rfl)))),(cJ (D10.k (D9.m 2 rfl))),(cJ (D10.m 0 rfl)),(D10.k (D9.k (D8.k q17))),trivial⟩
   ·
    simp only [Bool.and_eq_false_iff,decide_eq_false_iff_not] at c2;have k1:¬ (194 ≤ ((s.get! 0).toNat)∧((s.get! 0).toNat) < 224):=oM
    refine Ja ?_
    refine gI a7 s7 ok7 (gM q18 (gS rfl (fun A B E G H d0=>rP (QB (eI d0) rfl)) (gS rfl (fun A B E G H d0=>rP (Jc (eI d0))) (gS rfl (fun A B E G H d0=>gu G (eI d0) fun hg=>Jc (kp (H 4 rfl) E q18)) (gS rfl (fun A B E G H d0 d1=>gu G (eI d1) fun hg=>Jx ((ef d0 rfl).1 hg) rfl) (gS rfl (fun A B E G H d0 d1=>rP (Jr (eI d0) (eI d1) rfl)) (gE ok7 fun a12 s11 ok11 D11=>?_)))))));have F11:=F7.step0 D11.stp;have q32:=D11.k q17;have q33:=D11.k q18;refine tn ?_
    refine JU (D11.m 5 rfl) (fun c3=>?_) (fun c3=>?_)
    ·
     obtain ⟨d3,d4⟩:=Xv c3
     replace d3:=Xx d3
     replace d4:=Xx d4
     simp only [Bool.and_eq_true,decide_eq_true_eq] at c3;obtain ⟨n1,n2,n3⟩:=nb3 (b:=((s.get! 0).toNat)) oM
     refine Ja ?_
     refine gI a12 s11 ok11 (gC (Ty.int (3:Int)) (gE ok11 fun a13 s12 ok12 D12=>?_));refine tn (Ja ?_)
     refine gI a13 s12 ok12 (gM (D12.k q33) (gT (Ty.int (((((s.get! 0).toNat):Nat):Int) - (224:Int))) rfl (fun A B E G H d0=>rP (Xn (eI d0) rfl wX)) (gB 0 (gE ok12 fun a14 s13 ok13 D13=>?_))));refine tn ?_
     refine gI a14 s13 ok13 (gC (Ty.int (2048:Int)) (gE ok13 fun a15 s14 ok14 D14=>?_))
     exact tn ⟨s14,rfl,(((F11.step0 D12.stp).step0 D13.stp).step0 D14.stp),ok14,(cJ (D14.k (D13.k (D12.m 0 rfl)))),(cJ (D14.k (D13.m 2 rfl))),(cJ (D14.m 0 rfl)),(D14.k (D13.k (D12.k q32))),trivial⟩
    ·
     simp only [Bool.and_eq_false_iff,decide_eq_false_iff_not] at c3;have k2:¬ (224 ≤ ((s.get! 0).toNat)∧((s.get! 0).toNat) < 240):=oM
     refine Ja ?_
     refine gI a12 s11 ok11 (gM q33 (gS rfl (fun A B E G H d0=>rP (QB (eI d0) rfl)) (gS rfl (fun A B E G H d0=>rP (Jc (eI d0))) (gS rfl (fun A B E G H d0=>gu G (eI d0) fun hg=>Jc (kp (H 4 rfl) E q33)) (gS rfl (fun A B E G H d0 d1=>gu G (eI d1) fun hg=>Jx ((ef d0 rfl).1 hg) rfl) (gS rfl (fun A B E G H d0 d1=>rP (Jr (eI d0) (eI d1) rfl)) (gE ok11 fun a16 s15 ok15 D15=>?_)))))));have F15:=F11.step0 D15.stp;have q47:=D15.k q32;have q48:=D15.k q33;refine tn ?_
     refine JU (D15.m 5 rfl) (fun c4=>?_) (fun c4=>?_)
     ·
      obtain ⟨d5,d6⟩:=Xv c4
      replace d5:=Xx d5
      replace d6:=Xx d6
      simp only [Bool.and_eq_true,decide_eq_true_eq] at c4;obtain ⟨n1,n2,n3⟩:=nb4 (b:=((s.get! 0).toNat)) oM
      refine Ja ?_
      refine gI a16 s15 ok15 (gC (Ty.int (4:Int)) (gE ok15 fun a17 s16 ok16 D16=>?_));refine tn (Ja ?_)
      refine gI a17 s16 ok16 (gM (D16.k q48) (gT (Ty.int (((((s.get! 0).toNat):Nat):Int) - (240:Int))) rfl (fun A B E G H d0=>rP (Xn (eI d0) rfl wX)) (gB 0 (gE ok16 fun a18 s17 ok17 D17=>?_))));refine tn ?_
      refine gI a18 s17 ok17 (gC (Ty.int (65536:Int)) (gE ok17 fun a19 s18 ok18 D18=>?_))
      exact tn ⟨s18,rfl,(((F15.step0 D16.stp).step0 D17.stp).step0 D18.stp),ok18,(cJ (D18.k (D17.k (D16.m 0 rfl)))),(cJ (D18.k (D17.m 2 rfl))),(cJ (D18.m 0 rfl)),(D18.k (D17.k (D16.k q47))),trivial⟩
     ·
      simp only [Bool.and_eq_false_iff,decide_eq_false_iff_not] at c4;have k3:¬ (240 ≤ ((s.get! 0).toNat)∧((s.get! 0).toNat) < 245):=oM;obtain ⟨n1,n2,n3⟩:=nb0 k1 k2 k3
      refine Jf ?_
      exact tn ⟨s15,rfl,F15,ok15,(cJ (D15.k (D11.k (D7.k (D6.k (D5.m 0 rfl)))))),(cJ q48),(cJ (D15.k (D11.k (D7.k (D6.m 0 rfl))))),q47,trivial⟩
  ·
   rintro a20 w2 ⟨t2,rfl,F19,ok19,q62,q63,q64,q65,-⟩
   refine Ja (Ja ?_)
   refine gI a20 t2 ok19 (gM q62 (gS rfl (fun A B E G H d0=>rP (Qc (eI d0) rfl)) (gS rfl (fun A B E G H d0=>rP (Jc (eI d0))) (gS rfl (fun A B E G H d0=>gu G (eI d0) fun hg=>Jc (kp (H 0 rfl) E q65)) (gT (Ty.grd ((decide ((((nB ((s.get! 0).toNat)):Nat):Int) = (0:Int))) = false) (Ty.nat (ByteArray.size s))) rfl (fun A B E G H d0 d1=>gu G (eI d1) fun hg=>y_len_str Try.underlying9 ((ef d0 rfl).1 hg)) (gS rfl (fun A B E G H d0=>gu G (eI d0) fun hg=>Jc (kp (H 5 rfl) E q62)) (gS rfl (fun A B E G H d0 d1 d2=>gu G (eI d2) fun hg=>Jx ((ef d0 rfl).1 hg) ((ef d1 rfl).1 hg)) (gS rfl (fun A B E G H d0 d1=>rP (Jk (eI d0) rfl (eI d1))) (gE ok19 fun a21 s19 ok20 D19=>?_)))))))));have F20:=F19.step0 D19.stp;refine tn ?_
   refine JU (D19.m 7 rfl) (fun c5=>?_) (fun c5=>?_)
   ·
    simp only [Bool.or_eq_true,decide_eq_true_eq] at c5
    refine Ja ?_
    refine gI a21 s19 ok20 (gC (Ty.int (-1:Int)) (gC (Ty.int (1:Int)) (gE ok20 fun a22 s20 ok21 D20=>?_)));refine tn (Ji (tr ?_))
    exact retL2 rfl ok21 (F20.step0 D20.stp) (hasT2 (cvi (by (exact (rn_short oM oM E).1.symm)) (D20.m 0 rfl)) (cvi (by (have:=(rn_short (s:=s) oM oM E).2;omega)) (D20.m 1 rfl)))
   ·
    obtain ⟨d7,d8⟩:=Xu c5
    replace d7:=Xw d7
    replace d8:=Xw d8
    simp only [Bool.or_eq_false_iff,decide_eq_false_iff_not] at c5;have h0:nB ((s.get! 0).toNat) ≠ 0:=oM;have hsz:nB ((s.get! 0).toNat) ≤ s.size:=oM;have hcb:=hnb.2 h0
    refine Jf (tn (Ja (Ja ?_)))
    refine gI a21 s19 ok20 (gC (Ty.int (1:Int)) (gE ok20 fun a23 s21 ok22 D21=>?_));refine tn (Je ?_)
    refine JY (fun n1 a24 w3=>∃ (t3:GW) (j:Nat),t3.w = w3∧FromL [] s0 t3∧Ok 86 [] a24∧At (Ty.nat (j + 1)) t3 a24 (.tmp 7)∧At (Ty.nat (Qr s (cB ((s.get! 0).toNat)) j)) t3 a24 (.tmp 4)∧At (Ty.nat (nB ((s.get! 0).toNat))) t3 a24 (.tmp 5)∧At (Ty.nat (lowB ((s.get! 0).toNat))) t3 a24 (.tmp 6)∧At (Ty.val (Value.string s)) t3 a24 (.tmp 0)∧(j + 1 ≤ nB ((s.get! 0).toNat))∧(∀ i,i < j → 128 ≤ (s.get! (i + 1)).toNat∧(s.get! (i + 1)).toNat < 192)∧n1 = nB ((s.get! 0).toNat) - j) (nB ((s.get! 0).toNat) - (0)) ?_ ?_
    ·
     exact ⟨s21,0,rfl,(F20.step0 D21.stp),ok22,(cvi (by (rfl)) (D21.m 0 rfl)),(cvi (by (rfl)) (D21.k (D19.k q63))),(D21.k (D19.k q62)),(D21.k (D19.k q64)),(D21.k (D19.k q65)),by omega,fun j hj=>absurd hj (Nat.not_lt_zero j),rfl⟩
    ·
     rintro n2 a25 w4 ⟨t4,j,rfl,F23,ok23,q78,q79,q80,q81,q82,hj,hc,rfl⟩
     have hab:=acc_bd (s:=s) (c:=cB ((s.get! 0).toNat)) oM hc oM
     have hbk:=UInt8.toNat_lt (s.get! (j + 1))
     refine Ja (Ja ?_)
     refine gI a25 t4 ok23 (gM q78 (gM q80 (gS rfl (fun A B E G H d0 d1=>rP (Jx (eI d0) (eI d1))) (gE ok23 fun a26 s22 ok24 D22=>?_))));have F24:=F23.step0 D22.stp;have q83:=D22.k q78;have q84:=D22.k q79;have q85:=D22.k q80;have q86:=D22.k q81;have q87:=D22.k q82;refine tn ?_
     refine Jl (p:=((((j + 1):Nat):Int) < (((nB ((s.get! 0).toNat)):Nat):Int))) (D22.m 2 rfl) (fun c6=>?_) (fun c6=>?_)
     ·
      refine Jf (tn (Ja (Je (Ja (Ja ?_)))))
      refine gI a26 s22 ok24 (gM q87 (gM q83 (gT (Ty.val (Value.int .u8 (((s.get! (j + 1)).toNat:Nat):Int))) rfl (fun A B E G H d0 d1=>rP (y_sindex Try.underlying9 (eI d0) (eI d1) oM oM)) (gS rfl (fun A B E G H d0=>rP (Jx (eI d0) rfl)) (gS rfl (fun A B E G H d0=>rP (Jc (eI d0))) (gS rfl (fun A B E G H d0=>gu G (eI d0) fun hg=>Jc (kp (H 0 rfl) E q87)) (gS rfl (fun A B E G H d0=>gu G (eI d0) fun hg=>Jc (kp (H 7 rfl) E q83)) (gT (Ty.grd ((decide ((((s.get! (j + 1)).toNat:Nat):Int) < (128:Int))) = false) (Ty.val (Value.int .u8 (((s.get! (j + 1)).toNat:Nat):Int)))) rfl (fun A B E G H d0 d1 d2=>guf G (eI d2) fun hg hp=>y_sindex Try.underlying9 ((ef d0 rfl).1 hg) ((ef d1 rfl).1 hg) oM oM) (gS rfl (fun A B E G H d0 d1=>gu G (eI d1) fun hg=>QB ((ef d0 rfl).1 hg) rfl) (gS rfl (fun A B E G H d0 d1=>rP (Jk (eI d0) rfl (eI d1))) (gE ok24 fun a27 s23 ok25 D23=>?_)))))))))));have F25:=F24.step0 D23.stp;have q89:=D23.k q83;have q93:=D23.k q87;refine tn ?_
      refine JU (D23.m 9 rfl) (fun c7=>?_) (fun c7=>?_)
      ·
       simp only [Bool.or_eq_true,decide_eq_true_eq] at c7
       refine Ja ?_
       refine gI a27 s23 ok25 (gC (Ty.int (-1:Int)) (gC (Ty.int (1:Int)) (gE ok25 fun a28 s24 ok26 D24=>?_)));refine tn (Ji (tr (br (tr (tr (br (tr ?_)))))))
       exact retL2 rfl ok26 (F25.step0 D24.stp) (hasT2 (cvi (by (exact (rn_cont (j:=j) oM oM).1.symm)) (D24.m 0 rfl)) (cvi (by (have:=(rn_cont (s:=s) (j:=j) oM oM).2;omega)) (D24.m 1 rfl)))
      ·
       obtain ⟨d9,d10⟩:=Xu c7
       replace d9:=Xw d9
       replace d10:=Xw d10
       simp only [Bool.or_eq_false_iff,decide_eq_false_iff_not] at c7
       refine Jf (tn ?_)
       refine gI a27 s23 ok25 (gM (D23.k q84) (gT (Ty.nat ((Qr s (cB ((s.get! 0).toNat)) j) * 64)) rfl (fun A B E G H d0=>rP ((y_mul (eI d0) rfl wX).mono (fun τ _ h=>cN (σ:=τ) h))) (gM q93 (gM q89 (gT (Ty.val (Value.int .u8 (((s.get! (j + 1)).toNat:Nat):Int))) rfl (fun A B E G H d0 d1=>rP (y_sindex Try.underlying9 (eI d0) (eI d1) oM oM)) (gT (Ty.nat (s.get! (j + 1)).toNat) rfl (fun A B E G H d0=>rP (y_conv Try.underlying3 (eI d0) (by exact w64 oM oM) (by rw [Try.underlying5];rfl))) (gT (Ty.nat (((Qr s (cB ((s.get! 0).toNat)) j) * 64) + (s.get! (j + 1)).toNat)) rfl (fun A B E G H d0 d1=>rP ((JA (eI d0) (eI d1) wX).mono (fun τ _ h=>cN (σ:=τ) h))) (gT (Ty.int ((((((Qr s (cB ((s.get! 0).toNat)) j) * 64) + (s.get! (j + 1)).toNat):Nat):Int) - (128:Int))) rfl (fun A B E G H d0=>rP (Xn (eI d0) rfl wX)) (gB 0 (gE ok25 fun a29 s25 ok27 D25=>?_))))))))));refine bn (tn ?_)
       refine gI a29 s25 ok27 (gM (D25.k q89) (gT (Ty.nat ((j + 1) + 1)) rfl (fun A B E G H d0=>rP ((JA (eI d0) rfl wX).mono (fun τ _ h=>cN (σ:=τ) h))) (gB 0 (gE ok27 fun a30 s26 ok28 D26=>?_))))
       have hac:Qr s (cB ((s.get! 0).toNat)) (j + 1) = Qr s (cB ((s.get! 0).toNat)) j * 64 + ((s.get! (j + 1)).toNat - 128):=rfl
       exact tn ⟨nB ((s.get! 0).toNat) - ((j + 1)),by omega,s26,(j + 1),rfl,((F25.step0 D25.stp).step0 D26.stp),ok28,(cJ (D26.m 2 rfl)),(cJ (D26.k (D25.m 8 rfl))),(D26.k (D25.k (D23.k q85))),(D26.k (D25.k (D23.k q86))),(D26.k (D25.k q93)),by omega,acc_snoc hc oM oM,rfl⟩
     ·
      have hje:j + 1 = nB ((s.get! 0).toNat):=oM
      refine Jv (tx (tx (bx (tn (Ja (Ja ?_))))))
      refine gI a26 s22 ok24 (gM q84 (gM q86 (gS rfl (fun A B E G H d0 d1=>rP (Jx (eI d0) (eI d1))) (gS rfl (fun A B E G H d0=>rP (Jc (eI d0))) (gS rfl (fun A B E G H d0=>gu G (eI d0) fun hg=>Jc (kp (H 4 rfl) E q84)) (gS rfl (fun A B E G H d0 d1=>gu G (eI d1) fun hg=>KJ ((ef d0 rfl).1 hg) rfl) (gS rfl (fun A B E G H d0 d1=>rP (Jk (eI d0) rfl (eI d1))) (gS rfl (fun A B E G H d0 d1=>rP (Jc (eI d0))) (gT (Ty.grd (((decide ((((Qr s (cB ((s.get! 0).toNat)) j):Nat):Int) < (((lowB ((s.get! 0).toNat)):Nat):Int))) || (decide ((1114111:Int) < (((Qr s (cB ((s.get! 0).toNat)) j):Nat):Int)))) = false) (Ty.nat (Qr s (cB ((s.get! 0).toNat)) j))) rfl (by intro A B E G H d0;refine Jd G rfl rfl dE (eI d0) (fun hg=>?_);obtain ⟨d11,d12⟩:=Xu hg;have d11:=Xw d11;have d12:=Xw d12;exact Jc (kp (H 4 rfl) E q84)) (gT (Ty.grd (((decide ((((Qr s (cB ((s.get! 0).toNat)) j):Nat):Int) < (((lowB ((s.get! 0).toNat)):Nat):Int))) || (decide ((1114111:Int) < (((Qr s (cB ((s.get! 0).toNat)) j):Nat):Int)))) = false) (Ty.bool (decide ((55296:Int) ≤ (((Qr s (cB ((s.get! 0).toNat)) j):Nat):Int))))) rfl (by intro A B E G H d0 d1;refine Jd G rfl rfl dE (eI d1) (fun hg=>?_);obtain ⟨d13,d14⟩:=Xu hg;have d13:=Xw d13;have d14:=Xw d14;exact QB ((ef d0 rfl).1 hg) rfl) ?_))))))))))
      refine gT (Ty.grd (((decide ((((Qr s (cB ((s.get! 0).toNat)) j):Nat):Int) < (((lowB ((s.get! 0).toNat)):Nat):Int))) || (decide ((1114111:Int) < (((Qr s (cB ((s.get! 0).toNat)) j):Nat):Int)))) = false) (Ty.bool (decide ((55296:Int) ≤ (((Qr s (cB ((s.get! 0).toNat)) j):Nat):Int))))) rfl (by intro A B E G H d0 d1 d2;refine Jd G rfl rfl dE (eI d1) (fun hg=>?_);obtain ⟨d15,d16⟩:=Xu hg;have d15:=Xw d15;have d16:=Xw d16;exact Jc ((ef d0 rfl).1 hg)) (gS rfl (fun A B E G H d0=>gu2 G (eI d0) fun hg=>Jc (kp (H 4 rfl) E q84)) (gS rfl (fun A B E G H d0 d1=>gu2 G (eI d1) fun hg=>Jx ((ef d0 rfl).1 hg) rfl) (gT (Ty.grd (((decide ((((Qr s (cB ((s.get! 0).toNat)) j):Nat):Int) < (((lowB ((s.get! 0).toNat)):Nat):Int))) || (decide ((1114111:Int) < (((Qr s (cB ((s.get! 0).toNat)) j):Nat):Int)))) = false) (Ty.bool ((decide ((55296:Int) ≤ (((Qr s (cB ((s.get! 0).toNat)) j):Nat):Int))) && (decide ((((Qr s (cB ((s.get! 0).toNat)) j):Nat):Int) < (57344:Int)))))) rfl (by intro A B E G H d0 d1 d2;refine Jd G rfl rfl dE (eI d2) (fun hg=>?_);obtain ⟨d17,d18⟩:=Xu hg;have d17:=Xw d17;have d18:=Xw d18;exact Jr ((ef d0 rfl).1 hg) (KX hg (eI d1)) rfl) (gS rfl (fun A B E G H d0 d1=>rP (Jk (eI d0) rfl (eI d1))) (gE ok24 fun a31 s27 ok29 D27=>?_)))));have F29:=F24.step0 D27.stp;refine tn ?_
      refine JU (D27.m 14 rfl) (fun c8=>?_) (fun c8=>?_)
      ·
       simp only [Bool.or_eq_true,Bool.and_eq_true,decide_eq_true_eq] at c8
       refine Ja ?_
       refine gI a31 s27 ok29 (gC (Ty.int (-1:Int)) (gC (Ty.int (1:Int)) (gE ok29 fun a32 s28 ok30 D28=>?_)));refine tn (Ji (tr ?_))
       exact retL2 rfl ok30 (F29.step0 D28.stp) (hasT2 (cvi (by (exact (rn_bad h0 hsz hje hc oM).1.symm)) (D28.m 0 rfl)) (cvi (by (have:=(rn_bad h0 hsz hje hc oM).2;omega)) (D28.m 1 rfl)))
      ·
       obtain ⟨d19,d20⟩:=Xu c8
       obtain ⟨d21,d22⟩:=Xu d19
       replace d21:=Xw d21
       replace d22:=Xw d22
       simp only [Bool.or_eq_false_iff,Bool.and_eq_false_iff,decide_eq_false_iff_not] at c8
       refine Jf (tn (Ja ?_))
       refine gI a31 s27 ok29 (gM (D27.k q84) (gM (D27.k q85) (gB 0 (gB 0 (gE ok29 fun a33 s29 ok31 D29=>?_)))));refine tn (Ji ?_)
       exact retL2 rfl ok31 (F29.step0 D29.stp) (hasT2 (cvi (by (exact (rn_ok h0 hsz hje hc oM).1.symm)) (D29.m 2 rfl)) (cvi (by (have:=(rn_ok h0 hsz hje hc oM).2;omega)) (D29.m 3 rfl)))
set_option maxHeartbeats 4000000 in
set_option maxRecDepth 100000 in
theorem rRunes_fn (s:ByteArray) (σ:GW)  (v0:Value) (hv0:Ty.has (Ty.val (Value.string s)) σ v0)  (E:s.size ≤ 17592186044416) :
    FnC J 86 #[v0] σ (Ty.lst Ty.int (runsL s)):=by
 refine JR Try.func86 rfl Try.ntmps86 (Xy rfl) (fun s0 a0 hle F0 ok0 hargs=>?_)
 have p0:=pA hle (hargs 0 _ rfl) hv0
 clear hargs;refine Ja ?_
 refine gI a0 s0 ok0 (gC (Ty.val (Value.slice none 0 0)) (gE ok0 fun a1 s1 ok1 D1=>?_));refine tn (Ja ?_)
 refine gI a1 s1 ok1 (gC (Ty.val (Value.slice none 0 0)) (gE ok1 fun a2 s2 ok2 D2=>?_));refine tn (Ja (Je ?_))
 have o1:Own s2 5 3 1 (Value.slice none 0 0) 0 (List.map Ty.int ([]:List Int)):=Own.nil _ _ _ _
 refine JY (fun n1 a3 w1=>∃ (t1:GW) (p:Nat) (f:Nat) (xs:List Int) (x3_0:Value),t1.w = w1∧FromL [] s0 t1∧Ok 22 [] a3∧At (Ty.val (Value.string (ByteArray.extract s p (ByteArray.size s)))) t1 a3 (.tmp 0)∧At (Ty.val x3_0) t1 a3 (.tmp 3)∧Own t1 5 3 1 x3_0 (List.length xs) (List.map Ty.int xs)∧(xs ++ Xk s f p = runsL s)∧(s.size ≤ f + p)∧(p ≤ s.size)∧(xs.length ≤ p)∧n1 = s.size + 1 - p) (s.size + 1 - (0)) ?_ ?_
 ·
  exact ⟨s2,0,s.size,([]:List Int),(Value.slice none 0 0),rfl,((F0.step0 D1.stp).step0 D2.stp),ok2,(cvt (by (rw [ByteArray.extract_zero_size])) (D2.k (D1.k p0))),(D2.m 0 rfl),(cvo (by (simp)) (by (simp)) o1),rfl,by omega,by omega,by simp,rfl⟩
 ·
  rintro n2 a4 w2 ⟨t2,p,f,xs,x3_0,rfl,F3,ok3,q4,q5,o2,heq,hf,hp,hx,rfl⟩
  have hez:(ByteArray.extract s p (ByteArray.size s)).size = s.size - p:=by rw [ByteArray.size_extract];omega
  have hw:=wid_pos s p
  have her:=ext_run s p
  refine Ja (Ja ?_)
  refine gI a4 t2 ok3 (gM q4 (gT (Ty.nat (ByteArray.size (ByteArray.extract s p (ByteArray.size s)))) rfl (fun A B E G H d0=>rP (y_len_str Try.underlying9 (eI d0))) (gS rfl (fun A B E G H d0=>rP (KJ (eI d0) rfl)) (gE ok3 fun a5 s3 ok4 D3=>?_))));have F4:=F3.step0 D3.stp;have q6:=D3.k q4;have q7:=D3.k q5;have o3:=Own.k0 o2 D3.stp;refine tn ?_
  refine Jl (p:=((0:Int) < (((ByteArray.size (ByteArray.extract s p (ByteArray.size s))):Nat):Int))) (D3.m 2 rfl) (fun c1=>?_) (fun c1=>?_)
  ·
   have hwi:=wid_in (s:=s) (p:=p) oM
   refine Jf (tn (Je (Ja ?_)))
   refine gI a5 s3 ok4 (gM q6 (gT (Ty.tup2 (Ty.int (QR s p)) (Ty.nat (wid s p))) rfl (fun A B E G H d0=>rP ((JB _ Try.func89 rfl rfl my1 (rRuneAt_fn ((ByteArray.extract s p (ByteArray.size s))) _ _ (eI d0) oM)).mono (fun τ _ h=>cvt (σ:=τ) (T:=(Ty.tup2 (Ty.int (QR ((ByteArray.extract s p (ByteArray.size s))) 0)) (Ty.nat (wid ((ByteArray.extract s p (ByteArray.size s))) 0)))) (U:=(Ty.tup2 (Ty.int (QR s p)) (Ty.nat (wid s p)))) (by rw [her.1,her.2]) h))) (gS rfl (fun A B E G H d0=>rP (Jc (eI d0))) (gT (Ty.int (QR s p)) rfl (fun A B E G H d0=>rP (y_ext2_0 (eI d0))) (gT (Ty.nat (wid s p)) rfl (fun A B E G H d0 d1=>rP (y_ext2_1 (eI d0))) (gB 0 (gB 0 (gE ok4 fun a6 s4 ok5 D4=>?_))))))));have q10:=D4.k q7;have o4:=Own.k0 o3 D4.stp;refine tn (Ja ?_)
   refine gI a6 s4 ok5 (gM q10 (gM (D4.m 5 rfl) (gT (Ty.sl 1 1 [(Ty.int (QR s p))]) rfl (fun A B E G H d0=>rP (KE Try.underlying26 Try.inf3 rfl (Jn rfl) (eI d0))) (gE2 ok5 fun a7 s5 ok6 D5=>?_))));have o5:=Own.k0 o4 D5.stp
   have q16:At (Ty.val x3_0) s5 a7 (.tmp 14):=D5.done 0 dE
   have q17:=D5.m 2 rfl
   have b1:=JI q17
   refine tL ok6 (YldM.toL (Kp Try.underlying26 Try.inf3 dE rfl dE (al (R:=(Pr.own 5 3 1 (List.length xs) (List.map Ty.int xs))) q16 o5) q17 (by intro U hU;simp at hU;subst hU;exact Jn rfl) oM oM)) fun a8 s6 hs1 ok7 r1 sm1=>?_
   have q19:=kq hs1 sm1 3 (D5.k q10)
   obtain ⟨x1,hx1⟩:∃ x,a8.eval (.tmp 17) = x:=⟨_,rfl⟩
   have q21:At (Ty.val x1) s6 a8 (.tmp 17):=hx1
   have o6:=al2 (R:=(Pr.own 5 3 1 (List.length (xs ++ [(QR s p)])) (List.map Ty.int (xs ++ [(QR s p)])))) hx1 (cvo (by simp) (by first | (rw [List.map_append];rfl) | simp) r1)
   clear r1
   refine tL ok7 (Yld.toL (y_as q21)) fun a9 s7 hs2 ok8 r2 sm2=>?_
   have q24:At (Ty.val x1) s7 a9 (.tmp 3):=r2
   clear r2;refine Jg (tn ?_)
   refine gI a9 s7 ok8 (gM (kq hs2 sm2 0 (kq hs1 sm1 0 (D5.k (D4.k q6)))) (gM (kq hs2 sm2 5 (kq hs1 sm1 5 (D5.k (D4.m 6 rfl)))) (gT (Ty.val (Value.string (ByteArray.extract (ByteArray.extract s p (ByteArray.size s)) (wid s p) (ByteArray.size (ByteArray.extract s p (ByteArray.size s)))))) rfl (fun A B E G H d0 d1=>rP (y_sfrom (l:=(wid s p)) Try.underlying9 (eI d0) (eI d1) oM)) (gB 0 (gE ok8 fun a10 s8 ok9 D6=>?_)))));have o8:=Own.k0 (Own.kl o6 hs2) D6.stp;refine bn ?_
   exact tn ⟨s.size + 1 - ((p + wid s p)),by omega,s8,(p + wid s p),(f - 1),(xs ++ [QR s p]),x1,rfl,(((((F4.step0 D4.stp).step0 D5.stp).sl hs1).sl hs2).step0 D6.stp),ok9,(cvt (by (rw [ext_ext hwi])) (D6.m 3 rfl)),(D6.k q24),(cvo (by (simp)) (by (simp)) o8),runsF_step heq oM oM,by omega,by omega,by simp;omega,rfl⟩
  ·
   refine Jv (tx (tx (bx (tn (Ja ?_)))))
   refine gI a5 s3 ok4 (gM q7 (gB 0 (gE ok4 fun a11 s9 ok10 D7=>?_)));have o9:=Own.k0 o3 D7.stp
   have q27:At (Ty.val x3_0) s9 a11 (.tmp 2):=D7.done 1
   refine tn (Ji ?_)
   obtain ⟨t3,e1,h1,q28⟩:=Own.seal o9 dE
   rw [← e1]
   have F11:=(F4.step0 D7.stp).step h1 dE
   have q29:At (Ty.lst Ty.int xs) t3 a11 (.tmp 2):=by have e:a11.eval (.tmp 2) = x3_0:=q27;show Ty.has _ _ _;rw [e];exact q28
   exact JJ rfl ok10 F11 (cvt (by (rw [runsF_end oM,List.append_nil] at heq;rw [heq])) q29)
end Go.Proofs.Ytodmoedmijfciaa
