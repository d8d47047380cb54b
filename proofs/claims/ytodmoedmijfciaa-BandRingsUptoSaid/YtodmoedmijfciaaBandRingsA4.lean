/- The functions that the law BandRings reaches, each by its contract. Part 4. -/
import Derived.Test.YtodmoedmijfciaaBandRingsA3
namespace Go.Proofs.Ytodmoedmijfciaa
open Go.KL
variable {J:Go.KL.JdOf Try.prog} [Go.KL.Al J]
set_option maxRecDepth 100000 in
theorem rRounds_fn (n:Nat) (σ:GW) (v0:Value) (hv0:Ty.has (Ty.nat n) σ v0) (hn:n ≤ 1000000) :
    FnC J 33 #[v0] σ (Ty.lst Ty.int (JL n)):=by
 refine KQ Try.func33 rfl Try.ntmps33 (Xr rfl) (fun s0 a0 hle F0 ok0 hargs=>?_)
 have p0:=pA hle (hargs 0 _ rfl) hv0
 clear hargs;refine Ja ?_
 refine gI a0 s0 ok0 (gC (Ty.val (Value.slice none 0 0)) (gE ok0 fun a1 s1 ok1 D1=>?_));refine tn (Ja ?_)
 refine gI a1 s1 ok1 (gC (Ty.val (Value.slice none 0 0)) (gE ok1 fun a2 s2 ok2 D2=>?_));refine tn (Ja (Ja ?_))
 refine gI a2 s2 ok2 (gC (Ty.int (0:Int)) (gE ok2 fun a3 s3 ok3 D3=>?_));refine tn (Je ?_)
 refine Kf (fun n1 a4 w1=>∃ (t1:GW) (k:Nat),t1.w = w1∧From s0 t1∧Ok 15 [] a4∧(Pr.own 2 3 1 (List.length (JL k)) (List.map Ty.int (JL k))).has t1 (a4.eval (.tmp 3))∧At (Ty.nat k) t1 a4 (.tmp 4)∧At (Ty.nat n) t1 a4 (.tmp 0)∧(k ≤ n)∧n1 = n - k) (n - (0)) ?_ ?_
 ·
  exact ⟨s3,0,rfl,(((F0.step0 D1.stp).step0 D2.stp).step0 D3.stp),ok3,(by have e:a3.eval (.tmp 3) = _:=(D3.k (D2.m 0 rfl));rw [e];exact Own.nil _ _ _ _),(cJ (D3.m 0 rfl)),(D3.k (D2.k (D1.k p0))),by omega,rfl⟩
 ·
  rintro n2 a5 w2 ⟨t2,k,rfl,F4,ok4,q7,q8,q9,hk,rfl⟩
  have hp:=roundsL_len k
  refine Ja (Ja ?_)
  refine gI a5 t2 ok4 (gM q8 (gM q9 (gS rfl (fun A B E G H d0 d1=>rP (Jw (eI d0) (eI d1))) (gE ok4 fun a6 s4 ok5 D4=>?_))));have F5:=F4.step0 D4.stp
  have q10:(Pr.own 2 3 1 (List.length (JL k)) (List.map Ty.int (JL k))).has s4 (a6.eval (.tmp 3)):=D4.ko q7 rfl
  have q11:=D4.k q8;refine tn ?_
  refine Jl (p:=(((k:Nat):Int) < ((n:Nat):Int))) (D4.m 2 rfl) (fun c1=>?_) (fun c1=>?_)
  ·
   refine Jf (tn (Ja (Je ?_)))
   refine gI a6 s4 ok5 (gT (Ty.val (a6.eval (.tmp 3))) rfl (fun A B E G H=>rP (Jc (H 3 rfl))) (gM q11 (gT (Ty.sl 1 1 [(Ty.nat k)]) rfl (fun A B E G H d0=>rP (KW Try.underlying26 Try.inf3 rfl (Jq rfl) (eI d0))) (gE2 ok5 fun a7 s5 ok6 D5=>?_))));have q14:=(Pr.own 2 3 1 (List.length (JL k)) (List.map Ty.int (JL k))).up D5.stp q10
   have q15:a7.eval (.tmp 3) = a6.eval (.tmp 3):=D5.same 3 rfl
   have q19:=D5.m 2 rfl
   refine Ks (m:=2) (R:=(fun v τ=>Own τ 2 3 1 v ((List.length (JL k)) + 1) ((List.map Ty.int (JL k)) ++ [(Ty.nat k)]))) rfl rfl dE ok6 (KC Try.underlying26 Try.inf3 dE rfl dE (al (D5.m 0 rfl) q14) q19 (by intro U hU;simp at hU;  subst hU;exact Jq rfl) oM oM) (fun a8 s6 hs1 ok7 r1 sm1=>?_)
   have F7:=(F5.step0 D5.stp).step hs1 dE
   have q20:At (Ty.nat k) s6 a8 (.tmp 4):=kpm hs1 dE (sm1 4 dE) (D5.k q11)
   have q21:At (Ty.nat n) s6 a8 (.tmp 0):=kpm hs1 dE (sm1 0 dE) (D5.k (D4.k q9))
   have q22:At (Ty.sl 1 1 [(Ty.nat k)]) s6 a8 (.tmp 12):=kpm hs1 dE (sm1 12 dE) q19
   have q23:(Pr.own 2 3 1 (List.length ((JL k) ++ [((k:Nat):Int)])) (List.map Ty.int ((JL k) ++ [((k:Nat):Int)]))).has s6 (a8.eval (.tmp 13)):=(cvo (by simp) (by first | (rw [List.map_append];rfl) | simp) r1)
   refine Ks (m:=0) (R:=(fun v τ=>Pr.has (Pr.own 2 3 1 (List.length ((JL k) ++ [((k:Nat):Int)])) (List.map Ty.int ((JL k) ++ [((k:Nat):Int)]))) τ v)) rfl rfl dE ok7 (Yld.toM (Qk q23)) (fun a9 s7 hs2 ok8 r2 sm2=>?_)
   have F8:=F7.step hs2 dE
   have q24:At (Ty.nat k) s7 a9 (.tmp 4):=kpm hs2 dE (sm2 4 dE) q20
   have q25:At (Ty.nat n) s7 a9 (.tmp 0):=kpm hs2 dE (sm2 0 dE) q21
   have q26:At (Ty.sl 1 1 [(Ty.nat k)]) s7 a9 (.tmp 12):=kpm hs2 dE (sm2 12 dE) q22
   have q27:(Pr.own 2 3 1 (List.length ((JL k) ++ [((k:Nat):Int)])) (List.map Ty.int ((JL k) ++ [((k:Nat):Int)]))).has s7 (a9.eval (.tmp 13)):=kpmo hs2 dE (.inl rfl) (sm2 13 dE) q23
   have q28:(Pr.own 2 3 1 (List.length ((JL k) ++ [((k:Nat):Int)])) (List.map Ty.int ((JL k) ++ [((k:Nat):Int)]))).has s7 (a9.eval (.tmp 3)):=r2
   refine Jh (bn (tn ?_))
   refine gI a9 s7 ok8 (gM q24 (gT (Ty.int (((k:Nat):Int) + (1:Int))) rfl (fun A B E G H d0=>rP (JF (eI d0) rfl wX)) (gB 0 (gE ok8 fun a10 s8 ok9 D6=>?_))))
   have q30:(Pr.own 2 3 1 (List.length ((JL k) ++ [((k:Nat):Int)])) (List.map Ty.int ((JL k) ++ [((k:Nat):Int)]))).has s8 (a10.eval (.tmp 3)):=D6.ko q28 rfl
   exact tn ⟨n - ((k+1)),by omega,s8,(k+1),rfl,(F8.step0 D6.stp),ok9,(cvo (by (rw [roundsL_succ k])) (by (rw [roundsL_succ k])) q30),(cJ (D6.m 2 rfl)),(D6.k q25),by omega,rfl⟩
  ·
   refine Jv (tx (tx (bx (tn (Ja ?_)))))
   refine gI a6 s4 ok5 (gT (Ty.val (a6.eval (.tmp 3))) rfl (fun A B E G H=>rP (Jc (H 3 rfl))) (gB 0 (gE ok5 fun a11 s9 ok10 D7=>?_)))
   have q32:(Pr.own 2 3 1 (List.length (JL k)) (List.map Ty.int (JL k))).has s9 (a11.eval (.tmp 2)):=al (show _ = _ from D7.done 1) ((Pr.own 2 3 1 (List.length (JL k)) (List.map Ty.int (JL k))).up D7.stp q10)
   refine tn (Jj ?_)
   obtain ⟨t3,e1,h1,q33⟩:=Own.seal q32 dE
   rw [← e1]
   have F11:=(F5.step0 D7.stp).step h1 dE
   exact QS rfl ok10 F11 (cvt (by (obtain rfl:k = n:=oM;rfl)) q33)
set_option maxHeartbeats 4000000 in
set_option maxRecDepth 100000 in
theorem rEnds_fn (nm:ByteArray) (n:Int) (l:List (List Int)) (sx:Int) (lx:List (List Int)) (σ:GW)  (v0 v1:Value) (hv0:Ty.has (Ty.agg [(Ty.val (Value.string nm)),(Ty.int n),(Ty.lst Ty.ints l)]) σ v0) (hv1:Ty.has (Ty.agg [(Ty.val (Value.int .i32 sx)),(Ty.lst Ty.ints lx)]) σ v1)  (hx:lx.length ≤ l.length) (hl2:l.length ≤ 200) :
    FnC J 35 #[v0,v1] σ (Ty.lst Ty.ints (endsL l (sx,lx))):=by
 have htk:(List.take (l.length - lx.length) l).length = l.length - lx.length:=by rw [List.length_take];omega
 refine JT Try.func35 rfl Try.ntmps35 (Xr rfl) (fun s0 a0 hle F0 ok0 hargs=>?_)
 have p0:=pA hle (hargs 0 _ rfl) hv0
 have p1:=pA hle (hargs 1 _ rfl) hv1
 clear hargs;refine Ja ?_
 refine gI a0 s0 ok0 (gS rfl (fun A B E G H=>rP (Qw (kp (H 0 rfl) E p0))) (gS rfl (fun A B E G H=>rP (Qw (kp (H 1 rfl) E p1))) (gC (Ty.val (Value.slice none 0 0)) (gE ok0 fun a1 s1 ok1 D1=>?_))));have q1:=D1.m 0 rfl;have q2:=D1.m 1 rfl;refine tn (Ja ?_)
 refine gI a1 s1 ok1 (gS rfl (fun A B E G H=>rP (JD Try.fld24_2 Try.inf22 dE (kp (H 2 rfl) E q1) rfl)) (gS rfl (fun A B E G H d0=>rP (Jm Try.underlying22 rfl (eI d0) rfl)) (gS rfl (fun A B E G H d0=>rP (Jt Try.underlying22 (eI d0))) (gS rfl (fun A B E G H=>rP (JD Try.fld51_1 Try.inf22 dE (kp (H 3 rfl) E q2) rfl)) (gS rfl (fun A B E G H d0=>rP (Jm Try.underlying22 rfl (eI d0) rfl)) (gS rfl (fun A B E G H d0=>rP (Jt Try.underlying22 (eI d0))) (gT (Ty.nat ((List.length l) - (List.length lx))) rfl (fun A B E G H d0 d1=>rP ((Xg (eI d0) (eI d1) wX).mono (fun τ _ h=>cvi (σ:=τ) oM h))) (gB 0 (gE ok1 fun a2 s2 ok2 D2=>?_)))))))));refine tn (Ja ?_)
 refine gI a2 s2 ok2 (gR (Pr.own0 7 26) rfl (by intro A B E G H;exact rP (y_lit00 (k:=7) Try.underlying22 Try.inf26)) (gS rfl (fun A B E G H=>rP (JD Try.fld24_2 Try.inf22 dE (kp (H 2 rfl) E (D2.k q1)) rfl)) (gS rfl (fun A B E G H d0=>rP (Jm Try.underlying22 rfl (eI d0) rfl)) (gM (D2.m 7 rfl) (gT (Ty.lst Ty.ints (l.take ((List.length l) - (List.length lx)))) rfl (fun A B E G H d0 d1=>rP (y_take Try.underlying22 Try.inf26 (eI d0) (eI d1) oM)) (gR (Pr.own 7 26 1 (List.length (l.take ((List.length l) - (List.length lx)))) (List.map Ty.ints (l.take ((List.length l) - (List.length lx))))) rfl (by intro A B E G H d0 d1;have e0:(Pr.own0 7 26).has B (A.eval (.tmp 13)):=d0 rfl;exact rP (y_append0 Try.underlying22 Try.inf26 dE rfl e0 (eI d1) (one_map (fun _=>Qg)) oM oM)) (gS rfl (fun A B E G H=>rP (JD Try.fld51_1 Try.inf22 dE (kp (H 3 rfl) E (D2.k q2)) rfl)) (gS rfl (fun A B E G H d0=>rP (Jm Try.underlying22 rfl (eI d0) rfl)) (gE2 ok2 fun a3 s3 ok3 D3=>?_)))))))))
 obtain ⟨x1,hx1⟩:∃ x,a3.eval (.tmp 18) = x:=⟨_,rfl⟩
 have q6:At (Ty.val x1) s3 a3 (.tmp 18):=hx1
 have o1:=al2 (R:=(Pr.own 7 26 1 (List.length (l.take ((List.length l) - (List.length lx)))) (List.map Ty.ints (l.take ((List.length l) - (List.length lx)))))) hx1 (D3.done 5 dE)
 have q7:=D3.m 7 rfl
 have b1:=JS q7
 refine tL ok3 (YldM.toL (KC Try.underlying22 Try.inf26 dE rfl dE (al (R:=(Pr.own 7 26 1 (List.length (l.take ((List.length l) - (List.length lx)))) (List.map Ty.ints (l.take ((List.length l) - (List.length lx)))))) q6 o1) q7 (one_map (fun _=>Qg)) oM oM)) fun a4 s4 hs1 ok4 r1 sm1=>?_
 obtain ⟨x2,hx2⟩:∃ x,a4.eval (.tmp 21) = x:=⟨_,rfl⟩
 have q8:At (Ty.val x2) s4 a4 (.tmp 21):=hx2
 have o2:=al2 (R:=(Pr.own 7 26 1 (List.length ((l.take ((List.length l) - (List.length lx))) ++ lx)) (List.map Ty.ints ((l.take ((List.length l) - (List.length lx))) ++ lx)))) hx2 (cvo (by simp) (by first | (rw [List.map_append];rfl) | simp) r1)
 clear r1
 refine tL ok4 (Yld.toL (y_as q8)) fun a5 s5 hs2 ok5 r2 sm2=>?_
 have q9:At (Ty.val x2) s5 a5 (.tmp 4):=r2
 clear r2;refine Jh (tn (Jj ?_))
 obtain ⟨t1,e1,h1,q10⟩:=Own.seal (Own.kl o2 hs2) dE
 rw [← e1]
 have F6:=(((((F0.step0 D1.stp).step0 D2.stp).step0 D3.stp).sl hs1).sl hs2).step h1 dE
 have q11:At (Ty.lst Ty.ints ((l.take ((List.length l) - (List.length lx))) ++ lx)) t1 a5 (.tmp 4):=by have e:a5.eval (.tmp 4) = x2:=q9;show Ty.has _ _ _;rw [e];exact q10
 exact JJ rfl ok5 F6 (cvt (by (first | rfl | omega | (simp_all;done) | (simp_all;omega))) q11)
set_option maxRecDepth 100000 in
theorem rIsIn_fn (xs:List Int) (x:Int) (σ:GW) (v0 v1:Value) (hv0:Ty.has (Ty.lst Ty.int xs) σ v0) (hv1:Ty.has (Ty.int x) σ v1)  :
    FnC J 85 #[v0,v1] σ (Ty.bool (decide (x ∈ xs))):=by
 refine KQ Try.func85 rfl Try.ntmps85 (Xr rfl) (fun s0 a0 hle F0 ok0 hargs=>?_)
 have p0:=pA hle (hargs 0 _ rfl) hv0
 have b1:=JS p0
 have p1:=pA hle (hargs 1 _ rfl) hv1
 clear hargs;refine Ja ?_
 refine gI a0 s0 ok0 (gC (Ty.bool false) (gE ok0 fun a1 s1 ok1 D1=>?_));refine tn (Ja (Ja ?_))
 refine gI a1 s1 ok1 (gC (Ty.int (0:Int)) (gE ok1 fun a2 s2 ok2 D2=>?_));refine tn (Je ?_)
 refine Kf (fun n1 a3 w1=>∃ (t1:GW) (k:Nat),t1.w = w1∧From s0 t1∧Ok 18 [] a3∧At (Ty.nat k) t1 a3 (.tmp 5)∧At (Ty.lst Ty.int xs) t1 a3 (.tmp 0)∧At (Ty.int x) t1 a3 (.tmp 1)∧(k ≤ xs.length)∧(∀ j,j < k → xs.getD j 0 ≠ x)∧n1 = xs.length - k) (xs.length - (0)) ?_ ?_
 ·
  exact ⟨s2,0,rfl,((F0.step0 D1.stp).step0 D2.stp),ok2,(cJ (D2.m 0 rfl)),(D2.k (D1.k p0)),(D2.k (D1.k p1)),by omega,fun j hj=>absurd hj (Nat.not_lt_zero j),rfl⟩
 ·
  rintro n2 a4 w2 ⟨t2,k,rfl,F3,ok3,q6,q7,q8,hk,hno,rfl⟩
  refine Ja (Ja ?_)
  refine gI a4 t2 ok3 (gM q6 (gM q7 (gS rfl (fun A B E G H d0=>rP (Jt Try.underlying26 (eI d0))) (gS rfl (fun A B E G H d0 d1=>rP (Jw (eI d0) (eI d1))) (gE ok3 fun a5 s3 ok4 D3=>?_)))));have F4:=F3.step0 D3.stp;have q9:=D3.k q6;have q10:=D3.k q7;have q11:=D3.k q8;refine tn ?_
  refine Jl (p:=(((k:Nat):Int) < (((List.length xs):Nat):Int))) (D3.m 3 rfl) (fun c1=>?_) (fun c1=>?_)
  ·
   refine Jf (tn (Ja (Je (Ja ?_))))
   refine gI a5 s3 ok4 (gM q10 (gM q9 (gT (Ty.ref [(Ty.int (xs.getD k 0))]) rfl (fun A B E G H d0 d1=>rP (Jy Try.underlying26 Try.inf3 (eI d0) (eI d1) oM (Ju Ty.int xs 0 k oM))) (gS rfl (fun A B E G H d0=>rP (Jm Try.underlying3 rfl (eI d0) rfl)) (gM q11 (gS rfl (fun A B E G H d0 d1=>rP (Qb (eI d0) (eI d1))) (gE ok4 fun a6 s4 ok5 D4=>?_)))))));have F5:=F4.step0 D4.stp;refine tn ?_
   refine Jl (p:=((xs.getD k 0) = x)) (D4.m 5 rfl) (fun c2=>?_) (fun c2=>?_)
   ·
    refine Ja ?_
    refine gI a6 s4 ok5 (gC (Ty.bool true) (gE ok5 fun a7 s5 ok6 D5=>?_));refine tn (Jj (br (tr (tr (br (tr ?_))))))
    exact QS rfl ok6 (F5.step0 D5.stp) (cvb (by (exact (decide_eq_true (mem_at oM c2)).symm)) (D5.m 0 rfl))
   ·
    refine Jf (bn (tn ?_))
    refine gI a6 s4 ok5 (gM (D4.k q9) (gT (Ty.int (((k:Nat):Int) + (1:Int))) rfl (fun A B E G H d0=>rP (JF (eI d0) rfl wX)) (gB 0 (gE ok5 fun a8 s6 ok7 D6=>?_))))
    exact tn ⟨xs.length - ((k+1)),by omega,s6,(k+1),rfl,(F5.step0 D6.stp),ok7,(cJ (D6.m 2 rfl)),(D6.k (D4.k q10)),(D6.k (D4.k q11)),by omega,fun j hj=>by (by_cases e:j = k;subst e;exact c2;exact hno j oM),rfl⟩
  ·
   refine Jv (tx (tx (bx (tn (Ja ?_)))))
   refine gI a5 s3 ok4 (gC (Ty.bool false) (gE ok4 fun a9 s7 ok8 D7=>?_));refine tn (Jj ?_)
   exact QS rfl ok8 (F4.step0 D7.stp) (cvb (by (exact (decide_eq_false (not_mem_all (fun j hj=>hno j oM))).symm)) (D7.m 0 rfl))
set_option maxRecDepth 100000 in
theorem rChangeRow_fn (n:Nat) (l:List Int) (σ:GW) (v0 v1:Value) (hv0:Ty.has (Ty.nat n) σ v0) (hv1:Ty.has (Ty.lst Ty.int l) σ v1) (hn:n ≤ 100) :
    FnC J 67 #[v0,v1] σ (Ty.lst Ty.int (JN n l)):=by
 refine KQ Try.func67 rfl Try.ntmps67 (Xr rfl) (fun s0 a0 hle F0 ok0 hargs=>?_)
 have p0:=pA hle (hargs 0 _ rfl) hv0
 have p1:=pA hle (hargs 1 _ rfl) hv1
 have b1:=JS p1
 clear hargs;refine Ja ?_
 refine gI a0 s0 ok0 (gC (Ty.val (Value.slice none 0 0)) (gE ok0 fun a1 s1 ok1 D1=>?_));refine tn (Ja ?_)
 refine gI a1 s1 ok1 (gC (Ty.val (Value.slice none 0 0)) (gE ok1 fun a2 s2 ok2 D2=>?_));refine tn (Ja (Je ?_))
 refine Kf (fun n1 a3 w1=>∃ (t1:GW) (xs:List Int) (f:Nat),t1.w = w1∧From s0 t1∧Ok 30 [] a3∧(Pr.own 2 3 1 (List.length xs) (List.map Ty.int xs)).has t1 (a3.eval (.tmp 5))∧At (Ty.nat n) t1 a3 (.tmp 0)∧At (Ty.lst Ty.int l) t1 a3 (.tmp 1)∧(n ≤ f + xs.length)∧(xs.length ≤ n + 1)∧(xs ++ rowF l n f xs.length = JN n l)∧n1 = n + 2 - xs.length) (n + 2 - (([]:List Int)).length) ?_ ?_
 ·
  exact ⟨s2,([]:List Int),n,rfl,((F0.step0 D1.stp).step0 D2.stp),ok2,(by have e:a2.eval (.tmp 5) = _:=(D2.m 0 rfl);rw [e];exact Own.nil _ _ _ _),(D2.k (D1.k p0)),(D2.k (D1.k p1)),by simp,by simp,rfl,rfl⟩
 ·
  rintro n2 a4 w2 ⟨t2,xs,f,rfl,F3,ok3,q6,q7,q8,hf,hx,heq,rfl⟩
  refine Ja (Ja ?_)
  refine gI a4 t2 ok3 (gT (Ty.val (a4.eval (.tmp 5))) rfl (fun A B E G H=>rP (Jc (H 5 rfl))) (gT (Ty.nat (List.length xs)) rfl (fun A B E G H d0=>rP (own_len Try.underlying26 (al (eI d0) ((Pr.own 2 3 1 (List.length xs) (List.map Ty.int xs)).up E q6)))) (gM q7 (gS rfl (fun A B E G H d0 d1=>rP (Jw (eI d0) (eI d1))) (gE ok3 fun a5 s3 ok4 D3=>?_)))));have F4:=F3.step0 D3.stp
  have q9:(Pr.own 2 3 1 (List.length xs) (List.map Ty.int xs)).has s3 (a5.eval (.tmp 5)):=D3.ko q6 rfl
  refine tn ?_
  refine Jl (p:=((((List.length xs):Nat):Int) < ((n:Nat):Int))) (D3.m 3 rfl) (fun c1=>?_) (fun c1=>?_)
  ·
   refine Jf (tn (Je (Ja ?_)))
   refine gI a5 s3 ok4 (gT (Ty.val (a5.eval (.tmp 5))) rfl (fun A B E G H=>rP (Jc (H 5 rfl))) (gT (Ty.nat (List.length xs)) rfl (fun A B E G H d0=>rP (own_len Try.underlying26 (al (eI d0) ((Pr.own 2 3 1 (List.length xs) (List.map Ty.int xs)).up E q9)))) (gB 0 (gE ok4 fun a6 s4 ok5 D4=>?_))))
   have q13:(Pr.own 2 3 1 (List.length xs) (List.map Ty.int xs)).has s4 (a6.eval (.tmp 5)):=D4.ko q9 rfl
   have q15:=D4.k (D3.k q8);have q16:=D4.m 2 rfl;refine tn (Ja ?_)
   refine gI a6 s4 ok5 (gM q15 (gM q16 (gT (Ty.int ((((List.length xs):Nat):Int) + (1:Int))) rfl (fun A B E G H d0=>rP (JF (eI d0) rfl wX)) (gS rfl (fun A B E G H d0 d1=>rP (JP _ Try.func85 rfl rfl my2 (rIsIn_fn (l) (((((List.length xs):Nat):Int) + (1:Int))) _ _ _ (eI d0) (eI d1) ))) (gB 0 (gE ok5 fun a7 s5 ok6 D5=>?_))))))
   have q17:(Pr.own 2 3 1 (List.length xs) (List.map Ty.int xs)).has s5 (a7.eval (.tmp 5)):=D5.ko q13 rfl
   refine tn (Ja ?_)
   refine gI a7 s5 ok6 (gM (D5.m 4 rfl) (gE ok6 fun a8 s6 ok7 D6=>?_));have F7:=((F4.step0 D4.stp).step0 D5.stp).step0 D6.stp
   have q22:(Pr.own 2 3 1 (List.length xs) (List.map Ty.int xs)).has s6 (a8.eval (.tmp 5)):=D6.ko q17 rfl
   have q23:=D6.k (D5.k (D4.k (D3.k q7)));have q24:=D6.k (D5.k q15);have q25:=D6.k (D5.k q16);refine tn ?_
   refine JR (D6.m 0 rfl) (fun c2=>?_) (fun c2=>?_)
   ·
    have c2:=Xq c2
    refine gI a8 s6 ok7 (gT (Ty.val (a8.eval (.tmp 5))) rfl (fun A B E G H=>rP (Jc (H 5 rfl))) (gM q25 (gT (Ty.sl 1 1 [(Ty.nat (List.length xs))]) rfl (fun A B E G H d0=>rP (KW Try.underlying26 Try.inf3 rfl (Jq rfl) (eI d0))) (gE2 ok7 fun a9 s7 ok8 D7=>?_))));have q27:=(Pr.own 2 3 1 (List.length xs) (List.map Ty.int xs)).up D7.stp q22
    have q28:a9.eval (.tmp 5) = a8.eval (.tmp 5):=D7.same 5 rfl
    have q32:=D7.m 2 rfl
    refine Ks (m:=2) (R:=(fun v τ=>Own τ 2 3 1 v ((List.length xs) + 1) ((List.map Ty.int xs) ++ [(Ty.nat (List.length xs))]))) rfl rfl dE ok8 (KC Try.underlying26 Try.inf3 dE rfl dE (al (D7.m 0 rfl) q27) q32 (by intro U hU;simp at hU;  subst hU;exact Jq rfl) oM oM) (fun a10 s8 hs1 ok9 r1 sm1=>?_)
    have F9:=(F7.step0 D7.stp).step hs1 dE
    have q33:At (Ty.nat n) s8 a10 (.tmp 0):=kpm hs1 dE (sm1 0 dE) (D7.k q23)
    have q34:At (Ty.lst Ty.int l) s8 a10 (.tmp 1):=kpm hs1 dE (sm1 1 dE) (D7.k q24)
    have q35:At (Ty.sl 1 1 [(Ty.nat (List.length xs))]) s8 a10 (.tmp 21):=kpm hs1 dE (sm1 21 dE) q32
    have q36:(Pr.own 2 3 1 (List.length (xs ++ [(((List.length xs):Nat):Int)])) (List.map Ty.int (xs ++ [(((List.length xs):Nat):Int)]))).has s8 (a10.eval (.tmp 22)):=(cvo (by simp) (by first | (rw [List.map_append];rfl) | simp) r1)
    refine Ks (m:=0) (R:=(fun v τ=>Pr.has (Pr.own 2 3 1 (List.length (xs ++ [(((List.length xs):Nat):Int)])) (List.map Ty.int (xs ++ [(((List.length xs):Nat):Int)]))) τ v)) rfl rfl dE ok9 (Yld.toM (Qk q36)) (fun a11 s9 hs2 ok10 r2 sm2=>?_)
    have F10:=F9.step hs2 dE
    have q37:At (Ty.nat n) s9 a11 (.tmp 0):=kpm hs2 dE (sm2 0 dE) q33
    have q38:At (Ty.lst Ty.int l) s9 a11 (.tmp 1):=kpm hs2 dE (sm2 1 dE) q34
    have q39:At (Ty.sl 1 1 [(Ty.nat (List.length xs))]) s9 a11 (.tmp 21):=kpm hs2 dE (sm2 21 dE) q35
    have q40:(Pr.own 2 3 1 (List.length (xs ++ [(((List.length xs):Nat):Int)])) (List.map Ty.int (xs ++ [(((List.length xs):Nat):Int)]))).has s9 (a11.eval (.tmp 22)):=kpmo hs2 dE (.inl rfl) (sm2 22 dE) q36
    have q41:(Pr.own 2 3 1 (List.length (xs ++ [(((List.length xs):Nat):Int)])) (List.map Ty.int (xs ++ [(((List.length xs):Nat):Int)]))).has s9 (a11.eval (.tmp 5)):=r2
    refine Jh (bn ?_)
    exact tn ⟨n + 2 - ((xs ++ [((xs.length:Nat):Int)])).length,by simp;omega,s9,(xs ++ [((xs.length:Nat):Int)]),(f-1),rfl,F10,ok10,(cvo (by (simp)) (by (simp)) q41),q37,q38,by simp;omega,by simp;omega,by rw [List.length_append];exact rowF_yes heq oM hf c2,rfl⟩
   ·
    have c2:=Xp c2
    refine gI a8 s6 ok7 (gT (Ty.val (a8.eval (.tmp 5))) rfl (fun A B E G H=>rP (Jc (H 5 rfl))) (gM q25 (gT (Ty.int ((((List.length xs):Nat):Int) + (1:Int))) rfl (fun A B E G H d0=>rP (JF (eI d0) rfl wX)) (gM q25 (gT (Ty.sl 1 2 [(Ty.int ((((List.length xs):Nat):Int) + (1:Int))),(Ty.nat (List.length xs))]) rfl (fun A B E G H d0 d1=>rP (y_build2 Try.underlying26 Try.inf3 rfl (Jq rfl) (Jq rfl) (eI d0) (eI d1))) (gE2 ok7 fun a12 s10 ok11 D8=>?_))))));have q42:=(Pr.own 2 3 1 (List.length xs) (List.map Ty.int xs)).up D8.stp q22
    have q43:a12.eval (.tmp 5) = a8.eval (.tmp 5):=D8.same 5 rfl
    have q47:=D8.m 4 rfl
    refine Ks (m:=2) (R:=(fun v τ=>Own τ 2 3 1 v ((List.length xs) + 2) ((List.map Ty.int xs) ++ [(Ty.int ((((List.length xs):Nat):Int) + (1:Int))),(Ty.nat (List.length xs))]))) rfl rfl dE ok11 (KC Try.underlying26 Try.inf3 dE rfl dE (al (D8.m 0 rfl) q42) q47 (by intro U hU;simp at hU;  rcases hU with rfl | rfl <;> exact Jq rfl) oM oM) (fun a13 s11 hs3 ok12 r3 sm3=>?_)
    have F12:=(F7.step0 D8.stp).step hs3 dE
    have q48:At (Ty.nat n) s11 a13 (.tmp 0):=kpm hs3 dE (sm3 0 dE) (D8.k q23)
    have q49:At (Ty.lst Ty.int l) s11 a13 (.tmp 1):=kpm hs3 dE (sm3 1 dE) (D8.k q24)
    have q50:At (Ty.sl 1 2 [(Ty.int ((((List.length xs):Nat):Int) + (1:Int))),(Ty.nat (List.length xs))]) s11 a13 (.tmp 27):=kpm hs3 dE (sm3 27 dE) q47
    have q51:(Pr.own 2 3 1 (List.length (xs ++ [((((List.length xs):Nat):Int) + (1:Int)),(((List.length xs):Nat):Int)])) (List.map Ty.int (xs ++ [((((List.length xs):Nat):Int) + (1:Int)),(((List.length xs):Nat):Int)]))).has s11 (a13.eval (.tmp 28)):=(cvo (by simp) (by first | (rw [List.map_append];rfl) | simp) r3)
    refine Ks (m:=0) (R:=(fun v τ=>Pr.has (Pr.own 2 3 1 (List.length (xs ++ [((((List.length xs):Nat):Int) + (1:Int)),(((List.length xs):Nat):Int)])) (List.map Ty.int (xs ++ [((((List.length xs):Nat):Int) + (1:Int)),(((List.length xs):Nat):Int)]))) τ v)) rfl rfl dE ok12 (Yld.toM (Qk q51)) (fun a14 s12 hs4 ok13 r4 sm4=>?_)
    have F13:=F12.step hs4 dE
    have q52:At (Ty.nat n) s12 a14 (.tmp 0):=kpm hs4 dE (sm4 0 dE) q48
    have q53:At (Ty.lst Ty.int l) s12 a14 (.tmp 1):=kpm hs4 dE (sm4 1 dE) q49
    have q54:At (Ty.sl 1 2 [(Ty.int ((((List.length xs):Nat):Int) + (1:Int))),(Ty.nat (List.length xs))]) s12 a14 (.tmp 27):=kpm hs4 dE (sm4 27 dE) q50
    have q55:(Pr.own 2 3 1 (List.length (xs ++ [((((List.length xs):Nat):Int) + (1:Int)),(((List.length xs):Nat):Int)])) (List.map Ty.int (xs ++ [((((List.length xs):Nat):Int) + (1:Int)),(((List.length xs):Nat):Int)]))).has s12 (a14.eval (.tmp 28)):=kpmo hs4 dE (.inl rfl) (sm4 28 dE) q51
    have q56:(Pr.own 2 3 1 (List.length (xs ++ [((((List.length xs):Nat):Int) + (1:Int)),(((List.length xs):Nat):Int)])) (List.map Ty.int (xs ++ [((((List.length xs):Nat):Int) + (1:Int)),(((List.length xs):Nat):Int)]))).has s12 (a14.eval (.tmp 5)):=r4
    refine Jh (bn ?_)
    exact tn ⟨n + 2 - ((xs ++ [((xs.length:Nat):Int) + 1,((xs.length:Nat):Int)])).length,by simp;omega,s12,(xs ++ [((xs.length:Nat):Int) + 1,((xs.length:Nat):Int)]),(f-1),rfl,F13,ok13,(cvo (by (simp)) (by (simp)) q56),q52,q53,by simp;omega,by simp;omega,by rw [List.length_append];exact rowF_no heq oM hf c2,rfl⟩
  ·
   refine Jv (tx (tx (bx (tn (Ja ?_)))))
   refine gI a5 s3 ok4 (gT (Ty.val (a5.eval (.tmp 5))) rfl (fun A B E G H=>rP (Jc (H 5 rfl))) (gB 0 (gE ok4 fun a15 s13 ok14 D9=>?_)))
   have q57:(Pr.own 2 3 1 (List.length xs) (List.map Ty.int xs)).has s13 (a15.eval (.tmp 4)):=al (show _ = _ from D9.done 1) ((Pr.own 2 3 1 (List.length xs) (List.map Ty.int xs)).up D9.stp q9)
   refine tn (Jj ?_)
   obtain ⟨t3,e1,h1,q58⟩:=Own.seal q57 dE
   rw [← e1]
   have F15:=(F4.step0 D9.stp).step h1 dE
   exact QS rfl ok14 F15 (cvt (by (rw [rowF_end oM,List.append_nil] at heq;rw [heq])) q58)
set_option maxRecDepth 100000 in
theorem rBy_fn (a:List Int) (b:List Int) (σ:GW) (v0 v1:Value) (hv0:Ty.has (Ty.lst Ty.int a) σ v0) (hv1:Ty.has (Ty.lst Ty.int b) σ v1) (hbd:∀ i,i < b.length → 0 ≤ b.getD i 0∧b.getD i 0 < a.length) (E:b.length ≤ 1000000) :
    FnC J 68 #[v0,v1] σ (Ty.lst Ty.int (byL a b)):=by
 refine KQ Try.func68 rfl Try.ntmps68 (Xr rfl) (fun s0 a0 hle F0 ok0 hargs=>?_)
 have p0:=pA hle (hargs 0 _ rfl) hv0
 have b1:=JS p0
 have p1:=pA hle (hargs 1 _ rfl) hv1
 have b2:=JS p1
 clear hargs;refine Ja ?_
 refine gI a0 s0 ok0 (gC (Ty.val (Value.slice none 0 0)) (gE ok0 fun a1 s1 ok1 D1=>?_));refine tn (Ja ?_)
 refine gI a1 s1 ok1 (gC (Ty.val (Value.slice none 0 0)) (gE ok1 fun a2 s2 ok2 D2=>?_));refine tn (Ja (Ja ?_))
 refine gI a2 s2 ok2 (gC (Ty.int (0:Int)) (gE ok2 fun a3 s3 ok3 D3=>?_));refine tn (Je ?_)
 refine Kf (fun n1 a4 w1=>∃ (t1:GW) (k:Nat),t1.w = w1∧From s0 t1∧Ok 24 [] a4∧(Pr.own 2 3 1 (List.length (byL a (b.take k))) (List.map Ty.int (byL a (b.take k)))).has t1 (a4.eval (.tmp 5))∧At (Ty.nat k) t1 a4 (.tmp 6)∧At (Ty.lst Ty.int a) t1 a4 (.tmp 0)∧At (Ty.lst Ty.int b) t1 a4 (.tmp 1)∧(k ≤ b.length)∧n1 = b.length - k) (b.length - (0)) ?_ ?_
 ·
  exact ⟨s3,0,rfl,(((F0.step0 D1.stp).step0 D2.stp).step0 D3.stp),ok3,(by have e:a3.eval (.tmp 5) = _:=(D3.k (D2.m 0 rfl));rw [e];exact Own.nil _ _ _ _),(cJ (D3.m 0 rfl)),(D3.k (D2.k (D1.k p0))),(D3.k (D2.k (D1.k p1))),by omega,rfl⟩
 ·
  rintro n2 a5 w2 ⟨t2,k,rfl,F4,ok4,q10,q11,q12,q13,hk,rfl⟩
  have hp:=byL_take_len a b k
  refine Ja (Ja ?_)
  refine gI a5 t2 ok4 (gM q11 (gM q13 (gS rfl (fun A B E G H d0=>rP (Jt Try.underlying26 (eI d0))) (gS rfl (fun A B E G H d0 d1=>rP (Jw (eI d0) (eI d1))) (gE ok4 fun a6 s4 ok5 D4=>?_)))));have F5:=F4.step0 D4.stp
  have q14:(Pr.own 2 3 1 (List.length (byL a (b.take k))) (List.map Ty.int (byL a (b.take k)))).has s4 (a6.eval (.tmp 5)):=D4.ko q10 rfl
  have q15:=D4.k q11;have q16:=D4.k q12;have q17:=D4.k q13;refine tn ?_
  refine Jl (p:=(((k:Nat):Int) < (((List.length b):Nat):Int))) (D4.m 3 rfl) (fun c1=>?_) (fun c1=>?_)
  ·
   have hq:=hbd k oM
   refine Jf (tn (Ja (Je ?_)))
   refine gI a6 s4 ok5 (gT (Ty.val (a6.eval (.tmp 5))) rfl (fun A B E G H=>rP (Jc (H 5 rfl))) (gM q16 (gM q17 (gM q15 (gT (Ty.ref [(Ty.int (b.getD k 0))]) rfl (fun A B E G H d0 d1=>rP (Jy Try.underlying26 Try.inf3 (eI d0) (eI d1) oM (Ju Ty.int b 0 k oM))) (gS rfl (fun A B E G H d0=>rP (Jm Try.underlying3 rfl (eI d0) rfl)) (gT (Ty.ref [(Ty.int (a.getD ((b.getD k 0)).toNat 0))]) rfl (fun A B E G H d0 d1=>rP (Jy Try.underlying26 Try.inf3 (eI d0) (eI d1) oM (Ju Ty.int a 0 ((b.getD k 0)).toNat oM))) (gS rfl (fun A B E G H d0=>rP (Jm Try.underlying3 rfl (eI d0) rfl)) (gT (Ty.sl 1 1 [(Ty.int (a.getD ((b.getD k 0)).toNat 0))]) rfl (fun A B E G H d0=>rP (KW Try.underlying26 Try.inf3 rfl (Jq rfl) (eI d0))) (gE2 ok5 fun a7 s5 ok6 D5=>?_))))))))));have q19:=(Pr.own 2 3 1 (List.length (byL a (b.take k))) (List.map Ty.int (byL a (b.take k)))).up D5.stp q14
   have q20:a7.eval (.tmp 5) = a6.eval (.tmp 5):=D5.same 5 rfl
   have q25:=D5.m 8 rfl
   refine Ks (m:=2) (R:=(fun v τ=>Own τ 2 3 1 v ((List.length (byL a (b.take k))) + 1) ((List.map Ty.int (byL a (b.take k))) ++ [(Ty.int (a.getD ((b.getD k 0)).toNat 0))]))) rfl rfl dE ok6 (KC Try.underlying26 Try.inf3 dE rfl dE (al (D5.m 0 rfl) q19) q25 (by intro U hU;simp at hU;  subst hU;exact Jq rfl) oM oM) (fun a8 s6 hs1 ok7 r1 sm1=>?_)
   have F7:=(F5.step0 D5.stp).step hs1 dE
   have q26:At (Ty.nat k) s6 a8 (.tmp 6):=kpm hs1 dE (sm1 6 dE) (D5.k q15)
   have q27:At (Ty.lst Ty.int a) s6 a8 (.tmp 0):=kpm hs1 dE (sm1 0 dE) (D5.k q16)
   have q28:At (Ty.lst Ty.int b) s6 a8 (.tmp 1):=kpm hs1 dE (sm1 1 dE) (D5.k q17)
   have q29:At (Ty.sl 1 1 [(Ty.int (a.getD ((b.getD k 0)).toNat 0))]) s6 a8 (.tmp 21):=kpm hs1 dE (sm1 21 dE) q25
   have q30:(Pr.own 2 3 1 (List.length ((byL a (b.take k)) ++ [(a.getD ((b.getD k 0)).toNat 0)])) (List.map Ty.int ((byL a (b.take k)) ++ [(a.getD ((b.getD k 0)).toNat 0)]))).has s6 (a8.eval (.tmp 22)):=(cvo (by simp) (by first | (rw [List.map_append];rfl) | simp) r1)
   refine Ks (m:=0) (R:=(fun v τ=>Pr.has (Pr.own 2 3 1 (List.length ((byL a (b.take k)) ++ [(a.getD ((b.getD k 0)).toNat 0)])) (List.map Ty.int ((byL a (b.take k)) ++ [(a.getD ((b.getD k 0)).toNat 0)]))) τ v)) rfl rfl dE ok7 (Yld.toM (Qk q30)) (fun a9 s7 hs2 ok8 r2 sm2=>?_)
   have F8:=F7.step hs2 dE
   have q31:At (Ty.nat k) s7 a9 (.tmp 6):=kpm hs2 dE (sm2 6 dE) q26
   have q32:At (Ty.lst Ty.int a) s7 a9 (.tmp 0):=kpm hs2 dE (sm2 0 dE) q27
   have q33:At (Ty.lst Ty.int b) s7 a9 (.tmp 1):=kpm hs2 dE (sm2 1 dE) q28
   have q34:At (Ty.sl 1 1 [(Ty.int (a.getD ((b.getD k 0)).toNat 0))]) s7 a9 (.tmp 21):=kpm hs2 dE (sm2 21 dE) q29
   have q35:(Pr.own 2 3 1 (List.length ((byL a (b.take k)) ++ [(a.getD ((b.getD k 0)).toNat 0)])) (List.map Ty.int ((byL a (b.take k)) ++ [(a.getD ((b.getD k 0)).toNat 0)]))).has s7 (a9.eval (.tmp 22)):=kpmo hs2 dE (.inl rfl) (sm2 22 dE) q30
   have q36:(Pr.own 2 3 1 (List.length ((byL a (b.take k)) ++ [(a.getD ((b.getD k 0)).toNat 0)])) (List.map Ty.int ((byL a (b.take k)) ++ [(a.getD ((b.getD k 0)).toNat 0)]))).has s7 (a9.eval (.tmp 5)):=r2
   refine Jh (bn (tn ?_))
   refine gI a9 s7 ok8 (gM q31 (gT (Ty.int (((k:Nat):Int) + (1:Int))) rfl (fun A B E G H d0=>rP (JF (eI d0) rfl wX)) (gB 0 (gE ok8 fun a10 s8 ok9 D6=>?_))))
   have q39:(Pr.own 2 3 1 (List.length ((byL a (b.take k)) ++ [(a.getD ((b.getD k 0)).toNat 0)])) (List.map Ty.int ((byL a (b.take k)) ++ [(a.getD ((b.getD k 0)).toNat 0)]))).has s8 (a10.eval (.tmp 5)):=D6.ko q36 rfl
   exact tn ⟨b.length - ((k+1)),by omega,s8,(k+1),rfl,(F8.step0 D6.stp),ok9,(cvo (by (rw [byL_snoc a b k oM])) (by (rw [byL_snoc a b k oM])) q39),(cJ (D6.m 2 rfl)),(D6.k q32),(D6.k q33),by omega,rfl⟩
  ·
   refine Jv (tx (tx (bx (tn (Ja ?_)))))
   refine gI a6 s4 ok5 (gT (Ty.val (a6.eval (.tmp 5))) rfl (fun A B E G H=>rP (Jc (H 5 rfl))) (gB 0 (gE ok5 fun a11 s9 ok10 D7=>?_)))
   have q41:(Pr.own 2 3 1 (List.length (byL a (b.take k))) (List.map Ty.int (byL a (b.take k)))).has s9 (a11.eval (.tmp 4)):=al (show _ = _ from D7.done 1) ((Pr.own 2 3 1 (List.length (byL a (b.take k))) (List.map Ty.int (byL a (b.take k)))).up D7.stp q14)
   refine tn (Jj ?_)
   obtain ⟨t3,e1,h1,q42⟩:=Own.seal q41 dE
   rw [← e1]
   have F11:=(F5.step0 D7.stp).step h1 dE
   exact QS rfl ok10 F11 (cvt (by (obtain rfl:k = b.length:=oM;rw [List.take_length])) q42)
set_option maxHeartbeats 4000000 in
set_option maxRecDepth 100000 in
theorem rFrom_fn (r:List Int) (l:List (List Int)) (σ:GW)  (v0 v1:Value) (hv0:Ty.has (Ty.lst Ty.int r) σ v0) (hv1:Ty.has (Ty.lst Ty.ints l) σ v1)  (hr:r.length ≤ 12) (hok:∀ k,k < l.length → okL 0 (l.getD k []) r.length) (hl:l.length ≤ 200) :
    FnC J 34 #[v0,v1] σ (Ty.lst Ty.ints (fromL r l)):=by
 refine JT Try.func34 rfl Try.ntmps34 (Xr rfl) (fun s0 a0 hle F0 ok0 hargs=>?_)
 have p0:=pA hle (hargs 0 _ rfl) hv0
 have b1:=JS p0
 have p1:=pA hle (hargs 1 _ rfl) hv1
 have b2:=JS p1
 clear hargs;refine Ja ?_
 refine gI a0 s0 ok0 (gC (Ty.val (Value.slice none 0 0)) (gE ok0 fun a1 s1 ok1 D1=>?_));have q1:=D1.k p0;refine tn (Ja ?_)
 refine gI a1 s1 ok1 (gM q1 (gR (Pr.own 5 26 1 1 (List.map Ty.ints [r])) rfl (by intro A B E G H d0;exact rP ((y_lit1 (k:=5) Try.underlying22 Try.inf26 rfl (Qg) (eI d0)).mono (fun _ _ h=>cvo (by simp) (by first | (simp;done) | rfl) h))) (gE2 ok1 fun a2 s2 ok2 D2=>?_)))
 obtain ⟨x1,hx1⟩:∃ x,a2.eval (.tmp 9) = x:=⟨_,rfl⟩
 have q5:At (Ty.val x1) s2 a2 (.tmp 9):=hx1
 have o1:=al2 (R:=(Pr.own 5 26 1 1 (List.map Ty.ints [r]))) hx1 (D2.done 1 dE)
 refine tL ok2 (Yld.toL (y_as q5)) fun a3 s3 hs1 ok3 r1 sm1=>?_
 have q8:At (Ty.val x1) s3 a3 (.tmp 5):=r1
 clear r1;refine Jh (tn (Ja (Ja ?_)))
 refine gI a3 s3 ok3 (gC (Ty.int (0:Int)) (gE ok3 fun a4 s4 ok4 D3=>?_));have o3:=Own.k0 (Own.kl o1 hs1) D3.stp;refine tn (Je ?_)
 refine Kf (fun n1 a5 w1=>∃ (t1:GW) (k:Nat) (x5_0:Value),t1.w = w1∧FromL [] s0 t1∧Ok 31 [] a5∧At (Ty.nat k) t1 a5 (.tmp 6)∧At (Ty.lst Ty.int (curL r l k)) t1 a5 (.tmp 0)∧At (Ty.val x5_0) t1 a5 (.tmp 5)∧At (Ty.lst Ty.ints l) t1 a5 (.tmp 1)∧Own t1 5 26 1 x5_0 (List.length (QQ r l k)) (List.map Ty.ints (QQ r l k))∧(k ≤ l.length)∧n1 = l.length - k) (l.length - (0)) ?_ ?_
 ·
  exact ⟨s4,0,x1,rfl,((((F0.step0 D1.stp).step0 D2.stp).sl hs1).step0 D3.stp),ok4,(cJ (D3.m 0 rfl)),(cvt (by (rfl)) (D3.k (kq hs1 sm1 0 (D2.k q1)))),(D3.k q8),(D3.k (kq hs1 sm1 1 (D2.k (D1.k p1)))),(cvo (by (simp [fromTo_zero])) (by (simp [fromTo_zero])) o3),by omega,rfl⟩
 ·
  rintro n2 a6 w2 ⟨t2,k,x5_0,rfl,F5,ok5,q13,q14,q15,q16,o4,hk,rfl⟩
  have hcl:=curL_len hok k hk
  have hfl:=fromTo_len r l k
  refine Ja (Ja ?_)
  refine gI a6 t2 ok5 (gM q13 (gM q16 (gS rfl (fun A B E G H d0=>rP (Jt Try.underlying22 (eI d0))) (gS rfl (fun A B E G H d0 d1=>rP (Jw (eI d0) (eI d1))) (gE ok5 fun a7 s5 ok6 D4=>?_)))));have F6:=F5.step0 D4.stp;have q17:=D4.k q13;have q18:=D4.k q14;have q19:=D4.k q15;have q20:=D4.k q16;have o5:=Own.k0 o4 D4.stp;refine tn ?_
  refine Jl (p:=(((k:Nat):Int) < (((List.length l):Nat):Int))) (D4.m 3 rfl) (fun c1=>?_) (fun c1=>?_)
  ·
   have hokk:=hok k oM;rw [← hcl] at hokk;have hcc:=QK hokk;have hcd:=hcc.symm;have hcl0:(curL r l k).length ≤ 12:=oM;have hbd:∀ i,i < (JN (curL r l k).length (l.getD k [])).length → 0 ≤ (JN (curL r l k).length (l.getD k [])).getD i 0∧(JN (curL r l k).length (l.getD k [])).getD i 0 < ((curL r l k).length:Int):=(fun i hi=>chgRow_bd hokk hi)
   refine Jf (tn (Ja (Je (Ja ?_))))
   refine gI a7 s5 ok6 (gM q18 (gS rfl (fun A B E G H d0=>rP (Jt Try.underlying26 (eI d0))) (gM q20 (gM q17 (gT (Ty.ref [(Ty.lst Ty.int (l.getD k []))]) rfl (fun A B E G H d0 d1=>rP (Jy Try.underlying22 Try.inf26 (eI d0) (eI d1) oM (Ju Ty.ints l [] k oM))) (gS rfl (fun A B E G H d0=>rP (Jm Try.underlying26 rfl (eI d0) rfl)) (gS rfl (fun A B E G H d0 d1=>rP (JP _ Try.func67 rfl rfl my2 (rChangeRow_fn ((List.length (curL r l k))) ((l.getD k [])) _ _ _ (cvi (σ:=B) oM (ef d0 rfl)) (eI d1) oM))) (gB 0 (gE ok6 fun a8 s6 ok7 D5=>?_)))))))));have o6:=Own.k0 o5 D5.stp;refine tn (Ja ?_)
   refine gI a8 s6 ok7 (gM (D5.k q18) (gM (D5.m 7 rfl) (gS rfl (fun A B E G H d0 d1=>rP (JP _ Try.func68 rfl rfl my2 (rBy_fn ((curL r l k)) ((JN ((List.length (curL r l k))) ((l.getD k [])))) _ _ _ (eI d0) (eI d1) (by first | assumption | omega) (by first | assumption | omega)))) (gB 0 (gE ok7 fun a9 s7 ok8 D6=>?_)))));have q28:=D6.k (D5.k q19);have o7:=Own.k0 o6 D6.stp;have q30:=D6.m 3 rfl;refine tn ?_
   refine gI a9 s7 ok8 (gM q28 (gM q30 (gT (Ty.sl 1 1 [(Ty.lst Ty.int (byL ((curL r l k)) ((JN ((List.length (curL r l k))) ((l.getD k []))))))]) rfl (fun A B E G H d0=>rP (KW Try.underlying22 Try.inf26 rfl (Qg) (eI d0))) (gE2 ok8 fun a10 s8 ok9 D7=>?_))));have o8:=Own.k0 o7 D7.stp
   have q35:At (Ty.val x5_0) s8 a10 (.tmp 26):=D7.done 0 dE
   have q36:=D7.m 2 rfl
   have b3:=JS q36
   refine tL ok9 (YldM.toL (KC Try.underlying22 Try.inf26 dE rfl dE (al (R:=(Pr.own 5 26 1 (List.length (QQ r l k)) (List.map Ty.ints (QQ r l k)))) q35 o8) q36 (by intro U hU;simp at hU;subst hU;exact Qg) oM oM)) fun a11 s9 hs2 ok10 r2 sm2=>?_
   have q38:=kq hs2 sm2 5 (D7.k q28)
   obtain ⟨x2,hx2⟩:∃ x,a11.eval (.tmp 29) = x:=⟨_,rfl⟩
   have q41:At (Ty.val x2) s9 a11 (.tmp 29):=hx2
   have o9:=al2 (R:=(Pr.own 5 26 1 (List.length ((QQ r l k) ++ [(byL ((curL r l k)) ((JN ((List.length (curL r l k))) ((l.getD k [])))))])) (List.map Ty.ints ((QQ r l k) ++ [(byL ((curL r l k)) ((JN ((List.length (curL r l k))) ((l.getD k [])))))])))) hx2 (cvo (by simp) (by first | (rw [List.map_append];rfl) | simp) r2)
   clear r2
   refine tL ok10 (Yld.toL (y_as q41)) fun a12 s10 hs3 ok11 r3 sm3=>?_
   have q45:At (Ty.val x2) s10 a12 (.tmp 5):=r3
   clear r3;refine Jh (bn (tn ?_))
   refine gI a12 s10 ok11 (gM (kq hs3 sm3 6 (kq hs2 sm2 6 (D7.k (D6.k (D5.k q17))))) (gT (Ty.int (((k:Nat):Int) + (1:Int))) rfl (fun A B E G H d0=>rP (JF (eI d0) rfl wX)) (gB 0 (gE ok11 fun a13 s11 ok12 D8=>?_))));have o11:=Own.k0 (Own.kl o9 hs3) D8.stp
   exact tn ⟨l.length - ((k+1)),by omega,s11,(k+1),x2,rfl,((((((F6.step0 D5.stp).step0 D6.stp).step0 D7.stp).sl hs2).sl hs3).step0 D8.stp),ok12,(cJ (D8.m 2 rfl)),(cvt (by (rw [curL_succ r l k oM])) (D8.k (kq hs3 sm3 0 (kq hs2 sm2 0 (D7.k q30))))),(D8.k q45),(D8.k (kq hs3 sm3 1 (kq hs2 sm2 1 (D7.k (D6.k (D5.k q20)))))),(cvo (by (rw [fromTo_succ,curL_succ r l k oM])) (by (rw [fromTo_succ,curL_succ r l k oM])) o11),by omega,rfl⟩
  ·
   refine Jv (tx (tx (bx (tn (Ja ?_)))))
   refine gI a7 s5 ok6 (gM q19 (gB 0 (gE ok6 fun a14 s12 ok13 D9=>?_)));have o12:=Own.k0 o5 D9.stp
   have q50:At (Ty.val x5_0) s12 a14 (.tmp 4):=D9.done 1
   refine tn (Jj ?_)
   obtain ⟨t3,e1,h1,q51⟩:=Own.seal o12 dE
   rw [← e1]
   have F14:=(F6.step0 D9.stp).step h1 dE
   have q52:At (Ty.lst Ty.ints (QQ r l k)) t3 a14 (.tmp 4):=by have e:a14.eval (.tmp 4) = x5_0:=q50;show Ty.has _ _ _;rw [e];exact q51
   exact JJ rfl ok13 F14 (cvt (by (obtain rfl:k = l.length:=oM;rfl)) q52)
set_option maxHeartbeats 4000000 in
set_option maxRecDepth 100000 in
theorem rTouchRows_fn (nm:ByteArray) (n:Int) (l:List (List Int)) (cs:List JH) (leads:List Int) (σ:GW)  (v0 v1 v2:Value) (hv0:Ty.has (Ty.agg [(Ty.val (Value.string nm)),(Ty.int n),(Ty.lst Ty.ints l)]) σ v0) (hv1:Ty.has (Ty.lstc 2 KY cs) σ v1) (hv2:Ty.has (Ty.lst Ty.int leads) σ v2)  (h0:Kk nm n l cs leads = 0) :
    FnC J 10 #[v0,v1,v2] σ (Ty.lst Ty.ints (JA n.toNat l cs leads leads.length)):=by
 obtain ⟨hok,hnn,hlo,hlh,hin,hlim⟩:=touchMay_ok h0;have hl1:=hok.meth.l1;have hl2:=hok.meth.l2;have hn1:=hok.meth.n1;have hn2:=hok.meth.n2
 refine JT Try.func10 rfl Try.ntmps10 (Xr rfl) (fun s0 a0 hle F0 ok0 hargs=>?_)
 have p0:=pA hle (hargs 0 _ rfl) hv0
 have p1:=pA hle (hargs 1 _ rfl) hv1
 have b1:=JS p1
 have p2:=pA hle (hargs 2 _ rfl) hv2
 have b2:=JS p2
 clear hargs;refine Ja ?_
 refine gI a0 s0 ok0 (gS rfl (fun A B G H I=>rP (Qw (kp (I 0 rfl) G p0))) (gC (Ty.val (Value.slice none 0 0)) (gE ok0 fun a1 s1 ok1 D1=>?_)));have q3:=D1.m 0 rfl;refine tn (Ja ?_)
 refine gI a1 s1 ok1 (gS rfl (fun A B G H I=>rP (JD Try.fld24_1 Try.inf3 dE (kp (I 3 rfl) G q3) rfl)) (gS rfl (fun A B G H I d0=>rP (Jm Try.underlying3 rfl (eI d0) rfl)) (gS rfl (fun A B G H I d0=>rP (JP _ Try.func33 rfl rfl my1 (rRounds_fn ((n).toNat) _ _ (cvi (σ:=B) oM (ef d0 rfl)) oM))) (gR (Pr.own 5 26 1 1 (List.map Ty.ints [(JL ((n).toNat))])) rfl (by intro A B G H I d0;exact rP ((y_lit1 (k:=5) Try.underlying22 Try.inf26 rfl (Qg) (eI d0)).mono (fun _ _ h=>cvo (by simp) (by first | (simp;done) | rfl) h))) (gE2 ok1 fun a2 s2 ok2 D2=>?_)))))
 obtain ⟨x1,hx1⟩:∃ x,a2.eval (.tmp 13) = x:=⟨_,rfl⟩
 have q7:At (Ty.val x1) s2 a2 (.tmp 13):=hx1
 have o1:=al2 (R:=(Pr.own 5 26 1 1 (List.map Ty.ints [(JL ((n).toNat))]))) hx1 (D2.done 3 dE)
 refine tL ok2 (Yld.toL (y_as q7)) fun a3 s3 hs1 ok3 r1 sm1=>?_
 have q11:At (Ty.val x1) s3 a3 (.tmp 7):=r1
 clear r1;refine Jh (tn (Ja (Ja ?_)))
 refine gI a3 s3 ok3 (gC (Ty.int (0:Int)) (gE ok3 fun a4 s4 ok4 D3=>?_));have o3:=Own.k0 (Own.kl o1 hs1) D3.stp;refine tn (Je ?_)
 refine Kf (fun n1 a5 w1=>∃ (t1:GW) (k:Nat) (x7_0:Value),t1.w = w1∧FromL [] s0 t1∧Ok 41 [] a5∧At (Ty.nat k) t1 a5 (.tmp 8)∧At (Ty.val x7_0) t1 a5 (.tmp 7)∧At (Ty.lstc 2 KY cs) t1 a5 (.tmp 1)∧At (Ty.lst Ty.int leads) t1 a5 (.tmp 2)∧At (Ty.ref [(Ty.val (Value.string nm)),(Ty.int n),(Ty.lst Ty.ints l)]) t1 a5 (.tmp 3)∧Own t1 5 26 1 x7_0 (List.length (JA n.toNat l cs leads k)) (List.map Ty.ints (JA n.toNat l cs leads k))∧(k ≤ leads.length)∧n1 = leads.length - k) (leads.length - (0)) ?_ ?_
 ·
  exact ⟨s4,0,x1,rfl,((((F0.step0 D1.stp).step0 D2.stp).sl hs1).step0 D3.stp),ok4,(cJ (D3.m 0 rfl)),(D3.k q11),(D3.k (kq hs1 sm1 1 (D2.k (D1.k p1)))),(D3.k (kq hs1 sm1 2 (D2.k (D1.k p2)))),(D3.k (kq hs1 sm1 3 (D2.k q3))),(cvo (by (rfl)) (by (rfl)) o3),by omega,rfl⟩
 ·
  rintro n2 a6 w2 ⟨t2,k,x7_0,rfl,F5,ok5,q17,q18,q19,q20,q21,o4,hk,rfl⟩
  have htl:=QB hok hin k hk
  refine Ja (Ja ?_)
  refine gI a6 t2 ok5 (gM q17 (gM q20 (gS rfl (fun A B G H I d0=>rP (Jt Try.underlying26 (eI d0))) (gS rfl (fun A B G H I d0 d1=>rP (Jw (eI d0) (eI d1))) (gE ok5 fun a7 s5 ok6 D4=>?_)))));have F6:=F5.step0 D4.stp;have q22:=D4.k q17;have q23:=D4.k q18;have q24:=D4.k q19;have q25:=D4.k q20;have q26:=D4.k q21;have o5:=Own.k0 o4 D4.stp;refine tn ?_
  refine Jl (p:=(((k:Nat):Int) < (((List.length leads):Nat):Int))) (D4.m 3 rfl) (fun c1=>?_) (fun c1=>?_)
  ·
   have hkl:k < leads.length:=oM;obtain ⟨hk0,hkc⟩:=hin k hkl;obtain ⟨E,hE⟩:∃ E,E = leadE l cs leads k:=⟨_,rfl⟩;have hsh:=hok.short (leads.getD k 0).toNat oM;obtain ⟨hHr,hHl⟩:=tHd_row hok hin k oM;have hR:((JA n.toNat l cs leads k).getD ((((((JA n.toNat l cs leads k).length:Nat):Int) - (1:Int))).toNat) []) = tHd n.toNat l cs leads k:=(by rw [htl,show ((((k * l.length + 1:Nat):Int) - (1:Int))).toNat = k * l.length by omega];exact tRows_last hok hin k oM);have hRl:((JA n.toNat l cs leads k).getD ((((((JA n.toNat l cs leads k).length:Nat):Int) - (1:Int))).toNat) []).length = n.toNat:=(by rw [hR,hHl]);have hokE:∀ j,j < E.length → okL 0 (E.getD j []) ((JA n.toNat l cs leads k).getD ((((((JA n.toNat l cs leads k).length:Nat):Int) - (1:Int))).toNat) []).length:=(by rw [hRl,hE];exact leadE_ok hok hin hkl);have hEl:E.length = l.length:=(by rw [hE];exact QC hok hin hkl);have hfl:=fromL_len (tHd n.toNat l cs leads k) E;have hfd:((fromL (tHd n.toNat l cs leads k) E).drop 1).length = E.length:=(by rw [List.length_drop,hfl];omega);have hkm:k * l.length ≤ 400 * 200:=Nat.mul_le_mul oM hl2
   refine Jf (tn (Ja (Je (Ja ?_))))
   refine gI a7 s5 ok6 (gM q23 (gM q23 (gT (Ty.nat (List.length (JA n.toNat l cs leads k))) rfl (fun A B G H I d0=>rP (own_len Try.underlying22 (al (R:=(Pr.own 5 26 1 (List.length (JA n.toNat l cs leads k)) (List.map Ty.ints (JA n.toNat l cs leads k)))) (eI d0) (Own.k0 o5 G)))) (gT (Ty.int ((((List.length (JA n.toNat l cs leads k)):Nat):Int) - (1:Int))) rfl (fun A B G H I d0=>rP (Xg (eI d0) rfl wX)) (gT (Ty.val (JU x7_0 (((((List.length (JA n.toNat l cs leads k)):Nat):Int) - (1:Int))).toNat)) rfl (fun A B G H I d0 d1=>rP (Kn (i:=((((List.length (JA n.toNat l cs leads k)):Nat):Int) - (1:Int))) Try.underlying22 Try.inf26 (Own.k0 o5 G) (eI d0) (eI d1) oM oM)) (gS rfl (fun A B G H I d0=>rP (QT Try.underlying26 rfl (Own.k0 o5 G) (eI d0) (Ju Ty.ints (JA n.toNat l cs leads k) [] (((((List.length (JA n.toNat l cs leads k)):Nat):Int) - (1:Int))).toNat oM))) (gS rfl (fun A B G H I=>rP (KV Try.underlying24 Try.inf24 (kp (I 3 rfl) G q26))) (gM q24 (gM q25 (gM q22 (gT (Ty.ref [(Ty.int (leads.getD k 0))]) rfl (fun A B G H I d0 d1=>rP (Jy Try.underlying26 Try.inf3 (eI d0) (eI d1) oM (Ju Ty.int leads 0 k oM))) (gS rfl (fun A B G H I d0=>rP (Jm Try.underlying3 rfl (eI d0) rfl)) (gT (Ty.ref [(Ty.val (Value.int .i32 ((cs.getD ((leads.getD k 0)).toNat D0)).1)),(Ty.lst Ty.ints ((cs.getD ((leads.getD k 0)).toNat D0)).2)]) rfl (fun A B G H I d0 d1=>rP (Qa (i:=(leads.getD k 0)) D0 Try.underlying25 Try.inf51 (eI d0) (eI d1) oM oM dE (fun _=>rfl))) ?_)))))))))))))
   refine gS rfl (fun A B G H I d0=>rP (KV Try.underlying51 Try.inf51 (eI d0))) (gT (Ty.lst Ty.ints E) rfl (fun A B G H I d0 d1=>rP ((JP _ Try.func35 rfl rfl my2 (rEnds_fn (nm) (n) (l) (((cs.getD ((leads.getD k 0)).toNat D0)).1) (((cs.getD ((leads.getD k 0)).toNat D0)).2) _ _ _ (eI d0) (eI d1) oX oX)).mono (fun τ _ h=>cvt (σ:=τ) (T:=(Ty.lst Ty.ints (endsL l ((((cs.getD ((leads.getD k 0)).toNat D0)).1),(((cs.getD ((leads.getD k 0)).toNat D0)).2))))) (U:=(Ty.lst Ty.ints E)) (by rw [hE];rfl) h))) (gT (Ty.lst Ty.ints (fromL (tHd n.toNat l cs leads k) E)) rfl (fun A B G H I d0 d1 d2=>rP ((JP _ Try.func34 rfl rfl my2 (rFrom_fn (((JA n.toNat l cs leads k).getD (((((List.length (JA n.toNat l cs leads k)):Nat):Int) - (1:Int))).toNat [])) (E) _ _ _ (eI d0) (eI d1) oX oX oX)).mono (fun τ _ h=>cvt (σ:=τ) (T:=(Ty.lst Ty.ints (fromL (((JA n.toNat l cs leads k).getD (((((List.length (JA n.toNat l cs leads k)):Nat):Int) - (1:Int))).toNat [])) (E)))) (U:=(Ty.lst Ty.ints (fromL (tHd n.toNat l cs leads k) E))) (by rw [hR]) h))) (gB 0 (gE ok6 fun a8 s6 ok7 D5=>?_))));have q29:=D5.k q23;have o6:=Own.k0 o5 D5.stp;refine tn ?_
   refine gI a8 s6 ok7 (gM q29 (gM (D5.m 16 rfl) (gT (Ty.lst Ty.ints ((fromL (tHd n.toNat l cs leads k) E).drop 1)) rfl (fun A B G H I d0=>rP (y_drop Try.underlying22 Try.inf26 (eI d0) (toN (σ:=B) rfl oM) oM)) (gE2 ok7 fun a9 s7 ok8 D6=>?_))));have o7:=Own.k0 o6 D6.stp
   have q39:At (Ty.val x7_0) s7 a9 (.tmp 36):=D6.done 0 dE
   have q40:=D6.m 2 rfl
   have b3:=JS q40
   refine tL ok8 (YldM.toL (KC Try.underlying22 Try.inf26 dE rfl dE (al (R:=(Pr.own 5 26 1 (List.length (JA n.toNat l cs leads k)) (List.map Ty.ints (JA n.toNat l cs leads k)))) q39 o7) q40 (one_map (fun _=>Qg)) oM oM)) fun a10 s8 hs2 ok9 r2 sm2=>?_
   have q42:=kq hs2 sm2 7 (D6.k q29)
   obtain ⟨x2,hx2⟩:∃ x,a10.eval (.tmp 39) = x:=⟨_,rfl⟩
   have q46:At (Ty.val x2) s8 a10 (.tmp 39):=hx2
   have o8:=al2 (R:=(Pr.own 5 26 1 (List.length ((JA n.toNat l cs leads k) ++ ((fromL (tHd n.toNat l cs leads k) E).drop 1))) (List.map Ty.ints ((JA n.toNat l cs leads k) ++ ((fromL (tHd n.toNat l cs leads k) E).drop 1))))) hx2 (cvo (by simp) (by first | (rw [List.map_append];rfl) | simp) r2)
   clear r2
   refine tL ok9 (Yld.toL (y_as q46)) fun a11 s9 hs3 ok10 r3 sm3=>?_
   have q51:At (Ty.val x2) s9 a11 (.tmp 7):=r3
   clear r3;refine Jh (bn (tn ?_))
   refine gI a11 s9 ok10 (gM (kq hs3 sm3 8 (kq hs2 sm2 8 (D6.k (D5.k q22)))) (gT (Ty.nat (k + 1)) rfl (fun A B G H I d0=>rP ((JF (eI d0) rfl wX).mono (fun τ _ h=>cN (σ:=τ) h))) (gB 0 (gE ok10 fun a12 s10 ok11 D7=>?_))));have o10:=Own.k0 (Own.kl o8 hs3) D7.stp
   exact tn ⟨leads.length - ((k+1)),by omega,s10,(k+1),x2,rfl,(((((F6.step0 D5.stp).step0 D6.stp).sl hs2).sl hs3).step0 D7.stp),ok11,(cJ (D7.m 2 rfl)),(D7.k q51),(D7.k (kq hs3 sm3 1 (kq hs2 sm2 1 (D6.k (D5.k q24))))),(D7.k (kq hs3 sm3 2 (kq hs2 sm2 2 (D6.k (D5.k q25))))),(D7.k (kq hs3 sm3 3 (kq hs2 sm2 3 (D6.k (D5.k q26))))),(cvo (by (rw [JA,← hE])) (by (rw [JA,← hE])) o10),by omega,rfl⟩
  ·
   refine Jv (tx (tx (bx (tn (Ja ?_)))))
   refine gI a7 s5 ok6 (gM q23 (gB 0 (gE ok6 fun a13 s11 ok12 D8=>?_)));have o11:=Own.k0 o5 D8.stp
   have q57:At (Ty.val x7_0) s11 a13 (.tmp 6):=D8.done 1
   refine tn (Jj ?_)
   obtain ⟨t3,e1,h1,q58⟩:=Own.seal o11 dE
   rw [← e1]
   have F13:=(F6.step0 D8.stp).step h1 dE
   have q59:At (Ty.lst Ty.ints (JA n.toNat l cs leads k)) t3 a13 (.tmp 6):=by have e:a13.eval (.tmp 6) = x7_0:=q57;show Ty.has _ _ _;rw [e];exact q58
   exact JJ rfl ok12 F13 (cvt (by (rw [show k = leads.length by omega])) q59)
set_option maxRecDepth 100000 in
theorem rsame_fn (xs:List Int) (ys:List Int) (σ:GW) (v0 v1:Value) (hv0:Ty.has (Ty.lst Ty.int xs) σ v0) (hv1:Ty.has (Ty.lst Ty.int ys) σ v1)  :
    FnC J 13 #[v0,v1] σ (Ty.bool (decide (xs = ys))):=by
 refine KQ Try.func13 rfl Try.ntmps13 (Xr rfl) (fun s0 a0 hle F0 ok0 hargs=>?_)
 have p0:=pA hle (hargs 0 _ rfl) hv0
 have b1:=JS p0
 have p1:=pA hle (hargs 1 _ rfl) hv1
 have b2:=JS p1
 clear hargs;refine Ja ?_
 refine gI a0 s0 ok0 (gC (Ty.bool false) (gE ok0 fun a1 s1 ok1 D1=>?_));have q1:=D1.k p0;have q2:=D1.k p1;refine tn (Ja (Ja ?_))
 refine gI a1 s1 ok1 (gM q1 (gS rfl (fun A B E G H d0=>rP (Jt Try.underlying26 (eI d0))) (gM q2 (gS rfl (fun A B E G H d0=>rP (Jt Try.underlying26 (eI d0))) (gS rfl (fun A B E G H d0 d1=>rP (Qq (eI d0) (eI d1))) (gE ok1 fun a2 s2 ok2 D2=>?_))))));have F2:=(F0.step0 D1.stp).step0 D2.stp;refine tn ?_
 refine Jl (p:=((((List.length xs):Nat):Int) ≠ (((List.length ys):Nat):Int))) (D2.m 4 rfl) (fun c1=>?_) (fun c1=>?_)
 ·
  refine Ja ?_
  refine gI a2 s2 ok2 (gC (Ty.bool false) (gE ok2 fun a3 s3 ok3 D3=>?_));refine tn (Jj (tr ?_))
  exact QS rfl ok3 (F2.step0 D3.stp) (cvb (by (rw [decide_eq_false];intro e;subst e;omega)) (D3.m 0 rfl))
 ·
  refine Jf (tn (Ja (Ja ?_)))
  refine gI a2 s2 ok2 (gC (Ty.int (0:Int)) (gE ok2 fun a4 s4 ok4 D4=>?_));refine tn (Je ?_)
  refine Kf (fun n1 a5 w1=>∃ (t1:GW) (k:Nat),t1.w = w1∧From s0 t1∧Ok 26 [] a5∧At (Ty.nat k) t1 a5 (.tmp 5)∧At (Ty.lst Ty.int xs) t1 a5 (.tmp 0)∧At (Ty.lst Ty.int ys) t1 a5 (.tmp 1)∧(k ≤ xs.length)∧(xs.length = ys.length)∧(∀ j,j < k → xs.getD j 0 = ys.getD j 0)∧n1 = xs.length - k) (xs.length - (0)) ?_ ?_
  ·
   exact ⟨s4,0,rfl,(F2.step0 D4.stp),ok4,(cJ (D4.m 0 rfl)),(D4.k (D2.k q1)),(D4.k (D2.k q2)),by omega,by omega,fun j hj=>absurd hj (Nat.not_lt_zero j),rfl⟩
  ·
   rintro n2 a6 w2 ⟨t2,k,rfl,F5,ok5,q10,q11,q12,hk,hl,heq,rfl⟩
   refine Ja (Ja ?_)
   refine gI a6 t2 ok5 (gM q10 (gM q11 (gS rfl (fun A B E G H d0=>rP (Jt Try.underlying26 (eI d0))) (gS rfl (fun A B E G H d0 d1=>rP (Jw (eI d0) (eI d1))) (gE ok5 fun a7 s5 ok6 D5=>?_)))));have F6:=F5.step0 D5.stp;have q13:=D5.k q10;have q14:=D5.k q11;have q15:=D5.k q12;refine tn ?_
   refine Jl (p:=(((k:Nat):Int) < (((List.length xs):Nat):Int))) (D5.m 3 rfl) (fun c2=>?_) (fun c2=>?_)
   ·
    refine Jf (tn (Ja (Je (Ja ?_))))
    refine gI a7 s5 ok6 (gM q14 (gM q13 (gT (Ty.ref [(Ty.int (xs.getD k 0))]) rfl (fun A B E G H d0 d1=>rP (Jy Try.underlying26 Try.inf3 (eI d0) (eI d1) oM (Ju Ty.int xs 0 k oM))) (gS rfl (fun A B E G H d0=>rP (Jm Try.underlying3 rfl (eI d0) rfl)) (gM q15 (gM q13 (gT (Ty.ref [(Ty.int (ys.getD k 0))]) rfl (fun A B E G H d0 d1=>rP (Jy Try.underlying26 Try.inf3 (eI d0) (eI d1) oM (Ju Ty.int ys 0 k oM))) (gS rfl (fun A B E G H d0=>rP (Jm Try.underlying3 rfl (eI d0) rfl)) (gS rfl (fun A B E G H d0 d1=>rP (Qq (eI d0) (eI d1))) (gE ok6 fun a8 s6 ok7 D6=>?_))))))))));have F7:=F6.step0 D6.stp;refine tn ?_
    refine Jl (p:=((xs.getD k 0) ≠ (ys.getD k 0))) (D6.m 8 rfl) (fun c3=>?_) (fun c3=>?_)
    ·
     refine Ja ?_
     refine gI a8 s6 ok7 (gC (Ty.bool false) (gE ok7 fun a9 s7 ok8 D7=>?_));refine tn (Jj (br (tr (tr (br (tr ?_))))))
     exact QS rfl ok8 (F7.step0 D7.stp) (cvb (by (exact (decide_eq_false (fun e=>by subst e;simp_all)).symm)) (D7.m 0 rfl))
    ·
     refine Jf (bn (tn ?_))
     refine gI a8 s6 ok7 (gM (D6.k q13) (gT (Ty.int (((k:Nat):Int) + (1:Int))) rfl (fun A B E G H d0=>rP (JF (eI d0) rfl wX)) (gB 0 (gE ok7 fun a10 s8 ok9 D8=>?_))))
     exact tn ⟨xs.length - ((k+1)),by omega,s8,(k+1),rfl,(F7.step0 D8.stp),ok9,(cJ (D8.m 2 rfl)),(D8.k (D6.k q14)),(D8.k (D6.k q15)),by omega,by omega,all_snoc heq (by assumption),rfl⟩
   ·
    refine Jv (tx (tx (bx (tn (Ja ?_)))))
    refine gI a7 s5 ok6 (gC (Ty.bool true) (gE ok6 fun a11 s9 ok10 D9=>?_));refine tn (Jj ?_)
    exact QS rfl ok10 (F6.step0 D9.stp) (cvb (by (exact (decide_eq_true (list_ext oM (fun j hj=>heq j oM))).symm)) (D9.m 0 rfl))
set_option maxHeartbeats 4000000 in
set_option maxRecDepth 100000 in
theorem rSameAll_fn (a:List (List Int)) (b:List (List Int)) (σ:GW)  (v0 v1:Value) (hv0:Ty.has (Ty.lst Ty.ints a) σ v0) (hv1:Ty.has (Ty.lst Ty.ints b) σ v1)   :
    FnC J 11 #[v0,v1] σ (Ty.bool (decide (a = b))):=by
 refine JT Try.func11 rfl Try.ntmps11 (Xr rfl) (fun s0 a0 hle F0 ok0 hargs=>?_)
 have p0:=pA hle (hargs 0 _ rfl) hv0
 have b1:=JS p0
 have p1:=pA hle (hargs 1 _ rfl) hv1
 have b2:=JS p1
 clear hargs;refine Ja ?_
 refine gI a0 s0 ok0 (gC (Ty.bool false) (gE ok0 fun a1 s1 ok1 D1=>?_));have q1:=D1.k p0;have q2:=D1.k p1;refine tn (Ja (Ja ?_))
 refine gI a1 s1 ok1 (gM q1 (gS rfl (fun A B E G H d0=>rP (Jt Try.underlying22 (eI d0))) (gM q2 (gS rfl (fun A B E G H d0=>rP (Jt Try.underlying22 (eI d0))) (gS rfl (fun A B E G H d0 d1=>rP (Qq (eI d0) (eI d1))) (gE ok1 fun a2 s2 ok2 D2=>?_))))));have F2:=(F0.step0 D1.stp).step0 D2.stp;refine tn ?_
 refine Jl (p:=((((List.length a):Nat):Int) ≠ (((List.length b):Nat):Int))) (D2.m 4 rfl) (fun c1=>?_) (fun c1=>?_)
 ·
  refine Ja ?_
  refine gI a2 s2 ok2 (gC (Ty.bool false) (gE ok2 fun a3 s3 ok3 D3=>?_));refine tn (Jj (tr ?_))
  exact JJ rfl ok3 (F2.step0 D3.stp) (cvb (by (rw [decide_eq_false];intro e;subst e;omega)) (D3.m 0 rfl))
 ·
  refine Jf (tn (Ja (Ja ?_)))
  refine gI a2 s2 ok2 (gC (Ty.int (0:Int)) (gE ok2 fun a4 s4 ok4 D4=>?_));refine tn (Je ?_)
  refine Kf (fun n1 a5 w1=>∃ (t1:GW) (k:Nat),t1.w = w1∧FromL [] s0 t1∧Ok 29 [] a5∧At (Ty.nat k) t1 a5 (.tmp 5)∧At (Ty.lst Ty.ints a) t1 a5 (.tmp 0)∧At (Ty.lst Ty.ints b) t1 a5 (.tmp 1)∧(k ≤ a.length)∧(a.length = b.length)∧(∀ j,j < k → a.getD j [] = b.getD j [])∧n1 = a.length - k) (a.length - (0)) ?_ ?_
  ·
   exact ⟨s4,0,rfl,(F2.step0 D4.stp),ok4,(cJ (D4.m 0 rfl)),(D4.k (D2.k q1)),(D4.k (D2.k q2)),by omega,by omega,fun j hj=>absurd hj (Nat.not_lt_zero j),rfl⟩
  ·
   rintro n2 a6 w2 ⟨t2,k,rfl,F5,ok5,q10,q11,q12,hk,hl,heq,rfl⟩
   refine Ja (Ja ?_)
   refine gI a6 t2 ok5 (gM q10 (gM q11 (gS rfl (fun A B E G H d0=>rP (Jt Try.underlying22 (eI d0))) (gS rfl (fun A B E G H d0 d1=>rP (Jw (eI d0) (eI d1))) (gE ok5 fun a7 s5 ok6 D5=>?_)))));have F6:=F5.step0 D5.stp;have q13:=D5.k q10;have q14:=D5.k q11;have q15:=D5.k q12;refine tn ?_
   refine Jl (p:=(((k:Nat):Int) < (((List.length a):Nat):Int))) (D5.m 3 rfl) (fun c2=>?_) (fun c2=>?_)
   ·
    refine Jf (tn (Ja (Je (Ja ?_))))
    refine gI a7 s5 ok6 (gM q14 (gM q13 (gT (Ty.ref [(Ty.lst Ty.int (a.getD k []))]) rfl (fun A B E G H d0 d1=>rP (Jy Try.underlying22 Try.inf26 (eI d0) (eI d1) oM (Ju Ty.ints a [] k oM))) (gS rfl (fun A B E G H d0=>rP (Jm Try.underlying26 rfl (eI d0) rfl)) (gM q15 (gM q13 (gT (Ty.ref [(Ty.lst Ty.int (b.getD k []))]) rfl (fun A B E G H d0 d1=>rP (Jy Try.underlying22 Try.inf26 (eI d0) (eI d1) oM (Ju Ty.ints b [] k oM))) (gS rfl (fun A B E G H d0=>rP (Jm Try.underlying26 rfl (eI d0) rfl)) (gS rfl (fun A B E G H d0 d1=>rP (JP _ Try.func13 rfl rfl my2 (rsame_fn ((a.getD k [])) ((b.getD k [])) _ _ _ (eI d0) (eI d1) ))) (gB 0 (gE ok6 fun a8 s6 ok7 D6=>?_)))))))))));refine tn (Ja ?_)
    refine gI a8 s6 ok7 (gM (D6.m 9 rfl) (gS rfl (fun A B E G H d0=>rP (y_not (eI d0))) (gE ok7 fun a9 s7 ok8 D7=>?_)));have F8:=(F6.step0 D6.stp).step0 D7.stp;refine tn ?_
    refine JR (D7.m 1 rfl) (fun c3=>?_) (fun c3=>?_)
    ·
     refine Ja ?_
     refine gI a9 s7 ok8 (gC (Ty.bool false) (gE ok8 fun a10 s8 ok9 D8=>?_));refine tn (Jj (br (tr (tr (br (tr ?_))))))
     exact JJ rfl ok9 (F8.step0 D8.stp) (cvb (by (exact (decide_eq_false (fun e=>by subst e;simp at c3)).symm)) (D8.m 0 rfl))
    ·
     refine Jf (bn (tn ?_))
     refine gI a9 s7 ok8 (gM (D7.k (D6.k q13)) (gT (Ty.int (((k:Nat):Int) + (1:Int))) rfl (fun A B E G H d0=>rP (JF (eI d0) rfl wX)) (gB 0 (gE ok8 fun a11 s9 ok10 D9=>?_))))
     exact tn ⟨a.length - ((k+1)),by omega,s9,(k+1),rfl,(F8.step0 D9.stp),ok10,(cJ (D9.m 2 rfl)),(D9.k (D7.k (D6.k q14))),(D9.k (D7.k (D6.k q15))),by omega,by omega,all_snocs heq (by simpa using c3),rfl⟩
   ·
    refine Jv (tx (tx (bx (tn (Ja ?_)))))
    refine gI a7 s5 ok6 (gC (Ty.bool true) (gE ok6 fun a12 s10 ok11 D10=>?_));refine tn (Jj ?_)
    exact JJ rfl ok11 (F6.step0 D10.stp) (cvb (by (exact (decide_eq_true (lists_ext oM (fun j hj=>heq j oM))).symm)) (D10.m 0 rfl))
set_option maxRecDepth 100000 in
theorem bsame_fn (xs:List Int) (ys:List Int) (σ:GW) (v0 v1:Value) (hv0:Ty.has (Ty.lst Ty.int xs) σ v0) (hv1:Ty.has (Ty.lst Ty.int ys) σ v1)  :
    FnC J 36 #[v0,v1] σ (Ty.bool (decide (xs = ys))):=by
 refine KQ Try.func36 rfl Try.ntmps36 (Xr rfl) (fun s0 a0 hle F0 ok0 hargs=>?_)
 have p0:=pA hle (hargs 0 _ rfl) hv0
 have b1:=JS p0
 have p1:=pA hle (hargs 1 _ rfl) hv1
 have b2:=JS p1
 clear hargs;refine Ja ?_
 refine gI a0 s0 ok0 (gC (Ty.bool false) (gE ok0 fun a1 s1 ok1 D1=>?_));have q1:=D1.k p0;have q2:=D1.k p1;refine tn (Ja (Ja ?_))
 refine gI a1 s1 ok1 (gM q1 (gS rfl (fun A B E G H d0=>rP (Jt Try.underlying26 (eI d0))) (gM q2 (gS rfl (fun A B E G H d0=>rP (Jt Try.underlying26 (eI d0))) (gS rfl (fun A B E G H d0 d1=>rP (Qq (eI d0) (eI d1))) (gE ok1 fun a2 s2 ok2 D2=>?_))))));have F2:=(F0.step0 D1.stp).step0 D2.stp;have q3:=D2.k q1;refine tn ?_
 refine Jl (p:=((((List.length xs):Nat):Int) ≠ (((List.length ys):Nat):Int))) (D2.m 4 rfl) (fun c1=>?_) (fun c1=>?_)
 ·
  refine Ja ?_
  refine gI a2 s2 ok2 (gC (Ty.bool false) (gE ok2 fun a3 s3 ok3 D3=>?_));refine tn (Jj (tr ?_))
  exact QS rfl ok3 (F2.step0 D3.stp) (cvb (by (rw [decide_eq_false];intro e;subst e;omega)) (D3.m 0 rfl))
 ·
  refine Jf (tn (Ja (Ja ?_)))
  refine gI a2 s2 ok2 (gM q3 (gS rfl (fun A B E G H d0=>rP (Jt Try.underlying26 (eI d0))) (gT (Ty.int (0:Int)) rfl (fun A B E G H=>rP (Jc rfl)) (gE ok2 fun a4 s4 ok4 D4=>?_))));refine tn (Je ?_)
  refine Kf (fun n1 a5 w1=>∃ (t1:GW) (k:Nat),t1.w = w1∧From s0 t1∧Ok 26 [] a5∧At (Ty.nat k) t1 a5 (.tmp 13)∧At (Ty.lst Ty.int xs) t1 a5 (.tmp 0)∧At (Ty.lst Ty.int ys) t1 a5 (.tmp 1)∧At (Ty.nat (List.length xs)) t1 a5 (.tmp 12)∧(k ≤ xs.length)∧(xs.length = ys.length)∧(∀ j,j < k → xs.getD j 0 = ys.getD j 0)∧n1 = xs.length - k) (xs.length - (0)) ?_ ?_
  ·
   exact ⟨s4,0,rfl,(F2.step0 D4.stp),ok4,(cJ (D4.m 2 rfl)),(D4.k q3),(D4.k (D2.k q2)),(D4.m 1 rfl),by omega,by omega,fun j hj=>absurd hj (Nat.not_lt_zero j),rfl⟩
  ·
   rintro n2 a6 w2 ⟨t2,k,rfl,F5,ok5,q11,q12,q13,q14,hk,hl,heq,rfl⟩
   refine Ja ?_
   refine gI a6 t2 ok5 (gS rfl (fun A B E G H=>rP (Jw (kp (H 13 rfl) E q11) (kp (H 12 rfl) E q14))) (gE ok5 fun a7 s5 ok6 D5=>?_));have F6:=F5.step0 D5.stp;have q15:=D5.k q11;refine tn (Ja ?_)
   refine Jl (p:=(((k:Nat):Int) < (((List.length xs):Nat):Int))) (D5.m 0 rfl) (fun c2=>?_) (fun c2=>?_)
   ·
    refine Jf (tn (Ja (Je (Ja ?_))))
    refine gI a7 s5 ok6 (gM q15 (gB 0 (gE ok6 fun a8 s6 ok7 D6=>?_)));have q21:=D6.k (D5.k q12);have q22:=D6.k (D5.k q13);have q24:=D6.m 1 rfl;refine tn (Ja ?_)
    refine gI a8 s6 ok7 (gM q21 (gM q24 (gT (Ty.ref [(Ty.int (xs.getD k 0))]) rfl (fun A B E G H d0 d1=>rP (Jy Try.underlying26 Try.inf3 (eI d0) (eI d1) oM (Ju Ty.int xs 0 k oM))) (gS rfl (fun A B E G H d0=>rP (Jm Try.underlying3 rfl (eI d0) rfl)) (gM q22 (gM q24 (gT (Ty.ref [(Ty.int (ys.getD k 0))]) rfl (fun A B E G H d0 d1=>rP (Jy Try.underlying26 Try.inf3 (eI d0) (eI d1) oM (Ju Ty.int ys 0 k oM))) (gS rfl (fun A B E G H d0=>rP (Jm Try.underlying3 rfl (eI d0) rfl)) (gS rfl (fun A B E G H d0 d1=>rP (Qq (eI d0) (eI d1))) (gE ok7 fun a9 s7 ok8 D7=>?_))))))))));have F8:=(F6.step0 D6.stp).step0 D7.stp;refine tn ?_
    refine Jl (p:=((xs.getD k 0) ≠ (ys.getD k 0))) (D7.m 8 rfl) (fun c3=>?_) (fun c3=>?_)
    ·
     refine Ja ?_
     refine gI a9 s7 ok8 (gC (Ty.bool false) (gE ok8 fun a10 s8 ok9 D8=>?_));refine tn (Jj (br (tr (tr (br (tr ?_))))))
     exact QS rfl ok9 (F8.step0 D8.stp) (cvb (by (exact (decide_eq_false (fun e=>by subst e;simp_all)).symm)) (D8.m 0 rfl))
    ·
     refine Jf (bn (tn ?_))
     refine gI a9 s7 ok8 (gT (Ty.int (((k:Nat):Int) + (1:Int))) rfl (fun A B E G H=>rP (JF (kp (H 13 rfl) E (D7.k (D6.k q15))) rfl wX)) (gS rfl (fun A B E G H d0=>rP (Jc (eI d0))) (gE ok8 fun a11 s9 ok10 D9=>?_)))
     exact tn ⟨xs.length - ((k+1)),by omega,s9,(k+1),rfl,(F8.step0 D9.stp),ok10,(cJ (D9.m 1 rfl)),(D9.k (D7.k q21)),(D9.k (D7.k q22)),(D9.k (D7.k (D6.k (D5.k q14)))),by omega,by omega,all_snoc heq (by assumption),rfl⟩
   ·
    refine Jv (tx (tx (bx (tn (Ja ?_)))))
    refine gI a7 s5 ok6 (gC (Ty.bool true) (gE ok6 fun a12 s10 ok11 D10=>?_));refine tn (Jj ?_)
    exact QS rfl ok11 (F6.step0 D10.stp) (cvb (by (exact (decide_eq_true (list_ext oM (fun j hj=>heq j oM))).symm)) (D10.m 0 rfl))
set_option maxRecDepth 100000 in
theorem bwrong_fn (a:List (List Int)) (b:List (List Int)) (σ:GW) (v0 v1:Value) (hv0:Ty.has (Ty.lst Ty.ints a) σ v0) (hv1:Ty.has (Ty.lst Ty.ints b) σ v1) (ha:a.length ≤ 17592186044416) :
    FnC J 14 #[v0,v1] σ (Ty.lst Ty.int (Ji a b a.length)):=by
 refine KQ Try.func14 rfl Try.ntmps14 (Xr rfl) (fun s0 a0 hle F0 ok0 hargs=>?_)
 have p0:=pA hle (hargs 0 _ rfl) hv0
 have b1:=JS p0
 have p1:=pA hle (hargs 1 _ rfl) hv1
 have b2:=JS p1
 clear hargs;refine Ja ?_
 refine gI a0 s0 ok0 (gC (Ty.val (Value.slice none 0 0)) (gE ok0 fun a1 s1 ok1 D1=>?_));refine tn (Ja ?_)
 refine gI a1 s1 ok1 (gC (Ty.val (Value.slice none 0 0)) (gE ok1 fun a2 s2 ok2 D2=>?_));have q3:=D2.k (D1.k p0);refine tn (Ja (Ja ?_))
 refine gI a2 s2 ok2 (gM q3 (gS rfl (fun A B E G H d0=>rP (Jt Try.underlying22 (eI d0))) (gT (Ty.int (0:Int)) rfl (fun A B E G H=>rP (Jc rfl)) (gE ok2 fun a3 s3 ok3 D3=>?_))));refine tn (Je ?_)
 refine Kf (fun n1 a4 w1=>∃ (t1:GW) (k:Nat),t1.w = w1∧From s0 t1∧Ok 34 [] a4∧(Pr.own 2 3 1 (List.length (Ji a b k)) (List.map Ty.int (Ji a b k))).has t1 (a4.eval (.tmp 5))∧At (Ty.nat k) t1 a4 (.tmp 9)∧At (Ty.lst Ty.ints a) t1 a4 (.tmp 0)∧At (Ty.lst Ty.ints b) t1 a4 (.tmp 1)∧At (Ty.nat (List.length a)) t1 a4 (.tmp 8)∧(k ≤ a.length)∧n1 = a.length - k) (a.length - (0)) ?_ ?_
 ·
  exact ⟨s3,0,rfl,(((F0.step0 D1.stp).step0 D2.stp).step0 D3.stp),ok3,(by have e:a3.eval (.tmp 5) = _:=(D3.k (D2.m 0 rfl));rw [e];exact Own.nil _ _ _ _),(cJ (D3.m 2 rfl)),(D3.k q3),(D3.k (D2.k (D1.k p1))),(D3.m 1 rfl),by omega,rfl⟩
 ·
  rintro n2 a5 w2 ⟨t2,k,rfl,F4,ok4,q11,q12,q13,q14,q15,hk,rfl⟩
  have hw:=wrongTo_le a b k
  refine Ja ?_
  refine gI a5 t2 ok4 (gS rfl (fun A B E G H=>rP (Jw (kp (H 9 rfl) E q12) (kp (H 8 rfl) E q15))) (gE ok4 fun a6 s4 ok5 D4=>?_));have F5:=F4.step0 D4.stp
  have q16:(Pr.own 2 3 1 (List.length (Ji a b k)) (List.map Ty.int (Ji a b k))).has s4 (a6.eval (.tmp 5)):=D4.ko q11 rfl
  have q17:=D4.k q12;refine tn (Ja ?_)
  refine Jl (p:=(((k:Nat):Int) < (((List.length a):Nat):Int))) (D4.m 0 rfl) (fun c1=>?_) (fun c1=>?_)
  ·
   refine Jf (tn (Ja (Je (Ja ?_))))
   refine gI a6 s4 ok5 (gM q17 (gB 0 (gE ok5 fun a7 s5 ok6 D5=>?_)))
   have q22:(Pr.own 2 3 1 (List.length (Ji a b k)) (List.map Ty.int (Ji a b k))).has s5 (a7.eval (.tmp 5)):=D5.ko q16 rfl
   have q24:=D5.k (D4.k q13);have q25:=D5.k (D4.k q14);have q27:=D5.m 1 rfl;refine tn (Ja ?_)
   refine gI a7 s5 ok6 (gM q27 (gM q25 (gS rfl (fun A B E G H d0=>rP (Jt Try.underlying22 (eI d0))) (gS rfl (fun A B E G H d0 d1=>rP (Qv (eI d0) (eI d1))) (gS rfl (fun A B E G H d0=>rP (Jc (eI d0))) (gS rfl (fun A B E G H d0=>gu G (eI d0) fun hg=>Jc (kp (H 0 rfl) E q24)) (gS rfl (fun A B E G H d0=>gu G (eI d0) fun hg=>Jc (kp (H 6 rfl) E q27)) (gT (Ty.grd ((decide ((((List.length b):Nat):Int) ≤ ((k:Nat):Int))) = false) (Ty.ref [(Ty.lst Ty.int (a.getD k []))])) rfl (fun A B E G H d0 d1 d2=>guf G (eI d2) fun hg hp=>Jy Try.underlying22 Try.inf26 ((ef d0 rfl).1 hg) ((ef d1 rfl).1 hg) oM (Ju Ty.ints a [] k oM)) (gS rfl (fun A B E G H d0 d1=>gu G (eI d1) fun hg=>Jm Try.underlying26 rfl ((ef d0 rfl).1 hg) rfl) (gS rfl (fun A B E G H d0=>gu G (eI d0) fun hg=>Jc (kp (H 1 rfl) E q25)) (gS rfl (fun A B E G H d0=>gu G (eI d0) fun hg=>Jc (kp (H 6 rfl) E q27)) (gT (Ty.grd ((decide ((((List.length b):Nat):Int) ≤ ((k:Nat):Int))) = false) (Ty.ref [(Ty.lst Ty.int (b.getD k []))])) rfl (fun A B E G H d0 d1 d2=>guf G (eI d2) fun hg hp=>Jy Try.underlying22 Try.inf26 ((ef d0 rfl).1 hg) ((ef d1 rfl).1 hg) oM (Ju Ty.ints b [] k oM)) (gS rfl (fun A B E G H d0 d1=>gu G (eI d1) fun hg=>Jm Try.underlying26 rfl ((ef d0 rfl).1 hg) rfl) ?_)))))))))))))
   refine gS rfl (fun A B E G H d0 d1 d2 d3=>guf G (eI d2) fun hg hp=>JP _ Try.func36 rfl rfl my2 (bsame_fn ((a.getD k [])) ((b.getD k [])) _ _ _ ((ef d0 rfl).1 hg) ((ef d1 rfl).1 hg) )) (gS rfl (fun A B E G H d0 d1=>gu G (eI d1) fun hg=>y_not ((ef d0 rfl).1 hg)) (gS rfl (fun A B E G H d0 d1=>rP (Jk (eI d0) rfl (eI d1))) (gE ok6 fun a8 s6 ok7 D6=>?_)));have F7:=(F5.step0 D5.stp).step0 D6.stp
   have q28:(Pr.own 2 3 1 (List.length (Ji a b k)) (List.map Ty.int (Ji a b k))).has s6 (a8.eval (.tmp 5)):=D6.ko q22 rfl
   have q29:=D6.k (D5.k q17);have q30:=D6.k q24;have q31:=D6.k q25;have q32:=D6.k (D5.k (D4.k q15));refine tn ?_
   refine JR (D6.m 15 rfl) (fun c2=>?_) (fun c2=>?_)
   ·
    refine gI a8 s6 ok7 (gT (Ty.val (a8.eval (.tmp 5))) rfl (fun A B E G H=>rP (Jc (H 5 rfl))) (gM (D6.k q27) (gT (Ty.sl 1 1 [(Ty.nat k)]) rfl (fun A B E G H d0=>rP (KW Try.underlying26 Try.inf3 rfl (Jq rfl) (eI d0))) (gE2 ok7 fun a9 s7 ok8 D7=>?_))));have q35:=(Pr.own 2 3 1 (List.length (Ji a b k)) (List.map Ty.int (Ji a b k))).up D7.stp q28
    have q36:a9.eval (.tmp 5) = a8.eval (.tmp 5):=D7.same 5 rfl
    have q42:=D7.m 2 rfl
    refine Ks (m:=2) (R:=(fun v τ=>Own τ 2 3 1 v ((List.length (Ji a b k)) + 1) ((List.map Ty.int (Ji a b k)) ++ [(Ty.nat k)]))) rfl rfl dE ok8 (KC Try.underlying26 Try.inf3 dE rfl dE (al (D7.m 0 rfl) q35) q42 (by intro U hU;simp at hU;  subst hU;exact Jq rfl) oM oM) (fun a10 s8 hs1 ok9 r1 sm1=>?_)
    have F9:=(F7.step0 D7.stp).step hs1 dE
    have q43:At (Ty.nat k) s8 a10 (.tmp 9):=kpm hs1 dE (sm1 9 dE) (D7.k q29)
    have q44:At (Ty.lst Ty.ints a) s8 a10 (.tmp 0):=kpm hs1 dE (sm1 0 dE) (D7.k q30)
    have q45:At (Ty.lst Ty.ints b) s8 a10 (.tmp 1):=kpm hs1 dE (sm1 1 dE) (D7.k q31)
    have q46:At (Ty.nat (List.length a)) s8 a10 (.tmp 8):=kpm hs1 dE (sm1 8 dE) (D7.k q32)
    have q47:At (Ty.sl 1 1 [(Ty.nat k)]) s8 a10 (.tmp 30):=kpm hs1 dE (sm1 30 dE) q42
    have q48:(Pr.own 2 3 1 (List.length ((Ji a b k) ++ [((k:Nat):Int)])) (List.map Ty.int ((Ji a b k) ++ [((k:Nat):Int)]))).has s8 (a10.eval (.tmp 31)):=(cvo (by simp) (by first | (rw [List.map_append];rfl) | simp) r1)
    refine Ks (m:=0) (R:=(fun v τ=>Pr.has (Pr.own 2 3 1 (List.length ((Ji a b k) ++ [((k:Nat):Int)])) (List.map Ty.int ((Ji a b k) ++ [((k:Nat):Int)]))) τ v)) rfl rfl dE ok9 (Yld.toM (Qk q48)) (fun a11 s9 hs2 ok10 r2 sm2=>?_)
    have F10:=F9.step hs2 dE
    have q49:At (Ty.nat k) s9 a11 (.tmp 9):=kpm hs2 dE (sm2 9 dE) q43
    have q50:At (Ty.lst Ty.ints a) s9 a11 (.tmp 0):=kpm hs2 dE (sm2 0 dE) q44
    have q51:At (Ty.lst Ty.ints b) s9 a11 (.tmp 1):=kpm hs2 dE (sm2 1 dE) q45
    have q52:At (Ty.nat (List.length a)) s9 a11 (.tmp 8):=kpm hs2 dE (sm2 8 dE) q46
    have q53:At (Ty.sl 1 1 [(Ty.nat k)]) s9 a11 (.tmp 30):=kpm hs2 dE (sm2 30 dE) q47
    have q54:(Pr.own 2 3 1 (List.length ((Ji a b k) ++ [((k:Nat):Int)])) (List.map Ty.int ((Ji a b k) ++ [((k:Nat):Int)]))).has s9 (a11.eval (.tmp 31)):=kpmo hs2 dE (.inl rfl) (sm2 31 dE) q48
    have q55:(Pr.own 2 3 1 (List.length ((Ji a b k) ++ [((k:Nat):Int)])) (List.map Ty.int ((Ji a b k) ++ [((k:Nat):Int)]))).has s9 (a11.eval (.tmp 5)):=r2
    refine Jh (bn (tn ?_))
    refine gI a11 s9 ok10 (gT (Ty.int (((k:Nat):Int) + (1:Int))) rfl (fun A B E G H=>rP (JF (kp (H 9 rfl) E q49) rfl wX)) (gS rfl (fun A B E G H d0=>rP (Jc (eI d0))) (gE ok10 fun a12 s10 ok11 D8=>?_)))
    have q59:(Pr.own 2 3 1 (List.length ((Ji a b k) ++ [((k:Nat):Int)])) (List.map Ty.int ((Ji a b k) ++ [((k:Nat):Int)]))).has s10 (a12.eval (.tmp 5)):=D8.ko q55 rfl
    exact tn ⟨a.length - ((k+1)),by omega,s10,(k+1),rfl,(F10.step0 D8.stp),ok11,(cvo (by (rw [Xd a b k (by assumption)])) (by (rw [Xd a b k (by assumption)])) q59),(cJ (D8.m 1 rfl)),(D8.k q50),(D8.k q51),(D8.k q52),by omega,rfl⟩
   ·
    obtain ⟨d1,d2⟩:=Xn c2
    replace d1:=Xp d1
    refine Jf (bn (tn ?_))
    refine gI a8 s6 ok7 (gT (Ty.int (((k:Nat):Int) + (1:Int))) rfl (fun A B E G H=>rP (JF (kp (H 9 rfl) E q29) rfl wX)) (gS rfl (fun A B E G H d0=>rP (Jc (eI d0))) (gE ok7 fun a13 s11 ok12 D9=>?_)))
    have q61:(Pr.own 2 3 1 (List.length (Ji a b k)) (List.map Ty.int (Ji a b k))).has s11 (a13.eval (.tmp 5)):=D9.ko q28 rfl
    exact tn ⟨a.length - ((k+1)),by omega,s11,(k+1),rfl,(F7.step0 D9.stp),ok12,(cvo (by (rw [wrongTo_no a b k (by assumption)])) (by (rw [wrongTo_no a b k (by assumption)])) q61),(cJ (D9.m 1 rfl)),(D9.k q30),(D9.k q31),(D9.k q32),by omega,rfl⟩
  ·
   refine Jv (tx (tx (bx (tn (Ja ?_)))))
   refine gI a6 s4 ok5 (gT (Ty.val (a6.eval (.tmp 5))) rfl (fun A B E G H=>rP (Jc (H 5 rfl))) (gB 0 (gE ok5 fun a14 s12 ok13 D10=>?_)))
   have q66:(Pr.own 2 3 1 (List.length (Ji a b k)) (List.map Ty.int (Ji a b k))).has s12 (a14.eval (.tmp 4)):=al (show _ = _ from D10.done 1) ((Pr.own 2 3 1 (List.length (Ji a b k)) (List.map Ty.int (Ji a b k))).up D10.stp q16)
   refine tn (Jj ?_)
   obtain ⟨t3,e1,h1,q67⟩:=Own.seal q66 dE
   rw [← e1]
   have F14:=(F5.step0 D10.stp).step h1 dE
   exact QS rfl ok13 F14 (cvt (by (obtain rfl:k = a.length:=oM;rfl)) q67)
set_option maxRecDepth 100000 in
theorem rwrong_fn (a:List (List Int)) (b:List (List Int)) (σ:GW) (v0 v1:Value) (hv0:Ty.has (Ty.lst Ty.ints a) σ v0) (hv1:Ty.has (Ty.lst Ty.ints b) σ v1) (ha:a.length ≤ 17592186044416) :
    FnC J 15 #[v0,v1] σ (Ty.lst Ty.int (Ji a b a.length)):=by
 refine KQ Try.func15 rfl Try.ntmps15 (Xr rfl) (fun s0 a0 hle F0 ok0 hargs=>?_)
 have p0:=pA hle (hargs 0 _ rfl) hv0
 have b1:=JS p0
 have p1:=pA hle (hargs 1 _ rfl) hv1
 have b2:=JS p1
 clear hargs;refine Ja ?_
 refine gI a0 s0 ok0 (gC (Ty.val (Value.slice none 0 0)) (gE ok0 fun a1 s1 ok1 D1=>?_));refine tn (Ja ?_)
 refine gI a1 s1 ok1 (gC (Ty.val (Value.slice none 0 0)) (gE ok1 fun a2 s2 ok2 D2=>?_));refine tn (Ja (Ja ?_))
 refine gI a2 s2 ok2 (gC (Ty.int (0:Int)) (gE ok2 fun a3 s3 ok3 D3=>?_));refine tn (Je ?_)
 refine Kf (fun n1 a4 w1=>∃ (t1:GW) (k:Nat),t1.w = w1∧From s0 t1∧Ok 38 [] a4∧(Pr.own 2 3 1 (List.length (Ji a b k)) (List.map Ty.int (Ji a b k))).has t1 (a4.eval (.tmp 5))∧At (Ty.nat k) t1 a4 (.tmp 6)∧At (Ty.lst Ty.ints a) t1 a4 (.tmp 0)∧At (Ty.lst Ty.ints b) t1 a4 (.tmp 1)∧(k ≤ a.length)∧n1 = a.length - k) (a.length - (0)) ?_ ?_
 ·
  exact ⟨s3,0,rfl,(((F0.step0 D1.stp).step0 D2.stp).step0 D3.stp),ok3,(by have e:a3.eval (.tmp 5) = _:=(D3.k (D2.m 0 rfl));rw [e];exact Own.nil _ _ _ _),(cJ (D3.m 0 rfl)),(D3.k (D2.k (D1.k p0))),(D3.k (D2.k (D1.k p1))),by omega,rfl⟩
 ·
  rintro n2 a5 w2 ⟨t2,k,rfl,F4,ok4,q10,q11,q12,q13,hk,rfl⟩
  have hw:=wrongTo_le a b k
  refine Ja (Ja ?_)
  refine gI a5 t2 ok4 (gM q11 (gM q12 (gS rfl (fun A B E G H d0=>rP (Jt Try.underlying22 (eI d0))) (gS rfl (fun A B E G H d0 d1=>rP (Jw (eI d0) (eI d1))) (gE ok4 fun a6 s4 ok5 D4=>?_)))));have F5:=F4.step0 D4.stp
  have q14:(Pr.own 2 3 1 (List.length (Ji a b k)) (List.map Ty.int (Ji a b k))).has s4 (a6.eval (.tmp 5)):=D4.ko q10 rfl
  have q15:=D4.k q11;have q17:=D4.k q13;refine tn ?_
  refine Jl (p:=(((k:Nat):Int) < (((List.length a):Nat):Int))) (D4.m 3 rfl) (fun c1=>?_) (fun c1=>?_)
  ·
   refine Jf (tn (Ja (Je (Ja (Ja ?_)))))
   refine gI a6 s4 ok5 (gM q15 (gM q17 (gS rfl (fun A B E G H d0=>rP (Jt Try.underlying22 (eI d0))) (gS rfl (fun A B E G H d0 d1=>rP (Qv (eI d0) (eI d1))) (gE ok5 fun a7 s5 ok6 D5=>?_)))));have F6:=F5.step0 D5.stp
   have q19:(Pr.own 2 3 1 (List.length (Ji a b k)) (List.map Ty.int (Ji a b k))).has s5 (a7.eval (.tmp 5)):=D5.ko q14 rfl
   have q20:=D5.k q15;have q21:=D5.k (D4.k q12);have q22:=D5.k q17;refine tn ?_
   refine Jl (p:=((((List.length b):Nat):Int) ≤ ((k:Nat):Int))) (D5.m 3 rfl) (fun c2=>?_) (fun c2=>?_)
   ·
    refine Ja ?_
    refine gI a7 s5 ok6 (gT (Ty.val (a7.eval (.tmp 5))) rfl (fun A B E G H=>rP (Jc (H 5 rfl))) (gM q20 (gT (Ty.sl 1 1 [(Ty.nat k)]) rfl (fun A B E G H d0=>rP (KW Try.underlying26 Try.inf3 rfl (Jq rfl) (eI d0))) (gE2 ok6 fun a8 s6 ok7 D6=>?_))));have q24:=(Pr.own 2 3 1 (List.length (Ji a b k)) (List.map Ty.int (Ji a b k))).up D6.stp q19
    have q25:a8.eval (.tmp 5) = a7.eval (.tmp 5):=D6.same 5 rfl
    have q30:=D6.m 2 rfl
    refine Ks (m:=2) (R:=(fun v τ=>Own τ 2 3 1 v ((List.length (Ji a b k)) + 1) ((List.map Ty.int (Ji a b k)) ++ [(Ty.nat k)]))) rfl rfl dE ok7 (KC Try.underlying26 Try.inf3 dE rfl dE (al (D6.m 0 rfl) q24) q30 (by intro U hU;simp at hU;  subst hU;exact Jq rfl) oM oM) (fun a9 s7 hs1 ok8 r1 sm1=>?_)
    have F8:=(F6.step0 D6.stp).step hs1 dE
    have q31:At (Ty.nat k) s7 a9 (.tmp 6):=kpm hs1 dE (sm1 6 dE) (D6.k q20)
    have q32:At (Ty.lst Ty.ints a) s7 a9 (.tmp 0):=kpm hs1 dE (sm1 0 dE) (D6.k q21)
    have q33:At (Ty.lst Ty.ints b) s7 a9 (.tmp 1):=kpm hs1 dE (sm1 1 dE) (D6.k q22)
    have q34:At (Ty.sl 1 1 [(Ty.nat k)]) s7 a9 (.tmp 20):=kpm hs1 dE (sm1 20 dE) q30
    have q35:(Pr.own 2 3 1 (List.length ((Ji a b k) ++ [((k:Nat):Int)])) (List.map Ty.int ((Ji a b k) ++ [((k:Nat):Int)]))).has s7 (a9.eval (.tmp 21)):=(cvo (by simp) (by first | (rw [List.map_append];rfl) | simp) r1)
    refine Ks (m:=0) (R:=(fun v τ=>Pr.has (Pr.own 2 3 1 (List.length ((Ji a b k) ++ [((k:Nat):Int)])) (List.map Ty.int ((Ji a b k) ++ [((k:Nat):Int)]))) τ v)) rfl rfl dE ok8 (Yld.toM (Qk q35)) (fun a10 s8 hs2 ok9 r2 sm2=>?_)
    have F9:=F8.step hs2 dE
    have q36:At (Ty.nat k) s8 a10 (.tmp 6):=kpm hs2 dE (sm2 6 dE) q31
    have q37:At (Ty.lst Ty.ints a) s8 a10 (.tmp 0):=kpm hs2 dE (sm2 0 dE) q32
    have q38:At (Ty.lst Ty.ints b) s8 a10 (.tmp 1):=kpm hs2 dE (sm2 1 dE) q33
    have q39:At (Ty.sl 1 1 [(Ty.nat k)]) s8 a10 (.tmp 20):=kpm hs2 dE (sm2 20 dE) q34
    have q40:(Pr.own 2 3 1 (List.length ((Ji a b k) ++ [((k:Nat):Int)])) (List.map Ty.int ((Ji a b k) ++ [((k:Nat):Int)]))).has s8 (a10.eval (.tmp 21)):=kpmo hs2 dE (.inl rfl) (sm2 21 dE) q35
    have q41:(Pr.own 2 3 1 (List.length ((Ji a b k) ++ [((k:Nat):Int)])) (List.map Ty.int ((Ji a b k) ++ [((k:Nat):Int)]))).has s8 (a10.eval (.tmp 5)):=r2
    refine Jh (tn (Jv (tx (bx (tn ?_)))))
    refine gI a10 s8 ok9 (gM q36 (gT (Ty.int (((k:Nat):Int) + (1:Int))) rfl (fun A B E G H d0=>rP (JF (eI d0) rfl wX)) (gB 0 (gE ok9 fun a11 s9 ok10 D7=>?_))))
    have q44:(Pr.own 2 3 1 (List.length ((Ji a b k) ++ [((k:Nat):Int)])) (List.map Ty.int ((Ji a b k) ++ [((k:Nat):Int)]))).has s9 (a11.eval (.tmp 5)):=D7.ko q41 rfl
    exact tn ⟨a.length - ((k+1)),by omega,s9,(k+1),rfl,(F9.step0 D7.stp),ok10,(cvo (by (rw [Xd a b k (by simp only [Bool.or_eq_true,decide_eq_true_eq];left;assumption)])) (by (rw [Xd a b k (by simp only [Bool.or_eq_true,decide_eq_true_eq];left;assumption)])) q44),(cJ (D7.m 2 rfl)),(D7.k q37),(D7.k q38),by omega,rfl⟩
   ·
    refine Jf (tn (Ja ?_))
    refine gI a7 s5 ok6 (gM q21 (gM q20 (gT (Ty.ref [(Ty.lst Ty.int (a.getD k []))]) rfl (fun A B E G H d0 d1=>rP (Jy Try.underlying22 Try.inf26 (eI d0) (eI d1) oM (Ju Ty.ints a [] k oM))) (gS rfl (fun A B E G H d0=>rP (Jm Try.underlying26 rfl (eI d0) rfl)) (gM q22 (gM q20 (gT (Ty.ref [(Ty.lst Ty.int (b.getD k []))]) rfl (fun A B E G H d0 d1=>rP (Jy Try.underlying22 Try.inf26 (eI d0) (eI d1) oM (Ju Ty.ints b [] k oM))) (gS rfl (fun A B E G H d0=>rP (Jm Try.underlying26 rfl (eI d0) rfl)) (gS rfl (fun A B E G H d0 d1=>rP (JP _ Try.func13 rfl rfl my2 (rsame_fn ((a.getD k [])) ((b.getD k [])) _ _ _ (eI d0) (eI d1) ))) (gB 0 (gE ok6 fun a12 s10 ok11 D8=>?_)))))))))))
    have q46:(Pr.own 2 3 1 (List.length (Ji a b k)) (List.map Ty.int (Ji a b k))).has s10 (a12.eval (.tmp 5)):=D8.ko q19 rfl
    refine tn (Ja ?_)
    refine gI a12 s10 ok11 (gM (D8.m 9 rfl) (gS rfl (fun A B E G H d0=>rP (y_not (eI d0))) (gE ok11 fun a13 s11 ok12 D9=>?_)));have F12:=(F6.step0 D8.stp).step0 D9.stp
    have q51:(Pr.own 2 3 1 (List.length (Ji a b k)) (List.map Ty.int (Ji a b k))).has s11 (a13.eval (.tmp 5)):=D9.ko q46 rfl
    have q52:=D9.k (D8.k q20);have q53:=D9.k (D8.k q21);have q54:=D9.k (D8.k q22);refine tn ?_
    refine JR (D9.m 1 rfl) (fun c3=>?_) (fun c3=>?_)
    ·
     refine gI a13 s11 ok12 (gT (Ty.val (a13.eval (.tmp 5))) rfl (fun A B E G H=>rP (Jc (H 5 rfl))) (gM q52 (gT (Ty.sl 1 1 [(Ty.nat k)]) rfl (fun A B E G H d0=>rP (KW Try.underlying26 Try.inf3 rfl (Jq rfl) (eI d0))) (gE2 ok12 fun a14 s12 ok13 D10=>?_))));have q56:=(Pr.own 2 3 1 (List.length (Ji a b k)) (List.map Ty.int (Ji a b k))).up D10.stp q51
     have q57:a14.eval (.tmp 5) = a13.eval (.tmp 5):=D10.same 5 rfl
     have q62:=D10.m 2 rfl
     refine Ks (m:=2) (R:=(fun v τ=>Own τ 2 3 1 v ((List.length (Ji a b k)) + 1) ((List.map Ty.int (Ji a b k)) ++ [(Ty.nat k)]))) rfl rfl dE ok13 (KC Try.underlying26 Try.inf3 dE rfl dE (al (D10.m 0 rfl) q56) q62 (by intro U hU;simp at hU;  subst hU;exact Jq rfl) oM oM) (fun a15 s13 hs3 ok14 r3 sm3=>?_)
     have F14:=(F12.step0 D10.stp).step hs3 dE
     have q63:At (Ty.nat k) s13 a15 (.tmp 6):=kpm hs3 dE (sm3 6 dE) (D10.k q52)
     have q64:At (Ty.lst Ty.ints a) s13 a15 (.tmp 0):=kpm hs3 dE (sm3 0 dE) (D10.k q53)
     have q65:At (Ty.lst Ty.ints b) s13 a15 (.tmp 1):=kpm hs3 dE (sm3 1 dE) (D10.k q54)
     have q66:At (Ty.sl 1 1 [(Ty.nat k)]) s13 a15 (.tmp 35):=kpm hs3 dE (sm3 35 dE) q62
     have q67:(Pr.own 2 3 1 (List.length ((Ji a b k) ++ [((k:Nat):Int)])) (List.map Ty.int ((Ji a b k) ++ [((k:Nat):Int)]))).has s13 (a15.eval (.tmp 36)):=(cvo (by simp) (by first | (rw [List.map_append];rfl) | simp) r3)
     refine Ks (m:=0) (R:=(fun v τ=>Pr.has (Pr.own 2 3 1 (List.length ((Ji a b k) ++ [((k:Nat):Int)])) (List.map Ty.int ((Ji a b k) ++ [((k:Nat):Int)]))) τ v)) rfl rfl dE ok14 (Yld.toM (Qk q67)) (fun a16 s14 hs4 ok15 r4 sm4=>?_)
     have F15:=F14.step hs4 dE
     have q68:At (Ty.nat k) s14 a16 (.tmp 6):=kpm hs4 dE (sm4 6 dE) q63
     have q69:At (Ty.lst Ty.ints a) s14 a16 (.tmp 0):=kpm hs4 dE (sm4 0 dE) q64
     have q70:At (Ty.lst Ty.ints b) s14 a16 (.tmp 1):=kpm hs4 dE (sm4 1 dE) q65
     have q71:At (Ty.sl 1 1 [(Ty.nat k)]) s14 a16 (.tmp 35):=kpm hs4 dE (sm4 35 dE) q66
     have q72:(Pr.own 2 3 1 (List.length ((Ji a b k) ++ [((k:Nat):Int)])) (List.map Ty.int ((Ji a b k) ++ [((k:Nat):Int)]))).has s14 (a16.eval (.tmp 36)):=kpmo hs4 dE (.inl rfl) (sm4 36 dE) q67
     have q73:(Pr.own 2 3 1 (List.length ((Ji a b k) ++ [((k:Nat):Int)])) (List.map Ty.int ((Ji a b k) ++ [((k:Nat):Int)]))).has s14 (a16.eval (.tmp 5)):=r4
     refine Jh (bn (tn ?_))
     refine gI a16 s14 ok15 (gM q68 (gT (Ty.int (((k:Nat):Int) + (1:Int))) rfl (fun A B E G H d0=>rP (JF (eI d0) rfl wX)) (gB 0 (gE ok15 fun a17 s15 ok16 D11=>?_))))
     have q76:(Pr.own 2 3 1 (List.length ((Ji a b k) ++ [((k:Nat):Int)])) (List.map Ty.int ((Ji a b k) ++ [((k:Nat):Int)]))).has s15 (a17.eval (.tmp 5)):=D11.ko q73 rfl
     exact tn ⟨a.length - ((k+1)),by omega,s15,(k+1),rfl,(F15.step0 D11.stp),ok16,(cvo (by (rw [Xd a b k (by simp only [Bool.or_eq_true];right;assumption)])) (by (rw [Xd a b k (by simp only [Bool.or_eq_true];right;assumption)])) q76),(cJ (D11.m 2 rfl)),(D11.k q69),(D11.k q70),by omega,rfl⟩
    ·
     refine Jf (bn (tn ?_))
     refine gI a13 s11 ok12 (gM q52 (gT (Ty.int (((k:Nat):Int) + (1:Int))) rfl (fun A B E G H d0=>rP (JF (eI d0) rfl wX)) (gB 0 (gE ok12 fun a18 s16 ok17 D12=>?_))))
     have q78:(Pr.own 2 3 1 (List.length (Ji a b k)) (List.map Ty.int (Ji a b k))).has s16 (a18.eval (.tmp 5)):=D12.ko q51 rfl
     exact tn ⟨a.length - ((k+1)),by omega,s16,(k+1),rfl,(F12.step0 D12.stp),ok17,(cvo (by (rw [wrongTo_no a b k (by simp only [Bool.or_eq_false_iff,decide_eq_false_iff_not];constructor <;> assumption)])) (by (rw [wrongTo_no a b k (by simp only [Bool.or_eq_false_iff,decide_eq_false_iff_not];constructor <;> assumption)])) q78),(cJ (D12.m 2 rfl)),(D12.k q53),(D12.k q54),by omega,rfl⟩
  ·
   refine Jv (tx (tx (bx (tn (Ja ?_)))))
   refine gI a6 s4 ok5 (gT (Ty.val (a6.eval (.tmp 5))) rfl (fun A B E G H=>rP (Jc (H 5 rfl))) (gB 0 (gE ok5 fun a19 s17 ok18 D13=>?_)))
   have q82:(Pr.own 2 3 1 (List.length (Ji a b k)) (List.map Ty.int (Ji a b k))).has s17 (a19.eval (.tmp 4)):=al (show _ = _ from D13.done 1) ((Pr.own 2 3 1 (List.length (Ji a b k)) (List.map Ty.int (Ji a b k))).up D13.stp q14)
   refine tn (Jj ?_)
   obtain ⟨t3,e1,h1,q83⟩:=Own.seal q82 dE
   rw [← e1]
   have F19:=(F5.step0 D13.stp).step h1 dE
   exact QS rfl ok18 F19 (cvt (by (obtain rfl:k = a.length:=oM;rfl)) q83)
omit [Go.KL.Al J] in
set_option maxHeartbeats 4000000 in
set_option maxRecDepth 100000 in
theorem moved_fn (xs:List Int) (x:Int) (σ:GW)  (v0 v1:Value) (hv0:Ty.has (Ty.lst Ty.int xs) σ v0) (hv1:Ty.has (Ty.int x) σ v1)   :
    FnC J 61 #[v0,v1] σ (Ty.int (mvE xs x)):=by
 refine JT Try.func61 rfl Try.ntmps61 (Xr rfl) (fun s0 a0 hle F0 ok0 hargs=>?_)
 have p0:=pA hle (hargs 0 _ rfl) hv0
 have b1:=JS p0
 have p1:=pA hle (hargs 1 _ rfl) hv1
 clear hargs;refine Ja ?_
 refine gI a0 s0 ok0 (gC (Ty.int (0:Int)) (gEN ok0 fun a1 s1 ok1 D1=>?_));refine tn (Ja (Ja ?_))
 refine gI a1 s1 ok1 (gM (D1.k p0) (gS rfl (fun A B E G H d0=>rP (Jt Try.underlying26 (eI d0))) (gT (Ty.int (0:Int)) rfl (fun A B E G H=>rP (Jc rfl)) (gEN ok1 fun a2 s2 ok2 D2=>?_))));refine tn (Je ?_)
 refine Kf (fun n1 a3 w1=>∃ (t1:GW) (k:Nat),t1.w = w1∧FromL [] s0 t1∧Ok 20 [] a3∧At (Ty.nat k) t1 a3 (.tmp 9)∧At (Ty.int x) t1 a3 (.tmp 1)∧At (Ty.lst Ty.int xs) t1 a3 (.tmp 7)∧At (Ty.nat (List.length xs)) t1 a3 (.tmp 8)∧(k ≤ xs.length)∧(∀ j,j < k → xs.getD j 0 ≠ x)∧n1 = xs.length - k) (xs.length - (0)) ?_ ?_
 ·
  exact ⟨s2,0,rfl,((F0.step0 D1.stp).step0 D2.stp),ok2,(cJ (D2.m 2 rfl)),(D2.k (D1.k p1)),(D2.m 0 rfl),(D2.m 1 rfl),by omega,fun j hj=>absurd hj (Nat.not_lt_zero j),rfl⟩
 ·
  rintro n2 a4 w2 ⟨t2,k,rfl,F3,ok3,q7,q8,q9,q10,hk,hno,rfl⟩
  refine Ja ?_
  refine gI a4 t2 ok3 (gS rfl (fun A B E G H=>rP (Jw (kp (H 9 rfl) E q7) (kp (H 8 rfl) E q10))) (gEN ok3 fun a5 s3 ok4 D3=>?_));have F4:=F3.step0 D3.stp;have q11:=D3.k q7;have q12:=D3.k q8;have q13:=D3.k q9;refine tn (Ja ?_)
  refine Jl (p:=(((k:Nat):Int) < (((List.length xs):Nat):Int))) (D3.m 0 rfl) (fun c1=>?_) (fun c1=>?_)
  ·
   refine Jf (tn (Ja (Je (Ja ?_))))
   refine gI a5 s3 ok4 (gM q11 (gT (Ty.ref [(Ty.int (xs.getD k 0))]) rfl (fun A B E G H=>rP (Jy Try.underlying26 Try.inf3 (kp (H 7 rfl) E q13) (kp (H 9 rfl) E q11) oM (Ju Ty.int xs 0 k oM))) (gS rfl (fun A B E G H d0=>rP (Jm Try.underlying3 rfl (eI d0) rfl)) (gB 0 (gB 0 (gEN ok4 fun a6 s4 ok5 D4=>?_))))));have q17:=D4.k q12;refine tn (Ja ?_)
   refine gI a6 s4 ok5 (gM (D4.m 4 rfl) (gM q17 (gS rfl (fun A B E G H d0 d1=>rP (Qb (eI d0) (eI d1))) (gEN ok5 fun a7 s5 ok6 D5=>?_))));have F6:=(F4.step0 D4.stp).step0 D5.stp;refine tn ?_
   refine Jl (p:=((xs.getD k 0) = x)) (D5.m 2 rfl) (fun c2=>?_) (fun c2=>?_)
   ·
    refine Ja ?_
    refine gI a7 s5 ok6 (gM (D5.k (D4.m 3 rfl)) (gB 0 (gEN ok6 fun a8 s6 ok7 D6=>?_)));refine tn (Jj (br (tr (tr (br (tr ?_))))))
    exact JJ rfl ok7 (F6.step0 D6.stp) (cvi (by (exact (mvE_yes oM (by assumption) hno).symm)) (D6.m 1 rfl))
   ·
    refine Jf (bn (tn ?_))
    refine gI a7 s5 ok6 (gT (Ty.int (((k:Nat):Int) + (1:Int))) rfl (fun A B E G H=>rP (JF (kp (H 9 rfl) E (D5.k (D4.k q11))) rfl wX)) (gS rfl (fun A B E G H d0=>rP (Jc (eI d0))) (gEN ok6 fun a9 s7 ok8 D7=>?_)))
    exact tn ⟨xs.length - ((k+1)),by omega,s7,(k+1),rfl,(F6.step0 D7.stp),ok8,(cJ (D7.m 1 rfl)),(D7.k (D5.k q17)),(D7.k (D5.k (D4.k q13))),(D7.k (D5.k (D4.k (D3.k q10)))),by omega,fun j hj=>by (by_cases e:j = k;subst e;exact c2;exact hno j oM),rfl⟩
  ·
   refine Jv (tx (tx (bx (tn (Ja ?_)))))
   refine gI a5 s3 ok4 (gM q12 (gB 0 (gEN ok4 fun a10 s8 ok9 D8=>?_)));refine tn (Jj ?_)
   exact JJ rfl ok9 (F4.step0 D8.stp) (cvi (by (exact (mvE_no (fun j hj=>hno j oM)).symm)) (D8.m 1 rfl))
end Go.Proofs.Ytodmoedmijfciaa
