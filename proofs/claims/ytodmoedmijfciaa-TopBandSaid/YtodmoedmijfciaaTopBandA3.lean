/- The functions that the law TopBand reaches, each by its contract. Part 3. -/
import Derived.Test.YtodmoedmijfciaaTopBandA2
namespace Go.Proofs.Ytodmoedmijfciaa
open Go.KL
variable {J:Go.KL.JdOf Try.prog} [Go.KL.Al J]
set_option maxRecDepth 100000 in
theorem product_fn (a:List Int) (b:List Int) (σ:GW) (v0 v1:Value) (hv0:Ty.has (Ty.lst Ty.int a) σ v0) (hv1:Ty.has (Ty.lst Ty.int b) σ v1) (hl:a.length = b.length) (hbd:∀ i,i < b.length → 0 ≤ b.getD i 0∧b.getD i 0 < a.length) (E:a.length ≤ 1000000) :
    FnC J 71 #[v0,v1] σ (Ty.lst Ty.int (byL a b)):=by
 refine Kw Try.func71 rfl Try.ntmps71 (Xj rfl) (fun s0 a0 hle F0 ok0 hargs=>?_)
 have p0:=pA hle (hargs 0 _ rfl) hv0
 have b1:=Ke p0
 have p1:=pA hle (hargs 1 _ rfl) hv1
 have b2:=Ke p1
 clear hargs;refine Jb ?_
 refine gI a0 s0 ok0 (gC (Ty.val (Value.slice none 0 0)) (gE ok0 fun a1 s1 ok1 D1=>?_));have q1:=D1.k p0;refine tn (Jb ?_)
 refine gI a1 s1 ok1 (gM q1 (gS rfl (fun A B E G H d0=>rP (JE Try.underlying26 (eI d0))) (gR (Pr.own 11 3 1 (List.length a) (List.map Ty.int (List.replicate (List.length a) 0))) rfl (by intro A B E G H d0 d1;have e1:=ed d0 rfl rfl rfl;exact rP ((y_make (k:=11) (T:=Ty.int 0) (n:=(List.length a)) Try.underlying26 Try.inf3 rfl (fun _=>rfl) e1 e1 oM oM).mono (fun _ _ h=>cvo (by simp) (by simp) h))) (gR (Pr.own 11 3 1 (List.length a) (List.map Ty.int (List.replicate (List.length a) 0))) rfl (by intro A B E G H d0 d1 d2 d3;have e2:(Pr.own 11 3 1 (List.length a) (List.map Ty.int (List.replicate (List.length a) 0))).has B (A.eval (.tmp 10)):=d0 rfl;exact rP (KX e2)) (gE ok1 fun a2 s2 ok2 D2=>?_)))))
 have q5:(Pr.own 11 3 1 (List.length a) (List.map Ty.int (List.replicate (List.length a) 0))).has s2 (a2.eval (.tmp 5)):=D2.done 3
 refine tn (Jb (Jb ?_))
 refine gI a2 s2 ok2 (gM (D2.k (D1.k p1)) (gS rfl (fun A B E G H d0=>rP (JE Try.underlying26 (eI d0))) (gT (Ty.int (0:Int)) rfl (fun A B E G H=>rP (Jc rfl)) (gE ok2 fun a3 s3 ok3 D3=>?_))))
 have q7:(Pr.own 11 3 1 (List.length a) (List.map Ty.int (List.replicate (List.length a) 0))).has s3 (a3.eval (.tmp 5)):=D3.ko q5 rfl
 refine tn (Je ?_)
 refine KB (fun n1 a4 w1=>∃ (t1:GW) (k:Nat),t1.w = w1∧From s0 t1∧Ok 27 [] a4∧At (Ty.nat k) t1 a4 (.tmp 13)∧(Pr.own 11 3 1 (List.length (Qz a b k)) (List.map Ty.int (Qz a b k))).has t1 (a4.eval (.tmp 5))∧At (Ty.lst Ty.int a) t1 a4 (.tmp 0)∧At (Ty.lst Ty.int b) t1 a4 (.tmp 11)∧At (Ty.nat (List.length b)) t1 a4 (.tmp 12)∧(k ≤ b.length)∧n1 = b.length - k) (b.length - (0)) ?_ ?_
 ·
  exact ⟨s3,0,rfl,(((F0.step0 D1.stp).step0 D2.stp).step0 D3.stp),ok3,(cJ (D3.m 2 rfl)),(cvo (by (simp [byTo_zero])) (by (simp [byTo_zero])) q7),(D3.k (D2.k q1)),(D3.m 0 rfl),(D3.m 1 rfl),by omega,rfl⟩
 ·
  rintro n2 a5 w2 ⟨t2,k,rfl,F4,ok4,q11,q12,q13,q14,q15,hk,rfl⟩
  have hp:=byTo_len a b k
  refine Jb ?_
  refine gI a5 t2 ok4 (gS rfl (fun A B E G H=>rP (JL (kp (H 13 rfl) E q11) (kp (H 12 rfl) E q15))) (gE ok4 fun a6 s4 ok5 D4=>?_));have F5:=F4.step0 D4.stp;have q16:=D4.k q11
  have q17:(Pr.own 11 3 1 (List.length (Qz a b k)) (List.map Ty.int (Qz a b k))).has s4 (a6.eval (.tmp 5)):=D4.ko q12 rfl
  have q19:=D4.k q14;refine tn (Jb ?_)
  refine Jm (p:=(((k:Nat):Int) < (((List.length b):Nat):Int))) (D4.m 0 rfl) (fun c1=>?_) (fun c1=>?_)
  ·
   have hq:=hbd k oM
   refine Ji (tn (Jb (Je (Jb ?_))))
   refine gI a6 s4 ok5 (gM q16 (gT (Ty.ref [(Ty.int (b.getD k 0))]) rfl (fun A B E G H=>rP (JM Try.underlying26 Try.inf3 (kp (H 11 rfl) E q19) (kp (H 13 rfl) E q16) oM (JJ Ty.int b 0 k oM))) (gS rfl (fun A B E G H d0=>rP (JD Try.underlying3 rfl (eI d0) rfl)) (gB 0 (gB 0 (gE ok5 fun a7 s5 ok6 D5=>?_))))))
   have q23:(Pr.own 11 3 1 (List.length (Qz a b k)) (List.map Ty.int (Qz a b k))).has s5 (a7.eval (.tmp 5)):=D5.ko q17 rfl
   have q24:=D5.k (D4.k q13);refine tn ?_
   refine gI a7 s5 ok6 (gT (Ty.val (a7.eval (.tmp 5))) rfl (fun A B E G H=>rP (Jc (H 5 rfl))) (gM (D5.m 3 rfl) (gM q24 (gM (D5.m 4 rfl) (gT (Ty.ref [(Ty.int (a.getD ((b.getD k 0)).toNat 0))]) rfl (fun A B E G H d0 d1=>rP (JM Try.underlying26 Try.inf3 (eI d0) (eI d1) oM (JJ Ty.int a 0 ((b.getD k 0)).toNat oM))) (gS rfl (fun A B E G H d0=>rP (JD Try.underlying3 rfl (eI d0) rfl)) (gT (Ty.val (JV (a7.eval (.tmp 5)) k)) rfl (fun A B E G H d0 d1 d2 d3 d4 d5 d6 d7=>rP (Kv (i:=((k:Nat):Int)) Try.underlying26 Try.inf3 ((Pr.own 11 3 1 (List.length (Qz a b k)) (List.map Ty.int (Qz a b k))).up E q23) (eI d0) (eI d1) oM oM)) (gE2 ok6 fun a8 s6 ok7 D6=>?_))))))));have q29:=(Pr.own 11 3 1 (List.length (Qz a b k)) (List.map Ty.int (Qz a b k))).up D6.stp q23
   have q31:a8.eval (.tmp 5) = a7.eval (.tmp 5):=D6.same 5 rfl
   have q35:=D6.m 5 rfl
   refine tail_step0 (m:=11) (R:=(fun _ τ=>Own τ 11 3 1 (a7.eval (.tmp 5)) (List.length (Qz a b k)) ((List.map Ty.int (Qz a b k)).set k (Ty.int (a.getD ((b.getD k 0)).toNat 0))))) rfl rfl (m_store Try.inf3 dE q29 (D6.m 6 rfl) (by simp only [List.length_map,List.length_set];omega) q35 (Jk rfl)) (fun v1 s7 hs1 r1=>?_)
   have F8:=((F5.step0 D5.stp).step0 D6.stp).step hs1 dE
   have q37:At (Ty.nat k) s7 a8 (.tmp 13):=kpm hs1 dE rfl (D6.k (D5.k q16))
   have q38:At (Ty.lst Ty.int a) s7 a8 (.tmp 0):=kpm hs1 dE rfl (D6.k q24)
   have q39:At (Ty.lst Ty.int b) s7 a8 (.tmp 11):=kpm hs1 dE rfl (D6.k (D5.k q19))
   have q40:At (Ty.nat (List.length b)) s7 a8 (.tmp 12):=kpm hs1 dE rfl (D6.k (D5.k (D4.k q15)))
   have q41:At (Ty.int (a.getD ((b.getD k 0)).toNat 0)) s7 a8 (.tmp 23):=kpm hs1 dE rfl q35
   have q42:(Pr.own 11 3 1 (List.length ((Qz a b k).set k (a.getD ((b.getD k 0)).toNat 0))) (List.map Ty.int ((Qz a b k).set k (a.getD ((b.getD k 0)).toNat 0)))).has s7 (a7.eval (.tmp 5)):=(cvo (by simp) (by simp) r1)
   refine Jh ?_
   have q43:(Pr.own 11 3 1 (List.length ((Qz a b k).set k (a.getD ((b.getD k 0)).toNat 0))) (List.map Ty.int ((Qz a b k).set k (a.getD ((b.getD k 0)).toNat 0)))).has s7 (a8.eval (.tmp 5)):=al q31 q42
   refine bn (tn ?_)
   refine gI a8 s7 ok7 (gT (Ty.int (((k:Nat):Int) + (1:Int))) rfl (fun A B E G H=>rP (Jy (kp (H 13 rfl) E q37) rfl wX)) (gS rfl (fun A B E G H d0=>rP (Jc (eI d0))) (gE ok7 fun a10 s8 ok9 D7=>?_)))
   have q44:(Pr.own 11 3 1 (List.length ((Qz a b k).set k (a.getD ((b.getD k 0)).toNat 0))) (List.map Ty.int ((Qz a b k).set k (a.getD ((b.getD k 0)).toNat 0)))).has s8 (a10.eval (.tmp 5)):=D7.ko q43 rfl
   exact tn ⟨b.length - ((k+1)),by omega,s8,(k+1),rfl,(F8.step0 D7.stp),ok9,(cJ (D7.m 1 rfl)),(cvo (by (rw [byTo_step a b k])) (by (rw [byTo_step a b k])) q44),(D7.k q38),(D7.k q39),(D7.k q40),by omega,rfl⟩
  ·
   refine Jx (tx (tx (bx (tn (Jb ?_)))))
   refine gI a6 s4 ok5 (gT (Ty.val (a6.eval (.tmp 5))) rfl (fun A B E G H=>rP (Jc (H 5 rfl))) (gB 0 (gE ok5 fun a11 s9 ok10 D8=>?_)))
   have q49:(Pr.own 11 3 1 (List.length (Qz a b k)) (List.map Ty.int (Qz a b k))).has s9 (a11.eval (.tmp 4)):=al (show _ = _ from D8.done 1) ((Pr.own 11 3 1 (List.length (Qz a b k)) (List.map Ty.int (Qz a b k))).up D8.stp q17)
   refine tn (Jj ?_)
   obtain ⟨t3,e1,h1,q50⟩:=Own.seal q49 dE
   rw [← e1]
   have F11:=(F5.step0 D8.stp).step h1 dE
   exact QT rfl ok10 F11 (cvt (by (obtain rfl:k = b.length:=oM;rw [byTo_all a b hl])) q50)
set_option maxRecDepth 100000 in
theorem from_fn (r:List Int) (l:List (List Int)) (σ:GW) (v0 v1:Value) (hv0:Ty.has (Ty.lst Ty.int r) σ v0) (hv1:Ty.has (Ty.lst Ty.ints l) σ v1) (hr:r.length ≤ 12) (hok:∀ k,k < l.length → okL 0 (l.getD k []) r.length) (hl:l.length ≤ 200) :
    FnC J 40 #[v0,v1] σ (Ty.lst Ty.ints (fromL r l)):=by
 refine Kw Try.func40 rfl Try.ntmps40 (Xj rfl) (fun s0 a0 hle F0 ok0 hargs=>?_)
 have p0:=pA hle (hargs 0 _ rfl) hv0
 have b1:=Ke p0
 have p1:=pA hle (hargs 1 _ rfl) hv1
 have b2:=Ke p1
 clear hargs;refine Jb ?_
 refine gI a0 s0 ok0 (gC (Ty.val (Value.slice none 0 0)) (gE ok0 fun a1 s1 ok1 D1=>?_));have q1:=D1.k p0;refine tn (Jb ?_)
 refine gI a1 s1 ok1 (gM q1 (gR (Pr.own 2 26 1 1 (List.map Ty.ints [r])) rfl (by intro A B E G H d0;exact rP ((y_lit1 (k:=2) Try.underlying22 Try.inf26 rfl (KZ) (eI d0)).mono (fun _ _ h=>cvo (by simp) (by simp) h))) (gR (Pr.own 2 26 1 1 (List.map Ty.ints [r])) rfl (by intro A B E G H d0 d1 d2;have e1:(Pr.own 2 26 1 1 (List.map Ty.ints [r])).has B (A.eval (.tmp 9)):=d0 rfl;exact rP (KX e1)) (gE ok1 fun a2 s2 ok2 D2=>?_))))
 have q5:(Pr.own 2 26 1 1 (List.map Ty.ints [r])).has s2 (a2.eval (.tmp 5)):=D2.done 2
 refine tn (Jb (Jb ?_))
 refine gI a2 s2 ok2 (gM (D2.k (D1.k p1)) (gS rfl (fun A B E G H d0=>rP (JE Try.underlying22 (eI d0))) (gT (Ty.int (0:Int)) rfl (fun A B E G H=>rP (Jc rfl)) (gE ok2 fun a3 s3 ok3 D3=>?_))))
 have q7:(Pr.own 2 26 1 1 (List.map Ty.ints [r])).has s3 (a3.eval (.tmp 5)):=D3.ko q5 rfl
 refine tn (Je ?_)
 refine KB (fun n1 a4 w1=>∃ (t1:GW) (k:Nat),t1.w = w1∧From s0 t1∧Ok 28 [] a4∧At (Ty.nat k) t1 a4 (.tmp 12)∧At (Ty.lst Ty.int (KH r l k)) t1 a4 (.tmp 0)∧(Pr.own 2 26 1 (List.length (JZ r l k)) (List.map Ty.ints (JZ r l k))).has t1 (a4.eval (.tmp 5))∧At (Ty.lst Ty.ints l) t1 a4 (.tmp 10)∧At (Ty.nat (List.length l)) t1 a4 (.tmp 11)∧(k ≤ l.length)∧n1 = l.length - k) (l.length - (0)) ?_ ?_
 ·
  exact ⟨s3,0,rfl,(((F0.step0 D1.stp).step0 D2.stp).step0 D3.stp),ok3,(cJ (D3.m 2 rfl)),(cvt (by (rfl)) (D3.k (D2.k q1))),(cvo (by (simp [fromTo_zero])) (by (simp [fromTo_zero])) q7),(D3.m 0 rfl),(D3.m 1 rfl),by omega,rfl⟩
 ·
  rintro n2 a5 w2 ⟨t2,k,rfl,F4,ok4,q11,q12,q13,q14,q15,hk,rfl⟩
  have hcl:=curL_len hok k hk
  have hfl:=fromTo_len r l k
  refine Jb ?_
  refine gI a5 t2 ok4 (gS rfl (fun A B E G H=>rP (JL (kp (H 12 rfl) E q11) (kp (H 11 rfl) E q15))) (gE ok4 fun a6 s4 ok5 D4=>?_));have F5:=F4.step0 D4.stp;have q16:=D4.k q11
  have q18:(Pr.own 2 26 1 (List.length (JZ r l k)) (List.map Ty.ints (JZ r l k))).has s4 (a6.eval (.tmp 5)):=D4.ko q13 rfl
  have q19:=D4.k q14;refine tn (Jb ?_)
  refine Jm (p:=(((k:Nat):Int) < (((List.length l):Nat):Int))) (D4.m 0 rfl) (fun c1=>?_) (fun c1=>?_)
  ·
   have hokk:=hok k oM;rw [← hcl] at hokk;have hcc:=QB hokk;have hcd:=hcc.symm;have hcl0:(KH r l k).length ≤ 12:=oM;have hbd:∀ i,i < (Jo (KH r l k).length (l.getD k [])).length → 0 ≤ (Jo (KH r l k).length (l.getD k [])).getD i 0∧(Jo (KH r l k).length (l.getD k [])).getD i 0 < ((KH r l k).length:Int):=(fun i hi=>chgRow_bd hokk hi)
   refine Ji (tn (Jb (Je (Jb ?_))))
   refine gI a6 s4 ok5 (gT (Ty.ref [(Ty.lst Ty.int (l.getD k []))]) rfl (fun A B E G H=>rP (JM Try.underlying22 Try.inf26 (kp (H 10 rfl) E q19) (kp (H 12 rfl) E q16) oM (JJ Ty.ints l [] k oM))) (gS rfl (fun A B E G H d0=>rP (JD Try.underlying26 rfl (eI d0) rfl)) (gB 0 (gE ok5 fun a7 s5 ok6 D5=>?_))));have q23:=D5.k (D4.k q12)
   have q24:(Pr.own 2 26 1 (List.length (JZ r l k)) (List.map Ty.ints (JZ r l k))).has s5 (a7.eval (.tmp 5)):=D5.ko q18 rfl
   refine tn (Jb ?_)
   refine gI a7 s5 ok6 (gM q23 (gM q23 (gS rfl (fun A B E G H d0=>rP (JE Try.underlying26 (eI d0))) (gM (D5.m 2 rfl) (gS rfl (fun A B E G H d0 d1=>rP (Jw _ Try.func24 rfl rfl my2 (pChange_fn ((List.length (KH r l k))) ((l.getD k [])) _ _ _ (eI d0) (eI d1) oX oX))) (gS rfl (fun A B E G H d0 d1 d2=>rP (Jw _ Try.func71 rfl rfl my2 (product_fn ((KH r l k)) ((Jo ((List.length (KH r l k))) ((l.getD k [])))) _ _ _ (eI d0) (eI d1) (by first | assumption | omega) (by first | assumption | omega) (by first | assumption | omega)))) (gB 0 (gE ok6 fun a8 s6 ok7 D6=>?_))))))))
   have q29:(Pr.own 2 26 1 (List.length (JZ r l k)) (List.map Ty.ints (JZ r l k))).has s6 (a8.eval (.tmp 5)):=D6.ko q24 rfl
   have q32:=D6.m 6 rfl;refine tn ?_
   refine gI a8 s6 ok7 (gT (Ty.val (a8.eval (.tmp 5))) rfl (fun A B E G H=>rP (Jc (H 5 rfl))) (gM q32 (gT (Ty.sl 1 1 [(Ty.lst Ty.int (byL ((KH r l k)) ((Jo ((List.length (KH r l k))) ((l.getD k []))))))]) rfl (fun A B E G H d0=>rP (Qs Try.underlying22 Try.inf26 rfl (KZ) (eI d0))) (gE2 ok7 fun a9 s7 ok8 D7=>?_))));have q33:=(Pr.own 2 26 1 (List.length (JZ r l k)) (List.map Ty.ints (JZ r l k))).up D7.stp q29
   have q35:a9.eval (.tmp 5) = a8.eval (.tmp 5):=D7.same 5 rfl
   have q40:=D7.m 2 rfl
   refine Qf (m:=2) (R:=(fun v τ=>Own τ 2 26 1 v ((List.length (JZ r l k)) + 1) ((List.map Ty.ints (JZ r l k)) ++ [(Ty.lst Ty.int (byL ((KH r l k)) ((Jo ((List.length (KH r l k))) ((l.getD k []))))))]))) rfl rfl dE ok8 (Qg Try.underlying22 Try.inf26 dE rfl dE (al (D7.m 0 rfl) q33) q40 (by intro U hU;simp at hU;  subst hU;exact KZ) oM oM) (fun a10 s8 hs1 ok9 r1 sm1=>?_)
   have F9:=(((F5.step0 D5.stp).step0 D6.stp).step0 D7.stp).step hs1 dE
   have q41:At (Ty.nat k) s8 a10 (.tmp 12):=kpm hs1 dE (sm1 12 dE) (D7.k (D6.k (D5.k q16)))
   have q42:At (Ty.lst Ty.ints l) s8 a10 (.tmp 10):=kpm hs1 dE (sm1 10 dE) (D7.k (D6.k (D5.k q19)))
   have q43:At (Ty.nat (List.length l)) s8 a10 (.tmp 11):=kpm hs1 dE (sm1 11 dE) (D7.k (D6.k (D5.k (D4.k q15))))
   have q44:At (Ty.lst Ty.int (byL ((KH r l k)) ((Jo ((List.length (KH r l k))) ((l.getD k [])))))) s8 a10 (.tmp 0):=kpm hs1 dE (sm1 0 dE) (D7.k q32)
   have q45:At (Ty.sl 1 1 [(Ty.lst Ty.int (byL ((KH r l k)) ((Jo ((List.length (KH r l k))) ((l.getD k []))))))]) s8 a10 (.tmp 24):=kpm hs1 dE (sm1 24 dE) q40
   have q46:(Pr.own 2 26 1 (List.length ((JZ r l k) ++ [(byL ((KH r l k)) ((Jo ((List.length (KH r l k))) ((l.getD k [])))))])) (List.map Ty.ints ((JZ r l k) ++ [(byL ((KH r l k)) ((Jo ((List.length (KH r l k))) ((l.getD k [])))))]))).has s8 (a10.eval (.tmp 25)):=(cvo (by simp) (by first | (rw [List.map_append];rfl) | simp) r1)
   refine Qf (m:=0) (R:=(fun v τ=>Pr.has (Pr.own 2 26 1 (List.length ((JZ r l k) ++ [(byL ((KH r l k)) ((Jo ((List.length (KH r l k))) ((l.getD k [])))))])) (List.map Ty.ints ((JZ r l k) ++ [(byL ((KH r l k)) ((Jo ((List.length (KH r l k))) ((l.getD k [])))))]))) τ v)) rfl rfl dE ok9 (Yld.toM (KX q46)) (fun a11 s9 hs2 ok10 r2 sm2=>?_)
   have F10:=F9.step hs2 dE
   have q47:At (Ty.nat k) s9 a11 (.tmp 12):=kpm hs2 dE (sm2 12 dE) q41
   have q48:At (Ty.lst Ty.ints l) s9 a11 (.tmp 10):=kpm hs2 dE (sm2 10 dE) q42
   have q49:At (Ty.nat (List.length l)) s9 a11 (.tmp 11):=kpm hs2 dE (sm2 11 dE) q43
   have q50:At (Ty.lst Ty.int (byL ((KH r l k)) ((Jo ((List.length (KH r l k))) ((l.getD k [])))))) s9 a11 (.tmp 0):=kpm hs2 dE (sm2 0 dE) q44
   have q51:At (Ty.sl 1 1 [(Ty.lst Ty.int (byL ((KH r l k)) ((Jo ((List.length (KH r l k))) ((l.getD k []))))))]) s9 a11 (.tmp 24):=kpm hs2 dE (sm2 24 dE) q45
   have q52:(Pr.own 2 26 1 (List.length ((JZ r l k) ++ [(byL ((KH r l k)) ((Jo ((List.length (KH r l k))) ((l.getD k [])))))])) (List.map Ty.ints ((JZ r l k) ++ [(byL ((KH r l k)) ((Jo ((List.length (KH r l k))) ((l.getD k [])))))]))).has s9 (a11.eval (.tmp 25)):=kpmo hs2 dE (.inl rfl) (sm2 25 dE) q46
   have q53:(Pr.own 2 26 1 (List.length ((JZ r l k) ++ [(byL ((KH r l k)) ((Jo ((List.length (KH r l k))) ((l.getD k [])))))])) (List.map Ty.ints ((JZ r l k) ++ [(byL ((KH r l k)) ((Jo ((List.length (KH r l k))) ((l.getD k [])))))]))).has s9 (a11.eval (.tmp 5)):=r2
   refine Jh (bn (tn ?_))
   refine gI a11 s9 ok10 (gT (Ty.int (((k:Nat):Int) + (1:Int))) rfl (fun A B E G H=>rP (Jy (kp (H 12 rfl) E q47) rfl wX)) (gS rfl (fun A B E G H d0=>rP (Jc (eI d0))) (gE ok10 fun a12 s10 ok11 D8=>?_)))
   have q57:(Pr.own 2 26 1 (List.length ((JZ r l k) ++ [(byL ((KH r l k)) ((Jo ((List.length (KH r l k))) ((l.getD k [])))))])) (List.map Ty.ints ((JZ r l k) ++ [(byL ((KH r l k)) ((Jo ((List.length (KH r l k))) ((l.getD k [])))))]))).has s10 (a12.eval (.tmp 5)):=D8.ko q53 rfl
   exact tn ⟨l.length - ((k+1)),by omega,s10,(k+1),rfl,(F10.step0 D8.stp),ok11,(cJ (D8.m 1 rfl)),(cvt (by (rw [curL_succ r l k oM])) (D8.k q50)),(cvo (by (rw [fromTo_succ,curL_succ r l k oM])) (by (rw [fromTo_succ,curL_succ r l k oM])) q57),(D8.k q48),(D8.k q49),by omega,rfl⟩
  ·
   refine Jx (tx (tx (bx (tn (Jb ?_)))))
   refine gI a6 s4 ok5 (gT (Ty.val (a6.eval (.tmp 5))) rfl (fun A B E G H=>rP (Jc (H 5 rfl))) (gB 0 (gE ok5 fun a13 s11 ok12 D9=>?_)))
   have q59:(Pr.own 2 26 1 (List.length (JZ r l k)) (List.map Ty.ints (JZ r l k))).has s11 (a13.eval (.tmp 4)):=al (show _ = _ from D9.done 1) ((Pr.own 2 26 1 (List.length (JZ r l k)) (List.map Ty.ints (JZ r l k))).up D9.stp q18)
   refine tn (Jj ?_)
   obtain ⟨t3,e1,h1,q60⟩:=Own.seal q59 dE
   rw [← e1]
   have F13:=(F5.step0 D9.stp).step h1 dE
   exact QT rfl ok12 F13 (cvt (by (obtain rfl:k = l.length:=oM;rfl)) q60)
set_option maxHeartbeats 4000000 in
set_option maxRecDepth 100000 in
theorem callRows_fn (nm:ByteArray) (n:Int) (l:List (List Int)) (cs:List JF) (leads:List Int) (σ:GW)  (v0 v1 v2:Value) (hv0:Ty.has (Ty.agg [(Ty.val (Value.string nm)),(Ty.int n),(Ty.lst Ty.ints l)]) σ v0) (hv1:Ty.has (Ty.lstc 2 Kz cs) σ v1) (hv2:Ty.has (Ty.lst Ty.int leads) σ v2)  (hnm:nm.size ≤ 1099511627776) (hn:-9223372036854775808 ≤ n∧n ≤ 9223372036854775807) :
    FnC J 20 #[v0,v1,v2] σ (Ty.tup2 (Ty.lst Ty.ints (if JY nm n l cs leads = 0 then (JT n.toNat l cs leads leads.length) else [])) (Ty.int (JY nm n l cs leads))):=by
 refine KQ Try.func20 rfl Try.ntmps20 (Xj rfl) (fun s0 a0 hle F0 ok0 hargs=>?_)
 have p0:=pA hle (hargs 0 _ rfl) hv0
 have p1:=pA hle (hargs 1 _ rfl) hv1
 have b1:=Ke p1
 have p2:=pA hle (hargs 2 _ rfl) hv2
 have b2:=Ke p2
 clear hargs;refine Jb ?_
 refine gI a0 s0 ok0 (gS rfl (fun A B G H I=>rP (y_boxagg (kp (I 0 rfl) G p0))) (gC (Ty.val (Value.slice none 0 0)) (gC (Ty.int (0:Int)) (gE ok0 fun a1 s1 ok1 D1=>?_))));have q1:=D1.k p1;have q2:=D1.k p2;have q3:=D1.m 0 rfl;refine tn (Jb (Jb ?_))
 refine gI a1 s1 ok1 (gS rfl (fun A B G H I=>rP (Qr Try.underlying24 Try.inf24 (kp (I 3 rfl) G q3))) (gM q1 (gM q2 (gS rfl (fun A B G H I d0 d1 d2=>rP (Jw _ Try.func22 rfl rfl my3 (callMay_fn (nm) (n) (l) (cs) (leads) _ _ _ _ (eI d0) (eI d1) (eI d2) oX oX))) (gB 0 (gE ok1 fun a2 s2 ok2 D2=>?_))))));have q7:=D2.m 4 rfl;refine tn (Jb ?_)
 refine gI a2 s2 ok2 (gM q7 (gS rfl (fun A B G H I d0=>rP (QH (eI d0) rfl)) (gE ok2 fun a3 s3 ok3 D3=>?_)));have F3:=((F0.step0 D1.stp).step0 D2.stp).step0 D3.stp;have q10:=D3.k (D2.k q3);refine tn ?_
 refine Jm (p:=((JY nm n l cs leads) ≠ (0:Int))) (D3.m 1 rfl) (fun c1=>?_) (fun c1=>?_)
 ·
  refine Jb ?_
  refine gI a3 s3 ok3 (gM (D3.k q7) (gC (Ty.val (Value.slice none 0 0)) (gB 0 (gE ok3 fun a4 s4 ok4 D4=>?_))));refine tn (Jj (tr ?_))
  exact retL2 rfl ok4 (F3.step0 D4.stp) (hasT2 (nil_lst (by (rw [if_neg c1])) (D4.m 1 rfl)) (D4.m 2 rfl))
 ·
  have h0:=Classical.not_not.1 c1;obtain ⟨hok,hnn,hlo,hlh,hin,hlim⟩:=touchMay_ok h0;have hl1:=hok.meth.l1;have hl2:=hok.meth.l2;have hn1:=hok.meth.n1;have hn2:=hok.meth.n2
  refine Ji (tn (Jb ?_))
  refine gI a3 s3 ok3 (gS rfl (fun A B G H I=>rP (KU Try.fld24_1 Try.inf3 dE (kp (I 3 rfl) G q10) rfl)) (gS rfl (fun A B G H I d0=>rP (JD Try.underlying3 rfl (eI d0) rfl)) (gS rfl (fun A B G H I d0=>rP (Jw _ Try.func39 rfl rfl my1 (rounds_fn ((n).toNat) _ _ (cvi (σ:=B) oM (ef d0 rfl)) oM))) (gS rfl (fun A B G H I d0=>rP (Jc (eI d0))) (gT (Ty.lst Ty.int (Qx ((n).toNat))) rfl (fun A B G H I d0=>rP (y_ext2_0 (eI d0))) (gT (Ty.int (0:Int)) rfl (fun A B G H I d0 d1=>rP (y_ext2_1 (eI d0))) (gB 0 (gB 0 (gE ok3 fun a5 s5 ok5 D5=>?_)))))))));refine tn (Jb ?_)
  refine gI a5 s5 ok5 (gM (D5.m 6 rfl) (gR (Pr.own 5 26 1 1 (List.map Ty.ints [(Qx ((n).toNat))])) rfl (by intro A B G H I d0;exact rP ((y_lit1 (k:=5) Try.underlying22 Try.inf26 rfl (KZ) (eI d0)).mono (fun _ _ h=>cvo (by simp) (by first | (simp;done) | rfl) h))) (gE2 ok5 fun a6 s6 ok6 D6=>?_)))
  obtain ⟨x1,hx1⟩:∃ x,a6.eval (.tmp 28) = x:=⟨_,rfl⟩
  have q22:At (Ty.val x1) s6 a6 (.tmp 28):=hx1
  have o1:=al2 (R:=(Pr.own 5 26 1 1 (List.map Ty.ints [(Qx ((n).toNat))]))) hx1 (D6.done 1 dE)
  refine tL ok6 (Yld.toL (y_as q22)) fun a7 s7 hs1 ok7 r1 sm1=>?_
  have q26:At (Ty.val x1) s7 a7 (.tmp 11):=r1
  clear r1;refine Jh (tn (Jb (Jb ?_)))
  refine gI a7 s7 ok7 (gM (kq hs1 sm1 2 (D6.k (D5.k (D3.k (D2.k q2))))) (gS rfl (fun A B G H I d0=>rP (JE Try.underlying26 (eI d0))) (gT (Ty.int (0:Int)) rfl (fun A B G H I=>rP (Jc rfl)) (gE ok7 fun a8 s8 ok8 D7=>?_))));have o3:=Own.k0 (Own.kl o1 hs1) D7.stp;refine tn (Je ?_)
  refine KB (fun n1 a9 w1=>∃ (t1:GW) (k:Nat) (x11_0:Value),t1.w = w1∧FromL [] s0 t1∧Ok 53 [] a9∧At (Ty.nat k) t1 a9 (.tmp 31)∧At (Ty.val x11_0) t1 a9 (.tmp 11)∧At (Ty.lstc 2 Kz cs) t1 a9 (.tmp 1)∧At (Ty.ref [(Ty.val (Value.string nm)),(Ty.int n),(Ty.lst Ty.ints l)]) t1 a9 (.tmp 3)∧At (Ty.lst Ty.int leads) t1 a9 (.tmp 29)∧At (Ty.nat (List.length leads)) t1 a9 (.tmp 30)∧Own t1 5 26 1 x11_0 (List.length (JT n.toNat l cs leads k)) (List.map Ty.ints (JT n.toNat l cs leads k))∧(k ≤ leads.length)∧n1 = leads.length - k) (leads.length - (0)) ?_ ?_
  ·
   exact ⟨s8,0,x1,rfl,((((F3.step0 D5.stp).step0 D6.stp).sl hs1).step0 D7.stp),ok8,(cJ (D7.m 2 rfl)),(D7.k q26),(D7.k (kq hs1 sm1 1 (D6.k (D5.k (D3.k (D2.k q1)))))),(D7.k (kq hs1 sm1 3 (D6.k (D5.k q10)))),(D7.m 0 rfl),(D7.m 1 rfl),(cvo (by (rfl)) (by (rfl)) o3),by omega,rfl⟩
  ·
   rintro n2 a10 w2 ⟨t2,k,x11_0,rfl,F9,ok9,q33,q34,q35,q36,q37,q38,o4,hk,rfl⟩
   have htl:=Qu hok hin k hk
   refine Jb ?_
   refine gI a10 t2 ok9 (gS rfl (fun A B G H I=>rP (JL (kp (I 31 rfl) G q33) (kp (I 30 rfl) G q38))) (gE ok9 fun a11 s9 ok10 D8=>?_));have F10:=F9.step0 D8.stp;have q39:=D8.k q33;have q40:=D8.k q34;have q43:=D8.k q37;have o5:=Own.k0 o4 D8.stp;refine tn (Jb ?_)
   refine Jm (p:=(((k:Nat):Int) < (((List.length leads):Nat):Int))) (D8.m 0 rfl) (fun c2=>?_) (fun c2=>?_)
   ·
    have hkl:k < leads.length:=oM;obtain ⟨hk0,hkc⟩:=hin k hkl;obtain ⟨E,hE⟩:∃ E,E = leadE l cs leads k:=⟨_,rfl⟩;have hsh:=hok.short (leads.getD k 0).toNat oM;obtain ⟨hHr,hHl⟩:=tHd_row hok hin k oM;have hR:((JT n.toNat l cs leads k).getD ((((((JT n.toNat l cs leads k).length:Nat):Int) - (1:Int))).toNat) []) = tHd n.toNat l cs leads k:=(by rw [htl,show ((((k * l.length + 1:Nat):Int) - (1:Int))).toNat = k * l.length by omega];exact tRows_last hok hin k oM);have hRl:((JT n.toNat l cs leads k).getD ((((((JT n.toNat l cs leads k).length:Nat):Int) - (1:Int))).toNat) []).length = n.toNat:=(by rw [hR,hHl]);have hokE:∀ j,j < E.length → okL 0 (E.getD j []) ((JT n.toNat l cs leads k).getD ((((((JT n.toNat l cs leads k).length:Nat):Int) - (1:Int))).toNat) []).length:=(by rw [hRl,hE];exact leadE_ok hok hin hkl);have hEl:E.length = l.length:=(by rw [hE];exact Qv hok hin hkl);have hfl:=fromL_len (tHd n.toNat l cs leads k) E;have hfd:((fromL (tHd n.toNat l cs leads k) E).drop 1).length = E.length:=(by rw [List.length_drop,hfl];omega);have hkm:k * l.length ≤ 400 * 200:=Nat.mul_le_mul oM hl2
    refine Ji (tn (Jb (Je (Jb ?_))))
    refine gI a11 s9 ok10 (gT (Ty.ref [(Ty.int (leads.getD k 0))]) rfl (fun A B G H I=>rP (JM Try.underlying26 Try.inf3 (kp (I 29 rfl) G q43) (kp (I 31 rfl) G q39) oM (JJ Ty.int leads 0 k oM))) (gS rfl (fun A B G H I d0=>rP (JD Try.underlying3 rfl (eI d0) rfl)) (gB 0 (gE ok10 fun a12 s10 ok11 D9=>?_))));have q47:=D9.k q40;have q48:=D9.k (D8.k q35);have q49:=D9.k (D8.k q36);have o6:=Own.k0 o5 D9.stp;refine tn ?_
    refine gI a12 s10 ok11 (gM q47 (gM q47 (gM q47 (gT (Ty.nat (List.length (JT n.toNat l cs leads k))) rfl (fun A B G H I d0=>rP (own_len Try.underlying22 (al (R:=(Pr.own 5 26 1 (List.length (JT n.toNat l cs leads k)) (List.map Ty.ints (JT n.toNat l cs leads k)))) (eI d0) (Own.k0 o6 G)))) (gT (Ty.int ((((List.length (JT n.toNat l cs leads k)):Nat):Int) - (1:Int))) rfl (fun A B G H I d0=>rP (y_sub (eI d0) rfl wX)) (gT (Ty.val (JV x11_0 (((((List.length (JT n.toNat l cs leads k)):Nat):Int) - (1:Int))).toNat)) rfl (fun A B G H I d0 d1=>rP (Kv (i:=((((List.length (JT n.toNat l cs leads k)):Nat):Int) - (1:Int))) Try.underlying22 Try.inf26 (Own.k0 o6 G) (eI d0) (eI d1) oM oM)) (gS rfl (fun A B G H I d0=>rP (own_load Try.underlying26 rfl (Own.k0 o6 G) (eI d0) (JJ Ty.ints (JT n.toNat l cs leads k) [] (((((List.length (JT n.toNat l cs leads k)):Nat):Int) - (1:Int))).toNat oM))) (gS rfl (fun A B G H I=>rP (Qr Try.underlying24 Try.inf24 (kp (I 3 rfl) G q49))) (gM q48 (gM (D9.m 2 rfl) (gT (Ty.ref [(Ty.val (Value.int .i32 ((cs.getD ((leads.getD k 0)).toNat D0)).1)),(Ty.lst Ty.ints ((cs.getD ((leads.getD k 0)).toNat D0)).2)]) rfl (fun A B G H I d0 d1=>rP (y_indexc (i:=(leads.getD k 0)) D0 Try.underlying25 Try.inf51 (eI d0) (eI d1) oM oM dE (fun _=>rfl))) (gS rfl (fun A B G H I d0=>rP (Qr Try.underlying51 Try.inf51 (eI d0))) ?_))))))))))))
    refine gT (Ty.lst Ty.ints E) rfl (fun A B G H I d0 d1=>rP ((Jw _ Try.func23 rfl rfl my2 (changes_fn (nm) (n) (l) (((cs.getD ((leads.getD k 0)).toNat D0)).1) (((cs.getD ((leads.getD k 0)).toNat D0)).2) _ _ _ (eI d0) (eI d1) oX oX oX)).mono (fun τ _ h=>cvt (σ:=τ) (T:=(Ty.lst Ty.ints (endsL l ((((cs.getD ((leads.getD k 0)).toNat D0)).1),(((cs.getD ((leads.getD k 0)).toNat D0)).2))))) (U:=(Ty.lst Ty.ints E)) (by rw [hE];rfl) h))) (gT (Ty.lst Ty.ints (fromL (tHd n.toNat l cs leads k) E)) rfl (fun A B G H I d0 d1 d2=>rP ((Jw _ Try.func40 rfl rfl my2 (from_fn (((JT n.toNat l cs leads k).getD (((((List.length (JT n.toNat l cs leads k)):Nat):Int) - (1:Int))).toNat [])) (E) _ _ _ (eI d0) (eI d1) oX oX oX)).mono (fun τ _ h=>cvt (σ:=τ) (T:=(Ty.lst Ty.ints (fromL (((JT n.toNat l cs leads k).getD (((((List.length (JT n.toNat l cs leads k)):Nat):Int) - (1:Int))).toNat [])) (E)))) (U:=(Ty.lst Ty.ints (fromL (tHd n.toNat l cs leads k) E))) (by rw [hR]) h))) (gT (Ty.lst Ty.ints ((fromL (tHd n.toNat l cs leads k) E).drop 1)) rfl (fun A B G H I d0=>rP (y_drop Try.underlying22 Try.inf26 (eI d0) (toN (σ:=B) rfl oM) oM)) (gE2 ok11 fun a13 s11 ok12 D10=>?_)));have o7:=Own.k0 o6 D10.stp
    have q59:At (Ty.val x11_0) s11 a13 (.tmp 35):=D10.done 0 dE
    have q60:=D10.m 14 rfl
    have b3:=Ke q60
    refine tL ok12 (YldM.toL (Qg Try.underlying22 Try.inf26 dE rfl dE (al (R:=(Pr.own 5 26 1 (List.length (JT n.toNat l cs leads k)) (List.map Ty.ints (JT n.toNat l cs leads k)))) q59 o7) q60 (one_map (fun _=>KZ)) oM oM)) fun a14 s12 hs2 ok13 r2 sm2=>?_
    have q62:=kq hs2 sm2 11 (D10.k q47)
    obtain ⟨x2,hx2⟩:∃ x,a14.eval (.tmp 50) = x:=⟨_,rfl⟩
    have q67:At (Ty.val x2) s12 a14 (.tmp 50):=hx2
    have o8:=al2 (R:=(Pr.own 5 26 1 (List.length ((JT n.toNat l cs leads k) ++ ((fromL (tHd n.toNat l cs leads k) E).drop 1))) (List.map Ty.ints ((JT n.toNat l cs leads k) ++ ((fromL (tHd n.toNat l cs leads k) E).drop 1))))) hx2 (cvo (by simp) (by first | (rw [List.map_append];rfl) | simp) r2)
    clear r2
    refine tL ok13 (Yld.toL (y_as q67)) fun a15 s13 hs3 ok14 r3 sm3=>?_
    have q73:At (Ty.val x2) s13 a15 (.tmp 11):=r3
    clear r3;refine Jh (bn (tn ?_))
    refine gI a15 s13 ok14 (gT (Ty.nat (k + 1)) rfl (fun A B G H I=>rP ((Jy (kp (I 31 rfl) G (kq hs3 sm3 31 (kq hs2 sm2 31 (D10.k (D9.k q39))))) rfl wX).mono (fun τ _ h=>cN (σ:=τ) h))) (gS rfl (fun A B G H I d0=>rP (Jc (eI d0))) (gE ok14 fun a16 s14 ok15 D11=>?_)));have o10:=Own.k0 (Own.kl o8 hs3) D11.stp
    exact tn ⟨leads.length - ((k+1)),by omega,s14,(k+1),x2,rfl,(((((F10.step0 D9.stp).step0 D10.stp).sl hs2).sl hs3).step0 D11.stp),ok15,(cJ (D11.m 1 rfl)),(D11.k q73),(D11.k (kq hs3 sm3 1 (kq hs2 sm2 1 (D10.k q48)))),(D11.k (kq hs3 sm3 3 (kq hs2 sm2 3 (D10.k q49)))),(D11.k (kq hs3 sm3 29 (kq hs2 sm2 29 (D10.k (D9.k q43))))),(D11.k (kq hs3 sm3 30 (kq hs2 sm2 30 (D10.k (D9.k (D8.k q38)))))),(cvo (by (rw [JT,← hE])) (by (rw [JT,← hE])) o10),by omega,rfl⟩
   ·
    refine Jx (tx (tx (bx (tn (Jb ?_)))))
    refine gI a11 s9 ok10 (gM q40 (gB 0 (gC (Ty.int (0:Int)) (gE ok10 fun a17 s15 ok16 D12=>?_))));have o11:=Own.k0 o5 D12.stp
    have q80:At (Ty.val x11_0) s15 a17 (.tmp 6):=D12.done 1
    refine tn (Jj ?_)
    obtain ⟨t3,e1,h1,q82⟩:=Own.seal o11 dE
    rw [← e1]
    have F17:=(F10.step0 D12.stp).step h1 dE
    have q83:At (Ty.lst Ty.ints (JT n.toNat l cs leads k)) t3 a17 (.tmp 6):=by have e:a17.eval (.tmp 6) = x11_0:=q80;show Ty.has _ _ _;rw [e];exact q82
    have q84:=Ty.up (Ty.int (0:Int)) (h1.le dE) (D12.m 2 rfl)
    exact retL2 rfl ok16 F17 (hasT2 (cvt (by (rw [if_pos h0,show k = leads.length by omega])) q83) (cvi (by (exact h0.symm)) q84))
set_option maxRecDepth 100000 in
theorem rsame_fn (xs:List Int) (ys:List Int) (σ:GW) (v0 v1:Value) (hv0:Ty.has (Ty.lst Ty.int xs) σ v0) (hv1:Ty.has (Ty.lst Ty.int ys) σ v1)  :
    FnC J 13 #[v0,v1] σ (Ty.bool (decide (xs = ys))):=by
 refine Kw Try.func13 rfl Try.ntmps13 (Xj rfl) (fun s0 a0 hle F0 ok0 hargs=>?_)
 have p0:=pA hle (hargs 0 _ rfl) hv0
 have b1:=Ke p0
 have p1:=pA hle (hargs 1 _ rfl) hv1
 have b2:=Ke p1
 clear hargs;refine Jb ?_
 refine gI a0 s0 ok0 (gC (Ty.bool false) (gE ok0 fun a1 s1 ok1 D1=>?_));have q1:=D1.k p0;have q2:=D1.k p1;refine tn (Jb (Jb ?_))
 refine gI a1 s1 ok1 (gM q1 (gS rfl (fun A B E G H d0=>rP (JE Try.underlying26 (eI d0))) (gM q2 (gS rfl (fun A B E G H d0=>rP (JE Try.underlying26 (eI d0))) (gS rfl (fun A B E G H d0 d1=>rP (QH (eI d0) (eI d1))) (gE ok1 fun a2 s2 ok2 D2=>?_))))));have F2:=(F0.step0 D1.stp).step0 D2.stp;refine tn ?_
 refine Jm (p:=((((List.length xs):Nat):Int) ≠ (((List.length ys):Nat):Int))) (D2.m 4 rfl) (fun c1=>?_) (fun c1=>?_)
 ·
  refine Jb ?_
  refine gI a2 s2 ok2 (gC (Ty.bool false) (gE ok2 fun a3 s3 ok3 D3=>?_));refine tn (Jj (tr ?_))
  exact QT rfl ok3 (F2.step0 D3.stp) (cvb (by (rw [decide_eq_false];intro e;subst e;omega)) (D3.m 0 rfl))
 ·
  refine Ji (tn (Jb (Jb ?_)))
  refine gI a2 s2 ok2 (gC (Ty.int (0:Int)) (gE ok2 fun a4 s4 ok4 D4=>?_));refine tn (Je ?_)
  refine KB (fun n1 a5 w1=>∃ (t1:GW) (k:Nat),t1.w = w1∧From s0 t1∧Ok 26 [] a5∧At (Ty.nat k) t1 a5 (.tmp 5)∧At (Ty.lst Ty.int xs) t1 a5 (.tmp 0)∧At (Ty.lst Ty.int ys) t1 a5 (.tmp 1)∧(k ≤ xs.length)∧(xs.length = ys.length)∧(∀ j,j < k → xs.getD j 0 = ys.getD j 0)∧n1 = xs.length - k) (xs.length - (0)) ?_ ?_
  ·
   exact ⟨s4,0,rfl,(F2.step0 D4.stp),ok4,(cJ (D4.m 0 rfl)),(D4.k (D2.k q1)),(D4.k (D2.k q2)),by omega,by omega,fun j hj=>absurd hj (Nat.not_lt_zero j),rfl⟩
  ·
   rintro n2 a6 w2 ⟨t2,k,rfl,F5,ok5,q10,q11,q12,hk,hl,heq,rfl⟩
   refine Jb (Jb ?_)
   refine gI a6 t2 ok5 (gM q10 (gM q11 (gS rfl (fun A B E G H d0=>rP (JE Try.underlying26 (eI d0))) (gS rfl (fun A B E G H d0 d1=>rP (JL (eI d0) (eI d1))) (gE ok5 fun a7 s5 ok6 D5=>?_)))));have F6:=F5.step0 D5.stp;have q13:=D5.k q10;have q14:=D5.k q11;have q15:=D5.k q12;refine tn ?_
   refine Jm (p:=(((k:Nat):Int) < (((List.length xs):Nat):Int))) (D5.m 3 rfl) (fun c2=>?_) (fun c2=>?_)
   ·
    refine Ji (tn (Jb (Je (Jb ?_))))
    refine gI a7 s5 ok6 (gM q14 (gM q13 (gT (Ty.ref [(Ty.int (xs.getD k 0))]) rfl (fun A B E G H d0 d1=>rP (JM Try.underlying26 Try.inf3 (eI d0) (eI d1) oM (JJ Ty.int xs 0 k oM))) (gS rfl (fun A B E G H d0=>rP (JD Try.underlying3 rfl (eI d0) rfl)) (gM q15 (gM q13 (gT (Ty.ref [(Ty.int (ys.getD k 0))]) rfl (fun A B E G H d0 d1=>rP (JM Try.underlying26 Try.inf3 (eI d0) (eI d1) oM (JJ Ty.int ys 0 k oM))) (gS rfl (fun A B E G H d0=>rP (JD Try.underlying3 rfl (eI d0) rfl)) (gS rfl (fun A B E G H d0 d1=>rP (QH (eI d0) (eI d1))) (gE ok6 fun a8 s6 ok7 D6=>?_))))))))));have F7:=F6.step0 D6.stp;refine tn ?_
    refine Jm (p:=((xs.getD k 0) ≠ (ys.getD k 0))) (D6.m 8 rfl) (fun c3=>?_) (fun c3=>?_)
    ·
     refine Jb ?_
     refine gI a8 s6 ok7 (gC (Ty.bool false) (gE ok7 fun a9 s7 ok8 D7=>?_));refine tn (Jj (br (tr (tr (br (tr ?_))))))
     exact QT rfl ok8 (F7.step0 D7.stp) (cvb (by (exact (decide_eq_false (fun e=>by subst e;simp_all)).symm)) (D7.m 0 rfl))
    ·
     refine Ji (bn (tn ?_))
     refine gI a8 s6 ok7 (gM (D6.k q13) (gT (Ty.int (((k:Nat):Int) + (1:Int))) rfl (fun A B E G H d0=>rP (Jy (eI d0) rfl wX)) (gB 0 (gE ok7 fun a10 s8 ok9 D8=>?_))))
     exact tn ⟨xs.length - ((k+1)),by omega,s8,(k+1),rfl,(F7.step0 D8.stp),ok9,(cJ (D8.m 2 rfl)),(D8.k (D6.k q14)),(D8.k (D6.k q15)),by omega,by omega,all_snoc heq (by assumption),rfl⟩
   ·
    refine Jx (tx (tx (bx (tn (Jb ?_)))))
    refine gI a7 s5 ok6 (gC (Ty.bool true) (gE ok6 fun a11 s9 ok10 D9=>?_));refine tn (Jj ?_)
    exact QT rfl ok10 (F6.step0 D9.stp) (cvb (by (exact (decide_eq_true (list_ext oM (fun j hj=>heq j oM))).symm)) (D9.m 0 rfl))
set_option maxHeartbeats 4000000 in
set_option maxRecDepth 100000 in
theorem rSameAll_fn (a:List (List Int)) (b:List (List Int)) (σ:GW)  (v0 v1:Value) (hv0:Ty.has (Ty.lst Ty.ints a) σ v0) (hv1:Ty.has (Ty.lst Ty.ints b) σ v1)   :
    FnC J 11 #[v0,v1] σ (Ty.bool (decide (a = b))):=by
 refine KQ Try.func11 rfl Try.ntmps11 (Xj rfl) (fun s0 a0 hle F0 ok0 hargs=>?_)
 have p0:=pA hle (hargs 0 _ rfl) hv0
 have b1:=Ke p0
 have p1:=pA hle (hargs 1 _ rfl) hv1
 have b2:=Ke p1
 clear hargs;refine Jb ?_
 refine gI a0 s0 ok0 (gC (Ty.bool false) (gE ok0 fun a1 s1 ok1 D1=>?_));have q1:=D1.k p0;have q2:=D1.k p1;refine tn (Jb (Jb ?_))
 refine gI a1 s1 ok1 (gM q1 (gS rfl (fun A B E G H d0=>rP (JE Try.underlying22 (eI d0))) (gM q2 (gS rfl (fun A B E G H d0=>rP (JE Try.underlying22 (eI d0))) (gS rfl (fun A B E G H d0 d1=>rP (QH (eI d0) (eI d1))) (gE ok1 fun a2 s2 ok2 D2=>?_))))));have F2:=(F0.step0 D1.stp).step0 D2.stp;refine tn ?_
 refine Jm (p:=((((List.length a):Nat):Int) ≠ (((List.length b):Nat):Int))) (D2.m 4 rfl) (fun c1=>?_) (fun c1=>?_)
 ·
  refine Jb ?_
  refine gI a2 s2 ok2 (gC (Ty.bool false) (gE ok2 fun a3 s3 ok3 D3=>?_));refine tn (Jj (tr ?_))
  exact KP rfl ok3 (F2.step0 D3.stp) (cvb (by (rw [decide_eq_false];intro e;subst e;omega)) (D3.m 0 rfl))
 ·
  refine Ji (tn (Jb (Jb ?_)))
  refine gI a2 s2 ok2 (gC (Ty.int (0:Int)) (gE ok2 fun a4 s4 ok4 D4=>?_));refine tn (Je ?_)
  refine KB (fun n1 a5 w1=>∃ (t1:GW) (k:Nat),t1.w = w1∧FromL [] s0 t1∧Ok 29 [] a5∧At (Ty.nat k) t1 a5 (.tmp 5)∧At (Ty.lst Ty.ints a) t1 a5 (.tmp 0)∧At (Ty.lst Ty.ints b) t1 a5 (.tmp 1)∧(k ≤ a.length)∧(a.length = b.length)∧(∀ j,j < k → a.getD j [] = b.getD j [])∧n1 = a.length - k) (a.length - (0)) ?_ ?_
  ·
   exact ⟨s4,0,rfl,(F2.step0 D4.stp),ok4,(cJ (D4.m 0 rfl)),(D4.k (D2.k q1)),(D4.k (D2.k q2)),by omega,by omega,fun j hj=>absurd hj (Nat.not_lt_zero j),rfl⟩
  ·
   rintro n2 a6 w2 ⟨t2,k,rfl,F5,ok5,q10,q11,q12,hk,hl,heq,rfl⟩
   refine Jb (Jb ?_)
   refine gI a6 t2 ok5 (gM q10 (gM q11 (gS rfl (fun A B E G H d0=>rP (JE Try.underlying22 (eI d0))) (gS rfl (fun A B E G H d0 d1=>rP (JL (eI d0) (eI d1))) (gE ok5 fun a7 s5 ok6 D5=>?_)))));have F6:=F5.step0 D5.stp;have q13:=D5.k q10;have q14:=D5.k q11;have q15:=D5.k q12;refine tn ?_
   refine Jm (p:=(((k:Nat):Int) < (((List.length a):Nat):Int))) (D5.m 3 rfl) (fun c2=>?_) (fun c2=>?_)
   ·
    refine Ji (tn (Jb (Je (Jb ?_))))
    refine gI a7 s5 ok6 (gM q14 (gM q13 (gT (Ty.ref [(Ty.lst Ty.int (a.getD k []))]) rfl (fun A B E G H d0 d1=>rP (JM Try.underlying22 Try.inf26 (eI d0) (eI d1) oM (JJ Ty.ints a [] k oM))) (gS rfl (fun A B E G H d0=>rP (JD Try.underlying26 rfl (eI d0) rfl)) (gM q15 (gM q13 (gT (Ty.ref [(Ty.lst Ty.int (b.getD k []))]) rfl (fun A B E G H d0 d1=>rP (JM Try.underlying22 Try.inf26 (eI d0) (eI d1) oM (JJ Ty.ints b [] k oM))) (gS rfl (fun A B E G H d0=>rP (JD Try.underlying26 rfl (eI d0) rfl)) (gS rfl (fun A B E G H d0 d1=>rP (Jw _ Try.func13 rfl rfl my2 (rsame_fn ((a.getD k [])) ((b.getD k [])) _ _ _ (eI d0) (eI d1) ))) (gB 0 (gE ok6 fun a8 s6 ok7 D6=>?_)))))))))));refine tn (Jb ?_)
    refine gI a8 s6 ok7 (gM (D6.m 9 rfl) (gS rfl (fun A B E G H d0=>rP (y_not (eI d0))) (gE ok7 fun a9 s7 ok8 D7=>?_)));have F8:=(F6.step0 D6.stp).step0 D7.stp;refine tn ?_
    refine KM (D7.m 1 rfl) (fun c3=>?_) (fun c3=>?_)
    ·
     refine Jb ?_
     refine gI a9 s7 ok8 (gC (Ty.bool false) (gE ok8 fun a10 s8 ok9 D8=>?_));refine tn (Jj (br (tr (tr (br (tr ?_))))))
     exact KP rfl ok9 (F8.step0 D8.stp) (cvb (by (exact (decide_eq_false (fun e=>by subst e;simp at c3)).symm)) (D8.m 0 rfl))
    ·
     refine Ji (bn (tn ?_))
     refine gI a9 s7 ok8 (gM (D7.k (D6.k q13)) (gT (Ty.int (((k:Nat):Int) + (1:Int))) rfl (fun A B E G H d0=>rP (Jy (eI d0) rfl wX)) (gB 0 (gE ok8 fun a11 s9 ok10 D9=>?_))))
     exact tn ⟨a.length - ((k+1)),by omega,s9,(k+1),rfl,(F8.step0 D9.stp),ok10,(cJ (D9.m 2 rfl)),(D9.k (D7.k (D6.k q14))),(D9.k (D7.k (D6.k q15))),by omega,by omega,all_snocs heq (by simpa using c3),rfl⟩
   ·
    refine Jx (tx (tx (bx (tn (Jb ?_)))))
    refine gI a7 s5 ok6 (gC (Ty.bool true) (gE ok6 fun a12 s10 ok11 D10=>?_));refine tn (Jj ?_)
    exact KP rfl ok11 (F6.step0 D10.stp) (cvb (by (exact (decide_eq_true (lists_ext oM (fun j hj=>heq j oM))).symm)) (D10.m 0 rfl))
set_option maxRecDepth 100000 in
theorem bsame_fn (xs:List Int) (ys:List Int) (σ:GW) (v0 v1:Value) (hv0:Ty.has (Ty.lst Ty.int xs) σ v0) (hv1:Ty.has (Ty.lst Ty.int ys) σ v1)  :
    FnC J 36 #[v0,v1] σ (Ty.bool (decide (xs = ys))):=by
 refine Kw Try.func36 rfl Try.ntmps36 (Xj rfl) (fun s0 a0 hle F0 ok0 hargs=>?_)
 have p0:=pA hle (hargs 0 _ rfl) hv0
 have b1:=Ke p0
 have p1:=pA hle (hargs 1 _ rfl) hv1
 have b2:=Ke p1
 clear hargs;refine Jb ?_
 refine gI a0 s0 ok0 (gC (Ty.bool false) (gE ok0 fun a1 s1 ok1 D1=>?_));have q1:=D1.k p0;have q2:=D1.k p1;refine tn (Jb (Jb ?_))
 refine gI a1 s1 ok1 (gM q1 (gS rfl (fun A B E G H d0=>rP (JE Try.underlying26 (eI d0))) (gM q2 (gS rfl (fun A B E G H d0=>rP (JE Try.underlying26 (eI d0))) (gS rfl (fun A B E G H d0 d1=>rP (QH (eI d0) (eI d1))) (gE ok1 fun a2 s2 ok2 D2=>?_))))));have F2:=(F0.step0 D1.stp).step0 D2.stp;have q3:=D2.k q1;refine tn ?_
 refine Jm (p:=((((List.length xs):Nat):Int) ≠ (((List.length ys):Nat):Int))) (D2.m 4 rfl) (fun c1=>?_) (fun c1=>?_)
 ·
  refine Jb ?_
  refine gI a2 s2 ok2 (gC (Ty.bool false) (gE ok2 fun a3 s3 ok3 D3=>?_));refine tn (Jj (tr ?_))
  exact QT rfl ok3 (F2.step0 D3.stp) (cvb (by (rw [decide_eq_false];intro e;subst e;omega)) (D3.m 0 rfl))
 ·
  refine Ji (tn (Jb (Jb ?_)))
  refine gI a2 s2 ok2 (gM q3 (gS rfl (fun A B E G H d0=>rP (JE Try.underlying26 (eI d0))) (gT (Ty.int (0:Int)) rfl (fun A B E G H=>rP (Jc rfl)) (gE ok2 fun a4 s4 ok4 D4=>?_))));refine tn (Je ?_)
  refine KB (fun n1 a5 w1=>∃ (t1:GW) (k:Nat),t1.w = w1∧From s0 t1∧Ok 26 [] a5∧At (Ty.nat k) t1 a5 (.tmp 13)∧At (Ty.lst Ty.int xs) t1 a5 (.tmp 0)∧At (Ty.lst Ty.int ys) t1 a5 (.tmp 1)∧At (Ty.nat (List.length xs)) t1 a5 (.tmp 12)∧(k ≤ xs.length)∧(xs.length = ys.length)∧(∀ j,j < k → xs.getD j 0 = ys.getD j 0)∧n1 = xs.length - k) (xs.length - (0)) ?_ ?_
  ·
   exact ⟨s4,0,rfl,(F2.step0 D4.stp),ok4,(cJ (D4.m 2 rfl)),(D4.k q3),(D4.k (D2.k q2)),(D4.m 1 rfl),by omega,by omega,fun j hj=>absurd hj (Nat.not_lt_zero j),rfl⟩
  ·
   rintro n2 a6 w2 ⟨t2,k,rfl,F5,ok5,q11,q12,q13,q14,hk,hl,heq,rfl⟩
   refine Jb ?_
   refine gI a6 t2 ok5 (gS rfl (fun A B E G H=>rP (JL (kp (H 13 rfl) E q11) (kp (H 12 rfl) E q14))) (gE ok5 fun a7 s5 ok6 D5=>?_));have F6:=F5.step0 D5.stp;have q15:=D5.k q11;refine tn (Jb ?_)
   refine Jm (p:=(((k:Nat):Int) < (((List.length xs):Nat):Int))) (D5.m 0 rfl) (fun c2=>?_) (fun c2=>?_)
   ·
    refine Ji (tn (Jb (Je (Jb ?_))))
    refine gI a7 s5 ok6 (gM q15 (gB 0 (gE ok6 fun a8 s6 ok7 D6=>?_)));have q21:=D6.k (D5.k q12);have q22:=D6.k (D5.k q13);have q24:=D6.m 1 rfl;refine tn (Jb ?_)
    refine gI a8 s6 ok7 (gM q21 (gM q24 (gT (Ty.ref [(Ty.int (xs.getD k 0))]) rfl (fun A B E G H d0 d1=>rP (JM Try.underlying26 Try.inf3 (eI d0) (eI d1) oM (JJ Ty.int xs 0 k oM))) (gS rfl (fun A B E G H d0=>rP (JD Try.underlying3 rfl (eI d0) rfl)) (gM q22 (gM q24 (gT (Ty.ref [(Ty.int (ys.getD k 0))]) rfl (fun A B E G H d0 d1=>rP (JM Try.underlying26 Try.inf3 (eI d0) (eI d1) oM (JJ Ty.int ys 0 k oM))) (gS rfl (fun A B E G H d0=>rP (JD Try.underlying3 rfl (eI d0) rfl)) (gS rfl (fun A B E G H d0 d1=>rP (QH (eI d0) (eI d1))) (gE ok7 fun a9 s7 ok8 D7=>?_))))))))));have F8:=(F6.step0 D6.stp).step0 D7.stp;refine tn ?_
    refine Jm (p:=((xs.getD k 0) ≠ (ys.getD k 0))) (D7.m 8 rfl) (fun c3=>?_) (fun c3=>?_)
    ·
     refine Jb ?_
     refine gI a9 s7 ok8 (gC (Ty.bool false) (gE ok8 fun a10 s8 ok9 D8=>?_));refine tn (Jj (br (tr (tr (br (tr ?_))))))
     exact QT rfl ok9 (F8.step0 D8.stp) (cvb (by (exact (decide_eq_false (fun e=>by subst e;simp_all)).symm)) (D8.m 0 rfl))
    ·
     refine Ji (bn (tn ?_))
     refine gI a9 s7 ok8 (gT (Ty.int (((k:Nat):Int) + (1:Int))) rfl (fun A B E G H=>rP (Jy (kp (H 13 rfl) E (D7.k (D6.k q15))) rfl wX)) (gS rfl (fun A B E G H d0=>rP (Jc (eI d0))) (gE ok8 fun a11 s9 ok10 D9=>?_)))
     exact tn ⟨xs.length - ((k+1)),by omega,s9,(k+1),rfl,(F8.step0 D9.stp),ok10,(cJ (D9.m 1 rfl)),(D9.k (D7.k q21)),(D9.k (D7.k q22)),(D9.k (D7.k (D6.k (D5.k q14)))),by omega,by omega,all_snoc heq (by assumption),rfl⟩
   ·
    refine Jx (tx (tx (bx (tn (Jb ?_)))))
    refine gI a7 s5 ok6 (gC (Ty.bool true) (gE ok6 fun a12 s10 ok11 D10=>?_));refine tn (Jj ?_)
    exact QT rfl ok11 (F6.step0 D10.stp) (cvb (by (exact (decide_eq_true (list_ext oM (fun j hj=>heq j oM))).symm)) (D10.m 0 rfl))
set_option maxRecDepth 100000 in
theorem bwrong_fn (a:List (List Int)) (b:List (List Int)) (σ:GW) (v0 v1:Value) (hv0:Ty.has (Ty.lst Ty.ints a) σ v0) (hv1:Ty.has (Ty.lst Ty.ints b) σ v1) (ha:a.length ≤ 17592186044416) :
    FnC J 14 #[v0,v1] σ (Ty.lst Ty.int (Jp a b a.length)):=by
 refine Kw Try.func14 rfl Try.ntmps14 (Xj rfl) (fun s0 a0 hle F0 ok0 hargs=>?_)
 have p0:=pA hle (hargs 0 _ rfl) hv0
 have b1:=Ke p0
 have p1:=pA hle (hargs 1 _ rfl) hv1
 have b2:=Ke p1
 clear hargs;refine Jb ?_
 refine gI a0 s0 ok0 (gC (Ty.val (Value.slice none 0 0)) (gE ok0 fun a1 s1 ok1 D1=>?_));refine tn (Jb ?_)
 refine gI a1 s1 ok1 (gC (Ty.val (Value.slice none 0 0)) (gE ok1 fun a2 s2 ok2 D2=>?_));have q3:=D2.k (D1.k p0);refine tn (Jb (Jb ?_))
 refine gI a2 s2 ok2 (gM q3 (gS rfl (fun A B E G H d0=>rP (JE Try.underlying22 (eI d0))) (gT (Ty.int (0:Int)) rfl (fun A B E G H=>rP (Jc rfl)) (gE ok2 fun a3 s3 ok3 D3=>?_))));refine tn (Je ?_)
 refine KB (fun n1 a4 w1=>∃ (t1:GW) (k:Nat),t1.w = w1∧From s0 t1∧Ok 34 [] a4∧(Pr.own 2 3 1 (List.length (Jp a b k)) (List.map Ty.int (Jp a b k))).has t1 (a4.eval (.tmp 5))∧At (Ty.nat k) t1 a4 (.tmp 9)∧At (Ty.lst Ty.ints a) t1 a4 (.tmp 0)∧At (Ty.lst Ty.ints b) t1 a4 (.tmp 1)∧At (Ty.nat (List.length a)) t1 a4 (.tmp 8)∧(k ≤ a.length)∧n1 = a.length - k) (a.length - (0)) ?_ ?_
 ·
  exact ⟨s3,0,rfl,(((F0.step0 D1.stp).step0 D2.stp).step0 D3.stp),ok3,(by have e:a3.eval (.tmp 5) = _:=(D3.k (D2.m 0 rfl));rw [e];exact Own.nil _ _ _ _),(cJ (D3.m 2 rfl)),(D3.k q3),(D3.k (D2.k (D1.k p1))),(D3.m 1 rfl),by omega,rfl⟩
 ·
  rintro n2 a5 w2 ⟨t2,k,rfl,F4,ok4,q11,q12,q13,q14,q15,hk,rfl⟩
  have hw:=wrongTo_le a b k
  refine Jb ?_
  refine gI a5 t2 ok4 (gS rfl (fun A B E G H=>rP (JL (kp (H 9 rfl) E q12) (kp (H 8 rfl) E q15))) (gE ok4 fun a6 s4 ok5 D4=>?_));have F5:=F4.step0 D4.stp
  have q16:(Pr.own 2 3 1 (List.length (Jp a b k)) (List.map Ty.int (Jp a b k))).has s4 (a6.eval (.tmp 5)):=D4.ko q11 rfl
  have q17:=D4.k q12;refine tn (Jb ?_)
  refine Jm (p:=(((k:Nat):Int) < (((List.length a):Nat):Int))) (D4.m 0 rfl) (fun c1=>?_) (fun c1=>?_)
  ·
   refine Ji (tn (Jb (Je (Jb ?_))))
   refine gI a6 s4 ok5 (gM q17 (gB 0 (gE ok5 fun a7 s5 ok6 D5=>?_)))
   have q22:(Pr.own 2 3 1 (List.length (Jp a b k)) (List.map Ty.int (Jp a b k))).has s5 (a7.eval (.tmp 5)):=D5.ko q16 rfl
   have q24:=D5.k (D4.k q13);have q25:=D5.k (D4.k q14);have q27:=D5.m 1 rfl;refine tn (Jb ?_)
   refine gI a7 s5 ok6 (gM q27 (gM q25 (gS rfl (fun A B E G H d0=>rP (JE Try.underlying22 (eI d0))) (gS rfl (fun A B E G H d0 d1=>rP (y_geq (eI d0) (eI d1))) (gS rfl (fun A B E G H d0=>rP (Jc (eI d0))) (gS rfl (fun A B E G H d0=>gu G (eI d0) fun hg=>Jc (kp (H 0 rfl) E q24)) (gS rfl (fun A B E G H d0=>gu G (eI d0) fun hg=>Jc (kp (H 6 rfl) E q27)) (gT (Ty.grd ((decide ((((List.length b):Nat):Int) ≤ ((k:Nat):Int))) = false) (Ty.ref [(Ty.lst Ty.int (a.getD k []))])) rfl (fun A B E G H d0 d1 d2=>guf G (eI d2) fun hg hp=>JM Try.underlying22 Try.inf26 ((ef d0 rfl).1 hg) ((ef d1 rfl).1 hg) oM (JJ Ty.ints a [] k oM)) (gS rfl (fun A B E G H d0 d1=>gu G (eI d1) fun hg=>JD Try.underlying26 rfl ((ef d0 rfl).1 hg) rfl) (gS rfl (fun A B E G H d0=>gu G (eI d0) fun hg=>Jc (kp (H 1 rfl) E q25)) (gS rfl (fun A B E G H d0=>gu G (eI d0) fun hg=>Jc (kp (H 6 rfl) E q27)) (gT (Ty.grd ((decide ((((List.length b):Nat):Int) ≤ ((k:Nat):Int))) = false) (Ty.ref [(Ty.lst Ty.int (b.getD k []))])) rfl (fun A B E G H d0 d1 d2=>guf G (eI d2) fun hg hp=>JM Try.underlying22 Try.inf26 ((ef d0 rfl).1 hg) ((ef d1 rfl).1 hg) oM (JJ Ty.ints b [] k oM)) (gS rfl (fun A B E G H d0 d1=>gu G (eI d1) fun hg=>JD Try.underlying26 rfl ((ef d0 rfl).1 hg) rfl) ?_)))))))))))))
   refine gS rfl (fun A B E G H d0 d1 d2 d3=>guf G (eI d2) fun hg hp=>Jw _ Try.func36 rfl rfl my2 (bsame_fn ((a.getD k [])) ((b.getD k [])) _ _ _ ((ef d0 rfl).1 hg) ((ef d1 rfl).1 hg) )) (gS rfl (fun A B E G H d0 d1=>gu G (eI d1) fun hg=>y_not ((ef d0 rfl).1 hg)) (gS rfl (fun A B E G H d0 d1=>rP (Jv (eI d0) rfl (eI d1))) (gE ok6 fun a8 s6 ok7 D6=>?_)));have F7:=(F5.step0 D5.stp).step0 D6.stp
   have q28:(Pr.own 2 3 1 (List.length (Jp a b k)) (List.map Ty.int (Jp a b k))).has s6 (a8.eval (.tmp 5)):=D6.ko q22 rfl
   have q29:=D6.k (D5.k q17);have q30:=D6.k q24;have q31:=D6.k q25;have q32:=D6.k (D5.k (D4.k q15));refine tn ?_
   refine KM (D6.m 15 rfl) (fun c2=>?_) (fun c2=>?_)
   ·
    refine gI a8 s6 ok7 (gT (Ty.val (a8.eval (.tmp 5))) rfl (fun A B E G H=>rP (Jc (H 5 rfl))) (gM (D6.k q27) (gT (Ty.sl 1 1 [(Ty.nat k)]) rfl (fun A B E G H d0=>rP (Qs Try.underlying26 Try.inf3 rfl (Jk rfl) (eI d0))) (gE2 ok7 fun a9 s7 ok8 D7=>?_))));have q35:=(Pr.own 2 3 1 (List.length (Jp a b k)) (List.map Ty.int (Jp a b k))).up D7.stp q28
    have q36:a9.eval (.tmp 5) = a8.eval (.tmp 5):=D7.same 5 rfl
    have q42:=D7.m 2 rfl
    refine Qf (m:=2) (R:=(fun v τ=>Own τ 2 3 1 v ((List.length (Jp a b k)) + 1) ((List.map Ty.int (Jp a b k)) ++ [(Ty.nat k)]))) rfl rfl dE ok8 (Qg Try.underlying26 Try.inf3 dE rfl dE (al (D7.m 0 rfl) q35) q42 (by intro U hU;simp at hU;  subst hU;exact Jk rfl) oM oM) (fun a10 s8 hs1 ok9 r1 sm1=>?_)
    have F9:=(F7.step0 D7.stp).step hs1 dE
    have q43:At (Ty.nat k) s8 a10 (.tmp 9):=kpm hs1 dE (sm1 9 dE) (D7.k q29)
    have q44:At (Ty.lst Ty.ints a) s8 a10 (.tmp 0):=kpm hs1 dE (sm1 0 dE) (D7.k q30)
    have q45:At (Ty.lst Ty.ints b) s8 a10 (.tmp 1):=kpm hs1 dE (sm1 1 dE) (D7.k q31)
    have q46:At (Ty.nat (List.length a)) s8 a10 (.tmp 8):=kpm hs1 dE (sm1 8 dE) (D7.k q32)
    have q47:At (Ty.sl 1 1 [(Ty.nat k)]) s8 a10 (.tmp 30):=kpm hs1 dE (sm1 30 dE) q42
    have q48:(Pr.own 2 3 1 (List.length ((Jp a b k) ++ [((k:Nat):Int)])) (List.map Ty.int ((Jp a b k) ++ [((k:Nat):Int)]))).has s8 (a10.eval (.tmp 31)):=(cvo (by simp) (by first | (rw [List.map_append];rfl) | simp) r1)
    refine Qf (m:=0) (R:=(fun v τ=>Pr.has (Pr.own 2 3 1 (List.length ((Jp a b k) ++ [((k:Nat):Int)])) (List.map Ty.int ((Jp a b k) ++ [((k:Nat):Int)]))) τ v)) rfl rfl dE ok9 (Yld.toM (KX q48)) (fun a11 s9 hs2 ok10 r2 sm2=>?_)
    have F10:=F9.step hs2 dE
    have q49:At (Ty.nat k) s9 a11 (.tmp 9):=kpm hs2 dE (sm2 9 dE) q43
    have q50:At (Ty.lst Ty.ints a) s9 a11 (.tmp 0):=kpm hs2 dE (sm2 0 dE) q44
    have q51:At (Ty.lst Ty.ints b) s9 a11 (.tmp 1):=kpm hs2 dE (sm2 1 dE) q45
    have q52:At (Ty.nat (List.length a)) s9 a11 (.tmp 8):=kpm hs2 dE (sm2 8 dE) q46
    have q53:At (Ty.sl 1 1 [(Ty.nat k)]) s9 a11 (.tmp 30):=kpm hs2 dE (sm2 30 dE) q47
    have q54:(Pr.own 2 3 1 (List.length ((Jp a b k) ++ [((k:Nat):Int)])) (List.map Ty.int ((Jp a b k) ++ [((k:Nat):Int)]))).has s9 (a11.eval (.tmp 31)):=kpmo hs2 dE (.inl rfl) (sm2 31 dE) q48
    have q55:(Pr.own 2 3 1 (List.length ((Jp a b k) ++ [((k:Nat):Int)])) (List.map Ty.int ((Jp a b k) ++ [((k:Nat):Int)]))).has s9 (a11.eval (.tmp 5)):=r2
    refine Jh (bn (tn ?_))
    refine gI a11 s9 ok10 (gT (Ty.int (((k:Nat):Int) + (1:Int))) rfl (fun A B E G H=>rP (Jy (kp (H 9 rfl) E q49) rfl wX)) (gS rfl (fun A B E G H d0=>rP (Jc (eI d0))) (gE ok10 fun a12 s10 ok11 D8=>?_)))
    have q59:(Pr.own 2 3 1 (List.length ((Jp a b k) ++ [((k:Nat):Int)])) (List.map Ty.int ((Jp a b k) ++ [((k:Nat):Int)]))).has s10 (a12.eval (.tmp 5)):=D8.ko q55 rfl
    exact tn ⟨a.length - ((k+1)),by omega,s10,(k+1),rfl,(F10.step0 D8.stp),ok11,(cvo (by (rw [wrongTo_yes a b k (by assumption)])) (by (rw [wrongTo_yes a b k (by assumption)])) q59),(cJ (D8.m 1 rfl)),(D8.k q50),(D8.k q51),(D8.k q52),by omega,rfl⟩
   ·
    obtain ⟨d1,d2⟩:=Xf c2
    replace d1:=Xh d1
    refine Ji (bn (tn ?_))
    refine gI a8 s6 ok7 (gT (Ty.int (((k:Nat):Int) + (1:Int))) rfl (fun A B E G H=>rP (Jy (kp (H 9 rfl) E q29) rfl wX)) (gS rfl (fun A B E G H d0=>rP (Jc (eI d0))) (gE ok7 fun a13 s11 ok12 D9=>?_)))
    have q61:(Pr.own 2 3 1 (List.length (Jp a b k)) (List.map Ty.int (Jp a b k))).has s11 (a13.eval (.tmp 5)):=D9.ko q28 rfl
    exact tn ⟨a.length - ((k+1)),by omega,s11,(k+1),rfl,(F7.step0 D9.stp),ok12,(cvo (by (rw [wrongTo_no a b k (by assumption)])) (by (rw [wrongTo_no a b k (by assumption)])) q61),(cJ (D9.m 1 rfl)),(D9.k q30),(D9.k q31),(D9.k q32),by omega,rfl⟩
  ·
   refine Jx (tx (tx (bx (tn (Jb ?_)))))
   refine gI a6 s4 ok5 (gT (Ty.val (a6.eval (.tmp 5))) rfl (fun A B E G H=>rP (Jc (H 5 rfl))) (gB 0 (gE ok5 fun a14 s12 ok13 D10=>?_)))
   have q66:(Pr.own 2 3 1 (List.length (Jp a b k)) (List.map Ty.int (Jp a b k))).has s12 (a14.eval (.tmp 4)):=al (show _ = _ from D10.done 1) ((Pr.own 2 3 1 (List.length (Jp a b k)) (List.map Ty.int (Jp a b k))).up D10.stp q16)
   refine tn (Jj ?_)
   obtain ⟨t3,e1,h1,q67⟩:=Own.seal q66 dE
   rw [← e1]
   have F14:=(F5.step0 D10.stp).step h1 dE
   exact QT rfl ok13 F14 (cvt (by (obtain rfl:k = a.length:=oM;rfl)) q67)
omit [Go.KL.Al J] in
set_option maxHeartbeats 4000000 in
set_option maxRecDepth 100000 in
theorem moved_fn (xs:List Int) (x:Int) (σ:GW)  (v0 v1:Value) (hv0:Ty.has (Ty.lst Ty.int xs) σ v0) (hv1:Ty.has (Ty.int x) σ v1)   :
    FnC J 61 #[v0,v1] σ (Ty.int (mvE xs x)):=by
 refine KQ Try.func61 rfl Try.ntmps61 (Xj rfl) (fun s0 a0 hle F0 ok0 hargs=>?_)
 have p0:=pA hle (hargs 0 _ rfl) hv0
 have b1:=Ke p0
 have p1:=pA hle (hargs 1 _ rfl) hv1
 clear hargs;refine Jb ?_
 refine gI a0 s0 ok0 (gC (Ty.int (0:Int)) (gEN ok0 fun a1 s1 ok1 D1=>?_));refine tn (Jb (Jb ?_))
 refine gI a1 s1 ok1 (gM (D1.k p0) (gS rfl (fun A B E G H d0=>rP (JE Try.underlying26 (eI d0))) (gT (Ty.int (0:Int)) rfl (fun A B E G H=>rP (Jc rfl)) (gEN ok1 fun a2 s2 ok2 D2=>?_))));refine tn (Je ?_)
 refine KB (fun n1 a3 w1=>∃ (t1:GW) (k:Nat),t1.w = w1∧FromL [] s0 t1∧Ok 20 [] a3∧At (Ty.nat k) t1 a3 (.tmp 9)∧At (Ty.int x) t1 a3 (.tmp 1)∧At (Ty.lst Ty.int xs) t1 a3 (.tmp 7)∧At (Ty.nat (List.length xs)) t1 a3 (.tmp 8)∧(k ≤ xs.length)∧(∀ j,j < k → xs.getD j 0 ≠ x)∧n1 = xs.length - k) (xs.length - (0)) ?_ ?_
 ·
  exact ⟨s2,0,rfl,((F0.step0 D1.stp).step0 D2.stp),ok2,(cJ (D2.m 2 rfl)),(D2.k (D1.k p1)),(D2.m 0 rfl),(D2.m 1 rfl),by omega,fun j hj=>absurd hj (Nat.not_lt_zero j),rfl⟩
 ·
  rintro n2 a4 w2 ⟨t2,k,rfl,F3,ok3,q7,q8,q9,q10,hk,hno,rfl⟩
  refine Jb ?_
  refine gI a4 t2 ok3 (gS rfl (fun A B E G H=>rP (JL (kp (H 9 rfl) E q7) (kp (H 8 rfl) E q10))) (gEN ok3 fun a5 s3 ok4 D3=>?_));have F4:=F3.step0 D3.stp;have q11:=D3.k q7;have q12:=D3.k q8;have q13:=D3.k q9;refine tn (Jb ?_)
  refine Jm (p:=(((k:Nat):Int) < (((List.length xs):Nat):Int))) (D3.m 0 rfl) (fun c1=>?_) (fun c1=>?_)
  ·
   refine Ji (tn (Jb (Je (Jb ?_))))
   refine gI a5 s3 ok4 (gM q11 (gT (Ty.ref [(Ty.int (xs.getD k 0))]) rfl (fun A B E G H=>rP (JM Try.underlying26 Try.inf3 (kp (H 7 rfl) E q13) (kp (H 9 rfl) E q11) oM (JJ Ty.int xs 0 k oM))) (gS rfl (fun A B E G H d0=>rP (JD Try.underlying3 rfl (eI d0) rfl)) (gB 0 (gB 0 (gEN ok4 fun a6 s4 ok5 D4=>?_))))));have q17:=D4.k q12;refine tn (Jb ?_)
   refine gI a6 s4 ok5 (gM (D4.m 4 rfl) (gM q17 (gS rfl (fun A B E G H d0 d1=>rP (y_eql (eI d0) (eI d1))) (gEN ok5 fun a7 s5 ok6 D5=>?_))));have F6:=(F4.step0 D4.stp).step0 D5.stp;refine tn ?_
   refine Jm (p:=((xs.getD k 0) = x)) (D5.m 2 rfl) (fun c2=>?_) (fun c2=>?_)
   ·
    refine Jb ?_
    refine gI a7 s5 ok6 (gM (D5.k (D4.m 3 rfl)) (gB 0 (gEN ok6 fun a8 s6 ok7 D6=>?_)));refine tn (Jj (br (tr (tr (br (tr ?_))))))
    exact KP rfl ok7 (F6.step0 D6.stp) (cvi (by (exact (mvE_yes oM (by assumption) hno).symm)) (D6.m 1 rfl))
   ·
    refine Ji (bn (tn ?_))
    refine gI a7 s5 ok6 (gT (Ty.int (((k:Nat):Int) + (1:Int))) rfl (fun A B E G H=>rP (Jy (kp (H 9 rfl) E (D5.k (D4.k q11))) rfl wX)) (gS rfl (fun A B E G H d0=>rP (Jc (eI d0))) (gEN ok6 fun a9 s7 ok8 D7=>?_)))
    exact tn ⟨xs.length - ((k+1)),by omega,s7,(k+1),rfl,(F6.step0 D7.stp),ok8,(cJ (D7.m 1 rfl)),(D7.k (D5.k q17)),(D7.k (D5.k (D4.k q13))),(D7.k (D5.k (D4.k (D3.k q10)))),by omega,fun j hj=>by (by_cases e:j = k;subst e;exact c2;exact hno j oM),rfl⟩
  ·
   refine Jx (tx (tx (bx (tn (Jb ?_)))))
   refine gI a5 s3 ok4 (gM q12 (gB 0 (gEN ok4 fun a10 s8 ok9 D8=>?_)));refine tn (Jj ?_)
   exact KP rfl ok9 (F4.step0 D8.stp) (cvi (by (exact (mvE_no (fun j hj=>hno j oM)).symm)) (D8.m 1 rfl))
theorem Try.inf67:Info Try.prog 67 (.chan none) 1 8:=by unfold Info;kernel_rfl
theorem Try.inf69:Info Try.prog 69 (.chan none) 1 8:=by unfold Info;kernel_rfl
theorem Try.inf106:Info Try.prog 106 (.agg #[.int .i64 0,.int .i64 0]) 2 16:=by unfold Info;kernel_rfl
theorem Try.fld71_0:KG Try.prog 71 0 = some (3,0):=by kernel_rfl
theorem Try.fld71_1:KG Try.prog 71 1 = some (3,1):=by kernel_rfl
theorem Try.fld71_2:KG Try.prog 71 2 = some (69,2):=by kernel_rfl
theorem Try.fld71_3:KG Try.prog 71 3 = some (69,3):=by kernel_rfl
theorem Try.fld71_4:KG Try.prog 71 4 = some (67,4):=by kernel_rfl
set_option maxHeartbeats 4000000 in
set_option maxRecDepth 100000 in
theorem ring_fn [Go.ConcR.Payload] {c:Co} {k:Nat} {h:Ch} {okc:c.Ok h} (lns:List (List (List Int))) (σ:GW) (hlow:Low [999] σ) (v0 v1:Value) (hv0:Ty.has (Ty.val (Jf h.S 0)) σ v0) (hv1:Ty.has (Ty.lst Ty.rows lns) σ v1) (ho_PL:PlR (.rcv 0) σ) (hN:RgN c k lns) (hk:(k:Nat) < 4611686018427387904) (hzi:c.zi = .int .i64 0) (hzq:c.zq = .int .i64 0) :
    FnL (rg Try.prog c k h okc) 29 #[v0,v1] σ [999] (fun v τ=>(Ty.has (Ty.nat (c.A + 1)) τ v)∧(PlR .fin τ)):=by
 have hC1:=hN.C1
 have hC0:=hN.C0
 have hA1:=hN.A1
 refine fn_introL hlow Try.func29 rfl Try.ntmps29 (Xj rfl) (fun a0 F0 ok0 hargs=>?_)
 have p0:=pB (hargs 0 _ rfl) hv0
 have p1:=pB (hargs 1 _ rfl) hv1
 have b1:=Ke p1
 clear hargs;refine Jb ?_
 refine gI a0 σ ok0 (gC (Ty.int (0:Int)) (gEN ok0 fun a1 s1 ok1 D1=>?_));have o1:=PlR.k0 ho_PL D1.stp;refine tn (Jb ?_)
 refine gI a1 s1 ok1 (gC (Ty.int (0:Int)) (gC (Ty.int (0:Int)) (gEN ok1 fun a2 s2 ok2 D2=>?_)));have o2:=PlR.k0 o1 D2.stp;refine tn (Jb ?_)
 refine gI a2 s2 ok2 (gC (Ty.val (Value.slice none 0 0)) (gEN ok2 fun a3 s3 ok3 D3=>?_));have q7:=D3.k (D2.k (D1.k p0));have o3:=PlR.k0 o2 D3.stp;refine tn (Jb (Jb ?_))
 refine gI a3 s3 ok3 (gM q7 (gT (Ty.val (Jf h.S 0)) rfl (fun B E G H I d0=>rP (KT (eI d0))) (gT (Ty.val (Jf h.S 3)) rfl (fun B E G H I d0=>rP (JS Try.fld71_3 Try.inf69 dE (eI d0) rfl)) (gT (Ty.val (chv h.goes)) rfl (by intro B E G H I d0;exact Xc Try.underlying69 rfl (PlR.k0 o3 G) (eI d0) (by intro e_;cases e_) rfl) (gEN ok3 fun a4 s4 ok4 D4=>?_)))));have o4:=PlR.k0 o3 D4.stp;refine tn (Je ?_)
 refine KB (fun n1 a5 w1=>∃ (t1:GW) (s:Nat) (step:Nat) (line:List (List Int)),t1.w = w1∧FromL [999] σ t1∧Ok 63 [] a5∧At (Ty.nat s) t1 a5 (.tmp 5)∧At (Ty.nat step) t1 a5 (.tmp 6)∧At (Ty.lst Ty.ints line) t1 a5 (.tmp 7)∧At (Ty.val (Jf h.S 0)) t1 a5 (.tmp 0)∧At (Ty.lst Ty.rows lns) t1 a5 (.tmp 1)∧At (Ty.val (chv h.goes)) t1 a5 (.tmp 12)∧PlR (.rcv s) t1∧(RgI c lns s line step)∧n1 = c.A + 2 - s) (c.A + 2 - (0)) ?_ ?_
 ·
  exact ⟨s4,0,0,([]:List (List Int)),rfl,((((F0.step0 D1.stp).step0 D2.stp).step0 D3.stp).step0 D4.stp),ok4,(cJ (D4.k (D3.k (D2.m 0 rfl)))),(cJ (D4.k (D3.k (D2.m 1 rfl)))),(nil_lst (by (first | rfl | omega | (simp_all;done) | (simp_all;omega))) (D4.k (D3.m 0 rfl))),(D4.k q7),(D4.k (D3.k (D2.k (D1.k p1)))),(D4.m 3 rfl),(cvplr (by rfl) o4),⟨by omega,fun _=>⟨rfl,rfl⟩,fun h=>absurd rfl h⟩,rfl⟩
 ·
  rintro n2 a6 w2 ⟨t2,s,step,line,rfl,F5,ok5,q18,q19,q20,q21,q22,q23,o5,hI,rfl⟩
  have hle_:=hI.le
  refine Jb ?_
  refine regX (a:=a6) (σ:=t2) rfl 0 (fun i_=>List.getD [] i_ Pr.any) ok5 rfl dE rfl (by rfl) trivial ?_
  intro a7 s5 D5;have ok6:=D5.ok;have F6:=F5.step0 D5.stp;have q24:=D5.k q18;have q25:=D5.k q19;have q26:=D5.k q20;have q27:=D5.k q21;have q28:=D5.k q22;have q29:=D5.k q23
  have o6:PlR (.rcv s) s5:=PlR.k0 o5 D5.stp
  refine xr_rcv (s:=s) ok6 rfl (by intro e_ h_;cases h_ <;> decide) Try.underlying69 (by rw [hzi];exact Try.inf3) o6 q29 (fun hsA=>?_) (fun hsA=>?_)
  ·
   intro a8 t3 hs1 ho1 hst1 ok7 hu1 sm1;have F7:=F6.step hs1 dE
   have q30:At (Ty.nat s) t3 a8 (.tmp 5):=kp9 hs1 (sm1 5 dE) q24
   have q31:At (Ty.nat step) t3 a8 (.tmp 6):=kp9 hs1 (sm1 6 dE) q25
   have q32:At (Ty.lst Ty.ints line) t3 a8 (.tmp 7):=kp9 hs1 (sm1 7 dE) q26
   have q33:At (Ty.val (Jf h.S 0)) t3 a8 (.tmp 0):=kp9 hs1 (sm1 0 dE) q27
   have q34:At (Ty.lst Ty.rows lns) t3 a8 (.tmp 1):=kp9 hs1 (sm1 1 dE) q28
   have q35:At (Ty.val (chv h.goes)) t3 a8 (.tmp 12):=kp9 hs1 (sm1 12 dE) q29
   have o7:PlR (c.nGot s) t3:=ho1
   have q36:At (Ty.tup2 (Ty.nat s) (Ty.bool true)) t3 a8 (.tmp 13):=hasU2 (hu1 13 rfl) rfl rfl
   refine XT.tail (fun t4 hs2=>?_) (by rfl)
   have F8:=F7.step0 hs2
   have q37:At (Ty.nat s) t4 a8 (.tmp 5):=Ty.up _ hs2.le0 q30
   have q38:At (Ty.nat step) t4 a8 (.tmp 6):=Ty.up _ hs2.le0 q31
   have q39:At (Ty.lst Ty.ints line) t4 a8 (.tmp 7):=Ty.up _ hs2.le0 q32
   have q40:At (Ty.val (Jf h.S 0)) t4 a8 (.tmp 0):=Ty.up _ hs2.le0 q33
   have q41:At (Ty.lst Ty.rows lns) t4 a8 (.tmp 1):=Ty.up _ hs2.le0 q34
   have q42:At (Ty.val (chv h.goes)) t4 a8 (.tmp 12):=Ty.up _ hs2.le0 q35
   have q43:At (Ty.tup2 (Ty.nat s) (Ty.bool true)) t4 a8 (.tmp 13):=Ty.up _ hs2.le0 q36
   have o8:PlR (c.nGot s) t4:=PlR.k0 o7 hs2
   refine tL (R:=(fun v τ=>Pr.has (Ty.pr (Ty.bool true)) τ v)) ok7 (Yld.toL (y_ext2_1 q43)) fun a9 s6 hs3 ok8 r1 sm2=>?_
   have q44:=kq hs3 sm2 5 q37;have o9:=PlR.keepL o8 hs3 dE dE
   have q50:At (Ty.bool true) s6 a9 (.tmp 14):=r1
   clear r1;refine Jh (tn (Jb ?_))
   refine KM q50 (fun _=>?_) (fun c1=>(by cases c1))
   refine Ji (tn (Je (Jb (Jb ?_))))
   refine gI a9 s6 ok8 (gM q44 (gS rfl (fun B E G H I d0=>rP (y_gtr (eI d0) rfl)) (gEN ok8 fun a10 s7 ok9 D6=>?_)));have F10:=(F8.sl hs3).step0 D6.stp;have q51:=D6.k q44;have q52:=D6.k (kq hs3 sm2 6 q38);have q53:=D6.k (kq hs3 sm2 7 q39);have q54:=D6.k (kq hs3 sm2 0 q40);have q55:=D6.k (kq hs3 sm2 1 q41);have q56:=D6.k (kq hs3 sm2 12 q42);have o10:=PlR.k0 o9 D6.stp;refine tn ?_
   refine Jm (p:=((0:Int) < ((s:Nat):Int))) (D6.m 1 rfl) (fun c2=>?_) (fun c2=>?_)
   ·
    obtain ⟨hl1_,hl2_,hl3_⟩:=hI.len hN oM oM
    refine Jb ?_
    have o11:PlR (.got s) s7:=cvplr (by unfold Co.nGot;rw [if_neg oM]) o10
    refine regX (a:=a10) (σ:=s7) rfl 12 (fun i_=>List.getD [(Ty.pr (Ty.val (Jf h.S 0))),(Ty.pr (Ty.lst Ty.ints line)),(Ty.pr (Ty.nat step)),(Ty.pr (Ty.ref [(Ty.lst Ty.int (line.getD step []))])),(Ty.pr (Ty.lst Ty.int (line.getD step []))),(Ty.pr (Ty.val (Jf h.S 0))),(Ty.pr (Ty.val (Jf h.S 0))),(Ty.pr (Ty.val (Jf h.S 1))),(Ty.pr (Ty.nat (c.pl k (s - 1)))),(Ty.pr (Ty.int (mvE ((line.getD step [])) ((((c.pl k (s - 1)):Nat):Int))))),(Ty.pr (Ty.val (Jf h.S 0))),(Ty.pr (Ty.val (Jf h.S 1)))] i_ Pr.any) ok9 rfl dE rfl (by rfl) ⟨?_,?_,?_,?_,?_,?_,?_,?_,?_,?_,?_,?_,trivial⟩ ?_
    · intro B E G H I;exact rP (Jc (kp (I 0 rfl) G q54))
    · intro B E G H I;exact rP (Jc (kp (I 7 rfl) G q53))
    · intro B E G H I;exact rP (Jc (kp (I 6 rfl) G q52))
    · intro B E G H I d0 d1;exact rP (JM Try.underlying22 Try.inf26 (eI d0) (eI d1) oM (JJ Ty.ints line [] step oM))
    · intro B E G H I d0;exact rP (JD Try.underlying26 rfl (eI d0) rfl)
    · intro B E G H I;exact rP (Jc (kp (I 0 rfl) G q54))
    · intro B E G H I d0;exact rP (KT (eI d0))
    · intro B E G H I d0;exact rP (JS Try.fld71_1 Try.inf3 dE (eI d0) rfl)
    · intro B E G H I d0
      exact Xc Try.underlying3 rfl (PlR.k0 o11 G) (eI d0) (by intro e_;cases e_) rfl
    · intro B E G H I d0 d1;exact rP (Jw _ Try.func61 rfl rfl my2 (moved_fn ((line.getD step [])) ((((c.pl k (s - 1)):Nat):Int)) _ _ _ (eI d0) (cvi (σ:=E) oM (ef d1 rfl)) ))
    · intro B E G H I d0 d1 d2 d3 d4 d5 d6 d7 d8 d9 d10;exact rP (KT (eI d0))
    · intro B E G H I d0 d1 d2 d3 d4 d5 d6 d7 d8 d9 d10;exact rP (JS Try.fld71_1 Try.inf3 dE (eI d0) rfl)
    intro a11 s8 D7;have ok10:=D7.ok
    have o12:PlR (.got s) s8:=PlR.k0 o11 D7.stp
    have hpv_:=hN.pl s oM oM
    obtain ⟨hli_,hst_⟩:=hI.on oM oM
    refine xr_put (s:=s) ok10 rfl (by intro e_ h_;cases h_ <;> decide) Try.inf3 o12 (D7.m 11 rfl) (show Ty.has (Ty.int ((c.pl k s:Nat):Int)) s8 _ from cvi (by rw [hpv_,← hli_,← hst_]) (D7.m 9 rfl)) ?_
    intro a12 t5 hs4 ho2 hst2 ok11 hu2 sm3;have F12:=(F10.step0 D7.stp).step hs4 dE
    have q66:At (Ty.nat s) t5 a12 (.tmp 5):=kp9 hs4 (sm3 5 dE) (D7.k q51)
    have q67:At (Ty.nat step) t5 a12 (.tmp 6):=kp9 hs4 (sm3 6 dE) (D7.k q52)
    have q68:At (Ty.lst Ty.ints line) t5 a12 (.tmp 7):=kp9 hs4 (sm3 7 dE) (D7.k q53)
    have q69:At (Ty.val (Jf h.S 0)) t5 a12 (.tmp 0):=kp9 hs4 (sm3 0 dE) (D7.k q54)
    have q70:At (Ty.lst Ty.rows lns) t5 a12 (.tmp 1):=kp9 hs4 (sm3 1 dE) (D7.k q55)
    have q71:At (Ty.val (chv h.goes)) t5 a12 (.tmp 12):=kp9 hs4 (sm3 12 dE) (D7.k q56)
    have o13:PlR (c.nMv s) t5:=ho2
    refine XT.fin ?_
    refine tn ?_
    refine gI a12 t5 ok11 (gM q67 (gT (Ty.nat (step + 1)) rfl (fun B E G H I d0=>rP ((Jy (eI d0) rfl wX).mono (fun τ _ h=>cN (σ:=τ) h))) (gB 0 (gEN ok11 fun a13 s9 ok12 D8=>?_))));have q73:=D8.k q68;have o14:=PlR.k0 o13 D8.stp;have q77:=D8.m 2 rfl;refine tn (Jb (Jb ?_))
    refine gI a13 s9 ok12 (gM q77 (gM q73 (gS rfl (fun B E G H I d0=>rP (JE Try.underlying22 (eI d0))) (gS rfl (fun B E G H I d0 d1=>rP (y_eql (eI d0) (eI d1))) (gEN ok12 fun a14 s10 ok13 D9=>?_)))));have F14:=(F12.step0 D8.stp).step0 D9.stp;have q78:=D9.k (D8.k q66);have q79:=D9.k q73;have q80:=D9.k (D8.k q69);have q81:=D9.k (D8.k q70);have q82:=D9.k (D8.k q71);have q83:=D9.k q77;have o15:=PlR.k0 o14 D9.stp;refine tn ?_
    refine Jm (p:=((((step + 1):Nat):Int) = (((List.length line):Nat):Int))) (D9.m 3 rfl) (fun c3=>?_) (fun c3=>?_)
    ·
     have hz_:=(mod_full oM hC0).1 (show (s - 1) % c.C + 1 = c.C by omega)
     refine Jb ?_
     have o16:PlR (.sel s) s10:=cvplr (by first | (unfold Co.nMv;rw [if_pos hz_];done) | simp [Co.nGot,Co.nMv,hs0_]) o15
     refine gI a14 s10 ok13 (gM q80 (gT (Ty.val (Jf h.S 0)) rfl (fun B E G H I d0=>rP (KT (eI d0))) (gT (Ty.val (Jf h.S 2)) rfl (fun B E G H I d0=>rP (JS Try.fld71_2 Try.inf69 dE (eI d0) rfl)) (gT (Ty.val (chv h.hears)) rfl (by intro B E G H I d0;exact Xc Try.underlying69 rfl (PlR.k0 o16 G) (eI d0) (by intro e_;cases e_) rfl) (gEN ok13 fun a15 s11 ok14 D10=>?_)))));have o17:=PlR.k0 o16 D10.stp;refine tn (Jb ?_)
     refine regX (a:=a15) (σ:=s11) rfl 0 (fun i_=>List.getD [] i_ Pr.any) ok14 rfl dE rfl (by rfl) trivial ?_
     intro a16 s12 D11;have ok15:=D11.ok;have F16:=(F14.step0 D10.stp).step0 D11.stp;have q92:=D11.k (D10.k q78);have q93:=D11.k (D10.k q79);have q94:=D11.k (D10.k q80);have q95:=D11.k (D10.k q81);have q96:=D11.k (D10.k q82);have q97:=D11.k (D10.k q83)
     have o18:PlR (.sel s) s12:=PlR.k0 o17 D11.stp
     refine xr_sel (s:=s) ok15 rfl (by intro e_ h_;cases h_ <;> decide) (by rw [hzq];exact Try.inf3) o18 (D11.k (D10.m 3 rfl)) (fun hlA=>?_) (fun hlA=>?_)
     ·
      have hq_:=hN.q (s / c.C) (Nat.lt_of_le_of_lt (Nat.div_mul_le_self _ _) hlA)
      intro a17 t6 hs5 ho3 hst3 ok16 hu3 sm4;have F17:=F16.step hs5 dE
      have q99:At (Ty.nat s) t6 a17 (.tmp 5):=kp9 hs5 (sm4 5 dE) q92
      have q100:At (Ty.lst Ty.ints line) t6 a17 (.tmp 7):=kp9 hs5 (sm4 7 dE) q93
      have q101:At (Ty.val (Jf h.S 0)) t6 a17 (.tmp 0):=kp9 hs5 (sm4 0 dE) q94
      have q102:At (Ty.lst Ty.rows lns) t6 a17 (.tmp 1):=kp9 hs5 (sm4 1 dE) q95
      have q103:At (Ty.val (chv h.goes)) t6 a17 (.tmp 12):=kp9 hs5 (sm4 12 dE) q96
      have q104:At (Ty.nat (step + 1)) t6 a17 (.tmp 6):=kp9 hs5 (sm4 6 dE) q97
      have o19:PlR (.snd s) t6:=ho3
      have q105:At (Ty.tup3 (Ty.int (0:Int)) (Ty.bool true) (Ty.int (c.q (s / c.C)))) t6 a17 (.tmp 39):=hasU3 (hu3 39 rfl) rfl rfl rfl
      refine XT.tail (fun t7 hs6=>?_) (by rfl)
      have F18:=F17.step0 hs6
      have q106:At (Ty.nat s) t7 a17 (.tmp 5):=Ty.up _ hs6.le0 q99
      have q107:At (Ty.lst Ty.ints line) t7 a17 (.tmp 7):=Ty.up _ hs6.le0 q100
      have q108:At (Ty.val (Jf h.S 0)) t7 a17 (.tmp 0):=Ty.up _ hs6.le0 q101
      have q109:At (Ty.lst Ty.rows lns) t7 a17 (.tmp 1):=Ty.up _ hs6.le0 q102
      have q110:At (Ty.val (chv h.goes)) t7 a17 (.tmp 12):=Ty.up _ hs6.le0 q103
      have q111:At (Ty.nat (step + 1)) t7 a17 (.tmp 6):=Ty.up _ hs6.le0 q104
      have q112:At (Ty.tup3 (Ty.int (0:Int)) (Ty.bool true) (Ty.int (c.q (s / c.C)))) t7 a17 (.tmp 39):=Ty.up _ hs6.le0 q105
      have o20:PlR (.snd s) t7:=PlR.k0 o19 hs6
      refine tL (R:=(fun v τ=>Pr.has (Ty.pr (Ty.int (0:Int))) τ v)) ok16 (Yld.toL (y_ext3_0 q112)) fun a18 s13 hs7 ok17 r2 sm5=>?_
      have o21:=PlR.keepL o20 hs7 dE dE
      have q120:At (Ty.int (0:Int)) s13 a18 (.tmp 40):=r2
      clear r2
      refine tL (R:=(fun v τ=>Pr.has (Ty.pr (Ty.bool true)) τ v)) ok17 (Yld.toL ((y_eql q120 rfl).mono (fun τ _ h=>cvb (σ:=τ) dE h))) fun a19 s14 hs8 ok18 r3 sm6=>?_
      have q122:=kq hs8 sm6 7 (kq hs7 sm5 7 q107);have q126:=kq hs8 sm6 6 (kq hs7 sm5 6 q111);have o22:=PlR.keepL o21 hs8 dE dE
      have q128:At (Ty.bool true) s14 a19 (.tmp 41):=r3
      clear r3;refine Jh (tn (Je ?_))
      refine KM q128 (fun _=>?_) (fun c4=>(by cases c4))
      refine Jb ?_
      refine gI a19 s14 ok18 (gT (Ty.int (c.q (s / c.C))) rfl (fun B E G H I=>rP (y_ext3_2 (kp (I 39 rfl) G (kq hs8 sm6 39 (kq hs7 sm5 39 q112))))) (gB 0 (gEN ok18 fun a20 s15 ok19 D12=>?_)));have q131:=D12.k (kq hs8 sm6 1 (kq hs7 sm5 1 q109));have o23:=PlR.k0 o22 D12.stp;refine tn ?_
      refine gI a20 s15 ok19 (gM q131 (gM (D12.m 1 rfl) (gT (Ty.ref [(Ty.lst Ty.ints (lns.getD ((c.q (s / c.C))).toNat []))]) rfl (fun B E G H I d0 d1=>rP (JM Try.underlying49 Try.inf22 (eI d0) (eI d1) oM (JJ Ty.rows lns [] ((c.q (s / c.C))).toNat oM))) (gS rfl (fun B E G H I d0=>rP (JD Try.underlying22 rfl (eI d0) rfl)) (gB 0 (gC (Ty.int (0:Int)) (gEN ok19 fun a21 s16 ok20 D13=>?_)))))));have q135:=D13.k (D12.k (kq hs8 sm6 0 (kq hs7 sm5 0 q108)));have o24:=PlR.k0 o23 D13.stp;refine bn (tn (Jb ?_))
      refine regX (a:=a21) (σ:=s16) rfl 13 (fun i_=>List.getD [(Ty.pr (Ty.val (Jf h.S 0))),(Ty.pr (Ty.val (Jf h.S 0))),(Ty.pr (Ty.val (Jf h.S 4))),(Ty.pr (Ty.val (chv c.heard))),(Ty.pr (Ty.val (Jf h.S 0))),(Ty.pr (Ty.val (Jf h.S 0))),(Ty.pr (Ty.val (Jf h.S 0))),(Ty.pr (Ty.nat k)),(Ty.pr (Ty.val (Jf h.S 0))),(Ty.pr (Ty.val (Jf h.S 0))),(Ty.pr (Ty.val (Jf h.S 1))),(Ty.pr (Ty.nat (c.pl k s))),(Ty.pr (Ty.agg [(Ty.nat k),(Ty.nat (c.pl k s))]))] i_ Pr.any) ok20 rfl dE rfl (by rfl) ⟨?_,?_,?_,?_,?_,?_,?_,?_,?_,?_,?_,?_,?_,trivial⟩ ?_
      · intro B E G H I;exact rP (Jc (kp (I 0 rfl) G q135))
      · intro B E G H I d0;exact rP (KT (eI d0))
      · intro B E G H I d0;exact rP (JS Try.fld71_4 Try.inf67 dE (eI d0) rfl)
      · intro B E G H I d0
        exact Xc Try.underlying67 rfl (PlR.k0 o24 G) (eI d0) (by intro e_;cases e_) rfl
      · intro B E G H I;exact rP (Jc (kp (I 0 rfl) G q135))
      · intro B E G H I d0;exact rP (KT (eI d0))
      · intro B E G H I d0;exact rP (JS Try.fld71_0 Try.inf3 dE (eI d0) rfl)
      · intro B E G H I d0
        exact Xc Try.underlying3 rfl (PlR.k0 o24 G) (eI d0) (by intro e_;cases e_) rfl
      · intro B E G H I;exact rP (Jc (kp (I 0 rfl) G q135))
      · intro B E G H I d0;exact rP (KT (eI d0))
      · intro B E G H I d0;exact rP (JS Try.fld71_1 Try.inf3 dE (eI d0) rfl)
      · intro B E G H I d0
        exact Xc Try.underlying3 rfl (PlR.k0 o24 G) (eI d0) (by intro e_;cases e_) rfl
      · intro B E G H I d0 d1;exact rP (y_bld [(0,(.tmp 54),(Ty.nat k)),(1,(.tmp 58),(Ty.nat (c.pl k s)))] [(Ty.int (0:Int)),(Ty.int (0:Int))] (l:=[(0,1),(1,1)]) rfl Try.inf106 rfl (JR (vs:=[.int .i64 0,.int .i64 0]) rfl) rfl (by intro p hp;simp only [List.mem_cons,List.not_mem_nil,or_false] at hp;rcases hp with rfl | rfl;exact ⟨Jk rfl,(eI d0)⟩;exact ⟨Jk rfl,(eI d1)⟩))
      intro a22 s17 D14;have ok21:=D14.ok
      have o25:PlR (.snd s) s17:=PlR.k0 o24 D14.stp
      refine xr_snd (s:=s) ok21 rfl (by intro e_ h_;cases h_ <;> decide) o25 (D14.m 3 rfl) (agg2 (D14.m 12 rfl)) ?_
      intro a23 t8 hs9 ho4 hst4 ok22 hu4 sm7;have F24:=(((((F18.sl hs7).sl hs8).step0 D12.stp).step0 D13.stp).step0 D14.stp).step hs9 dE
      have q148:At (Ty.nat s) t8 a23 (.tmp 5):=kp9 hs9 (sm7 5 dE) (D14.k (D13.k (D12.k (kq hs8 sm6 5 (kq hs7 sm5 5 q106)))))
      have q149:At (Ty.val (Jf h.S 0)) t8 a23 (.tmp 0):=kp9 hs9 (sm7 0 dE) (D14.k q135)
      have q150:At (Ty.lst Ty.rows lns) t8 a23 (.tmp 1):=kp9 hs9 (sm7 1 dE) (D14.k (D13.k q131))
      have q151:At (Ty.val (chv h.goes)) t8 a23 (.tmp 12):=kp9 hs9 (sm7 12 dE) (D14.k (D13.k (D12.k (kq hs8 sm6 12 (kq hs7 sm5 12 q110)))))
      have q152:At (Ty.lst Ty.ints (lns.getD ((c.q (s / c.C))).toNat [])) t8 a23 (.tmp 7):=kp9 hs9 (sm7 7 dE) (D14.k (D13.m 4 rfl))
      have q153:At (Ty.int (0:Int)) t8 a23 (.tmp 6):=kp9 hs9 (sm7 6 dE) (D14.k (D13.m 5 rfl))
      have o26:PlR (.rcv (s + 1)) t8:=ho4
      refine XT.fin ?_
      refine tn ?_
      refine gI a23 t8 ok22 (gM q148 (gT (Ty.nat (s + 1)) rfl (fun B E G H I d0=>rP ((Jy (eI d0) rfl wX).mono (fun τ _ h=>cN (σ:=τ) h))) (gB 0 (gEN ok22 fun a24 s18 ok23 D15=>?_))));have o27:=PlR.k0 o26 D15.stp;refine bn ?_
      exact tn ⟨c.A + 2 - ((s + 1)),by omega,s18,(s + 1),0,(lns.getD (c.q (s / c.C)).toNat []),rfl,(F24.step0 D15.stp),ok23,(cJ (D15.m 2 rfl)),(cJ (D15.k q153)),(cvt (by (first | rfl | omega | (simp_all;done) | (simp_all;omega))) (D15.k q152)),(D15.k q149),(D15.k q150),(D15.k q151),(cvplr (by rfl) o27),hI.hear oM hz_,rfl⟩
     ·
      intro a25 t9 hs10 ho5 hst5 ok24 hu5 sm8;have F26:=F16.step hs10 dE
      have q160:At (Ty.nat s) t9 a25 (.tmp 5):=kp9 hs10 (sm8 5 dE) q92
      have q161:At (Ty.lst Ty.ints line) t9 a25 (.tmp 7):=kp9 hs10 (sm8 7 dE) q93
      have q162:At (Ty.val (Jf h.S 0)) t9 a25 (.tmp 0):=kp9 hs10 (sm8 0 dE) q94
      have q163:At (Ty.lst Ty.rows lns) t9 a25 (.tmp 1):=kp9 hs10 (sm8 1 dE) q95
      have q164:At (Ty.val (chv h.goes)) t9 a25 (.tmp 12):=kp9 hs10 (sm8 12 dE) q96
      have q165:At (Ty.nat (step + 1)) t9 a25 (.tmp 6):=kp9 hs10 (sm8 6 dE) q97
      have o28:PlR (.snd s) t9:=ho5
      have q166:At (Ty.tup3 (Ty.int (-1:Int)) (Ty.bool false) (Ty.int (0:Int))) t9 a25 (.tmp 39):=hasU3 (hu5 39 rfl) rfl rfl hzq
      refine XT.tail (fun t10 hs11=>?_) (by rfl)
      have F27:=F26.step0 hs11
      have q167:At (Ty.nat s) t10 a25 (.tmp 5):=Ty.up _ hs11.le0 q160
      have q168:At (Ty.lst Ty.ints line) t10 a25 (.tmp 7):=Ty.up _ hs11.le0 q161
      have q169:At (Ty.val (Jf h.S 0)) t10 a25 (.tmp 0):=Ty.up _ hs11.le0 q162
      have q170:At (Ty.lst Ty.rows lns) t10 a25 (.tmp 1):=Ty.up _ hs11.le0 q163
      have q171:At (Ty.val (chv h.goes)) t10 a25 (.tmp 12):=Ty.up _ hs11.le0 q164
      have q172:At (Ty.nat (step + 1)) t10 a25 (.tmp 6):=Ty.up _ hs11.le0 q165
      have q173:At (Ty.tup3 (Ty.int (-1:Int)) (Ty.bool false) (Ty.int (0:Int))) t10 a25 (.tmp 39):=Ty.up _ hs11.le0 q166
      have o29:PlR (.snd s) t10:=PlR.k0 o28 hs11
      refine tL (R:=(fun v τ=>Pr.has (Ty.pr (Ty.int (-1:Int))) τ v)) ok24 (Yld.toL (y_ext3_0 q173)) fun a26 s19 hs12 ok25 r4 sm9=>?_
      have o30:=PlR.keepL o29 hs12 dE dE
      have q181:At (Ty.int (-1:Int)) s19 a26 (.tmp 40):=r4
      clear r4
      refine tL (R:=(fun v τ=>Pr.has (Ty.pr (Ty.bool false)) τ v)) ok25 (Yld.toL ((y_eql q181 rfl).mono (fun τ _ h=>cvb (σ:=τ) dE h))) fun a27 s20 hs13 ok26 r5 sm10=>?_
      have q184:=kq hs13 sm10 0 (kq hs12 sm9 0 q169);have q188:=kq hs13 sm10 39 (kq hs12 sm9 39 q173);have o31:=PlR.keepL o30 hs13 dE dE
      have q189:At (Ty.bool false) s20 a27 (.tmp 41):=r5
      clear r5;refine Jh (tn (Je ?_))
      refine KM q189 (fun c5=>(by cases c5)) (fun _=>?_)
      refine Ji (bn (tn (Jb ?_)))
      refine regX (a:=a27) (σ:=s20) rfl 13 (fun i_=>List.getD [(Ty.pr (Ty.val (Jf h.S 0))),(Ty.pr (Ty.val (Jf h.S 0))),(Ty.pr (Ty.val (Jf h.S 4))),(Ty.pr (Ty.val (chv c.heard))),(Ty.pr (Ty.val (Jf h.S 0))),(Ty.pr (Ty.val (Jf h.S 0))),(Ty.pr (Ty.val (Jf h.S 0))),(Ty.pr (Ty.nat k)),(Ty.pr (Ty.val (Jf h.S 0))),(Ty.pr (Ty.val (Jf h.S 0))),(Ty.pr (Ty.val (Jf h.S 1))),(Ty.pr (Ty.nat (c.pl k s))),(Ty.pr (Ty.agg [(Ty.nat k),(Ty.nat (c.pl k s))]))] i_ Pr.any) ok26 rfl dE rfl (by rfl) ⟨?_,?_,?_,?_,?_,?_,?_,?_,?_,?_,?_,?_,?_,trivial⟩ ?_
      · intro B E G H I;exact rP (Jc (kp (I 0 rfl) G q184))
      · intro B E G H I d0;exact rP (KT (eI d0))
      · intro B E G H I d0;exact rP (JS Try.fld71_4 Try.inf67 dE (eI d0) rfl)
      · intro B E G H I d0
        exact Xc Try.underlying67 rfl (PlR.k0 o31 G) (eI d0) (by intro e_;cases e_) rfl
      · intro B E G H I;exact rP (Jc (kp (I 0 rfl) G q184))
      · intro B E G H I d0;exact rP (KT (eI d0))
      · intro B E G H I d0;exact rP (JS Try.fld71_0 Try.inf3 dE (eI d0) rfl)
      · intro B E G H I d0
        exact Xc Try.underlying3 rfl (PlR.k0 o31 G) (eI d0) (by intro e_;cases e_) rfl
      · intro B E G H I;exact rP (Jc (kp (I 0 rfl) G q184))
      · intro B E G H I d0;exact rP (KT (eI d0))
      · intro B E G H I d0;exact rP (JS Try.fld71_1 Try.inf3 dE (eI d0) rfl)
      · intro B E G H I d0
        exact Xc Try.underlying3 rfl (PlR.k0 o31 G) (eI d0) (by intro e_;cases e_) rfl
      · intro B E G H I d0 d1;exact rP (y_bld [(0,(.tmp 54),(Ty.nat k)),(1,(.tmp 58),(Ty.nat (c.pl k s)))] [(Ty.int (0:Int)),(Ty.int (0:Int))] (l:=[(0,1),(1,1)]) rfl Try.inf106 rfl (JR (vs:=[.int .i64 0,.int .i64 0]) rfl) rfl (by intro p hp;simp only [List.mem_cons,List.not_mem_nil,or_false] at hp;rcases hp with rfl | rfl;exact ⟨Jk rfl,(eI d0)⟩;exact ⟨Jk rfl,(eI d1)⟩))
      intro a28 s21 D16;have ok27:=D16.ok
      have o32:PlR (.snd s) s21:=PlR.k0 o31 D16.stp
      refine xr_snd (s:=s) ok27 rfl (by intro e_ h_;cases h_ <;> decide) o32 (D16.m 3 rfl) (agg2 (D16.m 12 rfl)) ?_
      intro a29 t11 hs14 ho6 hst6 ok28 hu6 sm11;have F31:=(((F27.sl hs12).sl hs13).step0 D16.stp).step hs14 dE
      have q198:At (Ty.nat s) t11 a29 (.tmp 5):=kp9 hs14 (sm11 5 dE) (D16.k (kq hs13 sm10 5 (kq hs12 sm9 5 q167)))
      have q199:At (Ty.lst Ty.ints line) t11 a29 (.tmp 7):=kp9 hs14 (sm11 7 dE) (D16.k (kq hs13 sm10 7 (kq hs12 sm9 7 q168)))
      have q200:At (Ty.val (Jf h.S 0)) t11 a29 (.tmp 0):=kp9 hs14 (sm11 0 dE) (D16.k q184)
      have q201:At (Ty.lst Ty.rows lns) t11 a29 (.tmp 1):=kp9 hs14 (sm11 1 dE) (D16.k (kq hs13 sm10 1 (kq hs12 sm9 1 q170)))
      have q202:At (Ty.val (chv h.goes)) t11 a29 (.tmp 12):=kp9 hs14 (sm11 12 dE) (D16.k (kq hs13 sm10 12 (kq hs12 sm9 12 q171)))
      have q203:At (Ty.nat (step + 1)) t11 a29 (.tmp 6):=kp9 hs14 (sm11 6 dE) (D16.k (kq hs13 sm10 6 (kq hs12 sm9 6 q172)))
      have o33:PlR (.rcv (s + 1)) t11:=ho6
      refine XT.fin ?_
      refine tn ?_
      refine gI a29 t11 ok28 (gM q198 (gT (Ty.nat (s + 1)) rfl (fun B E G H I d0=>rP ((Jy (eI d0) rfl wX).mono (fun τ _ h=>cN (σ:=τ) h))) (gB 0 (gEN ok28 fun a30 s22 ok29 D17=>?_))));have o34:=PlR.k0 o33 D17.stp;refine bn ?_
      exact tn ⟨c.A + 2 - ((s + 1)),by omega,s22,(s + 1),(step + 1),line,rfl,(F31.step0 D17.stp),ok29,(cJ (D17.m 2 rfl)),(cJ (D17.k q203)),(D17.k q199),(D17.k q200),(D17.k q201),(D17.k q202),(cvplr (by rfl) o34),RgI.last oM hlA,rfl⟩
    ·
     have hz_:s % c.C ≠ 0:=fun e_=>c3 (by have:=(mod_full (s:=s) oM hC0).2 e_;omega)
     refine Ji (tn (Jb ?_))
     have o35:PlR (.snd s) s10:=cvplr (by unfold Co.nMv;rw [if_neg hz_]) o15
     refine regX (a:=a14) (σ:=s10) rfl 13 (fun i_=>List.getD [(Ty.pr (Ty.val (Jf h.S 0))),(Ty.pr (Ty.val (Jf h.S 0))),(Ty.pr (Ty.val (Jf h.S 4))),(Ty.pr (Ty.val (chv c.heard))),(Ty.pr (Ty.val (Jf h.S 0))),(Ty.pr (Ty.val (Jf h.S 0))),(Ty.pr (Ty.val (Jf h.S 0))),(Ty.pr (Ty.nat k)),(Ty.pr (Ty.val (Jf h.S 0))),(Ty.pr (Ty.val (Jf h.S 0))),(Ty.pr (Ty.val (Jf h.S 1))),(Ty.pr (Ty.nat (c.pl k s))),(Ty.pr (Ty.agg [(Ty.nat k),(Ty.nat (c.pl k s))]))] i_ Pr.any) ok13 rfl dE rfl (by rfl) ⟨?_,?_,?_,?_,?_,?_,?_,?_,?_,?_,?_,?_,?_,trivial⟩ ?_
     · intro B E G H I;exact rP (Jc (kp (I 0 rfl) G q80))
     · intro B E G H I d0;exact rP (KT (eI d0))
     · intro B E G H I d0;exact rP (JS Try.fld71_4 Try.inf67 dE (eI d0) rfl)
     · intro B E G H I d0
       exact Xc Try.underlying67 rfl (PlR.k0 o35 G) (eI d0) (by intro e_;cases e_) rfl
     · intro B E G H I;exact rP (Jc (kp (I 0 rfl) G q80))
     · intro B E G H I d0;exact rP (KT (eI d0))
     · intro B E G H I d0;exact rP (JS Try.fld71_0 Try.inf3 dE (eI d0) rfl)
     · intro B E G H I d0
       exact Xc Try.underlying3 rfl (PlR.k0 o35 G) (eI d0) (by intro e_;cases e_) rfl
     · intro B E G H I;exact rP (Jc (kp (I 0 rfl) G q80))
     · intro B E G H I d0;exact rP (KT (eI d0))
     · intro B E G H I d0;exact rP (JS Try.fld71_1 Try.inf3 dE (eI d0) rfl)
     · intro B E G H I d0
       exact Xc Try.underlying3 rfl (PlR.k0 o35 G) (eI d0) (by intro e_;cases e_) rfl
     · intro B E G H I d0 d1;exact rP (y_bld [(0,(.tmp 54),(Ty.nat k)),(1,(.tmp 58),(Ty.nat (c.pl k s)))] [(Ty.int (0:Int)),(Ty.int (0:Int))] (l:=[(0,1),(1,1)]) rfl Try.inf106 rfl (JR (vs:=[.int .i64 0,.int .i64 0]) rfl) rfl (by intro p hp;simp only [List.mem_cons,List.not_mem_nil,or_false] at hp;rcases hp with rfl | rfl;exact ⟨Jk rfl,(eI d0)⟩;exact ⟨Jk rfl,(eI d1)⟩))
     intro a31 s23 D18;have ok30:=D18.ok
     have o36:PlR (.snd s) s23:=PlR.k0 o35 D18.stp
     refine xr_snd (s:=s) ok30 rfl (by intro e_ h_;cases h_ <;> decide) o36 (D18.m 3 rfl) (agg2 (D18.m 12 rfl)) ?_
     intro a32 t12 hs15 ho7 hst7 ok31 hu7 sm12;have F34:=(F14.step0 D18.stp).step hs15 dE
     have q218:At (Ty.nat s) t12 a32 (.tmp 5):=kp9 hs15 (sm12 5 dE) (D18.k q78)
     have q219:At (Ty.lst Ty.ints line) t12 a32 (.tmp 7):=kp9 hs15 (sm12 7 dE) (D18.k q79)
     have q220:At (Ty.val (Jf h.S 0)) t12 a32 (.tmp 0):=kp9 hs15 (sm12 0 dE) (D18.k q80)
     have q221:At (Ty.lst Ty.rows lns) t12 a32 (.tmp 1):=kp9 hs15 (sm12 1 dE) (D18.k q81)
     have q222:At (Ty.val (chv h.goes)) t12 a32 (.tmp 12):=kp9 hs15 (sm12 12 dE) (D18.k q82)
     have q223:At (Ty.nat (step + 1)) t12 a32 (.tmp 6):=kp9 hs15 (sm12 6 dE) (D18.k q83)
     have o37:PlR (.rcv (s + 1)) t12:=ho7
     refine XT.fin ?_
     refine tn ?_
     refine gI a32 t12 ok31 (gM q218 (gT (Ty.nat (s + 1)) rfl (fun B E G H I d0=>rP ((Jy (eI d0) rfl wX).mono (fun τ _ h=>cN (σ:=τ) h))) (gB 0 (gEN ok31 fun a33 s24 ok32 D19=>?_))));have o38:=PlR.k0 o37 D19.stp;refine bn ?_
     exact tn ⟨c.A + 2 - ((s + 1)),by omega,s24,(s + 1),(step + 1),line,rfl,(F34.step0 D19.stp),ok32,(cJ (D19.m 2 rfl)),(cJ (D19.k q223)),(D19.k q219),(D19.k q220),(D19.k q221),(D19.k q222),(cvplr (by rfl) o38),hI.next hN oM oM hz_,rfl⟩
   ·
    have hs0_:s = 0:=oM;have hl0_:line.length = 0:=(by rw [(hI.zero hs0_).1];rfl);have ht0_:step = 0:=(hI.zero hs0_).2
    refine Ji (tn (Jb (Jb ?_)))
    refine gI a10 s7 ok9 (gM q52 (gM q53 (gS rfl (fun B E G H I d0=>rP (JE Try.underlying22 (eI d0))) (gS rfl (fun B E G H I d0 d1=>rP (y_eql (eI d0) (eI d1))) (gEN ok9 fun a34 s25 ok33 D20=>?_)))));have q233:=D20.k q54;have o39:=PlR.k0 o10 D20.stp;refine tn ?_
    refine Jm (p:=(((step:Nat):Int) = (((List.length line):Nat):Int))) (D20.m 3 rfl) (fun c6=>?_) (fun c6=>?_)
    ·
     have hz_:s % c.C = 0:=(by rw [hs0_];exact Nat.zero_mod _)
     refine Jb ?_
     have o40:PlR (.sel s) s25:=cvplr (by first | (unfold Co.nMv;rw [if_pos hz_];done) | simp [Co.nGot,Co.nMv,hs0_]) o39
     refine gI a34 s25 ok33 (gM q233 (gT (Ty.val (Jf h.S 0)) rfl (fun B E G H I d0=>rP (KT (eI d0))) (gT (Ty.val (Jf h.S 2)) rfl (fun B E G H I d0=>rP (JS Try.fld71_2 Try.inf69 dE (eI d0) rfl)) (gT (Ty.val (chv h.hears)) rfl (by intro B E G H I d0;exact Xc Try.underlying69 rfl (PlR.k0 o40 G) (eI d0) (by intro e_;cases e_) rfl) (gEN ok33 fun a35 s26 ok34 D21=>?_)))));have o41:=PlR.k0 o40 D21.stp;refine tn (Jb ?_)
     refine regX (a:=a35) (σ:=s26) rfl 0 (fun i_=>List.getD [] i_ Pr.any) ok34 rfl dE rfl (by rfl) trivial ?_
     intro a36 s27 D22;have ok35:=D22.ok;have F38:=((F10.step0 D20.stp).step0 D21.stp).step0 D22.stp;have q244:=D22.k (D21.k (D20.k q51));have q245:=D22.k (D21.k (D20.k q52));have q246:=D22.k (D21.k (D20.k q53));have q247:=D22.k (D21.k q233);have q248:=D22.k (D21.k (D20.k q55));have q249:=D22.k (D21.k (D20.k q56))
     have o42:PlR (.sel s) s27:=PlR.k0 o41 D22.stp
     refine xr_sel (s:=s) ok35 rfl (by intro e_ h_;cases h_ <;> decide) (by rw [hzq];exact Try.inf3) o42 (D22.k (D21.m 3 rfl)) (fun hlA=>?_) (fun hlA=>?_)
     ·
      have hq_:=hN.q (s / c.C) (Nat.lt_of_le_of_lt (Nat.div_mul_le_self _ _) hlA)
      intro a37 t13 hs16 ho8 hst8 ok36 hu8 sm13;have F39:=F38.step hs16 dE
      have q251:At (Ty.nat s) t13 a37 (.tmp 5):=kp9 hs16 (sm13 5 dE) q244
      have q252:At (Ty.nat step) t13 a37 (.tmp 6):=kp9 hs16 (sm13 6 dE) q245
      have q253:At (Ty.lst Ty.ints line) t13 a37 (.tmp 7):=kp9 hs16 (sm13 7 dE) q246
      have q254:At (Ty.val (Jf h.S 0)) t13 a37 (.tmp 0):=kp9 hs16 (sm13 0 dE) q247
      have q255:At (Ty.lst Ty.rows lns) t13 a37 (.tmp 1):=kp9 hs16 (sm13 1 dE) q248
      have q256:At (Ty.val (chv h.goes)) t13 a37 (.tmp 12):=kp9 hs16 (sm13 12 dE) q249
      have o43:PlR (.snd s) t13:=ho8
      have q257:At (Ty.tup3 (Ty.int (0:Int)) (Ty.bool true) (Ty.int (c.q (s / c.C)))) t13 a37 (.tmp 39):=hasU3 (hu8 39 rfl) rfl rfl rfl
      refine XT.tail (fun t14 hs17=>?_) (by rfl)
      have F40:=F39.step0 hs17
      have q258:At (Ty.nat s) t14 a37 (.tmp 5):=Ty.up _ hs17.le0 q251
      have q259:At (Ty.nat step) t14 a37 (.tmp 6):=Ty.up _ hs17.le0 q252
      have q260:At (Ty.lst Ty.ints line) t14 a37 (.tmp 7):=Ty.up _ hs17.le0 q253
      have q261:At (Ty.val (Jf h.S 0)) t14 a37 (.tmp 0):=Ty.up _ hs17.le0 q254
      have q262:At (Ty.lst Ty.rows lns) t14 a37 (.tmp 1):=Ty.up _ hs17.le0 q255
      have q263:At (Ty.val (chv h.goes)) t14 a37 (.tmp 12):=Ty.up _ hs17.le0 q256
      have q264:At (Ty.tup3 (Ty.int (0:Int)) (Ty.bool true) (Ty.int (c.q (s / c.C)))) t14 a37 (.tmp 39):=Ty.up _ hs17.le0 q257
      have o44:PlR (.snd s) t14:=PlR.k0 o43 hs17
      refine tL (R:=(fun v τ=>Pr.has (Ty.pr (Ty.int (0:Int))) τ v)) ok36 (Yld.toL (y_ext3_0 q264)) fun a38 s28 hs18 ok37 r6 sm14=>?_
      have o45:=PlR.keepL o44 hs18 dE dE
      have q272:At (Ty.int (0:Int)) s28 a38 (.tmp 40):=r6
      clear r6
      refine tL (R:=(fun v τ=>Pr.has (Ty.pr (Ty.bool true)) τ v)) ok37 (Yld.toL ((y_eql q272 rfl).mono (fun τ _ h=>cvb (σ:=τ) dE h))) fun a39 s29 hs19 ok38 r7 sm15=>?_
      have q274:=kq hs19 sm15 6 (kq hs18 sm14 6 q259);have q275:=kq hs19 sm15 7 (kq hs18 sm14 7 q260);have o46:=PlR.keepL o45 hs19 dE dE
      have q280:At (Ty.bool true) s29 a39 (.tmp 41):=r7
      clear r7;refine Jh (tn (Je ?_))
      refine KM q280 (fun _=>?_) (fun c7=>(by cases c7))
      refine Jb ?_
      refine gI a39 s29 ok38 (gT (Ty.int (c.q (s / c.C))) rfl (fun B E G H I=>rP (y_ext3_2 (kp (I 39 rfl) G (kq hs19 sm15 39 (kq hs18 sm14 39 q264))))) (gB 0 (gEN ok38 fun a40 s30 ok39 D23=>?_)));have q283:=D23.k (kq hs19 sm15 1 (kq hs18 sm14 1 q262));have o47:=PlR.k0 o46 D23.stp;refine tn ?_
      refine gI a40 s30 ok39 (gM q283 (gM (D23.m 1 rfl) (gT (Ty.ref [(Ty.lst Ty.ints (lns.getD ((c.q (s / c.C))).toNat []))]) rfl (fun B E G H I d0 d1=>rP (JM Try.underlying49 Try.inf22 (eI d0) (eI d1) oM (JJ Ty.rows lns [] ((c.q (s / c.C))).toNat oM))) (gS rfl (fun B E G H I d0=>rP (JD Try.underlying22 rfl (eI d0) rfl)) (gB 0 (gC (Ty.int (0:Int)) (gEN ok39 fun a41 s31 ok40 D24=>?_)))))));have q287:=D24.k (D23.k (kq hs19 sm15 0 (kq hs18 sm14 0 q261)));have o48:=PlR.k0 o47 D24.stp;refine bn (tn (Jb ?_))
      refine regX (a:=a41) (σ:=s31) rfl 13 (fun i_=>List.getD [(Ty.pr (Ty.val (Jf h.S 0))),(Ty.pr (Ty.val (Jf h.S 0))),(Ty.pr (Ty.val (Jf h.S 4))),(Ty.pr (Ty.val (chv c.heard))),(Ty.pr (Ty.val (Jf h.S 0))),(Ty.pr (Ty.val (Jf h.S 0))),(Ty.pr (Ty.val (Jf h.S 0))),(Ty.pr (Ty.nat k)),(Ty.pr (Ty.val (Jf h.S 0))),(Ty.pr (Ty.val (Jf h.S 0))),(Ty.pr (Ty.val (Jf h.S 1))),(Ty.pr (Ty.nat (c.pl k s))),(Ty.pr (Ty.agg [(Ty.nat k),(Ty.nat (c.pl k s))]))] i_ Pr.any) ok40 rfl dE rfl (by rfl) ⟨?_,?_,?_,?_,?_,?_,?_,?_,?_,?_,?_,?_,?_,trivial⟩ ?_
      · intro B E G H I;exact rP (Jc (kp (I 0 rfl) G q287))
      · intro B E G H I d0;exact rP (KT (eI d0))
      · intro B E G H I d0;exact rP (JS Try.fld71_4 Try.inf67 dE (eI d0) rfl)
      · intro B E G H I d0
        exact Xc Try.underlying67 rfl (PlR.k0 o48 G) (eI d0) (by intro e_;cases e_) rfl
      · intro B E G H I;exact rP (Jc (kp (I 0 rfl) G q287))
      · intro B E G H I d0;exact rP (KT (eI d0))
      · intro B E G H I d0;exact rP (JS Try.fld71_0 Try.inf3 dE (eI d0) rfl)
      · intro B E G H I d0
        exact Xc Try.underlying3 rfl (PlR.k0 o48 G) (eI d0) (by intro e_;cases e_) rfl
      · intro B E G H I;exact rP (Jc (kp (I 0 rfl) G q287))
      · intro B E G H I d0;exact rP (KT (eI d0))
      · intro B E G H I d0;exact rP (JS Try.fld71_1 Try.inf3 dE (eI d0) rfl)
      · intro B E G H I d0
        exact Xc Try.underlying3 rfl (PlR.k0 o48 G) (eI d0) (by intro e_;cases e_) rfl
      · intro B E G H I d0 d1;exact rP (y_bld [(0,(.tmp 54),(Ty.nat k)),(1,(.tmp 58),(Ty.nat (c.pl k s)))] [(Ty.int (0:Int)),(Ty.int (0:Int))] (l:=[(0,1),(1,1)]) rfl Try.inf106 rfl (JR (vs:=[.int .i64 0,.int .i64 0]) rfl) rfl (by intro p hp;simp only [List.mem_cons,List.not_mem_nil,or_false] at hp;rcases hp with rfl | rfl;exact ⟨Jk rfl,(eI d0)⟩;exact ⟨Jk rfl,(eI d1)⟩))
      intro a42 s32 D25;have ok41:=D25.ok
      have o49:PlR (.snd s) s32:=PlR.k0 o48 D25.stp
      refine xr_snd (s:=s) ok41 rfl (by intro e_ h_;cases h_ <;> decide) o49 (D25.m 3 rfl) (agg2 (D25.m 12 rfl)) ?_
      intro a43 t15 hs20 ho9 hst9 ok42 hu9 sm16;have F46:=(((((F40.sl hs18).sl hs19).step0 D23.stp).step0 D24.stp).step0 D25.stp).step hs20 dE
      have q300:At (Ty.nat s) t15 a43 (.tmp 5):=kp9 hs20 (sm16 5 dE) (D25.k (D24.k (D23.k (kq hs19 sm15 5 (kq hs18 sm14 5 q258)))))
      have q301:At (Ty.val (Jf h.S 0)) t15 a43 (.tmp 0):=kp9 hs20 (sm16 0 dE) (D25.k q287)
      have q302:At (Ty.lst Ty.rows lns) t15 a43 (.tmp 1):=kp9 hs20 (sm16 1 dE) (D25.k (D24.k q283))
      have q303:At (Ty.val (chv h.goes)) t15 a43 (.tmp 12):=kp9 hs20 (sm16 12 dE) (D25.k (D24.k (D23.k (kq hs19 sm15 12 (kq hs18 sm14 12 q263)))))
      have q304:At (Ty.lst Ty.ints (lns.getD ((c.q (s / c.C))).toNat [])) t15 a43 (.tmp 7):=kp9 hs20 (sm16 7 dE) (D25.k (D24.m 4 rfl))
      have q305:At (Ty.int (0:Int)) t15 a43 (.tmp 6):=kp9 hs20 (sm16 6 dE) (D25.k (D24.m 5 rfl))
      have o50:PlR (.rcv (s + 1)) t15:=ho9
      refine XT.fin ?_
      refine tn ?_
      refine gI a43 t15 ok42 (gM q300 (gT (Ty.nat (s + 1)) rfl (fun B E G H I d0=>rP ((Jy (eI d0) rfl wX).mono (fun τ _ h=>cN (σ:=τ) h))) (gB 0 (gEN ok42 fun a44 s33 ok43 D26=>?_))));have o51:=PlR.k0 o50 D26.stp;refine bn ?_
      exact tn ⟨c.A + 2 - ((s + 1)),by omega,s33,(s + 1),0,(lns.getD (c.q (s / c.C)).toNat []),rfl,(F46.step0 D26.stp),ok43,(cJ (D26.m 2 rfl)),(cJ (D26.k q305)),(cvt (by (first | rfl | omega | (simp_all;done) | (simp_all;omega))) (D26.k q304)),(D26.k q301),(D26.k q302),(D26.k q303),(cvplr (by rfl) o51),hI.hear oM hz_,rfl⟩
     ·
      intro a45 t16 hs21 ho10 hst10 ok44 hu10 sm17;have F48:=F38.step hs21 dE
      have q312:At (Ty.nat s) t16 a45 (.tmp 5):=kp9 hs21 (sm17 5 dE) q244
      have q313:At (Ty.nat step) t16 a45 (.tmp 6):=kp9 hs21 (sm17 6 dE) q245
      have q314:At (Ty.lst Ty.ints line) t16 a45 (.tmp 7):=kp9 hs21 (sm17 7 dE) q246
      have q315:At (Ty.val (Jf h.S 0)) t16 a45 (.tmp 0):=kp9 hs21 (sm17 0 dE) q247
      have q316:At (Ty.lst Ty.rows lns) t16 a45 (.tmp 1):=kp9 hs21 (sm17 1 dE) q248
      have q317:At (Ty.val (chv h.goes)) t16 a45 (.tmp 12):=kp9 hs21 (sm17 12 dE) q249
      have o52:PlR (.snd s) t16:=ho10
      have q318:At (Ty.tup3 (Ty.int (-1:Int)) (Ty.bool false) (Ty.int (0:Int))) t16 a45 (.tmp 39):=hasU3 (hu10 39 rfl) rfl rfl hzq
      refine XT.tail (fun t17 hs22=>?_) (by rfl)
      have F49:=F48.step0 hs22
      have q319:At (Ty.nat s) t17 a45 (.tmp 5):=Ty.up _ hs22.le0 q312
      have q320:At (Ty.nat step) t17 a45 (.tmp 6):=Ty.up _ hs22.le0 q313
      have q321:At (Ty.lst Ty.ints line) t17 a45 (.tmp 7):=Ty.up _ hs22.le0 q314
      have q322:At (Ty.val (Jf h.S 0)) t17 a45 (.tmp 0):=Ty.up _ hs22.le0 q315
      have q323:At (Ty.lst Ty.rows lns) t17 a45 (.tmp 1):=Ty.up _ hs22.le0 q316
      have q324:At (Ty.val (chv h.goes)) t17 a45 (.tmp 12):=Ty.up _ hs22.le0 q317
      have q325:At (Ty.tup3 (Ty.int (-1:Int)) (Ty.bool false) (Ty.int (0:Int))) t17 a45 (.tmp 39):=Ty.up _ hs22.le0 q318
      have o53:PlR (.snd s) t17:=PlR.k0 o52 hs22
      refine tL (R:=(fun v τ=>Pr.has (Ty.pr (Ty.int (-1:Int))) τ v)) ok44 (Yld.toL (y_ext3_0 q325)) fun a46 s34 hs23 ok45 r8 sm18=>?_
      have o54:=PlR.keepL o53 hs23 dE dE
      have q333:At (Ty.int (-1:Int)) s34 a46 (.tmp 40):=r8
      clear r8
      refine tL (R:=(fun v τ=>Pr.has (Ty.pr (Ty.bool false)) τ v)) ok45 (Yld.toL ((y_eql q333 rfl).mono (fun τ _ h=>cvb (σ:=τ) dE h))) fun a47 s35 hs24 ok46 r9 sm19=>?_
      have q337:=kq hs24 sm19 0 (kq hs23 sm18 0 q322);have q340:=kq hs24 sm19 39 (kq hs23 sm18 39 q325);have o55:=PlR.keepL o54 hs24 dE dE
      have q341:At (Ty.bool false) s35 a47 (.tmp 41):=r9
      clear r9;refine Jh (tn (Je ?_))
      refine KM q341 (fun c8=>(by cases c8)) (fun _=>?_)
      refine Ji (bn (tn (Jb ?_)))
      refine regX (a:=a47) (σ:=s35) rfl 13 (fun i_=>List.getD [(Ty.pr (Ty.val (Jf h.S 0))),(Ty.pr (Ty.val (Jf h.S 0))),(Ty.pr (Ty.val (Jf h.S 4))),(Ty.pr (Ty.val (chv c.heard))),(Ty.pr (Ty.val (Jf h.S 0))),(Ty.pr (Ty.val (Jf h.S 0))),(Ty.pr (Ty.val (Jf h.S 0))),(Ty.pr (Ty.nat k)),(Ty.pr (Ty.val (Jf h.S 0))),(Ty.pr (Ty.val (Jf h.S 0))),(Ty.pr (Ty.val (Jf h.S 1))),(Ty.pr (Ty.nat (c.pl k s))),(Ty.pr (Ty.agg [(Ty.nat k),(Ty.nat (c.pl k s))]))] i_ Pr.any) ok46 rfl dE rfl (by rfl) ⟨?_,?_,?_,?_,?_,?_,?_,?_,?_,?_,?_,?_,?_,trivial⟩ ?_
      · intro B E G H I;exact rP (Jc (kp (I 0 rfl) G q337))
      · intro B E G H I d0;exact rP (KT (eI d0))
      · intro B E G H I d0;exact rP (JS Try.fld71_4 Try.inf67 dE (eI d0) rfl)
      · intro B E G H I d0
        exact Xc Try.underlying67 rfl (PlR.k0 o55 G) (eI d0) (by intro e_;cases e_) rfl
      · intro B E G H I;exact rP (Jc (kp (I 0 rfl) G q337))
      · intro B E G H I d0;exact rP (KT (eI d0))
      · intro B E G H I d0;exact rP (JS Try.fld71_0 Try.inf3 dE (eI d0) rfl)
      · intro B E G H I d0
        exact Xc Try.underlying3 rfl (PlR.k0 o55 G) (eI d0) (by intro e_;cases e_) rfl
      · intro B E G H I;exact rP (Jc (kp (I 0 rfl) G q337))
      · intro B E G H I d0;exact rP (KT (eI d0))
      · intro B E G H I d0;exact rP (JS Try.fld71_1 Try.inf3 dE (eI d0) rfl)
      · intro B E G H I d0
        exact Xc Try.underlying3 rfl (PlR.k0 o55 G) (eI d0) (by intro e_;cases e_) rfl
      · intro B E G H I d0 d1;exact rP (y_bld [(0,(.tmp 54),(Ty.nat k)),(1,(.tmp 58),(Ty.nat (c.pl k s)))] [(Ty.int (0:Int)),(Ty.int (0:Int))] (l:=[(0,1),(1,1)]) rfl Try.inf106 rfl (JR (vs:=[.int .i64 0,.int .i64 0]) rfl) rfl (by intro p hp;simp only [List.mem_cons,List.not_mem_nil,or_false] at hp;rcases hp with rfl | rfl;exact ⟨Jk rfl,(eI d0)⟩;exact ⟨Jk rfl,(eI d1)⟩))
      intro a48 s36 D27;have ok47:=D27.ok
      have o56:PlR (.snd s) s36:=PlR.k0 o55 D27.stp
      refine xr_snd (s:=s) ok47 rfl (by intro e_ h_;cases h_ <;> decide) o56 (D27.m 3 rfl) (agg2 (D27.m 12 rfl)) ?_
      intro a49 t18 hs25 ho11 hst11 ok48 hu11 sm20;have F53:=(((F49.sl hs23).sl hs24).step0 D27.stp).step hs25 dE
      have q350:At (Ty.nat s) t18 a49 (.tmp 5):=kp9 hs25 (sm20 5 dE) (D27.k (kq hs24 sm19 5 (kq hs23 sm18 5 q319)))
      have q351:At (Ty.nat step) t18 a49 (.tmp 6):=kp9 hs25 (sm20 6 dE) (D27.k (kq hs24 sm19 6 (kq hs23 sm18 6 q320)))
      have q352:At (Ty.lst Ty.ints line) t18 a49 (.tmp 7):=kp9 hs25 (sm20 7 dE) (D27.k (kq hs24 sm19 7 (kq hs23 sm18 7 q321)))
      have q353:At (Ty.val (Jf h.S 0)) t18 a49 (.tmp 0):=kp9 hs25 (sm20 0 dE) (D27.k q337)
      have q354:At (Ty.lst Ty.rows lns) t18 a49 (.tmp 1):=kp9 hs25 (sm20 1 dE) (D27.k (kq hs24 sm19 1 (kq hs23 sm18 1 q323)))
      have q355:At (Ty.val (chv h.goes)) t18 a49 (.tmp 12):=kp9 hs25 (sm20 12 dE) (D27.k (kq hs24 sm19 12 (kq hs23 sm18 12 q324)))
      have o57:PlR (.rcv (s + 1)) t18:=ho11
      refine XT.fin ?_
      refine tn ?_
      refine gI a49 t18 ok48 (gM q350 (gT (Ty.nat (s + 1)) rfl (fun B E G H I d0=>rP ((Jy (eI d0) rfl wX).mono (fun τ _ h=>cN (σ:=τ) h))) (gB 0 (gEN ok48 fun a50 s37 ok49 D28=>?_))));have o58:=PlR.k0 o57 D28.stp;refine bn ?_
      exact tn ⟨c.A + 2 - ((s + 1)),by omega,s37,(s + 1),step,line,rfl,(F53.step0 D28.stp),ok49,(cJ (D28.m 2 rfl)),(D28.k q351),(D28.k q352),(D28.k q353),(D28.k q354),(D28.k q355),(cvplr (by rfl) o58),RgI.last oM hlA,rfl⟩
    ·
     exfalso
     omega
  ·
   intro a51 t19 hs26 ho12 hst12 ok50 hu12 sm21;have F55:=F6.step hs26 dE
   have q362:At (Ty.nat s) t19 a51 (.tmp 5):=kp9 hs26 (sm21 5 dE) q24
   have q363:At (Ty.nat step) t19 a51 (.tmp 6):=kp9 hs26 (sm21 6 dE) q25
   have q364:At (Ty.lst Ty.ints line) t19 a51 (.tmp 7):=kp9 hs26 (sm21 7 dE) q26
   have q365:At (Ty.val (Jf h.S 0)) t19 a51 (.tmp 0):=kp9 hs26 (sm21 0 dE) q27
   have q366:At (Ty.lst Ty.rows lns) t19 a51 (.tmp 1):=kp9 hs26 (sm21 1 dE) q28
   have q367:At (Ty.val (chv h.goes)) t19 a51 (.tmp 12):=kp9 hs26 (sm21 12 dE) q29
   have o59:PlR .fin t19:=ho12
   have q368:At (Ty.tup2 (Ty.int (0:Int)) (Ty.bool false)) t19 a51 (.tmp 13):=hasU2 (hu12 13 rfl) hzi rfl
   refine XT.tail (fun t20 hs27=>?_) (by rfl)
   have F56:=F55.step0 hs27
   have q369:At (Ty.nat s) t20 a51 (.tmp 5):=Ty.up _ hs27.le0 q362
   have q370:At (Ty.nat step) t20 a51 (.tmp 6):=Ty.up _ hs27.le0 q363
   have q371:At (Ty.lst Ty.ints line) t20 a51 (.tmp 7):=Ty.up _ hs27.le0 q364
   have q372:At (Ty.val (Jf h.S 0)) t20 a51 (.tmp 0):=Ty.up _ hs27.le0 q365
   have q373:At (Ty.lst Ty.rows lns) t20 a51 (.tmp 1):=Ty.up _ hs27.le0 q366
   have q374:At (Ty.val (chv h.goes)) t20 a51 (.tmp 12):=Ty.up _ hs27.le0 q367
   have q375:At (Ty.tup2 (Ty.int (0:Int)) (Ty.bool false)) t20 a51 (.tmp 13):=Ty.up _ hs27.le0 q368
   have o60:PlR .fin t20:=PlR.k0 o59 hs27
   refine tL (R:=(fun v τ=>Pr.has (Ty.pr (Ty.bool false)) τ v)) ok50 (Yld.toL (y_ext2_1 q375)) fun a52 s38 hs28 ok51 r10 sm22=>?_
   have q377:=kq hs28 sm22 6 q370;have q378:=kq hs28 sm22 7 q371;have q379:=kq hs28 sm22 0 q372;have q380:=kq hs28 sm22 1 q373;have q381:=kq hs28 sm22 12 q374;have o61:=PlR.keepL o60 hs28 dE dE
   have q382:At (Ty.bool false) s38 a52 (.tmp 14):=r10
   clear r10;refine Jh (tn (Jb ?_))
   refine KM q382 (fun c9=>(by cases c9)) (fun _=>?_)
   refine Jx (tx (tx (bx (tn (Jb ?_)))))
   refine gI a52 s38 ok51 (gM (kq hs28 sm22 5 q369) (gB 0 (gEN ok51 fun a53 s39 ok52 D29=>?_)));have o62:=PlR.k0 o61 D29.stp;refine tn (Jj ?_)
   exact KP rfl ok52 ((F56.sl hs28).step0 D29.stp) ⟨(cJ (D29.m 1 rfl)),o62⟩
end Go.Proofs.Ytodmoedmijfciaa
