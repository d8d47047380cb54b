/- The functions that the law ColourSays reaches, each by its contract. Part 4. -/
import Derived.Test.YtkjifbgofckfeaaColourSaysW3
namespace Go.Proofs.Ytkjifbgofckfeaa
open Go.KL
set_option maxHeartbeats 4000000 in
set_option maxRecDepth 100000 in
theorem gSize_fn (gv:Value) (gs:Value) (cs:Value) (us:List Value) (n:Nat) (c:Nat → Lev) (gens:List (List Int)) (σ:GW) (hlow:Low [41,42,43] σ) (v0:Value) (hv0:Ty.has (Ty.val gv) σ v0) (ho_gv:OwnP σ 41 gv [(Ty.nat n),(Ty.val gs),(Ty.val cs)]) (ho_cs:ChnU σ 42 22 108 cs n c us) (ho_gs:Own σ 43 22 1 gs (List.length gens) (List.map Ty.ints gens)) (hC:ChnOf n gens c) (hG:∀ x ∈ gens,RowN n x) :
    FnL Try.prog 42 #[v0] σ [41,42,43] (fun v τ=>(Ty.has (Ty.nat (szTo n (fun y=>y ∈ gens) n)) τ v)∧(OwnP τ 41 gv [(Ty.nat n),(Ty.val gs),(Ty.val cs)])∧(ChnU τ 42 22 108 cs n c us)∧(Own τ 43 22 1 gs (List.length gens) (List.map Ty.ints gens))):=by
 have hnn:=hC.wc.nn
 have hsb:=fun k=>szTo_bd (n:=n) (S:=fun y=>y ∈ gens) (k:=k) hnn.2
 refine fn_introL hlow Try.func42 rfl Try.ntmps42 (Nat.le_of_ble_eq_true rfl) (fun a0 F0 ok0 hargs=>?_)
 have p0:=pB (hargs 0 _ rfl) hv0
 clear hargs;refine wp_seq ?_
 refine gI a0 σ ok0 (gC (Ty.int (0:Int)) (gE ok0 fun a1 s1 ok1 D1=>?_));have o1:=OwnP.k0 ho_gv D1.stp;have o2:=ChnU.k0 ho_cs D1.stp;have o3:=Own.k0 ho_gs D1.stp;refine tn (wp_seq ?_)
 refine gI a1 s1 ok1 (gC (Ty.int (1:Int)) (gE ok1 fun a2 s2 ok2 D2=>?_));have o4:=OwnP.k0 o1 D2.stp;have o5:=ChnU.k0 o2 D2.stp;have o6:=Own.k0 o3 D2.stp;refine tn (wp_seq (wp_seq ?_))
 have o7:Own s2 42 108 1 cs n (List.map Ty.val us):=ChnU.row o5
 have hul1:=ChnU.ul o5
 refine gI a2 s2 ok2 (gM (D2.k (D1.k p0)) (gT (Ty.val gv) rfl (fun A B G H I d0=>rP (y_nilp (OwnP.k0 o4 G) (eI d0))) (gT (Ty.val (ptrAt gv 2)) rfl (fun A B G H I d0=>rP (ownp_field Try.fld95_2 Try.inf93 dE (OwnP.k0 o4 G) (eI d0))) (gS rfl (fun A B G H I d0=>rP (ownp_load Try.underlying93 rfl (OwnP.k0 o4 G) (eI d0) rfl)) (gT (Ty.nat n) rfl (fun A B G H I d0=>rP (own_len Try.underlying93 (al (R:=(Pr.own 42 108 1 n (List.map Ty.val us))) (eI d0) (Own.k0 o7 G)))) (gT (Ty.int (0:Int)) rfl (fun A B G H I=>rP (y_move rfl)) (gE ok2 fun a3 s3 ok3 D3=>?_)))))));have o8:=OwnP.k0 o4 D3.stp;have o9:=Own.k0 o7 D3.stp;have o10:=Own.k0 o6 D3.stp;have o11:=ChnU.k0 o5 D3.stp;refine tn (wp_block ?_)
 refine loop (fun n1 a4 w1=>∃ (t1:GW) (i:Nat),t1.w = w1∧FromL [41,42,43] σ t1∧Ok 24 [] a4∧At (Ty.nat i) t1 a4 (.tmp 11)∧At (Ty.nat (szTo n (fun y=>y ∈ gens) i)) t1 a4 (.tmp 3)∧At (Ty.val cs) t1 a4 (.tmp 9)∧At (Ty.nat n) t1 a4 (.tmp 10)∧OwnP t1 41 gv [(Ty.nat n),(Ty.val gs),(Ty.val cs)]∧ChnU t1 42 22 108 cs n c us∧Own t1 43 22 1 gs (List.length gens) (List.map Ty.ints gens)∧(i ≤ n)∧n1 = n - i) (n - (0)) ?_ ?_
 ·
  exact ⟨s3,0,rfl,(((F0.step0 D1.stp).step0 D2.stp).step0 D3.stp),ok3,(cJ (D3.m 5 rfl)),(cvi (by (rfl)) (D3.k (D2.m 0 rfl))),(D3.m 3 rfl),(D3.m 4 rfl),o8,o11,o10,by omega,rfl⟩
 ·
  rintro n2 a5 w2 ⟨t2,i,rfl,F4,ok4,q8,q9,q10,q11,o12,o13,o14,hi,rfl⟩
  refine wp_seq ?_
  refine gI a5 t2 ok4 (gS rfl (fun A B G H I=>rP (y_lss (kp (I 11 rfl) G q8) (kp (I 10 rfl) G q11))) (gE ok4 fun a6 s4 ok5 D4=>?_));have F5:=F4.step0 D4.stp;have q12:=D4.k q8;have q13:=D4.k q9;have q14:=D4.k q10;have o15:=OwnP.k0 o12 D4.stp;have o16:=ChnU.k0 o13 D4.stp;have o17:=Own.k0 o14 D4.stp;refine tn (wp_seq ?_)
  refine cond_p (p:=(((i:Nat):Int) < ((n:Nat):Int))) (D4.m 0 rfl) (fun c1=>?_) (fun c1=>?_)
  ·
   have hml:=hC.szS hG (k:=i) oM;have hsb1:=hsb (i + 1) oM
   refine wp_skip (tn (wp_seq (wp_block (wp_seq ?_))))
   have o18:Own s4 42 108 1 cs n (List.map Ty.val us):=ChnU.row o16
   have hul2:=ChnU.ul o16
   refine gI a6 s4 ok5 (gT (Ty.val (cellPtr cs i)) rfl (fun A B G H I=>rP (own_index1 (i:=((i:Nat):Int)) Try.underlying93 Try.inf108 (Own.k0 o18 G) (kp (I 9 rfl) G q14) (kp (I 11 rfl) G q12) oM oM)) (gS rfl (fun A B G H I d0=>rP (own_load Try.underlying108 rfl (Own.k0 o18 G) (eI d0) (lst_get Ty.val us undef i oM))) (gB 0 (gE ok5 fun a7 s5 ok6 D5=>?_))));have o19:=OwnP.k0 o15 D5.stp;have o20:=Own.k0 o18 D5.stp;have o21:=Own.k0 o17 D5.stp;have o22:=ChnU.k0 o16 D5.stp
   obtain ⟨ms1,rs1,hN1⟩:=o22
   have o23:ChnU s5 42 22 108 cs n c us:=⟨ms1,rs1,hN1⟩
   have hl1:=hN1.lev i oM
   obtain ⟨mq1,hmq1⟩:∃ x_,ms1 i = x_:=⟨_,rfl⟩
   obtain ⟨rq1,hrq1⟩:∃ x_,rs1 i = x_:=⟨_,rfl⟩
   have o24:OwnP s5 42 (us.getD i undef) [(Ty.nat i),(Ty.val mq1),(Ty.val rq1)]:=by have h_:=hl1.p;simp only [hmq1,hrq1] at h_;exact h_
   have o25:OwnM Ty.ints kI s5 42 mq1 (c i).orb:=by have h_:=hl1.m;simp only [hmq1,hrq1] at h_;exact h_
   refine tn ?_
   refine gI a7 s5 ok6 (gM (D5.k q13) (gM (D5.m 2 rfl) (gT (Ty.val (us.getD i undef)) rfl (fun A B G H I d0=>rP (y_nilp (OwnP.k0 o24 G) (eI d0))) (gT (Ty.val (ptrAt (us.getD i undef) 1)) rfl (fun A B G H I d0=>rP (ownp_field Try.fld111_1 Try.inf109 dE (OwnP.k0 o24 G) (eI d0))) (gS rfl (fun A B G H I d0=>rP (ownp_load Try.underlying109 rfl (OwnP.k0 o24 G) (eI d0) rfl)) (gT (Ty.nat (n - noO n (c i).orb)) rfl (fun A B G H I d0=>rP (y_mlen Try.underlying109 (OwnM.k0 o25 G) (eI d0) (by exact fun p_ t_ h_=>by obtain ⟨a1_,_,a3_⟩:=(hC.wc.lev i oM).pt p_ t_ h_;have h5_:=a1_.at (show i < n by omega);rw [a3_] at h5_;exact h5_))) (gT (Ty.nat ((szTo n (fun y=>y ∈ gens) i) * (n - noO n (c i).orb))) rfl (fun A B G H I d0 d1=>rP ((y_mul (eI d0) (eI d1) wX).mono (fun τ _ h=>cN (σ:=τ) h))) (gB 0 (gE ok6 fun a8 s6 ok7 D6=>?_)))))))));have o26:=OwnP.k0 o19 D6.stp;have o27:=ChnU.k0 o23 D6.stp;have o28:=Own.k0 o21 D6.stp;have o29:=OwnP.k0 o24 D6.stp;have o30:=OwnM.k0 o25 D6.stp;refine bn (tn ?_)
   refine gI a8 s6 ok7 (gT (Ty.nat (i + 1)) rfl (fun A B G H I=>rP ((y_add (kp (I 11 rfl) G (D6.k (D5.k q12))) rfl wX).mono (fun τ _ h=>cN (σ:=τ) h))) (gS rfl (fun A B G H I d0=>rP (y_move (eI d0))) (gE ok7 fun a9 s7 ok8 D7=>?_)));have o31:=OwnP.k0 o26 D7.stp;have o32:=ChnU.k0 o27 D7.stp;have o33:=Own.k0 o28 D7.stp
   exact tn ⟨n - ((i+1)),by omega,s7,(i+1),rfl,(((F5.step0 D5.stp).step0 D6.stp).step0 D7.stp),ok8,(cJ (D7.m 1 rfl)),(cvi (by (rw [hml])) (D7.k (D6.m 7 rfl))),(D7.k (D6.k (D5.k q14))),(D7.k (D6.k (D5.k (D4.k q11)))),o31,o32,o33,by omega,rfl⟩
  ·
   refine wp_exit (tx (tx (bx (tn (wp_seq ?_)))))
   refine gI a6 s4 ok5 (gM q13 (gB 0 (gE ok5 fun a10 s8 ok9 D8=>?_)));have o34:=OwnP.k0 o15 D8.stp;have o35:=ChnU.k0 o16 D8.stp;have o36:=Own.k0 o17 D8.stp;refine tn (wp_ret ?_)
   exact retL1 rfl ok9 (F5.step0 D8.stp) ⟨(cvi (by (rw [show i = n by omega])) (D8.m 1 rfl)),o34,o35,o36⟩
set_option maxHeartbeats 4000000 in
set_option maxRecDepth 100000 in
theorem isNaN_fn (x:Int) (σ:GW)  (v0:Value) (hv0:Ty.has (Ty.int x) σ v0)   :
    FnC Try.prog 111 #[v0] σ (Ty.bool false):=by
 refine fn_intro0 Try.func111 rfl Try.ntmps111 (Nat.le_of_ble_eq_true rfl) (fun s0 a0 hle F0 ok0 hargs=>?_)
 have p0:=pA hle (hargs 0 _ rfl) hv0
 clear hargs;refine wp_seq ?_
 refine gI a0 s0 ok0 (gC (Ty.bool false) (gE ok0 fun a1 s1 ok1 D1=>?_));have q1:=D1.k p0;refine tn (wp_seq ?_)
 refine gI a1 s1 ok1 (gM q1 (gM q1 (gS rfl (fun A B G H I d0 d1=>rP (y_neq (eI d0) (eI d1))) (gB 0 (gE ok1 fun a2 s2 ok2 D2=>?_)))));refine tn (wp_ret ?_)
 exact retL1 rfl ok2 ((F0.step0 D1.stp).step0 D2.stp) (cvb (by (simp)) (D2.m 3 rfl))
set_option maxHeartbeats 4000000 in
set_option maxRecDepth 100000 in
theorem cmpInt_fn (x:Int) (y:Int) (σ:GW)  (v0 v1:Value) (hv0:Ty.has (Ty.int x) σ v0) (hv1:Ty.has (Ty.int y) σ v1)   :
    FnC Try.prog 103 #[v0,v1] σ (Ty.int (cmpI x y)):=by
 refine fn_intro0 Try.func103 rfl Try.ntmps103 (Nat.le_of_ble_eq_true rfl) (fun s0 a0 hle F0 ok0 hargs=>?_)
 have p0:=pA hle (hargs 0 _ rfl) hv0
 have p1:=pA hle (hargs 1 _ rfl) hv1
 clear hargs;refine wp_seq ?_
 refine gI a0 s0 ok0 (gC (Ty.int (0:Int)) (gE ok0 fun a1 s1 ok1 D1=>?_));have q1:=D1.k p0;refine tn (wp_seq ?_)
 refine gI a1 s1 ok1 (gM q1 (gS rfl (fun A B G H I d0=>rP (y_call _ Try.func111 rfl rfl my1 (isNaN_fn (x) _ _ (eI d0) ))) (gB 0 (gE ok1 fun a2 s2 ok2 D2=>?_))));have q4:=D2.k (D1.k p1);refine tn (wp_seq ?_)
 refine gI a2 s2 ok2 (gM q4 (gS rfl (fun A B G H I d0=>rP (y_call _ Try.func111 rfl rfl my1 (isNaN_fn (y) _ _ (cvi (σ:=B) oM (ef d0 rfl)) ))) (gB 0 (gE ok2 fun a3 s3 ok3 D3=>?_))));refine tn (wp_seq (wp_seq ?_))
 refine gI a3 s3 ok3 (gM (D3.k (D2.m 2 rfl)) (gE ok3 fun a4 s4 ok4 D4=>?_));refine tn ?_
 refine cond_t (D4.m 0 rfl) (fun c1=>(by cases c1)) (fun _=>?_)
 refine wp_skip (tn (wp_seq (wp_seq ?_)))
 refine gI a4 s4 ok4 (gM (D4.k (D3.m 2 rfl)) (gE ok4 fun a5 s5 ok5 D5=>?_));have q14:=D5.k (D4.k (D3.k (D2.k q1)));have q15:=D5.k (D4.k (D3.k q4));refine tn ?_
 refine cond_t (D5.m 0 rfl) (fun c2=>(by cases c2)) (fun _=>?_)
 refine wp_skip (tn (wp_seq (wp_seq ?_)))
 refine gI a5 s5 ok5 (gM q14 (gM q15 (gS rfl (fun A B G H I d0 d1=>rP (y_lss (eI d0) (eI d1))) (gE ok5 fun a6 s6 ok6 D6=>?_))));have F6:=(((((F0.step0 D1.stp).step0 D2.stp).step0 D3.stp).step0 D4.stp).step0 D5.stp).step0 D6.stp;refine tn ?_
 refine cond_p (p:=(x < y)) (D6.m 2 rfl) (fun c3=>?_) (fun c3=>?_)
 ·
  refine wp_seq ?_
  refine gI a6 s6 ok6 (gC (Ty.int (-1:Int)) (gE ok6 fun a7 s7 ok7 D7=>?_));refine tn (wp_ret (tr ?_))
  exact retL1 rfl ok7 (F6.step0 D7.stp) (cvi (by (unfold cmpI;split <;> (try split) <;> omega)) (D7.m 0 rfl))
 ·
  refine wp_skip (tn (wp_seq (wp_seq ?_)))
  refine gI a6 s6 ok6 (gM (D6.k q14) (gM (D6.k q15) (gS rfl (fun A B G H I d0 d1=>rP (y_gtr (eI d0) (eI d1))) (gE ok6 fun a8 s8 ok8 D8=>?_))));have F8:=F6.step0 D8.stp;refine tn ?_
  refine cond_p (p:=(y < x)) (D8.m 2 rfl) (fun c4=>?_) (fun c4=>?_)
  ·
   refine wp_seq ?_
   refine gI a8 s8 ok8 (gC (Ty.int (1:Int)) (gE ok8 fun a9 s9 ok9 D9=>?_));refine tn (wp_ret (tr ?_))
   exact retL1 rfl ok9 (F8.step0 D9.stp) (cvi (by (unfold cmpI;split <;> (try split) <;> omega)) (D9.m 0 rfl))
  ·
   refine wp_skip (tn (wp_seq ?_))
   refine gI a8 s8 ok8 (gC (Ty.int (0:Int)) (gE ok8 fun a10 s10 ok10 D10=>?_));refine tn (wp_ret ?_)
   exact retL1 rfl ok10 (F8.step0 D10.stp) (cvi (by (unfold cmpI;split <;> (try split) <;> omega)) (D10.m 0 rfl))
set_option maxHeartbeats 4000000 in
set_option maxRecDepth 100000 in
theorem slCompare_fn (xs:List Int) (ys:List Int) (σ:GW)  (v0 v1:Value) (hv0:Ty.has (Ty.lst Ty.int xs) σ v0) (hv1:Ty.has (Ty.lst Ty.int ys) σ v1)   :
    FnC Try.prog 82 #[v0,v1] σ (Ty.int (cmpL xs ys)):=by
 refine fn_intro0 Try.func82 rfl Try.ntmps82 (Nat.le_of_ble_eq_true rfl) (fun s0 a0 hle F0 ok0 hargs=>?_)
 have p0:=pA hle (hargs 0 _ rfl) hv0
 have b1:=sl_le p0
 have p1:=pA hle (hargs 1 _ rfl) hv1
 have b2:=sl_le p1
 clear hargs;refine wp_seq ?_
 refine gI a0 s0 ok0 (gC (Ty.int (0:Int)) (gE ok0 fun a1 s1 ok1 D1=>?_));have q1:=D1.k p0;refine tn (wp_seq (wp_seq ?_))
 refine gI a1 s1 ok1 (gM q1 (gS rfl (fun A B G H I d0=>rP (y_len Try.underlying22 (eI d0))) (gT (Ty.int (0:Int)) rfl (fun A B G H I=>rP (y_move rfl)) (gE ok1 fun a2 s2 ok2 D2=>?_))));refine tn (wp_block ?_)
 refine loop (fun n1 a3 w1=>∃ (t1:GW) (i:Nat),t1.w = w1∧FromL [] s0 t1∧Ok 36 [] a3∧At (Ty.nat i) t1 a3 (.tmp 11)∧At (Ty.lst Ty.int xs) t1 a3 (.tmp 0)∧At (Ty.lst Ty.int ys) t1 a3 (.tmp 1)∧At (Ty.lst Ty.int xs) t1 a3 (.tmp 9)∧At (Ty.nat (List.length xs)) t1 a3 (.tmp 10)∧(i ≤ xs.length)∧(cmpL (xs.drop i) (ys.drop i) = cmpL xs ys)∧n1 = xs.length - i) (xs.length - (0)) ?_ ?_
 ·
  exact ⟨s2,0,rfl,((F0.step0 D1.stp).step0 D2.stp),ok2,(cJ (D2.m 2 rfl)),(D2.k q1),(D2.k (D1.k p1)),(D2.m 0 rfl),(D2.m 1 rfl),by omega,rfl,rfl⟩
 ·
  rintro n2 a4 w2 ⟨t2,i,rfl,F3,ok3,q8,q9,q10,q11,q12,hi,hc,rfl⟩
  refine wp_seq ?_
  refine gI a4 t2 ok3 (gS rfl (fun A B G H I=>rP (y_lss (kp (I 11 rfl) G q8) (kp (I 10 rfl) G q12))) (gE ok3 fun a5 s3 ok4 D3=>?_));have F4:=F3.step0 D3.stp;have q13:=D3.k q8;have q14:=D3.k q9;have q15:=D3.k q10;have q16:=D3.k q11;refine tn (wp_seq ?_)
  refine cond_p (p:=(((i:Nat):Int) < (((List.length xs):Nat):Int))) (D3.m 0 rfl) (fun c1=>?_) (fun c1=>?_)
  ·
   refine wp_skip (tn (wp_seq (wp_block (wp_seq ?_))))
   refine gI a5 s3 ok4 (gM q13 (gT (Ty.ref [(Ty.int (xs.getD i 0))]) rfl (fun A B G H I=>rP (y_index1 Try.underlying22 Try.inf3 (kp (I 9 rfl) G q16) (kp (I 11 rfl) G q13) oM (lst_get Ty.int xs 0 i oM))) (gS rfl (fun A B G H I d0=>rP (y_load Try.underlying3 rfl (eI d0) rfl)) (gB 0 (gB 0 (gE ok4 fun a6 s4 ok5 D4=>?_))))));have q21:=D4.k q15;have q24:=D4.m 3 rfl;refine tn (wp_seq (wp_seq ?_))
   refine gI a6 s4 ok5 (gM q24 (gM q21 (gS rfl (fun A B G H I d0=>rP (y_len Try.underlying22 (eI d0))) (gS rfl (fun A B G H I d0 d1=>rP (y_geq (eI d0) (eI d1))) (gE ok5 fun a7 s5 ok6 D5=>?_)))));have F6:=(F4.step0 D4.stp).step0 D5.stp;have q28:=D5.k q21;refine tn ?_
   refine cond_p (p:=((((List.length ys):Nat):Int) ≤ ((i:Nat):Int))) (D5.m 3 rfl) (fun c2=>?_) (fun c2=>?_)
   ·
    refine wp_seq ?_
    refine gI a7 s5 ok6 (gC (Ty.int (1:Int)) (gE ok6 fun a8 s6 ok7 D6=>?_));refine tn (wp_ret (tr (br (tr (tr (br (tr ?_)))))))
    exact retL1 rfl ok7 (F6.step0 D6.stp) (cvi (by (exact (cmp_long hc oM oM).symm)) (D6.m 0 rfl))
   ·
    refine wp_skip (tn (wp_seq ?_))
    refine gI a7 s5 ok6 (gM q28 (gM (D5.k q24) (gT (Ty.ref [(Ty.int (ys.getD i 0))]) rfl (fun A B G H I d0 d1=>rP (y_index1 Try.underlying22 Try.inf3 (eI d0) (eI d1) oM (lst_get Ty.int ys 0 i oM))) (gS rfl (fun A B G H I d0=>rP (y_load Try.underlying3 rfl (eI d0) rfl)) (gB 0 (gE ok6 fun a9 s7 ok8 D7=>?_))))));refine tn (wp_seq ?_)
    refine gI a9 s7 ok8 (gM (D7.k (D5.k (D4.m 4 rfl))) (gM (D7.m 4 rfl) (gS rfl (fun A B G H I d0 d1=>rP (y_call _ Try.func103 rfl rfl my2 (cmpInt_fn ((xs.getD i 0)) ((ys.getD i 0)) _ _ _ (cvi (σ:=B) oM (ef d0 rfl)) (cvi (σ:=B) oM (ef d1 rfl)) ))) (gB 0 (gE ok8 fun a10 s8 ok9 D8=>?_)))));have q47:=D8.m 3 rfl;refine tn (wp_seq ?_)
    refine gI a10 s8 ok9 (gM q47 (gS rfl (fun A B G H I d0=>rP (y_neq (eI d0) rfl)) (gE ok9 fun a11 s9 ok10 D9=>?_)));have F10:=((F6.step0 D7.stp).step0 D8.stp).step0 D9.stp;refine tn ?_
    refine cond_p (p:=((cmpI ((xs.getD i 0)) ((ys.getD i 0))) ≠ (0:Int))) (D9.m 1 rfl) (fun c3=>?_) (fun c3=>?_)
    ·
     refine wp_seq ?_
     refine gI a11 s9 ok10 (gM (D9.k q47) (gB 0 (gE ok10 fun a12 s10 ok11 D10=>?_)));refine tn (wp_ret (br (tr (tr (br (tr ?_))))))
     exact retL1 rfl ok11 (F10.step0 D10.stp) (cvi (by (exact cmp_ne hc oM oM c3)) (D10.m 1 rfl))
    ·
     refine wp_skip (bn (tn ?_))
     refine gI a11 s9 ok10 (gT (Ty.int (((i:Nat):Int) + (1:Int))) rfl (fun A B G H I=>rP (y_add (kp (I 11 rfl) G (D9.k (D8.k (D7.k (D5.k (D4.k q13)))))) rfl wX)) (gS rfl (fun A B G H I d0=>rP (y_move (eI d0))) (gE ok10 fun a13 s11 ok12 D11=>?_)))
     exact tn ⟨xs.length - ((i+1)),by omega,s11,(i+1),rfl,(F10.step0 D11.stp),ok12,(cJ (D11.m 1 rfl)),(D11.k (D9.k (D8.k (D7.k (D5.k (D4.k q14)))))),(D11.k (D9.k (D8.k (D7.k q28)))),(D11.k (D9.k (D8.k (D7.k (D5.k (D4.k q16)))))),(D11.k (D9.k (D8.k (D7.k (D5.k (D4.k (D3.k q12))))))),by omega,cmp_step hc oM oM c3,rfl⟩
  ·
   refine wp_exit (tx (tx (bx (tn (wp_seq (wp_seq ?_))))))
   refine gI a5 s3 ok4 (gM q14 (gS rfl (fun A B G H I d0=>rP (y_len Try.underlying22 (eI d0))) (gM q15 (gS rfl (fun A B G H I d0=>rP (y_len Try.underlying22 (eI d0))) (gS rfl (fun A B G H I d0 d1=>rP (y_lss (eI d0) (eI d1))) (gE ok4 fun a14 s12 ok13 D12=>?_))))));have F13:=F4.step0 D12.stp;refine tn ?_
   refine cond_p (p:=((((List.length xs):Nat):Int) < (((List.length ys):Nat):Int))) (D12.m 4 rfl) (fun c4=>?_) (fun c4=>?_)
   ·
    refine wp_seq ?_
    refine gI a14 s12 ok13 (gC (Ty.int (-1:Int)) (gE ok13 fun a15 s13 ok14 D13=>?_));refine tn (wp_ret (tr ?_))
    exact retL1 rfl ok14 (F13.step0 D13.stp) (cvi (by (exact (cmp_short hc oM oM).symm)) (D13.m 0 rfl))
   ·
    refine wp_skip (tn (wp_seq ?_))
    refine gI a14 s12 ok13 (gC (Ty.int (0:Int)) (gE ok13 fun a16 s14 ok15 D14=>?_));refine tn (wp_ret ?_)
    exact retL1 rfl ok15 (F13.step0 D14.stp) (cvi (by (exact (cmp_same hc oM oM).symm)) (D14.m 0 rfl))
set_option maxHeartbeats 4000000 in
set_option maxRecDepth 100000 in
theorem gElts_fn (gv:Value) (gs:Value) (cs:Value) (us:List Value) (n:Nat) (c:Nat → Lev) (gens:List (List Int)) (σ:GW) (hlow:Low [41,42,43] σ) (v0:Value) (hv0:Ty.has (Ty.val gv) σ v0) (ho_gv:OwnP σ 41 gv [(Ty.nat n),(Ty.val gs),(Ty.val cs)]) (ho_cs:ChnU σ 42 22 108 cs n c us) (ho_gs:Own σ 43 22 1 gs (List.length gens) (List.map Ty.ints gens)) (hC:ChnOf n gens c) (hG:∀ x ∈ gens,RowN n x) :
    FnL Try.prog 60 #[v0] σ [41,42,43] (fun v τ=>∃ (E:(List (List Int))),(Ty.has (Ty.tup2 (Ty.lst Ty.ints E) (Ty.int (eltE n gens))) τ v)∧(OwnP τ 41 gv [(Ty.nat n),(Ty.val gs),(Ty.val cs)])∧(ChnU τ 42 22 108 cs n c us)∧(Own τ 43 22 1 gs (List.length gens) (List.map Ty.ints gens))∧(EltsP n gens E)):=by
 have hnn:=hC.wc.nn
 have hw:=hC.wc
 have hsb:=fun k=>szTo_bd (n:=n) (S:=fun y=>y ∈ gens) (k:=k) hnn.2
 refine fn_introL hlow Try.func60 rfl Try.ntmps60 (Nat.le_of_ble_eq_true rfl) (fun a0 F0 ok0 hargs=>?_)
 have p0:=pB (hargs 0 _ rfl) hv0
 clear hargs;refine wp_seq ?_
 refine gI a0 σ ok0 (gC (Ty.val (Value.slice none 0 0)) (gC (Ty.int (0:Int)) (gE ok0 fun a1 s1 ok1 D1=>?_)));have q1:=D1.k p0;have o1:=OwnP.k0 ho_gv D1.stp;have o2:=ChnU.k0 ho_cs D1.stp;have o3:=Own.k0 ho_gs D1.stp;refine tn (wp_seq (wp_seq ?_))
 refine gI a1 s1 ok1 (gM q1 (gE2 ok1 fun a2 s2 ok2 D2=>?_));have o4:=OwnP.k0 o1 D2.stp;have o5:=ChnU.k0 o2 D2.stp;have o6:=Own.k0 o3 D2.stp
 refine tL ok2 (y_callL (L:=[41,42,43]) [(41,41),(42,42),(43,43)] [(41,41),(42,42),(43,43)] #[a2.eval (.tmp 13)] rfl dE Try.func42 rfl rfl my1 (gSize_fn (gv) (gs) (cs) (us) (n) (c) (gens) _ lW _ (uL (D2.m 0 rfl)) (OwnP.ren o4 (GW.ren_lend _ _ dE rfl)) (ChnU.ren o5 (GW.ren_lend _ _ dE rfl)) (Own.ren o6 (GW.ren_lend _ _ dE rfl)) oX oX)) fun a3 s3 hs1 ok3 r1 sm1=>?_
 obtain ⟨t1,⟨hT1,o7,o8,o9⟩,B1⟩:=r1
 have q5:At (Ty.nat (szTo n (fun y=>y ∈ gens) n)) s3 a3 (.tmp 14):=Ty.up _ B1.le hT1
 have o10:OwnP s3 41 gv [(Ty.nat n),(Ty.val gs),(Ty.val cs)]:=OwnP.ren o7 (B1.ren dE rfl)
 have o11:ChnU s3 42 22 108 cs n c us:=ChnU.ren o8 (B1.ren dE rfl)
 have o12:Own s3 43 22 1 gs (List.length gens) (List.map Ty.ints gens):=Own.ren o9 (B1.ren dE rfl)
 refine tL (R:=(fun v τ=>Pr.has (Ty.pr (Ty.bool (decide ((5040:Int) < (((szTo n (fun y=>y ∈ gens) n):Nat):Int))))) τ v)) ok3 (Yld.toL (y_gtr q5 rfl)) fun a4 s4 hs2 ok4 r2 sm2=>?_
 have F4:=(((F0.step0 D1.stp).step0 D2.stp).sl hs1).sl hs2;have q6:=kq hs2 sm2 0 (kq hs1 sm1 0 (D2.k q1));have o13:=OwnP.kl o10 hs2;have o14:=ChnU.kl o11 hs2;have o15:=Own.kl o12 hs2
 have q7:At (Ty.bool (decide ((5040:Int) < (((szTo n (fun y=>y ∈ gens) n):Nat):Int)))) s4 a4 (.tmp 15):=r2
 clear r2;refine wpList_nil (tn ?_)
 refine cond_p (p:=((5040:Int) < (((szTo n (fun y=>y ∈ gens) n):Nat):Int))) q7 (fun c1=>?_) (fun c1=>?_)
 ·
  have hsz:¬ szTo n (fun y=>y ∈ gens) n ≤ 5040:=oM
  refine wp_seq ?_
  refine gI a4 s4 ok4 (gC (Ty.val (Value.slice none 0 0)) (gC (Ty.int (3:Int)) (gE ok4 fun a5 s5 ok5 D3=>?_)));have o16:=OwnP.k0 o13 D3.stp;have o17:=ChnU.k0 o14 D3.stp;have o18:=Own.k0 o15 D3.stp;refine tn (wp_ret (tr ?_))
  exact retL2 rfl ok5 (F4.step0 D3.stp) ⟨([]:List (List Int)),(hasT2 (nil_lst (by (rfl)) (D3.m 0 rfl)) (cvi (by (unfold eltE;rw [if_neg hsz])) (D3.m 1 rfl))),o16,o17,o18,(by exact ⟨fun h_=>absurd h_ hsz,fun _=>rfl⟩)⟩
 ·
  have hsz:szTo n (fun y=>y ∈ gens) n ≤ 5040:=oM
  refine wp_skip (tn (wp_seq ?_))
  refine gI a4 s4 ok4 (gM q6 (gT (Ty.val gv) rfl (fun A B G H I d0=>rP (y_nilp (OwnP.k0 o13 G) (eI d0))) (gT (Ty.val (ptrAt gv 0)) rfl (fun A B G H I d0=>rP (ownp_field Try.fld95_0 Try.inf3 dE (OwnP.k0 o13 G) (eI d0))) (gS rfl (fun A B G H I d0=>rP (ownp_load Try.underlying3 rfl (OwnP.k0 o13 G) (eI d0) rfl)) (gS rfl (fun A B G H I d0=>rP (y_call _ Try.func74 rfl rfl my1 (rounds_fn (n) _ _ (eI d0) oM))) (gS rfl (fun A B G H I d0=>rP (y_move (eI d0))) (gT (Ty.lst Ty.int (roundsL n)) rfl (fun A B G H I d0=>rP (y_ext2_0 (eI d0))) (gT (Ty.int (0:Int)) rfl (fun A B G H I d0 d1=>rP (y_ext2_1 (eI d0))) (gB 0 (gB 0 (gE ok4 fun a6 s6 ok6 D4=>?_)))))))))));have o19:=OwnP.k0 o13 D4.stp;have o20:=ChnU.k0 o14 D4.stp;have o21:=Own.k0 o15 D4.stp;refine tn (wp_seq ?_)
  refine gI a6 s6 ok6 (gM (D4.m 8 rfl) (gR (Pr.own 20 22 1 1 (List.map Ty.ints [(roundsL n)])) rfl (by intro A B G H I d0;exact rP ((y_lit1 (k:=20) Try.underlying24 Try.inf22 rfl (one_sl) (eI d0)).mono (fun _ _ h=>cvo (by simp) (by first | (simp;done) | rfl) h))) (gE2 ok6 fun a7 s7 ok7 D5=>?_)));have o22:=OwnP.k0 o19 D5.stp;have o23:=ChnU.k0 o20 D5.stp;have o24:=Own.k0 o21 D5.stp
  obtain ⟨x1,hx1⟩:∃ x,a7.eval (.tmp 25) = x:=⟨_,rfl⟩
  have q13:At (Ty.val x1) s7 a7 (.tmp 25):=hx1
  have o25:=al2 (R:=(Pr.own 20 22 1 1 (List.map Ty.ints [(roundsL n)]))) hx1 (D5.done 1 dE)
  refine tL ok7 (Yld.toL (y_as q13)) fun a8 s8 hs3 ok8 r3 sm3=>?_
  have q14:=kq hs3 sm3 0 (D5.k (D4.k q6));have o26:=OwnP.kl o22 hs3
  have q15:At (Ty.val x1) s8 a8 (.tmp 6):=r3
  clear r3;refine wpList_nil (tn (wp_seq (wp_seq ?_)))
  refine gI a8 s8 ok8 (gM q14 (gT (Ty.val gv) rfl (fun A B G H I d0=>rP (y_nilp (OwnP.k0 o26 G) (eI d0))) (gT (Ty.val (ptrAt gv 0)) rfl (fun A B G H I d0=>rP (ownp_field Try.fld95_0 Try.inf3 dE (OwnP.k0 o26 G) (eI d0))) (gS rfl (fun A B G H I d0=>rP (ownp_load Try.underlying3 rfl (OwnP.k0 o26 G) (eI d0) rfl)) (gT (Ty.int (((n:Nat):Int) - (1:Int))) rfl (fun A B G H I d0=>rP (y_sub (eI d0) rfl wX)) (gB 0 (gE ok8 fun a9 s9 ok9 D6=>?_)))))));have o30:=OwnP.k0 o26 D6.stp;have o31:=ChnU.k0 (ChnU.kl o23 hs3) D6.stp;have o32:=Own.k0 (Own.kl o24 hs3) D6.stp;have o33:=Own.k0 (Own.kl o25 hs3) D6.stp;refine tn (wp_block ?_)
  refine loop (fun n1 a10 w1=>∃ (t2:GW) (k:Nat) (L:(List (List Int))) (x6_0:Value),t2.w = w1∧FromL [41,42,43] σ t2∧Ok 67 [] a10∧At (Ty.int (((k:Nat):Int) - 1)) t2 a10 (.tmp 7)∧At (Ty.val x6_0) t2 a10 (.tmp 6)∧At (Ty.val gv) t2 a10 (.tmp 0)∧Own t2 20 22 1 x6_0 (List.length L) (List.map Ty.ints L)∧OwnP t2 41 gv [(Ty.nat n),(Ty.val gs),(Ty.val cs)]∧ChnU t2 42 22 108 cs n c us∧Own t2 43 22 1 gs (List.length gens) (List.map Ty.ints gens)∧(k ≤ n)∧(EltK n gens c k L)∧n1 = k + 1) ((n) + 1) ?_ ?_
  ·
   exact ⟨s9,n,[roundsL n],x1,rfl,((((F4.step0 D4.stp).step0 D5.stp).sl hs3).step0 D6.stp),ok9,(cJ (D6.m 5 rfl)),(D6.k q15),(D6.k q14),(cvo (by (first | rfl | simp)) (by (first | rfl | simp)) o33),o30,o31,o32,by omega,EltK.start hw,rfl⟩
  ·
   rintro n2 a11 w2 ⟨t3,k,L,x6_0,rfl,F10,ok10,q19,q20,q21,o34,o35,o36,o37,hk,hE,rfl⟩
   have hLl:=hE.few hC hk hsz
   refine wp_seq (wp_seq ?_)
   refine gI a11 t3 ok10 (gM q19 (gS rfl (fun A B G H I d0=>rP (y_geq (eI d0) rfl)) (gE ok10 fun a12 s10 ok11 D7=>?_)));have F11:=F10.step0 D7.stp;have q23:=D7.k q20;have o38:=Own.k0 o34 D7.stp;have o39:=OwnP.k0 o35 D7.stp;have o40:=ChnU.k0 o36 D7.stp;have o41:=Own.k0 o37 D7.stp;refine tn ?_
   refine cond_p (p:=((0:Int) ≤ (((k:Nat):Int) - 1))) (D7.m 1 rfl) (fun c2=>?_) (fun c2=>?_)
   ·
    have q26:At (Ty.nat (k - 1)) s10 a12 (.tmp 7):=cvt (T:=(Ty.int (((k:Nat):Int) - 1))) (U:=(Ty.nat (k - 1))) (by exact congrArg Ty.int oM) (D7.k q19)
    refine wp_skip (tn (wp_seq (wp_block (wp_seq ?_))))
    refine gI a12 s10 ok11 (gC (Ty.val (Value.slice none 0 0)) (gE ok11 fun a13 s11 ok12 D8=>?_));have o42:=Own.k0 o38 D8.stp;have o43:=OwnP.k0 o39 D8.stp;have o44:=ChnU.k0 o40 D8.stp;have o45:=Own.k0 o41 D8.stp;refine tn (wp_seq (wp_seq ?_))
    obtain ⟨ms1,rs1,hN1⟩:=o44
    obtain ⟨t4,e1,h1,o46,o47,o48,o49⟩:=ChnN.focus hN1 (i:=(k - 1)) oM dE 53 54 55
    rw [← e1]
    have F13:=(F11.step0 D8.stp).step h1 dE
    have q31:At (Ty.nat (k - 1)) t4 a13 (.tmp 7):=Ty.up _ (h1.le dE) (D8.k q26)
    have q32:At (Ty.val x6_0) t4 a13 (.tmp 6):=Ty.up _ (h1.le dE) (D8.k q23)
    have q33:At (Ty.val gv) t4 a13 (.tmp 0):=Ty.up _ (h1.le dE) (D8.k (D7.k q21))
    have q34:At (Ty.val (Value.slice none 0 0)) t4 a13 (.tmp 8):=Ty.up _ (h1.le dE) (D8.m 0 rfl)
    have o50:=Own.keepL o42 (h1.toL (L:=[42]) (by simp)) dE dE;have o51:=OwnP.keepL o43 (h1.toL (L:=[42]) (by simp)) dE dE;have o52:=Own.keepL o45 (h1.toL (L:=[42]) (by simp)) dE dE
    obtain ⟨mq1,hmq1⟩:∃ x_,ms1 (k - 1) = x_:=⟨_,rfl⟩
    obtain ⟨rq1,hrq1⟩:∃ x_,rs1 (k - 1) = x_:=⟨_,rfl⟩
    rw [hmq1,hrq1] at o46
    rw [hmq1] at o47
    rw [hrq1] at o48
    have hmk1:∃ b,mq1 = Value.map (some b):=by obtain ⟨b_,_,_,e_,_⟩:=o47;exact ⟨b_,e_⟩
    have o53:Own t4 42 108 1 cs n (List.map Ty.val us):=ChnR.row o49
    have hul1:=ChnR.ul o49
    refine gI a13 t4 ok12 (gM q33 (gT (Ty.val gv) rfl (fun A B G H I d0=>rP (y_nilp (OwnP.k0 o51 G) (eI d0))) (gT (Ty.val (ptrAt gv 2)) rfl (fun A B G H I d0=>rP (ownp_field Try.fld95_2 Try.inf93 dE (OwnP.k0 o51 G) (eI d0))) (gS rfl (fun A B G H I d0=>rP (ownp_load Try.underlying93 rfl (OwnP.k0 o51 G) (eI d0) rfl)) (gM q31 (gT (Ty.val (cellPtr cs (k - 1))) rfl (fun A B G H I d0 d1=>rP (own_index1 (i:=(((k - 1):Nat):Int)) Try.underlying93 Try.inf108 (Own.k0 o53 G) (eI d0) (eI d1) oM oM)) (gS rfl (fun A B G H I d0=>rP (own_load Try.underlying108 rfl (Own.k0 o53 G) (eI d0) (lst_get Ty.val us undef (k - 1) oM))) (gT (Ty.val (us.getD (k - 1) undef)) rfl (fun A B G H I d0=>rP (y_nilp (OwnP.k0 o46 G) (eI d0))) (gT (Ty.val (ptrAt (us.getD (k - 1) undef) 1)) rfl (fun A B G H I d0=>rP (ownp_field Try.fld111_1 Try.inf109 dE (OwnP.k0 o46 G) (eI d0))) (gS rfl (fun A B G H I d0=>rP (ownp_load Try.underlying109 rfl (OwnP.k0 o46 G) (eI d0) rfl)) (gR (Pr.rngm Ty.ints 54 mq1 (c (k - 1)).orb ([]:List Int)) rfl (by intro A B G H I d0;exact rP (y_rangem Try.underlying109 (OwnM.k0 o47 G) (eI d0))) (gE ok12 fun a14 s12 ok13 D9=>?_))))))))))));have o54:=Own.k0 o50 D9.stp;have o55:=OwnP.k0 o51 D9.stp;have o56:=Own.k0 o52 D9.stp;have o57:=Own.k0 o53 D9.stp;have o58:=OwnP.k0 o46 D9.stp;have o59:=OwnM.k0 o47 D9.stp;have o60:=Own.k0 o48 D9.stp;have o61:=ChnR.k0 o49 D9.stp
    obtain ⟨x2,hx2⟩:∃ x,a14.eval (.tmp 45) = x:=⟨_,rfl⟩
    have q39:At (Ty.val x2) s12 a14 (.tmp 45):=hx2
    have o62:RngM Ty.ints s12 54 x2 mq1 (c (k - 1)).orb ([]:List Int):=al2 (R:=(Pr.rngm Ty.ints 54 mq1 (c (k - 1)).orb ([]:List Int))) hx2 (D9.done 10)
    refine tn (wp_block ?_)
    have o63:Own s12 21 22 1 (Value.slice none 0 0) 0 (List.map Ty.ints ([]:List (List Int))):=Own.nil _ _ _ _
    refine loop (fun n3 a15 w3=>∃ (t5:GW) (ks:(List Int)) (N:(List (List Int))) (x8_1:Value),t5.w = w3∧FromL [41,42,43] σ t5∧Ok 67 [] a15∧At (Ty.val x8_1) t5 a15 (.tmp 8)∧At (Ty.nat (k - 1)) t5 a15 (.tmp 7)∧At (Ty.val x6_0) t5 a15 (.tmp 6)∧At (Ty.val gv) t5 a15 (.tmp 0)∧At (Ty.val x2) t5 a15 (.tmp 45)∧Own t5 21 22 1 x8_1 (List.length N) (List.map Ty.ints N)∧RngM Ty.ints t5 54 x2 mq1 (c (k - 1)).orb ks∧Own t5 20 22 1 x6_0 (List.length L) (List.map Ty.ints L)∧OwnP t5 41 gv [(Ty.nat n),(Ty.val gs),(Ty.val cs)]∧Own t5 43 22 1 gs (List.length gens) (List.map Ty.ints gens)∧ChnR t5 42 22 108 cs n c us ms1 rs1 (k - 1)∧OwnP t5 53 (us.getD (k - 1) undef) [(Ty.nat (k - 1)),(Ty.val mq1),(Ty.val rq1)]∧Own t5 55 22 1 rq1 (List.length (c (k - 1)).gens) (List.map Ty.ints (c (k - 1)).gens)∧(EltI n c (k - 1) L.length ks N)∧n3 = n - ks.length) (n - (([]:List Int)).length) ?_ ?_
    ·
     exact ⟨s12,([]:List Int),([]:List (List Int)),(Value.slice none 0 0),rfl,(F13.step0 D9.stp),ok13,(D9.k q34),(D9.k q31),(D9.k q32),(D9.k q33),q39,(cvo (by (first | rfl | simp)) (by (first | rfl | simp)) o63),(show RngM Ty.ints _ 54 _ mq1 (c (k - 1)).orb (([]:List Int)) from o62),o54,o55,o56,o61,o58,o60,EltI.start,rfl⟩
    ·
     rintro n4 a16 w4 ⟨t6,ks,N,x8_1,rfl,F15,ok14,q40,q41,q42,q43,q44,o64,o65,o66,o67,o68,o69,o70,o71,hI,rfl⟩
     have hfw:=hI.few hw oM
     have hNl:=hI.len
     have hNb:ks.length * L.length ≤ 12 * 5040:=Nat.mul_le_mul oM hLl
     refine wp_seq ?_
     refine gI a16 t6 ok14 (gE2 ok14 fun a17 s13 ok15 D10=>?_);have q49:=D10.k q44;have o72:=Own.k0 o64 D10.stp;have o73:=RngM.k0 o65 D10.stp;have o74:=Own.k0 o66 D10.stp;have o75:=OwnP.k0 o67 D10.stp;have o76:=Own.k0 o68 D10.stp;have o77:=ChnR.k0 o69 D10.stp;have o78:=OwnP.k0 o70 D10.stp;have o79:=Own.k0 o71 D10.stp
     refine tL (R:=(fun v τ=>∃ (b_:Bool) (k_:List Int),NxP (c (k - 1)).orb ks b_ k_∧(Ty.nxm b_).has τ v∧RngM Ty.ints τ 54 x2 mq1 (c (k - 1)).orb k_)) ok15 (YldM.toL (m_nextm dE o73 q49)) fun a18 s14 hs4 ok16 r4 sm4=>?_
     have o85:=ChnR.keepL o77 hs4 dE dE
     obtain ⟨nb46,nk46,hNx46,hq46_,ho46_⟩:=r4
     have q55:At (Ty.nxm nb46) s14 a18 (.tmp 46):=hq46_
     have o80:RngM Ty.ints s14 54 x2 mq1 (c (k - 1)).orb nk46:=ho46_
     refine tL (R:=(fun v τ=>Pr.has (Ty.pr (Ty.bool nb46)) τ v)) ok16 (Yld.toL (y_ext_m0 q55)) fun a19 s15 hs5 ok17 r5 sm5=>?_
     have F18:=((F15.step0 D10.stp).sl hs4).sl hs5;have q56:=kq hs5 sm5 8 (kq hs4 sm4 8 (D10.k q40));have q57:=kq hs5 sm5 7 (kq hs4 sm4 7 (D10.k q41));have q58:=kq hs5 sm5 6 (kq hs4 sm4 6 (D10.k q42));have q59:=kq hs5 sm5 0 (kq hs4 sm4 0 (D10.k q43));have q60:=kq hs5 sm5 45 (kq hs4 sm4 45 q49);have o88:=Own.kl (Own.kl o72 hs4) hs5;have o89:=Own.kl (Own.kl o74 hs4) hs5;have o90:=OwnP.kl (OwnP.kl o75 hs4) hs5;have o91:=Own.kl (Own.kl o76 hs4) hs5;have o92:=ChnR.keepL o85 hs5 dE dE;have o93:=OwnP.kl (OwnP.kl o78 hs4) hs5;have o94:=Own.kl (Own.kl o79 hs4) hs5;have o95:=RngM.keepL o80 hs5 dE dE
     have q61:At (Ty.bool nb46) s15 a19 (.tmp 47):=r5
     clear r5;refine wpList_nil (tn (wp_seq ?_))
     refine cond_t q61 (fun c3=>?_) (fun c3=>?_)
     ·
      refine wp_skip (tn (wp_block (wp_seq ?_)))
      obtain ⟨p1,t1,hk_46,hn_p1,hs_p1⟩:=hNx46.yes c3
      subst hk_46
      refine gI a19 s15 ok17 (gT (Ty.tup2 (Ty.int p1) (Ty.lst Ty.int (((c (k - 1)).orb p1).getD []))) rfl (fun A B G H I=>rP (y_entry (z:=[]) (RngM.k0 o95 G) (kp (I 45 rfl) G q60))) (gT (Ty.lst Ty.int (((c (k - 1)).orb p1).getD [])) rfl (fun A B G H I d0=>rP (y_ext2_1 (eI d0))) (gB 0 (gE ok17 fun a20 s16 ok18 D11=>?_))));have q64:=D11.k q58;have o96:=Own.k0 o88 D11.stp;have o97:=Own.k0 o89 D11.stp;have o98:=OwnP.k0 o90 D11.stp;have o99:=Own.k0 o91 D11.stp;have o100:=ChnR.k0 o92 D11.stp;have o101:=OwnP.k0 o93 D11.stp;have o102:=Own.k0 o94 D11.stp;have o103:=RngM.k0 o95 D11.stp
      have q68:At (Ty.lst Ty.int t1) s16 a20 (.tmp 10):=(cvt (by (rw [hs_p1];rfl)) (D11.m 2 rfl))
      refine tn (wp_seq ?_)
      refine gI a20 s16 ok18 (gM q64 (gT (Ty.nat (List.length L)) rfl (fun A B G H I d0=>rP (own_len Try.underlying24 (al (R:=(Pr.own 20 22 1 (List.length L) (List.map Ty.ints L))) (eI d0) (Own.k0 o97 G)))) (gT (Ty.int (0:Int)) rfl (fun A B G H I=>rP (y_move rfl)) (gE ok18 fun a21 s17 ok19 D12=>?_))));have o104:=Own.k0 o96 D12.stp;have o105:=Own.k0 o97 D12.stp;have o106:=OwnP.k0 o98 D12.stp;have o107:=Own.k0 o99 D12.stp;have o108:=ChnR.k0 o100 D12.stp;have o109:=OwnP.k0 o101 D12.stp;have o110:=Own.k0 o102 D12.stp;have o111:=RngM.k0 o103 D12.stp
      have q75:At (Ty.val x6_0) s17 a21 (.tmp 50):=D12.done 0
      refine tn (wp_block ?_)
      refine loop (fun n5 a22 w5=>∃ (t7:GW) (j:Nat) (x8_2:Value),t7.w = w5∧FromL [41,42,43] σ t7∧Ok 67 [] a22∧At (Ty.nat j) t7 a22 (.tmp 52)∧At (Ty.val x8_2) t7 a22 (.tmp 8)∧At (Ty.nat (k - 1)) t7 a22 (.tmp 7)∧At (Ty.val x6_0) t7 a22 (.tmp 6)∧At (Ty.val gv) t7 a22 (.tmp 0)∧At (Ty.val x2) t7 a22 (.tmp 45)∧At (Ty.lst Ty.int t1) t7 a22 (.tmp 10)∧At (Ty.val x6_0) t7 a22 (.tmp 50)∧At (Ty.nat (List.length L)) t7 a22 (.tmp 51)∧Own t7 21 22 1 x8_2 (List.length (N ++ (L.take j).map (byL t1))) (List.map Ty.ints (N ++ (L.take j).map (byL t1)))∧Own t7 20 22 1 x6_0 (List.length L) (List.map Ty.ints L)∧OwnP t7 41 gv [(Ty.nat n),(Ty.val gs),(Ty.val cs)]∧Own t7 43 22 1 gs (List.length gens) (List.map Ty.ints gens)∧ChnR t7 42 22 108 cs n c us ms1 rs1 (k - 1)∧OwnP t7 53 (us.getD (k - 1) undef) [(Ty.nat (k - 1)),(Ty.val mq1),(Ty.val rq1)]∧Own t7 55 22 1 rq1 (List.length (c (k - 1)).gens) (List.map Ty.ints (c (k - 1)).gens)∧RngM Ty.ints t7 54 x2 mq1 (c (k - 1)).orb (ks ++ [p1])∧(j ≤ L.length)∧n5 = L.length - j) (L.length - (0)) ?_ ?_
      ·
       exact ⟨s17,0,x8_1,rfl,((F18.step0 D11.stp).step0 D12.stp),ok19,(cJ (D12.m 2 rfl)),(D12.k (D11.k q56)),(D12.k (D11.k q57)),(D12.k q64),(D12.k (D11.k q59)),(D12.k (D11.k q60)),(D12.k q68),q75,(D12.m 1 rfl),(cvo (by (first | rfl | simp)) (by (first | rfl | simp)) o104),o105,o106,o107,o108,o109,o110,o111,by omega,rfl⟩
      ·
       rintro n6 a23 w6 ⟨t8,j,x8_2,rfl,F21,ok20,q78,q79,q80,q81,q82,q83,q84,q85,q86,o112,o113,o114,o115,o116,o117,o118,o119,hj,rfl⟩
       have htl:=List.length_take_le j L
       have htm:((L.take j).map (byL t1)).length = j:=by (rw [List.length_map,List.length_take];omega)
       have hnj:(N ++ (L.take j).map (byL t1)).length = N.length + j:=(by rw [List.length_append,htm])
       refine wp_seq ?_
       refine gI a23 t8 ok20 (gS rfl (fun A B G H I=>rP (y_lss (kp (I 52 rfl) G q78) (kp (I 51 rfl) G q86))) (gE ok20 fun a24 s18 ok21 D13=>?_));have F22:=F21.step0 D13.stp;have q87:=D13.k q78;have q88:=D13.k q79;have q89:=D13.k q80;have q90:=D13.k q81;have q91:=D13.k q82;have q92:=D13.k q83;have q94:=D13.k q85;have o120:=Own.k0 o112 D13.stp;have o121:=Own.k0 o113 D13.stp;have o122:=OwnP.k0 o114 D13.stp;have o123:=Own.k0 o115 D13.stp;have o124:=ChnR.k0 o116 D13.stp;have o125:=OwnP.k0 o117 D13.stp;have o126:=Own.k0 o118 D13.stp;have o127:=RngM.k0 o119 D13.stp;refine tn (wp_seq ?_)
       refine cond_p (p:=(((j:Nat):Int) < (((List.length L):Nat):Int))) (D13.m 0 rfl) (fun c4=>?_) (fun c4=>?_)
       ·
        obtain ⟨hx1,hx2,hx3⟩:=(hE.mem _).1 (mem_atD [] (show j < L.length by omega));have htr:=((hw.lev (k - 1) oM).pt p1 t1 hs_p1).1;have hxl:=hx1.len;have htl2:=htr.len;have hbb:=hx1.bds htl2
        refine wp_skip (tn (wp_seq (wp_block (wp_seq ?_))))
        refine gI a24 s18 ok21 (gT (Ty.val (cellPtr x6_0 j)) rfl (fun A B G H I=>rP (own_index1 (i:=((j:Nat):Int)) Try.underlying24 Try.inf22 (Own.k0 o121 G) (kp (I 50 rfl) G q94) (kp (I 52 rfl) G q87) oM oM)) (gS rfl (fun A B G H I d0=>rP (own_load Try.underlying22 rfl (Own.k0 o121 G) (eI d0) (lst_get Ty.ints L [] j oM))) (gB 0 (gE ok21 fun a25 s19 ok22 D14=>?_))));have q98:=D14.k q88;have q103:=D14.k (D13.k q84);have o128:=Own.k0 o120 D14.stp;have o129:=Own.k0 o121 D14.stp;have o130:=OwnP.k0 o122 D14.stp;have o131:=Own.k0 o123 D14.stp;have o132:=ChnR.k0 o124 D14.stp;have o133:=OwnP.k0 o125 D14.stp;have o134:=Own.k0 o126 D14.stp;have o135:=RngM.k0 o127 D14.stp;refine tn ?_
        refine gI a25 s19 ok22 (gM q98 (gM q103 (gM (D14.m 2 rfl) (gS rfl (fun A B G H I d0 d1=>rP (y_call _ Try.func64 rfl rfl my2 (product_fn (t1) ((L.getD j [])) _ _ _ (eI d0) (eI d1) (by first | assumption | omega) (by first | assumption | omega) (by first | assumption | omega)))) (gT (Ty.sl 1 1 [(Ty.lst Ty.int (byL (t1) ((L.getD j []))))]) rfl (fun A B G H I d0=>rP (y_build1o Try.underlying24 Try.inf22 rfl (one_sl) (eI d0))) (gE2 ok22 fun a26 s20 ok23 D15=>?_))))));have o136:=Own.k0 o128 D15.stp;have o137:=Own.k0 o129 D15.stp;have o138:=OwnP.k0 o130 D15.stp;have o139:=Own.k0 o131 D15.stp;have o140:=ChnR.k0 o132 D15.stp;have o141:=OwnP.k0 o133 D15.stp;have o142:=Own.k0 o134 D15.stp;have o143:=RngM.k0 o135 D15.stp
        have q116:At (Ty.val x8_2) s20 a26 (.tmp 56):=D15.done 0 dE
        have q117:=D15.m 4 rfl
        have b1:=sl_le q117
        refine tL ok23 (YldM.toL (m_append Try.underlying24 Try.inf22 dE rfl dE (al (R:=(Pr.own 21 22 1 (List.length (N ++ (L.take j).map (byL t1))) (List.map Ty.ints (N ++ (L.take j).map (byL t1))))) q116 o136) q117 (by intro U hU;simp at hU;subst hU;exact one_sl) oM oM)) fun a27 s21 hs6 ok24 r6 sm6=>?_
        have q119:=kq hs6 sm6 8 (D15.k q98);have o148:=ChnR.keepL o140 hs6 dE dE
        have o151:=RngM.keepL o143 hs6 dE dE
        obtain ⟨x3,hx3⟩:∃ x,a27.eval (.tmp 61) = x:=⟨_,rfl⟩
        have q127:At (Ty.val x3) s21 a27 (.tmp 61):=hx3
        have o144:=al2 (R:=(Pr.own 21 22 1 (List.length ((N ++ (L.take j).map (byL t1)) ++ [(byL (t1) ((L.getD j [])))])) (List.map Ty.ints ((N ++ (L.take j).map (byL t1)) ++ [(byL (t1) ((L.getD j [])))])))) hx3 (cvo (by first | (simp;done) | (simp;omega)) (by first | (rw [List.map_append];rfl) | simp) r6)
        clear r6
        refine tL ok24 (Yld.toL (y_as q127)) fun a28 s22 hs7 ok25 r7 sm7=>?_
        have o155:=ChnR.keepL o148 hs7 dE dE
        have o158:=RngM.keepL o151 hs7 dE dE
        have q136:At (Ty.val x3) s22 a28 (.tmp 8):=r7
        clear r7;refine wpList_nil (bn (tn ?_))
        refine gI a28 s22 ok25 (gT (Ty.nat (j + 1)) rfl (fun A B G H I=>rP ((y_add (kp (I 52 rfl) G (kq hs7 sm7 52 (kq hs6 sm6 52 (D15.k (D14.k q87))))) rfl wX).mono (fun τ _ h=>cN (σ:=τ) h))) (gS rfl (fun A B G H I d0=>rP (y_move (eI d0))) (gE ok25 fun a29 s23 ok26 D16=>?_)));have o160:=Own.k0 (Own.kl (Own.kl o137 hs6) hs7) D16.stp;have o161:=OwnP.k0 (OwnP.kl (OwnP.kl o138 hs6) hs7) D16.stp;have o162:=Own.k0 (Own.kl (Own.kl o139 hs6) hs7) D16.stp;have o163:=ChnR.k0 o155 D16.stp;have o164:=OwnP.k0 (OwnP.kl (OwnP.kl o141 hs6) hs7) D16.stp;have o165:=Own.k0 (Own.kl (Own.kl o142 hs6) hs7) D16.stp;have o166:=RngM.k0 o158 D16.stp;have o167:=Own.k0 (Own.kl o144 hs7) D16.stp
        exact tn ⟨L.length - ((j+1)),by omega,s23,(j+1),x3,rfl,(((((F22.step0 D14.stp).step0 D15.stp).sl hs6).sl hs7).step0 D16.stp),ok26,(cJ (D16.m 1 rfl)),(D16.k q136),(D16.k (kq hs7 sm7 7 (kq hs6 sm6 7 (D15.k (D14.k q89))))),(D16.k (kq hs7 sm7 6 (kq hs6 sm6 6 (D15.k (D14.k q90))))),(D16.k (kq hs7 sm7 0 (kq hs6 sm6 0 (D15.k (D14.k q91))))),(D16.k (kq hs7 sm7 45 (kq hs6 sm6 45 (D15.k (D14.k q92))))),(D16.k (kq hs7 sm7 10 (kq hs6 sm6 10 (D15.k q103)))),(D16.k (kq hs7 sm7 50 (kq hs6 sm6 50 (D15.k (D14.k q94))))),(D16.k (kq hs7 sm7 51 (kq hs6 sm6 51 (D15.k (D14.k (D13.k q86)))))),(cvo (by (first | (simp;done) | (rw [take_snoc L [] j oM];simp;done) | (simp only [List.length_append,List.length_map,List.length_take,List.length_singleton];omega))) (by (first | (simp;done) | (rw [take_snoc L [] j oM];simp;done) | (simp only [List.length_append,List.length_map,List.length_take,List.length_singleton];omega))) o167),o160,o161,o162,o163,o164,o165,o166,by omega,rfl⟩
       ·
        have ej:j = L.length:=oM;have hI2:=hI.step hw oM (by rw [Nat.sub_add_cancel oM];exact hE) rfl hn_p1 hs_p1;have hfw2:=hI2.few hw oM;have hkl:(ks ++ [p1]).length = ks.length + 1:=by simp
        refine wp_exit (tx (tx (bx (bn ?_))))
        exact tn ⟨n - ((ks ++ [p1])).length,by omega,s18,(ks ++ [p1]),(N ++ L.map (byL t1)),x8_2,rfl,F22,ok21,q88,q89,q90,q91,q92,(cvo (by (rw [ej,List.take_length])) (by (rw [ej,List.take_length])) o120),(show RngM Ty.ints _ 54 _ mq1 (c (k - 1)).orb ((ks ++ [p1])) from o127),o121,o122,o123,o124,o125,o126,hI2,rfl⟩
     ·
      obtain ⟨hk46,hall46⟩:=hNx46.no c3;have hE2:=hI.done hC hG oM (by rw [Nat.sub_add_cancel oM];exact hE) rfl hall46
      refine wp_exit (tx (tx (bx (tn ?_))))
      have o168:OwnM Ty.ints kI s15 54 mq1 (c (k - 1)).orb:=RngM.map o95
      obtain ⟨t9,e2,h2,o169⟩:=ChnR.unfocus o92 o93 o168 o94 (by first | rfl | simp) (by first | rfl | simp) dE dE dE dE dE
      rw [← e2]
      have F28:=F18.stepL h2 dE
      have q146:At (Ty.val x8_1) t9 a19 (.tmp 8):=Ty.up _ (h2.le dE) q56
      have q147:At (Ty.nat (k - 1)) t9 a19 (.tmp 7):=Ty.up _ (h2.le dE) q57
      have q148:At (Ty.val x6_0) t9 a19 (.tmp 6):=Ty.up _ (h2.le dE) q58
      have q149:At (Ty.val gv) t9 a19 (.tmp 0):=Ty.up _ (h2.le dE) q59
      have q150:At (Ty.val x2) t9 a19 (.tmp 45):=Ty.up _ (h2.le dE) q60
      have q151:At (Ty.bool nb46) t9 a19 (.tmp 47):=Ty.up _ (h2.le dE) q61
      have o170:=Own.keepL o88 h2 dE dE;have o171:=Own.keepL o89 h2 dE dE;have o172:=OwnP.keepL o90 h2 dE dE;have o173:=Own.keepL o91 h2 dE dE
      have o174:ChnU t9 42 22 108 cs n c us:=cvch (by exact upd_back rfl) o169
      refine gI a19 t9 ok17 (gM q146 (gB 0 (gE ok17 fun a30 s24 ok27 D17=>?_)));have o175:=Own.k0 o170 D17.stp;have o176:=Own.k0 o171 D17.stp;have o177:=OwnP.k0 o172 D17.stp;have o178:=Own.k0 o173 D17.stp;have o179:=ChnU.k0 o174 D17.stp
      have q154:At (Ty.val x8_1) s24 a30 (.tmp 6):=D17.done 1
      obtain ⟨t10,e3,h3,o180⟩:=Own.retag (k':=20) o175 dE dE
      rw [← e3]
      have F30:=(F28.step0 D17.stp).step h3 dE;have o181:=OwnP.keepL o177 (h3.toL (L:=[21]) (by simp)) dE dE;have o182:=Own.keepL o178 (h3.toL (L:=[21]) (by simp)) dE dE;have o183:=ChnU.keepL o179 (h3.toL (L:=[21]) (by simp)) dE dE;have q155:=Ty.up (Ty.nat (k - 1)) (h3.le dE) (D17.k q147);have q156:=Ty.up (Ty.val gv) (h3.le dE) (D17.k q149);have q157:=Ty.up (Ty.val x8_1) (h3.le dE) q154;refine bn (tn ?_)
      refine gI a30 t10 ok27 (gM q155 (gT (Ty.int ((((k - 1):Nat):Int) - (1:Int))) rfl (fun A B G H I d0=>rP (y_sub (eI d0) rfl wX)) (gB 0 (gE ok27 fun a31 s25 ok28 D18=>?_))));have o184:=OwnP.k0 o181 D18.stp;have o185:=Own.k0 o182 D18.stp;have o186:=ChnU.k0 o183 D18.stp;have o187:=Own.k0 o180 D18.stp
      exact tn ⟨((k - 1)) + 1,by omega,s25,(k - 1),N,x8_1,rfl,(F30.step0 D18.stp),ok28,(cJ (D18.m 2 rfl)),(D18.k q157),(D18.k q156),(cvo (by (simp)) (by (simp)) o187),o184,o186,o185,by omega,hE2,rfl⟩
   ·
    have ek:k = 0:=oM
    refine wp_exit (tx (tx (bx (tn (wp_seq ?_)))))
    refine gI a12 s10 ok11 (gM q23 (gE2 ok11 fun a32 s26 ok29 D19=>?_));have o188:=Own.k0 o38 D19.stp;have o189:=OwnP.k0 o39 D19.stp;have o190:=ChnU.k0 o40 D19.stp;have o191:=Own.k0 o41 D19.stp
    have q162:At (Ty.val x6_0) s26 a32 (.tmp 64):=D19.done 0 dE
    refine tL (R:=(fun _ τ=>∃ S_:List (List Int),S_.Perm L∧S_.Pairwise (fun x_ y_=>leL x_ y_ = true)∧Own τ 20 22 1 x6_0 (List.length L) (List.map Ty.ints S_))) ok29 (m_sortP (D:=L) dE o188 q162 oM Try.func98 rfl rfl sort_all sort_nil cmpG) fun a33 s27 hs8 ok30 r8 sm8=>?_
    obtain ⟨SL,hSP,hSS,o192⟩:=r8
    have o193:Own s27 20 22 1 x6_0 (List.length SL) (List.map Ty.ints SL):=cvo (by rw [hSP.length_eq]) rfl o192
    refine wpList_nil (tn (wp_seq ?_))
    refine gI a33 s27 ok30 (gM (kq hs8 sm8 6 (D19.k q23)) (gB 0 (gC (Ty.int (0:Int)) (gE ok30 fun a34 s28 ok31 D20=>?_))));have o197:=OwnP.k0 (OwnP.kl o189 hs8) D20.stp;have o198:=ChnU.k0 (ChnU.kl o190 hs8) D20.stp;have o199:=Own.k0 (Own.kl o191 hs8) D20.stp;have o200:=Own.k0 o193 D20.stp
    have q165:At (Ty.val x6_0) s28 a34 (.tmp 2):=D20.done 1
    refine tn (wp_ret ?_)
    obtain ⟨t11,e4,h4,q167⟩:=Own.seal o200 dE
    rw [← e4]
    have F35:=(((F11.step0 D19.stp).sl hs8).step0 D20.stp).step h4 dE;have o201:=OwnP.keepL o197 (h4.toL (L:=[20]) (by simp)) dE dE;have o202:=ChnU.keepL o198 (h4.toL (L:=[20]) (by simp)) dE dE;have o203:=Own.keepL o199 (h4.toL (L:=[20]) (by simp)) dE dE
    have q168:At (Ty.lst Ty.ints SL) t11 a34 (.tmp 2):=by have e:a34.eval (.tmp 2) = x6_0:=q165;show Ty.has _ _ _;rw [e];exact q167
    have q169:=Ty.up (Ty.int (0:Int)) (h4.le dE) (D20.m 2 rfl)
    exact retL2 rfl ok31 F35 ⟨SL,(hasT2 (cvt (by (rfl)) q168) (cvi (by (unfold eltE;rw [if_pos hsz])) q169)),o201,o202,o203,(by exact ⟨fun _=>EltK.sorted hC hG (ek ▸ hE) hSP hSS,fun h_=>absurd hsz h_⟩)⟩
set_option maxRecDepth 100000 in
theorem cycles_fn (r:List Int) (σ:GW) (v0:Value) (hv0:Ty.has (Ty.lst Ty.int r) σ v0)  :
    FnC Try.prog 89 #[v0] σ (Ty.tup2 (Ty.lst Ty.ints (if rowMay r = 0 then cyclesL r else [])) (Ty.int (rowMay r))):=by
 refine fn_intro Try.func89 rfl Try.ntmps89 (Nat.le_of_ble_eq_true rfl) (fun s0 a0 hle F0 ok0 hargs=>?_)
 have p0:=pA hle (hargs 0 _ rfl) hv0
 have b1:=sl_le p0
 clear hargs;refine wp_seq ?_
 refine gI a0 s0 ok0 (gC (Ty.val (Value.slice none 0 0)) (gC (Ty.int (0:Int)) (gE ok0 fun a1 s1 ok1 D1=>?_)));have q1:=D1.k p0;refine tn (wp_seq (wp_seq ?_))
 refine gI a1 s1 ok1 (gM q1 (gS rfl (fun A B G H I d0=>rP (y_call _ Try.func72 rfl rfl my1 (rowCheck_fn (r) _ _ (eI d0) ))) (gB 0 (gE ok1 fun a2 s2 ok2 D2=>?_))));have q3:=D2.m 2 rfl;refine tn (wp_seq ?_)
 refine gI a2 s2 ok2 (gM q3 (gS rfl (fun A B G H I d0=>rP (y_neq (eI d0) rfl)) (gE ok2 fun a3 s3 ok3 D3=>?_)));have F3:=((F0.step0 D1.stp).step0 D2.stp).step0 D3.stp;refine tn ?_
 refine cond_p (p:=((rowMay r) ≠ (0:Int))) (D3.m 1 rfl) (fun c1=>?_) (fun c1=>?_)
 ·
  refine wp_seq ?_
  refine gI a3 s3 ok3 (gM (D3.k q3) (gC (Ty.val (Value.slice none 0 0)) (gB 0 (gE ok3 fun a4 s4 ok4 D4=>?_))));refine tn (wp_ret (tr ?_))
  exact ret2 rfl ok4 (F3.step0 D4.stp) (nil_lst (by (rw [if_neg (by assumption)])) (D4.m 1 rfl)) (D4.m 2 rfl)
 ·
  have hr:=rowMay_ok.1 (Classical.not_not.1 c1);have hln:=hr.le
  refine wp_skip (tn (wp_seq ?_))
  refine gI a3 s3 ok3 (gC (Ty.val (Value.slice none 0 0)) (gE ok3 fun a5 s5 ok5 D5=>?_));have q9:=D5.k (D3.k (D2.k q1));refine tn (wp_seq ?_)
  refine gI a5 s5 ok5 (gM q9 (gS rfl (fun A B G H I d0=>rP (y_len Try.underlying22 (eI d0))) (gR (Pr.own 11 3 1 (List.length r) (List.map Ty.int (List.replicate (List.length r) 0))) rfl (by intro A B G H I d0 d1;have e1:=ed d0 rfl rfl rfl;exact rP ((y_make (k:=11) (T:=Ty.int 0) (n:=(List.length r)) Try.underlying22 Try.inf3 rfl (fun _=>rfl) e1 e1 oM oM).mono (fun _ _ h=>cvo (by simp) (by simp) h))) (gR (Pr.own 11 3 1 (List.length r) (List.map Ty.int (List.replicate (List.length r) 0))) rfl (by intro A B G H I d0 d1 d2 d3;have e2:(Pr.own 11 3 1 (List.length r) (List.map Ty.int (List.replicate (List.length r) 0))).has B (A.eval (.tmp 17)):=d0 rfl;exact rP (y_assign e2)) (gE ok5 fun a6 s6 ok6 D6=>?_)))));have q11:=D6.k q9
  have q13:(Pr.own 11 3 1 (List.length r) (List.map Ty.int (List.replicate (List.length r) 0))).has s6 (a6.eval (.tmp 6)):=D6.done 3
  refine tn (wp_seq (wp_seq ?_))
  refine gI a6 s6 ok6 (gM q11 (gS rfl (fun A B G H I d0=>rP (y_len Try.underlying22 (eI d0))) (gT (Ty.int (0:Int)) rfl (fun A B G H I=>rP (y_move rfl)) (gE ok6 fun a7 s7 ok7 D7=>?_))))
  have q16:(Pr.own 11 3 1 (List.length r) (List.map Ty.int (List.replicate (List.length r) 0))).has s7 (a7.eval (.tmp 6)):=D7.ko q13 rfl
  refine tn (wp_block ?_)
  refine loop (fun n1 a8 w1=>∃ (t1:GW) (i:Nat),t1.w = w1∧From s0 t1∧Ok 52 [] a8∧At (Ty.nat i) t1 a8 (.tmp 20)∧(Pr.own 2 22 1 (List.length (cyclesTo r i)) (List.map Ty.ints (cyclesTo r i))).has t1 (a8.eval (.tmp 5))∧(Pr.own 11 3 1 (List.length (doneL r i 0)) (List.map Ty.int (doneL r i 0))).has t1 (a8.eval (.tmp 6))∧At (Ty.lst Ty.int r) t1 a8 (.tmp 0)∧At (Ty.nat (List.length r)) t1 a8 (.tmp 19)∧(i ≤ r.length)∧n1 = r.length - i) (r.length - (0)) ?_ ?_
  ·
   exact ⟨s7,0,rfl,(((F3.step0 D5.stp).step0 D6.stp).step0 D7.stp),ok7,(cJ (D7.m 2 rfl)),(by have e:a7.eval (.tmp 5) = _:=(D7.k (D6.k (D5.m 0 rfl)));rw [e];exact Own.nil _ _ _ _),(cvo (by (simp [doneL_zero])) (by (simp [doneL_zero])) q16),(D7.k q11),(D7.m 1 rfl),by omega,rfl⟩
  ·
   rintro n2 a9 w2 ⟨t2,i,rfl,F8,ok8,q19,q20,q21,q22,q23,hk,rfl⟩
   have hcl:=cyclesTo_len r i
   have hdl:=doneL_len r i 0
   refine wp_seq ?_
   refine gI a9 t2 ok8 (gS rfl (fun A B G H I=>rP (y_lss (kp (I 20 rfl) G q19) (kp (I 19 rfl) G q23))) (gE ok8 fun a10 s8 ok9 D8=>?_));have F9:=F8.step0 D8.stp;have q24:=D8.k q19
   have q25:(Pr.own 2 22 1 (List.length (cyclesTo r i)) (List.map Ty.ints (cyclesTo r i))).has s8 (a10.eval (.tmp 5)):=D8.ko q20 rfl
   have q26:(Pr.own 11 3 1 (List.length (doneL r i 0)) (List.map Ty.int (doneL r i 0))).has s8 (a10.eval (.tmp 6)):=D8.ko q21 rfl
   refine tn (wp_seq ?_)
   refine cond_p (p:=(((i:Nat):Int) < (((List.length r):Nat):Int))) (D8.m 0 rfl) (fun c2=>?_) (fun c2=>?_)
   ·
    have hper:=per_spec hr (show i < r.length by omega)
    refine wp_skip (tn (wp_seq (wp_block (wp_seq ?_))))
    refine gI a10 s8 ok9 (gM q24 (gB 0 (gE ok9 fun a11 s9 ok10 D9=>?_)))
    have q31:(Pr.own 2 22 1 (List.length (cyclesTo r i)) (List.map Ty.ints (cyclesTo r i))).has s9 (a11.eval (.tmp 5)):=D9.ko q25 rfl
    have q32:(Pr.own 11 3 1 (List.length (doneL r i 0)) (List.map Ty.int (doneL r i 0))).has s9 (a11.eval (.tmp 6)):=D9.ko q26 rfl
    refine tn (wp_seq ?_)
    refine gI a11 s9 ok10 (gC (Ty.val (Value.slice none 0 0)) (gE ok10 fun a12 s10 ok11 D10=>?_))
    have q37:(Pr.own 2 22 1 (List.length (cyclesTo r i)) (List.map Ty.ints (cyclesTo r i))).has s10 (a12.eval (.tmp 5)):=D10.ko q31 rfl
    have q38:(Pr.own 11 3 1 (List.length (doneL r i 0)) (List.map Ty.int (doneL r i 0))).has s10 (a12.eval (.tmp 6)):=D10.ko q32 rfl
    refine tn (wp_seq (wp_seq ?_))
    refine gI a12 s10 ok11 (gM (D10.k (D9.m 1 rfl)) (gB 0 (gE ok11 fun a13 s11 ok12 D11=>?_)))
    have q44:(Pr.own 2 22 1 (List.length (cyclesTo r i)) (List.map Ty.ints (cyclesTo r i))).has s11 (a13.eval (.tmp 5)):=D11.ko q37 rfl
    have q45:(Pr.own 11 3 1 (List.length (doneL r i 0)) (List.map Ty.int (doneL r i 0))).has s11 (a13.eval (.tmp 6)):=D11.ko q38 rfl
    refine tn (wp_block ?_)
    refine loop (fun n3 a14 w3=>∃ (t3:GW) (m:Nat),t3.w = w3∧From s0 t3∧Ok 52 [] a14∧(Pr.own 11 3 1 (List.length (doneL r i m)) (List.map Ty.int (doneL r i m))).has t3 (a14.eval (.tmp 6))∧(Pr.own 3 3 1 (List.length (orbTo r i m)) (List.map Ty.int (orbTo r i m))).has t3 (a14.eval (.tmp 8))∧At (Ty.nat (itr r i m)) t3 a14 (.tmp 9)∧At (Ty.nat i) t3 a14 (.tmp 20)∧(Pr.own 2 22 1 (List.length (cyclesTo r i)) (List.map Ty.ints (cyclesTo r i))).has t3 (a14.eval (.tmp 5))∧At (Ty.lst Ty.int r) t3 a14 (.tmp 0)∧At (Ty.nat (List.length r)) t3 a14 (.tmp 19)∧(m ≤ per r i)∧(m = 0 ∨ least r i = true)∧n3 = per r i + 1 - m) (per r i + 1 - (0)) ?_ ?_
    ·
     exact ⟨s11,0,rfl,(((F9.step0 D9.stp).step0 D10.stp).step0 D11.stp),ok12,(cvo (by (simp)) (by (simp)) q45),(by have e:a13.eval (.tmp 8) = _:=(D11.k (D10.m 0 rfl));rw [e];exact Own.nil _ _ _ _),(cJ (D11.m 1 rfl)),(D11.k (D10.k (D9.k q24))),q44,(D11.k (D10.k (D9.k (D8.k q22)))),(D11.k (D10.k (D9.k (D8.k q23)))),by omega,.inl rfl,rfl⟩
    ·
     rintro n4 a15 w4 ⟨t4,m,rfl,F13,ok13,q50,q51,q52,q53,q54,q55,q56,hm,hml,rfl⟩
     have hdm:=doneL_len r i m
     have hit:=itr_lt hr (show i < r.length by omega) m
     have h01:=doneL_01 r i m (itr r i m)
     have hol:=orbTo_len r i m
     refine wp_seq (wp_seq ?_)
     refine gI a15 t4 ok13 (gT (Ty.val (a15.eval (.tmp 6))) rfl (fun A B G H I=>rP (y_move (I 6 rfl))) (gM q52 (gT (Ty.val (cellPtr (a15.eval (.tmp 6)) (itr r i m))) rfl (fun A B G H I d0 d1=>rP (own_index1 (i:=(((itr r i m):Nat):Int)) Try.underlying22 Try.inf3 ((Pr.own 11 3 1 (List.length (doneL r i m)) (List.map Ty.int (doneL r i m))).up G q50) (eI d0) (eI d1) oM oM)) (gS rfl (fun A B G H I d0=>rP (own_load Try.underlying3 rfl ((Pr.own 11 3 1 (List.length (doneL r i m)) (List.map Ty.int (doneL r i m))).up G q50) (eI d0) (lst_get Ty.int (doneL r i m) 0 (itr r i m) oM))) (gS rfl (fun A B G H I d0=>rP (y_eql (eI d0) rfl)) (gE ok13 fun a16 s12 ok14 D12=>?_))))));have F14:=F13.step0 D12.stp
     have q57:(Pr.own 11 3 1 (List.length (doneL r i m)) (List.map Ty.int (doneL r i m))).has s12 (a16.eval (.tmp 6)):=D12.ko q50 rfl
     have q58:(Pr.own 3 3 1 (List.length (orbTo r i m)) (List.map Ty.int (orbTo r i m))).has s12 (a16.eval (.tmp 8)):=D12.ko q51 rfl
     have q59:=D12.k q52;have q60:=D12.k q53
     have q61:(Pr.own 2 22 1 (List.length (cyclesTo r i)) (List.map Ty.ints (cyclesTo r i))).has s12 (a16.eval (.tmp 5)):=D12.ko q54 rfl
     have q62:=D12.k q55;have q63:=D12.k q56;refine tn ?_
     refine cond_p (p:=(((doneL r i m).getD (itr r i m) 0) = (0:Int))) (D12.m 4 rfl) (fun c3=>?_) (fun c3=>?_)
     ·
      have hq:=hr.at (itr_lt hr (show i < r.length by omega) m)
      refine wp_skip (tn (wp_seq (wp_block (wp_seq ?_))))
      refine gI a16 s12 ok14 (gT (Ty.val (a16.eval (.tmp 6))) rfl (fun A B G H I=>rP (y_move (I 6 rfl))) (gM q59 (gT (Ty.val (cellPtr (a16.eval (.tmp 6)) (itr r i m))) rfl (fun A B G H I d0 d1=>rP (own_index1 (i:=(((itr r i m):Nat):Int)) Try.underlying22 Try.inf3 ((Pr.own 11 3 1 (List.length (doneL r i m)) (List.map Ty.int (doneL r i m))).up G q57) (eI d0) (eI d1) oM oM)) (gS rfl (fun A B G H I d0=>rP (own_load Try.underlying3 rfl ((Pr.own 11 3 1 (List.length (doneL r i m)) (List.map Ty.int (doneL r i m))).up G q57) (eI d0) (lst_get Ty.int (doneL r i m) 0 (itr r i m) oM))) (gT (Ty.int (((doneL r i m).getD (itr r i m) 0) + (1:Int))) rfl (fun A B G H I d0=>rP (y_add (eI d0) rfl wX)) (gT (Ty.val (cellPtr (a16.eval (.tmp 6)) (itr r i m))) rfl (fun A B G H I d0 d1 d2 d3 d4 d5 d6=>rP (own_index1 (i:=(((itr r i m):Nat):Int)) Try.underlying22 Try.inf3 ((Pr.own 11 3 1 (List.length (doneL r i m)) (List.map Ty.int (doneL r i m))).up G q57) (eI d0) (eI d1) oM oM)) (gE2 ok14 fun a17 s13 ok15 D13=>?_)))))));have q65:=(Pr.own 11 3 1 (List.length (doneL r i m)) (List.map Ty.int (doneL r i m))).up D13.stp q57;have q66:=(Pr.own 3 3 1 (List.length (orbTo r i m)) (List.map Ty.int (orbTo r i m))).up D13.stp q58;have q67:=(Pr.own 2 22 1 (List.length (cyclesTo r i)) (List.map Ty.ints (cyclesTo r i))).up D13.stp q61
      have q68:a17.eval (.tmp 6) = a16.eval (.tmp 6):=D13.same 6 rfl
      have q69:a17.eval (.tmp 8) = a16.eval (.tmp 8):=D13.same 8 rfl
      have q72:a17.eval (.tmp 5) = a16.eval (.tmp 5):=D13.same 5 rfl
      have q75:=D13.m 4 rfl
      refine tail_step0 (m:=11) (R:=(fun _ τ=>Own τ 11 3 1 (a16.eval (.tmp 6)) (List.length (doneL r i m)) ((List.map Ty.int (doneL r i m)).set (itr r i m) (Ty.int (((doneL r i m).getD (itr r i m) 0) + (1:Int)))))) rfl rfl (m_store Try.inf3 dE q65 (D13.m 5 rfl) (by simp only [List.length_map,List.length_set];omega) q75 (one_val rfl)) (fun v1 s14 hs1 r1=>?_)
      have F16:=(F14.step0 D13.stp).step hs1 dE
      have q77:At (Ty.nat (itr r i m)) s14 a17 (.tmp 9):=kpm hs1 dE rfl (D13.k q59)
      have q78:At (Ty.nat i) s14 a17 (.tmp 20):=kpm hs1 dE rfl (D13.k q60)
      have q79:At (Ty.lst Ty.int r) s14 a17 (.tmp 0):=kpm hs1 dE rfl (D13.k q62)
      have q80:At (Ty.nat (List.length r)) s14 a17 (.tmp 19):=kpm hs1 dE rfl (D13.k q63)
      have q81:At (Ty.int (((doneL r i m).getD (itr r i m) 0) + (1:Int))) s14 a17 (.tmp 37):=kpm hs1 dE rfl q75
      have q82:(Pr.own 11 3 1 (List.length ((doneL r i m).set (itr r i m) (((doneL r i m).getD (itr r i m) 0) + (1:Int)))) (List.map Ty.int ((doneL r i m).set (itr r i m) (((doneL r i m).getD (itr r i m) 0) + (1:Int))))).has s14 (a16.eval (.tmp 6)):=(cvo (by simp) (by simp) r1)
      have q83:=Own.keep q66 hs1 dE (.inr dE);have q84:=Own.keep q67 hs1 dE (.inr dE);refine wpList_nil ?_
      have q85:(Pr.own 11 3 1 (List.length ((doneL r i m).set (itr r i m) (((doneL r i m).getD (itr r i m) 0) + (1:Int)))) (List.map Ty.int ((doneL r i m).set (itr r i m) (((doneL r i m).getD (itr r i m) 0) + (1:Int))))).has s14 (a17.eval (.tmp 6)):=al q68 q82
      have q86:(Pr.own 3 3 1 (List.length (orbTo r i m)) (List.map Ty.int (orbTo r i m))).has s14 (a17.eval (.tmp 8)):=al q69 q83
      have q87:(Pr.own 2 22 1 (List.length (cyclesTo r i)) (List.map Ty.ints (cyclesTo r i))).has s14 (a17.eval (.tmp 5)):=al q72 q84
      refine tn ?_
      refine gI a17 s14 ok15 (gT (Ty.val (a17.eval (.tmp 8))) rfl (fun A B G H I=>rP (y_move (I 8 rfl))) (gM q77 (gT (Ty.sl 1 1 [(Ty.nat (itr r i m))]) rfl (fun A B G H I d0=>rP (y_build1o Try.underlying22 Try.inf3 rfl (one_val rfl) (eI d0))) (gE2 ok15 fun a19 s15 ok17 D14=>?_))));have q88:=(Pr.own 11 3 1 (List.length ((doneL r i m).set (itr r i m) (((doneL r i m).getD (itr r i m) 0) + (1:Int)))) (List.map Ty.int ((doneL r i m).set (itr r i m) (((doneL r i m).getD (itr r i m) 0) + (1:Int))))).up D14.stp q85;have q89:=(Pr.own 3 3 1 (List.length (orbTo r i m)) (List.map Ty.int (orbTo r i m))).up D14.stp q86;have q90:=(Pr.own 2 22 1 (List.length (cyclesTo r i)) (List.map Ty.ints (cyclesTo r i))).up D14.stp q87
      have q91:a19.eval (.tmp 6) = a17.eval (.tmp 6):=D14.same 6 rfl
      have q92:a19.eval (.tmp 8) = a17.eval (.tmp 8):=D14.same 8 rfl
      have q95:a19.eval (.tmp 5) = a17.eval (.tmp 5):=D14.same 5 rfl
      have q99:=D14.m 2 rfl
      refine tail_step (m:=3) (R:=(fun v τ=>Own τ 3 3 1 v ((List.length (orbTo r i m)) + 1) ((List.map Ty.int (orbTo r i m)) ++ [(Ty.nat (itr r i m))]))) rfl rfl dE ok17 (m_append Try.underlying22 Try.inf3 dE rfl dE (al (D14.m 0 rfl) q89) q99 (by intro U hU;simp at hU;  subst hU;exact one_val rfl) oM oM) (fun a20 s16 hs2 ok18 r2 sm2=>?_)
      have F18:=(F16.step0 D14.stp).step hs2 dE;have q100:=Own.keep q88 hs2 dE (.inr dE);have q101:=Own.keep q90 hs2 dE (.inr dE);have q102:=(sm2 6 dE).trans q91
      have q103:At (Ty.nat (itr r i m)) s16 a20 (.tmp 9):=kpm hs2 dE (sm2 9 dE) (D14.k q77)
      have q104:At (Ty.nat i) s16 a20 (.tmp 20):=kpm hs2 dE (sm2 20 dE) (D14.k q78)
      have q105:=(sm2 5 dE).trans q95
      have q106:At (Ty.lst Ty.int r) s16 a20 (.tmp 0):=kpm hs2 dE (sm2 0 dE) (D14.k q79)
      have q107:At (Ty.nat (List.length r)) s16 a20 (.tmp 19):=kpm hs2 dE (sm2 19 dE) (D14.k q80)
      have q108:At (Ty.sl 1 1 [(Ty.nat (itr r i m))]) s16 a20 (.tmp 41):=kpm hs2 dE (sm2 41 dE) q99
      have q109:(Pr.own 3 3 1 (List.length ((orbTo r i m) ++ [(((itr r i m):Nat):Int)])) (List.map Ty.int ((orbTo r i m) ++ [(((itr r i m):Nat):Int)]))).has s16 (a20.eval (.tmp 42)):=(cvo (by simp) (by first | (rw [List.map_append];rfl) | simp) r2)
      refine tail_step (m:=0) (R:=(fun v τ=>Pr.has (Pr.own 3 3 1 (List.length ((orbTo r i m) ++ [(((itr r i m):Nat):Int)])) (List.map Ty.int ((orbTo r i m) ++ [(((itr r i m):Nat):Int)]))) τ v)) rfl rfl dE ok18 (Yld.toM (y_assign q109)) (fun a21 s17 hs3 ok19 r3 sm3=>?_)
      have F19:=F18.step hs3 dE;have q110:=Own.keep q100 hs3 dE (.inl rfl);have q111:=Own.keep q101 hs3 dE (.inl rfl);have q112:=(sm3 6 dE).trans q102
      have q113:At (Ty.nat (itr r i m)) s17 a21 (.tmp 9):=kpm hs3 dE (sm3 9 dE) q103
      have q114:At (Ty.nat i) s17 a21 (.tmp 20):=kpm hs3 dE (sm3 20 dE) q104
      have q115:=(sm3 5 dE).trans q105
      have q116:At (Ty.lst Ty.int r) s17 a21 (.tmp 0):=kpm hs3 dE (sm3 0 dE) q106
      have q117:At (Ty.nat (List.length r)) s17 a21 (.tmp 19):=kpm hs3 dE (sm3 19 dE) q107
      have q118:At (Ty.sl 1 1 [(Ty.nat (itr r i m))]) s17 a21 (.tmp 41):=kpm hs3 dE (sm3 41 dE) q108
      have q119:(Pr.own 3 3 1 (List.length ((orbTo r i m) ++ [(((itr r i m):Nat):Int)])) (List.map Ty.int ((orbTo r i m) ++ [(((itr r i m):Nat):Int)]))).has s17 (a21.eval (.tmp 42)):=kpmo hs3 dE (.inl rfl) (sm3 42 dE) q109
      have q120:(Pr.own 3 3 1 (List.length ((orbTo r i m) ++ [(((itr r i m):Nat):Int)])) (List.map Ty.int ((orbTo r i m) ++ [(((itr r i m):Nat):Int)]))).has s17 (a21.eval (.tmp 8)):=r3
      refine wpList_nil ?_
      have q121:(Pr.own 11 3 1 (List.length ((doneL r i m).set (itr r i m) (((doneL r i m).getD (itr r i m) 0) + (1:Int)))) (List.map Ty.int ((doneL r i m).set (itr r i m) (((doneL r i m).getD (itr r i m) 0) + (1:Int))))).has s17 (a21.eval (.tmp 6)):=al q112 q110
      have q122:(Pr.own 2 22 1 (List.length (cyclesTo r i)) (List.map Ty.ints (cyclesTo r i))).has s17 (a21.eval (.tmp 5)):=al q115 q111
      refine bn (tn ?_)
      refine gI a21 s17 ok19 (gM q116 (gM q113 (gT (Ty.ref [(Ty.int (r.getD (itr r i m) 0))]) rfl (fun A B G H I d0 d1=>rP (y_index1 Try.underlying22 Try.inf3 (eI d0) (eI d1) oM (lst_get Ty.int r 0 (itr r i m) oM))) (gS rfl (fun A B G H I d0=>rP (y_load Try.underlying3 rfl (eI d0) rfl)) (gB 0 (gE ok19 fun a22 s18 ok20 D15=>?_))))))
      have q123:(Pr.own 11 3 1 (List.length ((doneL r i m).set (itr r i m) (((doneL r i m).getD (itr r i m) 0) + (1:Int)))) (List.map Ty.int ((doneL r i m).set (itr r i m) (((doneL r i m).getD (itr r i m) 0) + (1:Int))))).has s18 (a22.eval (.tmp 6)):=D15.ko q121 rfl
      have q125:(Pr.own 2 22 1 (List.length (cyclesTo r i)) (List.map Ty.ints (cyclesTo r i))).has s18 (a22.eval (.tmp 5)):=D15.ko q122 rfl
      have q128:(Pr.own 3 3 1 (List.length ((orbTo r i m) ++ [(((itr r i m):Nat):Int)])) (List.map Ty.int ((orbTo r i m) ++ [(((itr r i m):Nat):Int)]))).has s18 (a22.eval (.tmp 8)):=D15.ko q120 rfl
      have hlst:=cyc_least hr (show i < r.length by omega) hml c3
      have hlt:=(done_mid hr (show i < r.length by omega) hlst hm).1 c3
      exact tn ⟨per r i + 1 - ((m+1)),by omega,s18,(m+1),rfl,(F19.step0 D15.stp),ok20,(cvo (by (first | (rw [c3];exact congrArg _ (doneL_step hr oM c3)) | (rw [c3];exact congrArg _ (congrArg _ (doneL_step hr oM c3))))) (by (first | (rw [c3];exact congrArg _ (doneL_step hr oM c3)) | (rw [c3];exact congrArg _ (congrArg _ (doneL_step hr oM c3))))) q123),(cvo (by (rw [orbTo_succ])) (by (rw [orbTo_succ])) q128),(cvi (by (exact (nxt_int hr oM).symm)) (D15.m 4 rfl)),(D15.k q114),q125,(D15.k q116),(D15.k q117),by omega,.inr hlst,rfl⟩
     ·
      refine wp_exit (tx (tx (bx (tn (wp_seq ?_)))))
      refine gI a16 s12 ok14 (gT (Ty.val (a16.eval (.tmp 8))) rfl (fun A B G H I=>rP (y_move (I 8 rfl))) (gT (Ty.nat (List.length (orbTo r i m))) rfl (fun A B G H I d0=>rP (own_len Try.underlying22 (al (eI d0) ((Pr.own 3 3 1 (List.length (orbTo r i m)) (List.map Ty.int (orbTo r i m))).up G q58)))) (gS rfl (fun A B G H I d0=>rP (y_gtr (eI d0) rfl)) (gE ok14 fun a23 s19 ok21 D16=>?_))));have F21:=F14.step0 D16.stp
      have q130:(Pr.own 11 3 1 (List.length (doneL r i m)) (List.map Ty.int (doneL r i m))).has s19 (a23.eval (.tmp 6)):=D16.ko q57 rfl
      have q131:(Pr.own 3 3 1 (List.length (orbTo r i m)) (List.map Ty.int (orbTo r i m))).has s19 (a23.eval (.tmp 8)):=D16.ko q58 rfl
      have q132:=D16.k q60
      have q133:(Pr.own 2 22 1 (List.length (cyclesTo r i)) (List.map Ty.ints (cyclesTo r i))).has s19 (a23.eval (.tmp 5)):=D16.ko q61 rfl
      have q134:=D16.k q62;have q135:=D16.k q63;have q136:=D16.m 2 rfl;refine tn ?_
      refine cond_p (p:=((0:Int) < (((List.length (orbTo r i m)):Nat):Int))) q136 (fun c4=>?_) (fun c4=>?_)
      ·
       have hml2:=cyc_some hr oM hm hml c3 (by simpa [orbTo_len] using c4)
       obtain ⟨t5,e1,h1,q137⟩:=Own.seal q131 dE
       rw [← e1]
       have F22:=F21.step h1 dE;have q138:=Own.keep q130 h1 dE (.inr dE);have q139:=Ty.up (Ty.nat i) (h1.le dE) q132;have q140:=Own.keep q133 h1 dE (.inr dE);have q141:=Ty.up (Ty.lst Ty.int r) (h1.le dE) q134;have q142:=Ty.up (Ty.nat (List.length r)) (h1.le dE) q135;have q143:=Ty.up (Ty.bool (decide ((0:Int) < (((List.length (orbTo r i m)):Nat):Int)))) (h1.le dE) q136
       refine gI a23 t5 ok21 (gT (Ty.val (a23.eval (.tmp 5))) rfl (fun A B G H I=>rP (y_move (I 5 rfl))) (gM q137 (gT (Ty.sl 1 1 [(Ty.lst Ty.int (orbTo r i m))]) rfl (fun A B G H I d0=>rP (y_build1o Try.underlying24 Try.inf22 rfl (one_sl) (eI d0))) (gE2 ok21 fun a24 s20 ok22 D17=>?_))));have q144:=(Pr.own 11 3 1 (List.length (doneL r i m)) (List.map Ty.int (doneL r i m))).up D17.stp q138;have q145:=(Pr.own 2 22 1 (List.length (cyclesTo r i)) (List.map Ty.ints (cyclesTo r i))).up D17.stp q140
       have q146:a24.eval (.tmp 6) = a23.eval (.tmp 6):=D17.same 6 rfl
       have q148:a24.eval (.tmp 5) = a23.eval (.tmp 5):=D17.same 5 rfl
       have q152:=D17.m 2 rfl
       refine tail_step (m:=2) (R:=(fun v τ=>Own τ 2 22 1 v ((List.length (cyclesTo r i)) + 1) ((List.map Ty.ints (cyclesTo r i)) ++ [(Ty.lst Ty.int (orbTo r i m))]))) rfl rfl dE ok22 (m_append Try.underlying24 Try.inf22 dE rfl dE (al (D17.m 0 rfl) q145) q152 (by intro U hU;simp at hU;  subst hU;exact one_sl) oM oM) (fun a25 s21 hs4 ok23 r4 sm4=>?_)
       have F24:=(F22.step0 D17.stp).step hs4 dE;have q153:=Own.keep q144 hs4 dE (.inr dE);have q154:=(sm4 6 dE).trans q146
       have q155:At (Ty.nat i) s21 a25 (.tmp 20):=kpm hs4 dE (sm4 20 dE) (D17.k q139)
       have q156:At (Ty.lst Ty.int r) s21 a25 (.tmp 0):=kpm hs4 dE (sm4 0 dE) (D17.k q141)
       have q157:At (Ty.nat (List.length r)) s21 a25 (.tmp 19):=kpm hs4 dE (sm4 19 dE) (D17.k q142)
       have q158:At (Ty.sl 1 1 [(Ty.lst Ty.int (orbTo r i m))]) s21 a25 (.tmp 48):=kpm hs4 dE (sm4 48 dE) q152
       have q159:(Pr.own 2 22 1 (List.length ((cyclesTo r i) ++ [(orbTo r i m)])) (List.map Ty.ints ((cyclesTo r i) ++ [(orbTo r i m)]))).has s21 (a25.eval (.tmp 49)):=(cvo (by simp) (by first | (rw [List.map_append];rfl) | simp) r4)
       refine tail_step (m:=0) (R:=(fun v τ=>Pr.has (Pr.own 2 22 1 (List.length ((cyclesTo r i) ++ [(orbTo r i m)])) (List.map Ty.ints ((cyclesTo r i) ++ [(orbTo r i m)]))) τ v)) rfl rfl dE ok23 (Yld.toM (y_assign q159)) (fun a26 s22 hs5 ok24 r5 sm5=>?_)
       have F25:=F24.step hs5 dE;have q160:=Own.keep q153 hs5 dE (.inl rfl);have q161:=(sm5 6 dE).trans q154
       have q162:At (Ty.nat i) s22 a26 (.tmp 20):=kpm hs5 dE (sm5 20 dE) q155
       have q163:At (Ty.lst Ty.int r) s22 a26 (.tmp 0):=kpm hs5 dE (sm5 0 dE) q156
       have q164:At (Ty.nat (List.length r)) s22 a26 (.tmp 19):=kpm hs5 dE (sm5 19 dE) q157
       have q165:At (Ty.sl 1 1 [(Ty.lst Ty.int (orbTo r i m))]) s22 a26 (.tmp 48):=kpm hs5 dE (sm5 48 dE) q158
       have q166:(Pr.own 2 22 1 (List.length ((cyclesTo r i) ++ [(orbTo r i m)])) (List.map Ty.ints ((cyclesTo r i) ++ [(orbTo r i m)]))).has s22 (a26.eval (.tmp 49)):=kpmo hs5 dE (.inl rfl) (sm5 49 dE) q159
       have q167:(Pr.own 2 22 1 (List.length ((cyclesTo r i) ++ [(orbTo r i m)])) (List.map Ty.ints ((cyclesTo r i) ++ [(orbTo r i m)]))).has s22 (a26.eval (.tmp 5)):=r5
       refine wpList_nil ?_
       have q168:(Pr.own 11 3 1 (List.length (doneL r i m)) (List.map Ty.int (doneL r i m))).has s22 (a26.eval (.tmp 6)):=al q161 q160
       refine bn (tn ?_)
       refine gI a26 s22 ok24 (gT (Ty.int (((i:Nat):Int) + (1:Int))) rfl (fun A B G H I=>rP (y_add (kp (I 20 rfl) G q162) rfl wX)) (gS rfl (fun A B G H I d0=>rP (y_move (eI d0))) (gE ok24 fun a27 s23 ok25 D18=>?_)))
       have q169:(Pr.own 11 3 1 (List.length (doneL r i m)) (List.map Ty.int (doneL r i m))).has s23 (a27.eval (.tmp 6)):=D18.ko q168 rfl
       have q172:(Pr.own 2 22 1 (List.length ((cyclesTo r i) ++ [(orbTo r i m)])) (List.map Ty.ints ((cyclesTo r i) ++ [(orbTo r i m)]))).has s23 (a27.eval (.tmp 5)):=D18.ko q167 rfl
       exact tn ⟨r.length - ((i+1)),by omega,s23,(i+1),rfl,(F25.step0 D18.stp),ok25,(cJ (D18.m 1 rfl)),(cvo (by (rw [hml2.2,cyclesTo_yes r i hml2.1];rfl)) (by (rw [hml2.2,cyclesTo_yes r i hml2.1];rfl)) q172),(cvo (by (rw [hml2.2,done_next hr oM])) (by (rw [hml2.2,done_next hr oM])) q169),(D18.k q163),(D18.k q164),by omega,rfl⟩
      ·
       have hml2:=cyc_none hr oM hm c3 (by simpa [orbTo_len] using c4)
       refine wp_skip (bn (tn ?_))
       refine gI a23 s19 ok21 (gT (Ty.int (((i:Nat):Int) + (1:Int))) rfl (fun A B G H I=>rP (y_add (kp (I 20 rfl) G q132) rfl wX)) (gS rfl (fun A B G H I d0=>rP (y_move (eI d0))) (gE ok21 fun a28 s24 ok26 D19=>?_)))
       have q174:(Pr.own 11 3 1 (List.length (doneL r i m)) (List.map Ty.int (doneL r i m))).has s24 (a28.eval (.tmp 6)):=D19.ko q130 rfl
       have q175:(Pr.own 2 22 1 (List.length (cyclesTo r i)) (List.map Ty.ints (cyclesTo r i))).has s24 (a28.eval (.tmp 5)):=D19.ko q133 rfl
       exact tn ⟨r.length - ((i+1)),by omega,s24,(i+1),rfl,(F21.step0 D19.stp),ok26,(cJ (D19.m 1 rfl)),(cvo (by (rw [cyclesTo_no r i hml2.1])) (by (rw [cyclesTo_no r i hml2.1])) q175),(cvo (by (rw [hml2.2,done_skip hr oM hml2.1])) (by (rw [hml2.2,done_skip hr oM hml2.1])) q174),(D19.k q134),(D19.k q135),by omega,rfl⟩
   ·
    refine wp_exit (tx (tx (bx (tn (wp_seq ?_)))))
    refine gI a10 s8 ok9 (gT (Ty.val (a10.eval (.tmp 5))) rfl (fun A B G H I=>rP (y_move (I 5 rfl))) (gB 0 (gC (Ty.int (0:Int)) (gE ok9 fun a29 s25 ok27 D20=>?_))))
    have q179:(Pr.own 2 22 1 (List.length (cyclesTo r i)) (List.map Ty.ints (cyclesTo r i))).has s25 (a29.eval (.tmp 2)):=al (show _ = _ from D20.done 1) ((Pr.own 2 22 1 (List.length (cyclesTo r i)) (List.map Ty.ints (cyclesTo r i))).up D20.stp q25)
    refine tn (wp_ret ?_)
    obtain ⟨t6,e2,h2,q181⟩:=Own.seal q179 dE
    rw [← e2]
    have F29:=(F9.step0 D20.stp).step h2 dE;have q182:=Ty.up (Ty.int (0:Int)) (h2.le dE) (D20.m 2 rfl)
    exact ret2 rfl ok27 F29 (cvt (by (obtain rfl:i = r.length:=oM;rw [if_pos (Classical.not_not.1 c1)];rfl)) q181) (cvi (by (exact (Classical.not_not.1 c1).symm)) q182)
set_option maxHeartbeats 4000000 in
set_option maxRecDepth 100000 in
theorem lengths_fn (r:List Int) (σ:GW)  (v0:Value) (hv0:Ty.has (Ty.lst Ty.int r) σ v0)  (hr:IsRow r) :
    FnC Try.prog 79 #[v0] σ (Ty.lst Ty.int (lensL r)):=by
 have hrl:=hr.le
 have hr0:=rowMay_ok.2 hr
 have hcl:(cyclesL r).length ≤ r.length:=cyclesTo_len r r.length
 refine fn_intro0 Try.func79 rfl Try.ntmps79 (Nat.le_of_ble_eq_true rfl) (fun s0 a0 hle F0 ok0 hargs=>?_)
 have p0:=pA hle (hargs 0 _ rfl) hv0
 have b1:=sl_le p0
 clear hargs;refine wp_seq ?_
 refine gI a0 s0 ok0 (gC (Ty.val (Value.slice none 0 0)) (gE ok0 fun a1 s1 ok1 D1=>?_));have q1:=D1.k p0;refine tn (wp_seq ?_)
 refine gI a1 s1 ok1 (gM q1 (gS rfl (fun A B G H I d0=>rP (y_len Try.underlying22 (eI d0))) (gR (Pr.own 20 3 1 (List.length r) (List.map Ty.int (List.replicate (List.length r) 0))) rfl (by intro A B G H I d0 d1;have e1:=ed d0 rfl rfl rfl;exact rP ((y_make (k:=20) (T:=Ty.int 0) (n:=(List.length r)) Try.underlying22 Try.inf3 rfl (fun _=>rfl) e1 e1 oM oM).mono (fun _ _ h=>cvo (by simp) (by simp) h))) (gE2 ok1 fun a2 s2 ok2 D2=>?_))))
 obtain ⟨x1,hx1⟩:∃ x,a2.eval (.tmp 10) = x:=⟨_,rfl⟩
 have q3:At (Ty.val x1) s2 a2 (.tmp 10):=hx1
 have o1:=al2 (R:=(Pr.own 20 3 1 (List.length r) (List.map Ty.int (List.replicate (List.length r) 0)))) hx1 (D2.done 2 dE)
 refine tL ok2 (Yld.toL (y_as q3)) fun a3 s3 hs1 ok3 r1 sm1=>?_
 have q5:At (Ty.val x1) s3 a3 (.tmp 3):=r1
 clear r1;refine wpList_nil (tn (wp_seq ?_))
 refine gI a3 s3 ok3 (gM (kq hs1 sm1 0 (D2.k q1)) (gS rfl (fun A B G H I d0=>rP (y_call _ Try.func89 rfl rfl my1 (cycles_fn (r) _ _ (eI d0) ))) (gS rfl (fun A B G H I d0=>rP (y_move (eI d0))) (gT (Ty.lst Ty.ints (if rowMay r = 0 then cyclesL r else [])) rfl (fun A B G H I d0=>rP (y_ext2_0 (eI d0))) (gT (Ty.int (rowMay r)) rfl (fun A B G H I d0 d1=>rP (y_ext2_1 (eI d0))) (gB 0 (gB 0 (gE ok3 fun a4 s4 ok4 D3=>?_))))))));have o3:=Own.k0 (Own.kl o1 hs1) D3.stp
 have q8:At (Ty.lst Ty.ints (cyclesL r)) s4 a4 (.tmp 4):=(cvt (by (rw [if_pos hr0])) (D3.m 5 rfl))
 refine tn (wp_seq (wp_seq ?_))
 refine gI a4 s4 ok4 (gM q8 (gS rfl (fun A B G H I d0=>rP (y_len Try.underlying24 (eI d0))) (gT (Ty.int (0:Int)) rfl (fun A B G H I=>rP (y_move rfl)) (gE ok4 fun a5 s5 ok5 D4=>?_))));have o4:=Own.k0 o3 D4.stp;refine tn (wp_block ?_)
 refine loop (fun n1 a6 w1=>∃ (t1:GW) (k:Nat) (x3_0:Value),t1.w = w1∧FromL [] s0 t1∧Ok 32 [] a6∧At (Ty.nat k) t1 a6 (.tmp 18)∧At (Ty.val x3_0) t1 a6 (.tmp 3)∧At (Ty.lst Ty.ints (cyclesL r)) t1 a6 (.tmp 16)∧At (Ty.nat (List.length (cyclesL r))) t1 a6 (.tmp 17)∧Own t1 20 3 1 x3_0 (List.length (lensT r k)) (List.map Ty.int (lensT r k))∧(k ≤ (cyclesL r).length)∧n1 = (cyclesL r).length - k) ((cyclesL r).length - (0)) ?_ ?_
 ·
  exact ⟨s5,0,x1,rfl,(((((F0.step0 D1.stp).step0 D2.stp).sl hs1).step0 D3.stp).step0 D4.stp),ok5,(cJ (D4.m 2 rfl)),(D4.k (D3.k q5)),(D4.m 0 rfl),(D4.m 1 rfl),(cvo (by (first | rfl | (rw [lensT_zero];done) | simp [lensT_zero])) (by (first | rfl | (rw [lensT_zero];done) | simp [lensT_zero])) o4),by omega,rfl⟩
 ·
  rintro n2 a7 w2 ⟨t2,k,x3_0,rfl,F6,ok6,q13,q14,q15,q16,o5,hk,rfl⟩
  have hll:=lensT_len (r:=r) (k:=k)
  refine wp_seq ?_
  refine gI a7 t2 ok6 (gS rfl (fun A B G H I=>rP (y_lss (kp (I 18 rfl) G q13) (kp (I 17 rfl) G q16))) (gE ok6 fun a8 s6 ok7 D5=>?_));have F7:=F6.step0 D5.stp;have q17:=D5.k q13;have q18:=D5.k q14;have q19:=D5.k q15;have o6:=Own.k0 o5 D5.stp;refine tn (wp_seq ?_)
  refine cond_p (p:=(((k:Nat):Int) < (((List.length (cyclesL r)):Nat):Int))) (D5.m 0 rfl) (fun c1=>?_) (fun c1=>?_)
  ·
   have hck:=cycl_len hr (show k < (cyclesL r).length by omega);have hlb:=lensT_bd (r:=r) (k:=k) (j:=(((cyclesL r).getD k []).length - 1))
   refine wp_skip (tn (wp_seq (wp_block (wp_seq ?_))))
   refine gI a8 s6 ok7 (gT (Ty.ref [(Ty.lst Ty.int ((cyclesL r).getD k []))]) rfl (fun A B G H I=>rP (y_index1 Try.underlying24 Try.inf22 (kp (I 16 rfl) G q19) (kp (I 18 rfl) G q17) oM (lst_get Ty.ints (cyclesL r) [] k oM))) (gS rfl (fun A B G H I d0=>rP (y_load Try.underlying22 rfl (eI d0) rfl)) (gB 0 (gE ok7 fun a9 s7 ok8 D6=>?_))));have q23:=D6.k q18;have o7:=Own.k0 o6 D6.stp;refine tn ?_
   refine gI a9 s7 ok8 (gM q23 (gM (D6.m 2 rfl) (gS rfl (fun A B G H I d0=>rP (y_len Try.underlying22 (eI d0))) (gT (Ty.nat ((List.length ((cyclesL r).getD k [])) - 1)) rfl (fun A B G H I d0=>rP ((y_sub (eI d0) rfl wX).mono (fun τ _ h=>cvi (σ:=τ) oM h))) (gT (Ty.val (cellPtr x3_0 ((List.length ((cyclesL r).getD k [])) - 1))) rfl (fun A B G H I d0 d1=>rP (own_index1 (i:=((((List.length ((cyclesL r).getD k [])) - 1):Nat):Int)) Try.underlying22 Try.inf3 (Own.k0 o7 G) (eI d0) (eI d1) oM oM)) (gS rfl (fun A B G H I d0=>rP (own_load Try.underlying3 rfl (Own.k0 o7 G) (eI d0) (lst_get Ty.int (lensT r k) 0 ((List.length ((cyclesL r).getD k [])) - 1) oM))) (gT (Ty.int (((lensT r k).getD ((List.length ((cyclesL r).getD k [])) - 1) 0) + (1:Int))) rfl (fun A B G H I d0=>rP (y_add (eI d0) rfl wX)) (gT (Ty.val (cellPtr x3_0 ((List.length ((cyclesL r).getD k [])) - 1))) rfl (fun A B G H I d0 d1 d2 d3 d4 d5 d6 d7 d8=>rP (own_index1 (i:=((((List.length ((cyclesL r).getD k [])) - 1):Nat):Int)) Try.underlying22 Try.inf3 (Own.k0 o7 G) (eI d0) (eI d1) oM oM)) (gE2 ok8 fun a10 s8 ok9 D7=>?_)))))))));have o8:=Own.k0 o7 D7.stp
   refine tailL0 (L:=[20]) (R:=(fun _ τ=>Own τ 20 3 1 x3_0 (List.length (lensT r k)) ((List.map Ty.int (lensT r k)).set ((List.length ((cyclesL r).getD k [])) - 1) (Ty.int (((lensT r k).getD ((List.length ((cyclesL r).getD k [])) - 1) 0) + (1:Int)))))) rfl rfl (YldM.toL (m_store Try.inf3 dE o8 (D7.m 7 rfl) (by simp only [List.length_map,List.length_set];omega) (D7.m 6 rfl) (one_val rfl))) (fun v1 s9 hs2 r2=>?_)
   have q33:=kpL hs2 dE rfl (D7.k (D6.k q17));have q34:=kpL hs2 dE rfl (D7.k q23);have q35:=kpL hs2 dE rfl (D7.k (D6.k q19));have q36:=kpL hs2 dE rfl (D7.k (D6.k (D5.k q16)))
   have o9:Own s9 20 3 1 x3_0 (List.length ((lensT r k).set ((List.length ((cyclesL r).getD k [])) - 1) (((lensT r k).getD ((List.length ((cyclesL r).getD k [])) - 1) 0) + (1:Int)))) (List.map Ty.int ((lensT r k).set ((List.length ((cyclesL r).getD k [])) - 1) (((lensT r k).getD ((List.length ((cyclesL r).getD k [])) - 1) 0) + (1:Int)))):=(cvo (by simp) (by first | (simp;done) | (rw [List.map_set];done) | (rw [List.map_set];rfl)) r2)
   clear r2;refine wpList_nil (bn (tn ?_))
   refine gI a10 s9 ok9 (gT (Ty.nat (k + 1)) rfl (fun A B G H I=>rP ((y_add (kp (I 18 rfl) G q33) rfl wX).mono (fun τ _ h=>cN (σ:=τ) h))) (gS rfl (fun A B G H I d0=>rP (y_move (eI d0))) (gE ok9 fun a11 s10 ok10 D8=>?_)));have o10:=Own.k0 o9 D8.stp
   exact tn ⟨(cyclesL r).length - ((k+1)),by omega,s10,(k+1),x3_0,rfl,((((F7.step0 D6.stp).step0 D7.stp).sl hs2).step0 D8.stp),ok10,(cJ (D8.m 1 rfl)),(D8.k q34),(D8.k q35),(D8.k q36),(cvo (by (first | rfl | (rw [lensT_step hr oM];done) | (rw [← lensT_step hr oM];rfl))) (by (first | rfl | (rw [lensT_step hr oM];done) | (rw [← lensT_step hr oM];rfl))) o10),by omega,rfl⟩
  ·
   have ek:k = (cyclesL r).length:=oM
   refine wp_exit (tx (tx (bx (tn (wp_seq ?_)))))
   refine gI a8 s6 ok7 (gM q18 (gB 0 (gE ok7 fun a12 s11 ok11 D9=>?_)));have o11:=Own.k0 o6 D9.stp
   have q42:At (Ty.val x3_0) s11 a12 (.tmp 2):=D9.done 1
   refine tn (wp_ret ?_)
   obtain ⟨t3,e1,h1,q43⟩:=Own.seal o11 dE
   rw [← e1]
   have F13:=(F7.step0 D9.stp).step h1 dE
   have q44:At (Ty.lst Ty.int (lensT r k)) t3 a12 (.tmp 2):=by have e:a12.eval (.tmp 2) = x3_0:=q42;show Ty.has _ _ _;rw [e];exact q43
   exact retL1 rfl ok11 F13 (cvt (by (rw [ek];rfl)) q44)
theorem Try.fld117_0:fieldOf Try.prog 117 0 = some (22,0):=by kernel_rfl
set_option maxHeartbeats 4000000 in
set_option maxRecDepth 100000 in
theorem cmpK_fn (pv:List Int) (pw:Int) (qv:List Int) (qw:Int) (σ:GW)  (v0 v1:Value) (hv0:Ty.has (Ty.agg [(Ty.lst Ty.int pv),(Ty.int pw)]) σ v0) (hv1:Ty.has (Ty.agg [(Ty.lst Ty.int qv),(Ty.int qw)]) σ v1)   :
    FnC Try.prog 81 #[v0,v1] σ (Ty.int (cmpL pv qv)):=by
 refine fn_intro0 Try.func81 rfl Try.ntmps81 (Nat.le_of_ble_eq_true rfl) (fun s0 a0 hle F0 ok0 hargs=>?_)
 have p0:=pA hle (hargs 0 _ rfl) hv0
 have p1:=pA hle (hargs 1 _ rfl) hv1
 clear hargs;refine wp_seq ?_
 refine gI a0 s0 ok0 (gS rfl (fun A B G H I=>rP (y_boxagg (kp (I 0 rfl) G p0))) (gS rfl (fun A B G H I=>rP (y_boxagg (kp (I 1 rfl) G p1))) (gC (Ty.int (0:Int)) (gE ok0 fun a1 s1 ok1 D1=>?_))));refine tn (wp_seq ?_)
 refine gI a1 s1 ok1 (gS rfl (fun A B G H I=>rP (y_field Try.fld117_0 Try.inf22 dE (kp (I 2 rfl) G (D1.m 0 rfl)) rfl)) (gS rfl (fun A B G H I d0=>rP (y_load Try.underlying22 rfl (eI d0) rfl)) (gS rfl (fun A B G H I=>rP (y_field Try.fld117_0 Try.inf22 dE (kp (I 3 rfl) G (D1.m 1 rfl)) rfl)) (gS rfl (fun A B G H I d0=>rP (y_load Try.underlying22 rfl (eI d0) rfl)) (gS rfl (fun A B G H I d0 d1=>rP (y_call _ Try.func82 rfl rfl my2 (slCompare_fn (pv) (qv) _ _ _ (eI d0) (eI d1) ))) (gB 0 (gE ok1 fun a2 s2 ok2 D2=>?_)))))));refine tn (wp_ret ?_)
 exact retL1 rfl ok2 ((F0.step0 D1.stp).step0 D2.stp) (cJ (D2.m 5 rfl))
theorem Try.inf117:Info Try.prog 117 (.agg #[.slice none 0 0,.int .i64 0]) 2 32:=by unfold Info;kernel_rfl
set_option maxHeartbeats 4000000 in
set_option maxRecDepth 100000 in
theorem bsearch_fn (x:Value) (K:List Knd) (qv:List Int) (qw:Int) (σ:GW) (hlow:Low [40] σ) (v0 v1 v2:Value) (hv0:Ty.has (Ty.val x) σ v0) (hv1:Ty.has (Ty.agg [(Ty.lst Ty.int qv),(Ty.int qw)]) σ v1) (hv2:Ty.has (Ty.val (Value.func (Fn.func 81) #[] #[])) σ v2) (ho_x:Own σ 40 117 2 x (List.length K) (List.flatMap kndC K)) (hK:K.length ≤ 1000000) (hS:K.Pairwise fun a b=>belowL a.1 b.1 = true) :
    FnL Try.prog 80 #[v0,v1,v2] σ [40] (fun v τ=>∃ (i:Nat),(Ty.has (Ty.tup2 (Ty.nat i) (Ty.bool (decide (i < K.length) && decide ((K.getD i ([],0)).1 = qv)))) τ v)∧(Own τ 40 117 2 x (List.length K) (List.flatMap kndC K))∧(LbP K qv i)):=by
 refine fn_introL hlow Try.func80 rfl Try.ntmps80 (Nat.le_of_ble_eq_true rfl) (fun a0 F0 ok0 hargs=>?_)
 have p0:=pB (hargs 0 _ rfl) hv0
 have p1:=pB (hargs 1 _ rfl) hv1
 have p2:=pB (hargs 2 _ rfl) hv2
 clear hargs;refine wp_seq ?_
 refine gI a0 σ ok0 (gS rfl (fun A B G H I=>rP (y_boxagg (kp (I 1 rfl) G p1))) (gC (Ty.int (0:Int)) (gC (Ty.bool false) (gE ok0 fun a1 s1 ok1 D1=>?_))));have q1:=D1.k p0;have o1:=Own.k0 ho_x D1.stp;refine tn (wp_seq ?_)
 refine gI a1 s1 ok1 (gM q1 (gT (Ty.nat (List.length K)) rfl (fun A B G H I d0=>rP (own_len Try.underlying73 (al (R:=(Pr.own 40 117 2 (List.length K) (List.flatMap kndC K))) (eI d0) (Own.k0 o1 G)))) (gB 0 (gE ok1 fun a2 s2 ok2 D2=>?_))));have o2:=Own.k0 o1 D2.stp;have q7:=D2.m 2 rfl;refine tn (wp_seq ?_)
 refine gI a2 s2 ok2 (gM q7 (gC (Ty.int (0:Int)) (gB 0 (gE ok2 fun a3 s3 ok3 D3=>?_))));have o3:=Own.k0 o2 D3.stp;refine tn (wp_seq (wp_block ?_))
 refine loop (fun n1 a4 w1=>∃ (t1:GW) (i:Nat) (j:Nat),t1.w = w1∧FromL [40] σ t1∧Ok 49 [] a4∧At (Ty.nat i) t1 a4 (.tmp 9)∧At (Ty.nat j) t1 a4 (.tmp 10)∧At (Ty.val x) t1 a4 (.tmp 0)∧At (Ty.val (Value.func (Fn.func 81) #[] #[])) t1 a4 (.tmp 2)∧At (Ty.ref [(Ty.lst Ty.int qv),(Ty.int qw)]) t1 a4 (.tmp 4)∧At (Ty.nat (List.length K)) t1 a4 (.tmp 8)∧Own t1 40 117 2 x (List.length K) (List.flatMap kndC K)∧(i ≤ j∧j ≤ K.length)∧(∀ a,a < i → belowL (K.getD a ([],0)).1 qv = true)∧(∀ a,j ≤ a → a < K.length → belowL (K.getD a ([],0)).1 qv = false)∧n1 = j - i) ((K.length) - (0)) ?_ ?_
 ·
  exact ⟨s3,0,K.length,rfl,(((F0.step0 D1.stp).step0 D2.stp).step0 D3.stp),ok3,(cJ (D3.m 1 rfl)),(cJ (D3.m 2 rfl)),(D3.k (D2.k q1)),(D3.k (D2.k (D1.k p2))),(D3.k (D2.k (D1.m 0 rfl))),(D3.k q7),o3,by omega,fun a h=>by omega,fun a h1 h2=>by omega,rfl⟩
 ·
  rintro n2 a5 w2 ⟨t2,i,j,rfl,F4,ok4,q14,q15,q16,q17,q18,q19,o4,hij,hlo,hhi,rfl⟩
  refine wp_seq (wp_seq ?_)
  refine gI a5 t2 ok4 (gM q14 (gM q15 (gS rfl (fun A B G H I d0 d1=>rP (y_lss (eI d0) (eI d1))) (gE ok4 fun a6 s4 ok5 D4=>?_))));have F5:=F4.step0 D4.stp;have q20:=D4.k q14;have q21:=D4.k q15;have q22:=D4.k q16;have q23:=D4.k q17;have q24:=D4.k q18;have q25:=D4.k q19;have o5:=Own.k0 o4 D4.stp;refine tn ?_
  refine cond_p (p:=(((i:Nat):Int) < ((j:Nat):Int))) (D4.m 2 rfl) (fun c1=>?_) (fun c1=>?_)
  ·
   refine wp_skip (tn (wp_block (wp_seq ?_)))
   refine gI a6 s4 ok5 (gM q20 (gM q21 (gT (Ty.nat (i + j)) rfl (fun A B G H I d0 d1=>rP ((y_add (eI d0) (eI d1) wX).mono (fun τ _ h=>cN (σ:=τ) h))) (gT (Ty.val (Value.int .u64 (((i + j):Nat):Int))) rfl (fun A B G H I d0=>rP (y_conv Try.underlying137 (eI d0) (by exact wrap_u64 oM oM) (by rw [Try.underlying3];rfl))) (gT (Ty.val (Value.int .u64 ((((i + j) / 2:Nat)):Int))) rfl (fun A B G H I d0=>rP (y_shr1 (eI d0) rfl)) (gT (Ty.int ((((i + j) / 2:Nat)):Int)) rfl (fun A B G H I d0=>rP (y_conv Try.underlying3 (eI d0) (by exact w64 oM oM) (by rw [Try.underlying137];rfl))) (gB 0 (gE ok5 fun a7 s5 ok6 D5=>?_))))))));have q29:=D5.k q22;have q30:=D5.k q23;have q31:=D5.k q24;have o6:=Own.k0 o5 D5.stp;have q33:=D5.m 6 rfl;refine tn (wp_seq ?_)
   refine gI a7 s5 ok6 (gM q30 (gM q29 (gM q33 (gT (Ty.val (cellPtr x (((i + j) / 2) * 2))) rfl (fun A B G H I d0 d1=>rP (y_idxc (i:=((i + j) / 2)) Try.underlying73 Try.inf117 (Own.k0 o6 G) (eI d0) (eI d1) oM)) (gT (Ty.agg [(Ty.lst Ty.int ((K.getD ((i + j) / 2) ([],0))).1),(Ty.int ((K.getD ((i + j) / 2) ([],0))).2)]) rfl (fun A B G H I d0=>rP (yld_agg (knds_drop (xs:=K) (i:=((i + j) / 2)) oM) (own_loadst Try.underlying117 Try.inf117 (by rw [knds_len];omega) dE (Own.k0 o6 G) (eI d0)))) (gS rfl (fun A B G H I=>rP (y_loadagg Try.underlying117 Try.inf117 (kp (I 4 rfl) G q31))) (gT (Ty.int (cmpL (((K.getD ((i + j) / 2) ([],0))).1) qv)) rfl (fun A B G H I d0 d1 d2=>rP (y_callz #[A.eval (.tmp 28),A.eval (.tmp 29)] (eI d0) Try.func81 rfl rfl (by simp only [List.map_toArray,List.map_cons,List.map_nil]) (cmpK_fn (((K.getD ((i + j) / 2) ([],0))).1) (((K.getD ((i + j) / 2) ([],0))).2) (qv) (qw) _ _ _ (eI d1) (eI d2) ))) (gS rfl (fun A B G H I d0=>rP (y_lss (eI d0) rfl)) (gE ok6 fun a8 s6 ok7 D6=>?_)))))))));have F7:=(F5.step0 D5.stp).step0 D6.stp;have q36:=D6.k q29;have q37:=D6.k q30;have q38:=D6.k q31;have q39:=D6.k (D5.k q25);have q40:=D6.k q33;have o7:=Own.k0 o6 D6.stp;refine tn ?_
   refine cond_p (p:=((cmpL (((K.getD ((i + j) / 2) ([],0))).1) qv) < (0:Int))) (D6.m 7 rfl) (fun c2=>?_) (fun c2=>?_)
   ·
    have hb:belowL (K.getD ((i + j) / 2) ([],0)).1 qv = true:=(by rw [← cmpL_lt];exact decide_eq_true (by first | exact c2 | omega))
    refine gI a8 s6 ok7 (gM q40 (gT (Ty.nat (((i + j) / 2) + 1)) rfl (fun A B G H I d0=>rP ((y_add (eI d0) rfl wX).mono (fun τ _ h=>cN (σ:=τ) h))) (gB 0 (gE ok7 fun a9 s7 ok8 D7=>?_))));have o8:=Own.k0 o7 D7.stp;refine bn ?_
    exact tn ⟨j - (((i + j) / 2 + 1)),by omega,s7,((i + j) / 2 + 1),j,rfl,(F7.step0 D7.stp),ok8,(cJ (D7.m 2 rfl)),(D7.k (D6.k (D5.k q21))),(D7.k q36),(D7.k q37),(D7.k q38),(D7.k q39),o8,by omega,lb_lo hS oM hb,hhi,rfl⟩
   ·
    have hb:belowL (K.getD ((i + j) / 2) ([],0)).1 qv = false:=(by rw [← cmpL_lt];exact decide_eq_false (by first | exact c2 | omega))
    refine gI a8 s6 ok7 (gM q40 (gB 0 (gE ok7 fun a10 s8 ok9 D8=>?_)));have o9:=Own.k0 o7 D8.stp;refine bn ?_
    exact tn ⟨(((i + j) / 2)) - i,by omega,s8,i,((i + j) / 2),rfl,(F7.step0 D8.stp),ok9,(D8.k (D6.k (D5.k q20))),(cJ (D8.m 1 rfl)),(D8.k q36),(D8.k q37),(D8.k q38),(D8.k q39),o9,by omega,hlo,lb_hi hS hb,rfl⟩
  ·
   refine wp_exit (tx (tx (bx (tn (wp_seq ?_)))))
   refine gI a6 s4 ok5 (gM q20 (gM q20 (gM q25 (gS rfl (fun A B G H I d0 d1=>rP (y_lss (eI d0) (eI d1))) (gS rfl (fun A B G H I d0=>rP (y_move (eI d0))) (gS rfl (fun A B G H I d0=>gu H (eI d0) fun hg=>y_move (kp (I 2 rfl) G q23)) (gS rfl (fun A B G H I d0=>gu H (eI d0) fun hg=>y_move (kp (I 0 rfl) G q22)) (gS rfl (fun A B G H I d0=>gu H (eI d0) fun hg=>y_move (kp (I 9 rfl) G q20)) (gT (Ty.grd ((decide (((i:Nat):Int) < (((List.length K):Nat):Int))) = true) (Ty.val (cellPtr x (i * 2)))) rfl (fun A B G H I d0 d1 d2=>gut H (eI d2) fun hg hp=>y_idxc (i:=i) Try.underlying73 Try.inf117 (Own.k0 o5 G) ((ef d0 rfl).1 hg) ((ef d1 rfl).1 hg) oM) (gT (Ty.grd ((decide (((i:Nat):Int) < (((List.length K):Nat):Int))) = true) (Ty.agg [(Ty.lst Ty.int ((K.getD i ([],0))).1),(Ty.int ((K.getD i ([],0))).2)])) rfl (fun A B G H I d0 d1=>gut H (eI d1) fun hg hp=>yld_agg (knds_drop (xs:=K) (i:=i) oM) (own_loadst Try.underlying117 Try.inf117 (by rw [knds_len];omega) dE (Own.k0 o5 G) ((ef d0 rfl).1 hg))) (gS rfl (fun A B G H I d0=>gu H (eI d0) fun hg=>y_loadagg Try.underlying117 Try.inf117 (kp (I 4 rfl) G q24)) (gT (Ty.grd ((decide (((i:Nat):Int) < (((List.length K):Nat):Int))) = true) (Ty.int (cmpL (((K.getD i ([],0))).1) qv))) rfl (fun A B G H I d0 d1 d2 d3 d4=>gut H (eI d3) fun hg hp=>y_callz #[A.eval (.tmp 44),A.eval (.tmp 45)] ((ef d0 rfl).1 hg) Try.func81 rfl rfl (by simp only [List.map_toArray,List.map_cons,List.map_nil]) (cmpK_fn (((K.getD i ([],0))).1) (((K.getD i ([],0))).2) (qv) (qw) _ _ _ ((ef d1 rfl).1 hg) ((ef d2 rfl).1 hg) )) ?_))))))))))))
   refine gS rfl (fun A B G H I d0 d1 d2=>gu H (eI d1) fun hg=>y_eql ((ef d0 rfl).1 hg) rfl) (gS rfl (fun A B G H I d0 d1 d2=>rP (y_pick_and (eI d0) (eI d1) rfl)) (gB 0 (gB 0 (gE ok5 fun a11 s9 ok10 D9=>?_))));have o10:=Own.k0 o5 D9.stp;refine tn (wp_ret ?_)
   exact retL2 rfl ok10 (F5.step0 D9.stp) ⟨i,(hasT2 (D9.m 14 rfl) (cvb (by (simp [cmp_eq0])) (D9.m 15 rfl))),o10,(by exact ⟨by omega,hlo,fun a h1 h2=>hhi a oM h2⟩)⟩
end Go.Proofs.Ytkjifbgofckfeaa
