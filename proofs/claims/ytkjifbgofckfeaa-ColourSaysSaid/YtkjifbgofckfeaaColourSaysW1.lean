/- The functions that the law ColourSays reaches, each by its contract. Part 1. -/
import Derived.Test.YtkjifbgofckfeaaColourSaysK1
import Derived.Test.YtkjifbgofckfeaaColourSaysK3
import Derived.Test.YtkjifbgofckfeaaColourSaysK2
import Derived.Test.YtkjifbgofckfeaaColourSaysKeysG
import Derived.Test.YtkjifbgofckfeaaColourSaysLayG
import Derived.Test.YtkjifbgofckfeaaColourSaysSortLG
import Derived.Test.YtkjifbgofckfeaaColourSaysCmpG
import Derived.Test.YtkjifbgofckfeaaProg
namespace Go.Proofs.Ytkjifbgofckfeaa
open Go.KL
theorem Try.inf3:Info Try.prog 3 (.int .i64 0) 1 8:=by unfold Info;kernel_rfl
set_option maxRecDepth 100000 in
theorem rRowMay_fn (r:List Int) (σ:GW) (v0:Value) (hv0:Ty.has (Ty.lst Ty.int r) σ v0)  :
    FnC Try.prog 36 #[v0] σ (Ty.int (rowMay r)):=by
 refine fn_intro Try.func36 rfl Try.ntmps36 (Nat.le_of_ble_eq_true rfl) (fun s0 a0 hle F0 ok0 hargs=>?_)
 have p0:=pA hle (hargs 0 _ rfl) hv0
 have b1:=sl_le p0
 clear hargs;refine wp_seq ?_
 refine gI a0 s0 ok0 (gC (Ty.int (0:Int)) (gE ok0 fun a1 s1 ok1 D1=>?_));have q1:=D1.k p0;refine tn (wp_seq (wp_seq ?_))
 refine gI a1 s1 ok1 (gM q1 (gS rfl (fun A B E G H d0=>rP (y_len Try.underlying22 (eI d0))) (gS rfl (fun A B E G H d0=>rP (y_lss (eI d0) rfl)) (gS rfl (fun A B E G H d0=>rP (y_move (eI d0))) (gS rfl (fun A B E G H d0=>gu G (eI d0) fun hg=>y_move (kp (H 0 rfl) E q1)) (gS rfl (fun A B E G H d0 d1=>gu G (eI d1) fun hg=>y_len Try.underlying22 ((ef d0 rfl).1 hg)) (gS rfl (fun A B E G H d0 d1=>gu G (eI d1) fun hg=>y_gtr ((ef d0 rfl).1 hg) rfl) (gS rfl (fun A B E G H d0 d1=>rP (y_pick_or (eI d0) rfl (eI d1))) (gE ok1 fun a2 s2 ok2 D2=>?_)))))))));have F2:=(F0.step0 D1.stp).step0 D2.stp;refine tn ?_
 refine cond_t (D2.m 7 rfl) (fun c1=>?_) (fun c1=>?_)
 ·
  simp only [Bool.or_eq_true,decide_eq_true_eq] at c1
  refine wp_seq ?_
  refine gI a2 s2 ok2 (gC (Ty.int (1:Int)) (gE ok2 fun a3 s3 ok3 D3=>?_));refine tn (wp_ret (tr ?_))
  exact ret1 rfl ok3 (F2.step0 D3.stp) (cvi (by (exact (rowMay_cnt oM).symm)) (D3.m 0 rfl))
 ·
  obtain ⟨d1,d2⟩:=Bool.or_eq_false_iff.mp c1
  replace d1:=of_decide_eq_false d1
  replace d2:=of_decide_eq_false d2
  refine wp_skip (tn (wp_seq (wp_seq ?_)))
  refine gI a2 s2 ok2 (gC (Ty.int (0:Int)) (gE ok2 fun a4 s4 ok4 D4=>?_));refine tn (wp_block ?_)
  refine loop (fun n1 a5 w1=>∃ (t1:GW) (b:Nat),t1.w = w1∧From s0 t1∧Ok 36 [] a5∧At (Ty.nat b) t1 a5 (.tmp 3)∧At (Ty.lst Ty.int r) t1 a5 (.tmp 0)∧(b ≤ r.length)∧(∀ j,j < b → r.count (j:Int) = 1)∧n1 = r.length - b) (r.length - (0)) ?_ ?_
  ·
   exact ⟨s4,0,rfl,(F2.step0 D4.stp),ok4,(cJ (D4.m 0 rfl)),(D4.k (D2.k q1)),by omega,fun j hj=>absurd hj (Nat.not_lt_zero j),rfl⟩
  ·
   rintro n2 a6 w2 ⟨t2,b,rfl,F5,ok5,q7,q8,hb,ho,rfl⟩
   refine wp_seq (wp_seq ?_)
   refine gI a6 t2 ok5 (gM q7 (gM q8 (gS rfl (fun A B E G H d0=>rP (y_len Try.underlying22 (eI d0))) (gS rfl (fun A B E G H d0 d1=>rP (y_lss (eI d0) (eI d1))) (gE ok5 fun a7 s5 ok6 D5=>?_)))));have F6:=F5.step0 D5.stp;refine tn ?_
   refine cond_p (p:=(((b:Nat):Int) < (((List.length r):Nat):Int))) (D5.m 3 rfl) (fun c2=>?_) (fun c2=>?_)
   ·
    refine wp_skip (tn (wp_seq (wp_block (wp_seq ?_))))
    refine gI a7 s5 ok6 (gC (Ty.int (0:Int)) (gE ok6 fun a8 s6 ok7 D6=>?_));refine tn (wp_seq (wp_seq ?_))
    refine gI a8 s6 ok7 (gC (Ty.int (0:Int)) (gE ok7 fun a9 s7 ok8 D7=>?_));refine tn (wp_block ?_)
    refine loop (fun n3 a10 w3=>∃ (t3:GW) (i:Nat),t3.w = w3∧From s0 t3∧Ok 36 [] a10∧At (Ty.nat i) t3 a10 (.tmp 5)∧At (Ty.nat ((r.take i).count (b:Int))) t3 a10 (.tmp 4)∧At (Ty.nat b) t3 a10 (.tmp 3)∧At (Ty.lst Ty.int r) t3 a10 (.tmp 0)∧(i ≤ r.length)∧n3 = r.length - i) (r.length - (0)) ?_ ?_
    ·
     exact ⟨s7,0,rfl,((F6.step0 D6.stp).step0 D7.stp),ok8,(cJ (D7.m 0 rfl)),(cJ (D7.k (D6.m 0 rfl))),(D7.k (D6.k (D5.k q7))),(D7.k (D6.k (D5.k q8))),by omega,rfl⟩
    ·
     rintro n4 a11 w4 ⟨t4,i,rfl,F9,ok9,q19,q20,q21,q22,hi,rfl⟩
     have hcl:=count_take_le r (b:Int) i
     refine wp_seq (wp_seq ?_)
     refine gI a11 t4 ok9 (gM q19 (gM q22 (gS rfl (fun A B E G H d0=>rP (y_len Try.underlying22 (eI d0))) (gS rfl (fun A B E G H d0 d1=>rP (y_lss (eI d0) (eI d1))) (gE ok9 fun a12 s8 ok10 D8=>?_)))));have F10:=F9.step0 D8.stp;have q23:=D8.k q19;have q24:=D8.k q20;have q25:=D8.k q21;have q26:=D8.k q22;refine tn ?_
     refine cond_p (p:=(((i:Nat):Int) < (((List.length r):Nat):Int))) (D8.m 3 rfl) (fun c3=>?_) (fun c3=>?_)
     ·
      refine wp_skip (tn (wp_seq (wp_block (wp_seq ?_))))
      refine gI a12 s8 ok10 (gM q26 (gM q23 (gT (Ty.ref [(Ty.int (r.getD i 0))]) rfl (fun A B E G H d0 d1=>rP (y_index1 Try.underlying22 Try.inf3 (eI d0) (eI d1) oM (lst_get Ty.int r 0 i oM))) (gS rfl (fun A B E G H d0=>rP (y_load Try.underlying3 rfl (eI d0) rfl)) (gM q25 (gS rfl (fun A B E G H d0 d1=>rP (y_eql (eI d0) (eI d1))) (gE ok10 fun a13 s9 ok11 D9=>?_)))))));have F11:=F10.step0 D9.stp;have q28:=D9.k q23;have q29:=D9.k q24;have q30:=D9.k q25;have q31:=D9.k q26;refine tn ?_
      refine cond_p (p:=((r.getD i 0) = ((b:Nat):Int))) (D9.m 5 rfl) (fun c4=>?_) (fun c4=>?_)
      ·
       refine gI a13 s9 ok11 (gM q29 (gT (Ty.int (((((r.take i).count (b:Int)):Nat):Int) + (1:Int))) rfl (fun A B E G H d0=>rP (y_add (eI d0) rfl wX)) (gB 0 (gE ok11 fun a14 s10 ok12 D10=>?_))));refine bn (tn ?_)
       refine gI a14 s10 ok12 (gM (D10.k q28) (gT (Ty.int (((i:Nat):Int) + (1:Int))) rfl (fun A B E G H d0=>rP (y_add (eI d0) rfl wX)) (gB 0 (gE ok12 fun a15 s11 ok13 D11=>?_))))
       exact tn ⟨r.length - ((i+1)),by omega,s11,(i+1),rfl,((F11.step0 D10.stp).step0 D11.stp),ok13,(cJ (D11.m 2 rfl)),(cvi (by (rw [count_take_y r b i oM (by assumption)];omega)) (D11.k (D10.m 2 rfl))),(D11.k (D10.k q30)),(D11.k (D10.k q31)),by omega,rfl⟩
      ·
       refine wp_skip (bn (tn ?_))
       refine gI a13 s9 ok11 (gM q28 (gT (Ty.int (((i:Nat):Int) + (1:Int))) rfl (fun A B E G H d0=>rP (y_add (eI d0) rfl wX)) (gB 0 (gE ok11 fun a16 s12 ok14 D12=>?_))))
       exact tn ⟨r.length - ((i+1)),by omega,s12,(i+1),rfl,(F11.step0 D12.stp),ok14,(cJ (D12.m 2 rfl)),(cvi (by (rw [count_take_n r b i oM (by assumption)])) (D12.k q29)),(D12.k q30),(D12.k q31),by omega,rfl⟩
     ·
      have hcl2:(r.take i).count (b:Int) = r.count (b:Int):=(by rw [List.take_of_length_le oM])
      refine wp_exit (tx (tx (bx (tn (wp_seq ?_)))))
      refine gI a12 s8 ok10 (gM q24 (gS rfl (fun A B E G H d0=>rP (y_neq (eI d0) rfl)) (gE ok10 fun a17 s13 ok15 D13=>?_)));have F15:=F10.step0 D13.stp;refine tn ?_
      refine cond_p (p:=(((((r.take i).count (b:Int)):Nat):Int) ≠ (1:Int))) (D13.m 1 rfl) (fun c5=>?_) (fun c5=>?_)
      ·
       refine wp_seq ?_
       refine gI a17 s13 ok15 (gC (Ty.int (2:Int)) (gE ok15 fun a18 s14 ok16 D14=>?_));refine tn (wp_ret (br (tr (tr (br (tr ?_))))))
       exact ret1 rfl ok16 (F15.step0 D14.stp) (cvi (by (exact (rowMay_no oM oM (fun hr=>by have:=hr.one b oM;omega)).symm)) (D14.m 0 rfl))
      ·
       refine wp_skip (bn (tn ?_))
       refine gI a17 s13 ok15 (gM (D13.k q25) (gT (Ty.int (((b:Nat):Int) + (1:Int))) rfl (fun A B E G H d0=>rP (y_add (eI d0) rfl wX)) (gB 0 (gE ok15 fun a19 s15 ok17 D15=>?_))))
       exact tn ⟨r.length - ((b+1)),by omega,s15,(b+1),rfl,(F15.step0 D15.stp),ok17,(cJ (D15.m 2 rfl)),(D15.k (D13.k q26)),by omega,fun j hj=>by (by_cases e:j = b;subst e;omega;exact ho j oM),rfl⟩
   ·
    refine wp_exit (tx (tx (bx (tn (wp_seq ?_)))))
    refine gI a7 s5 ok6 (gC (Ty.int (0:Int)) (gE ok6 fun a20 s16 ok18 D16=>?_));refine tn (wp_ret ?_)
    exact ret1 rfl ok18 (F6.step0 D16.stp) (cvi (by (exact (rowMay_ok.2 ⟨by omega,by omega,fun j hj=>ho j oM⟩).symm)) (D16.m 0 rfl))
theorem Try.inf22:Info Try.prog 22 (.slice none 0 0) 1 24:=by unfold Info;kernel_rfl
set_option maxHeartbeats 4000000 in
set_option maxRecDepth 100000 in
theorem rGensMay_fn (n:Int) (l:List (List Int)) (σ:GW)  (v0 v1:Value) (hv0:Ty.has (Ty.int n) σ v0) (hv1:Ty.has (Ty.lst Ty.ints l) σ v1)   :
    FnC Try.prog 24 #[v0,v1] σ (Ty.int (gensMay n l)):=by
 refine fn_intro0 Try.func24 rfl Try.ntmps24 (Nat.le_of_ble_eq_true rfl) (fun s0 a0 hle F0 ok0 hargs=>?_)
 have p0:=pA hle (hargs 0 _ rfl) hv0
 have p1:=pA hle (hargs 1 _ rfl) hv1
 have b1:=sl_le p1
 clear hargs;refine wp_seq ?_
 refine gI a0 s0 ok0 (gC (Ty.int (0:Int)) (gE ok0 fun a1 s1 ok1 D1=>?_));have q1:=D1.k p0;have q2:=D1.k p1;refine tn (wp_seq (wp_seq ?_))
 refine gI a1 s1 ok1 (gM q1 (gS rfl (fun A B E G H d0=>rP (y_lss (eI d0) rfl)) (gS rfl (fun A B E G H d0=>rP (y_move (eI d0))) (gS rfl (fun A B E G H d0=>gu G (eI d0) fun hg=>y_move (kp (H 0 rfl) E q1)) (gS rfl (fun A B E G H d0 d1=>gu G (eI d1) fun hg=>y_gtr ((ef d0 rfl).1 hg) rfl) (gS rfl (fun A B E G H d0 d1=>rP (y_pick_or (eI d0) rfl (eI d1))) (gS rfl (fun A B E G H d0 d1=>rP (y_move (eI d0))) (gT (Ty.grd (((decide (n < (1:Int))) || (decide ((12:Int) < n))) = false) (Ty.lst Ty.ints l)) rfl (by intro A B E G H d0;refine run_guard G rfl rfl dE (eI d0) (fun hg=>?_);obtain ⟨d1,d2⟩:=Bool.or_eq_false_iff.mp hg;have d1:=of_decide_eq_false d1;have d2:=of_decide_eq_false d2;exact y_move (kp (H 1 rfl) E q2)) (gT (Ty.grd (((decide (n < (1:Int))) || (decide ((12:Int) < n))) = false) (Ty.nat (List.length l))) rfl (by intro A B E G H d0 d1;refine run_guard G rfl rfl dE (eI d1) (fun hg=>?_);obtain ⟨d3,d4⟩:=Bool.or_eq_false_iff.mp hg;have d3:=of_decide_eq_false d3;have d4:=of_decide_eq_false d4;exact y_len Try.underlying24 ((ef d0 rfl).1 hg)) (gT (Ty.grd (((decide (n < (1:Int))) || (decide ((12:Int) < n))) = false) (Ty.bool (decide ((8:Int) < (((List.length l):Nat):Int))))) rfl (by intro A B E G H d0 d1;refine run_guard G rfl rfl dE (eI d1) (fun hg=>?_);obtain ⟨d5,d6⟩:=Bool.or_eq_false_iff.mp hg;have d5:=of_decide_eq_false d5;have d6:=of_decide_eq_false d6;exact y_gtr ((ef d0 rfl).1 hg) rfl) (gS rfl (fun A B E G H d0 d1=>rP (y_pick_or (eI d0) rfl (eI d1))) (gE ok1 fun a2 s2 ok2 D2=>?_))))))))))));have F2:=(F0.step0 D1.stp).step0 D2.stp;refine tn ?_
 refine cond_t (D2.m 10 rfl) (fun c1=>?_) (fun c1=>?_)
 ·
  simp only [Bool.or_eq_true,decide_eq_true_eq] at c1
  refine wp_seq ?_
  refine gI a2 s2 ok2 (gC (Ty.int (1:Int)) (gE ok2 fun a3 s3 ok3 D3=>?_));refine tn (wp_ret (tr ?_))
  exact retL1 rfl ok3 (F2.step0 D3.stp) (cvi (by (exact (gensMay_no oM).symm)) (D3.m 0 rfl))
 ·
  obtain ⟨d7,d8⟩:=Bool.or_eq_false_iff.mp c1
  obtain ⟨d9,d10⟩:=Bool.or_eq_false_iff.mp d7
  replace d9:=of_decide_eq_false d9
  replace d10:=of_decide_eq_false d10
  replace d8:=of_decide_eq_false d8
  have hg:=gensMay_to (n:=n) (l:=l) oM
  refine wp_skip (tn (wp_seq (wp_seq ?_)))
  refine gI a2 s2 ok2 (gC (Ty.int (0:Int)) (gE ok2 fun a4 s4 ok4 D4=>?_));refine tn (wp_block ?_)
  refine loop (fun n1 a5 w1=>∃ (t1:GW) (k:Nat),t1.w = w1∧FromL [] s0 t1∧Ok 39 [] a5∧At (Ty.nat k) t1 a5 (.tmp 5)∧At (Ty.int n) t1 a5 (.tmp 0)∧At (Ty.lst Ty.ints l) t1 a5 (.tmp 1)∧(k ≤ l.length)∧(gensTo n (l.drop k) = gensMay n l)∧n1 = l.length - k) (l.length - (0)) ?_ ?_
  ·
   exact ⟨s4,0,rfl,(F2.step0 D4.stp),ok4,(cJ (D4.m 0 rfl)),(D4.k (D2.k q1)),(D4.k (D2.k q2)),by omega,hg,rfl⟩
  ·
   rintro n2 a6 w2 ⟨t2,k,rfl,F5,ok5,q10,q11,q12,hk,hg0,rfl⟩
   refine wp_seq (wp_seq ?_)
   refine gI a6 t2 ok5 (gM q10 (gM q12 (gS rfl (fun A B E G H d0=>rP (y_len Try.underlying24 (eI d0))) (gS rfl (fun A B E G H d0 d1=>rP (y_lss (eI d0) (eI d1))) (gE ok5 fun a7 s5 ok6 D5=>?_)))));have F6:=F5.step0 D5.stp;have q13:=D5.k q10;have q15:=D5.k q12;refine tn ?_
   refine cond_p (p:=(((k:Nat):Int) < (((List.length l):Nat):Int))) (D5.m 3 rfl) (fun c2=>?_) (fun c2=>?_)
   ·
    refine wp_skip (tn (wp_seq (wp_block (wp_seq ?_))))
    refine gI a7 s5 ok6 (gM q15 (gM q13 (gT (Ty.ref [(Ty.lst Ty.int (l.getD k []))]) rfl (fun A B E G H d0 d1=>rP (y_index1 Try.underlying24 Try.inf22 (eI d0) (eI d1) oM (lst_get Ty.ints l [] k oM))) (gS rfl (fun A B E G H d0=>rP (y_load Try.underlying22 rfl (eI d0) rfl)) (gS rfl (fun A B E G H d0=>rP (y_call _ Try.func36 rfl rfl my1 (rRowMay_fn ((l.getD k [])) _ _ (eI d0) ))) (gB 0 (gE ok6 fun a8 s6 ok7 D6=>?_)))))));have q20:=D6.m 5 rfl;refine tn (wp_seq (wp_seq ?_))
    refine gI a8 s6 ok7 (gM q20 (gS rfl (fun A B E G H d0=>rP (y_neq (eI d0) rfl)) (gE ok7 fun a9 s7 ok8 D7=>?_)));have F8:=(F6.step0 D6.stp).step0 D7.stp;have q21:=D7.k (D6.k q13);have q22:=D7.k (D6.k (D5.k q11));have q23:=D7.k (D6.k q15);refine tn ?_
    refine cond_p (p:=((rowMay ((l.getD k []))) ≠ (0:Int))) (D7.m 1 rfl) (fun c3=>?_) (fun c3=>?_)
    ·
     refine wp_seq ?_
     refine gI a9 s7 ok8 (gM (D7.k q20) (gB 0 (gE ok8 fun a10 s8 ok9 D8=>?_)));refine tn (wp_ret (tr (br (tr (tr (br (tr ?_)))))))
     exact retL1 rfl ok9 (F8.step0 D8.stp) (cvi (by (exact gens_row hg0 oM (by assumption))) (D8.m 1 rfl))
    ·
     refine wp_skip (tn (wp_seq ?_))
     refine gI a9 s7 ok8 (gM q23 (gM q21 (gT (Ty.ref [(Ty.lst Ty.int (l.getD k []))]) rfl (fun A B E G H d0 d1=>rP (y_index1 Try.underlying24 Try.inf22 (eI d0) (eI d1) oM (lst_get Ty.ints l [] k oM))) (gS rfl (fun A B E G H d0=>rP (y_load Try.underlying22 rfl (eI d0) rfl)) (gS rfl (fun A B E G H d0=>rP (y_len Try.underlying22 (eI d0))) (gM q22 (gS rfl (fun A B E G H d0 d1=>rP (y_neq (eI d0) (eI d1))) (gE ok8 fun a11 s9 ok10 D9=>?_))))))));have F10:=F8.step0 D9.stp;refine tn ?_
     refine cond_p (p:=((((List.length (l.getD k [])):Nat):Int) ≠ n)) (D9.m 6 rfl) (fun c4=>?_) (fun c4=>?_)
     ·
      refine wp_seq ?_
      refine gI a11 s9 ok10 (gC (Ty.int (1:Int)) (gE ok10 fun a12 s10 ok11 D10=>?_));refine tn (wp_ret (br (tr (tr (br (tr ?_))))))
      exact retL1 rfl ok11 (F10.step0 D10.stp) (cvi (by (exact gens_cnt hg0 oM (by assumption) (by assumption))) (D10.m 0 rfl))
     ·
      refine wp_skip (bn (tn ?_))
      refine gI a11 s9 ok10 (gM (D9.k q21) (gT (Ty.int (((k:Nat):Int) + (1:Int))) rfl (fun A B E G H d0=>rP (y_add (eI d0) rfl wX)) (gB 0 (gE ok10 fun a13 s11 ok12 D11=>?_))))
      exact tn ⟨l.length - ((k+1)),by omega,s11,(k+1),rfl,(F10.step0 D11.stp),ok12,(cJ (D11.m 2 rfl)),(D11.k (D9.k q22)),(D11.k (D9.k q23)),by omega,gens_step hg0 oM (by assumption) (by assumption),rfl⟩
   ·
    refine wp_exit (tx (tx (bx (tn (wp_seq ?_)))))
    refine gI a7 s5 ok6 (gC (Ty.int (0:Int)) (gE ok6 fun a14 s12 ok13 D12=>?_));refine tn (wp_ret ?_)
    exact retL1 rfl ok13 (F6.step0 D12.stp) (cvi (by (exact gens_end hg0 oM)) (D12.m 0 rfl))
set_option maxRecDepth 100000 in
theorem rRounds_fn (n:Nat) (σ:GW) (v0:Value) (hv0:Ty.has (Ty.nat n) σ v0) (hn:n ≤ 1000000) :
    FnC Try.prog 39 #[v0] σ (Ty.lst Ty.int (roundsL n)):=by
 refine fn_intro Try.func39 rfl Try.ntmps39 (Nat.le_of_ble_eq_true rfl) (fun s0 a0 hle F0 ok0 hargs=>?_)
 have p0:=pA hle (hargs 0 _ rfl) hv0
 clear hargs;refine wp_seq ?_
 refine gI a0 s0 ok0 (gC (Ty.val (Value.slice none 0 0)) (gE ok0 fun a1 s1 ok1 D1=>?_));refine tn (wp_seq ?_)
 refine gI a1 s1 ok1 (gC (Ty.val (Value.slice none 0 0)) (gE ok1 fun a2 s2 ok2 D2=>?_));refine tn (wp_seq (wp_seq ?_))
 refine gI a2 s2 ok2 (gC (Ty.int (0:Int)) (gE ok2 fun a3 s3 ok3 D3=>?_));refine tn (wp_block ?_)
 refine loop (fun n1 a4 w1=>∃ (t1:GW) (k:Nat),t1.w = w1∧From s0 t1∧Ok 15 [] a4∧(Pr.own 2 3 1 (List.length (roundsL k)) (List.map Ty.int (roundsL k))).has t1 (a4.eval (.tmp 3))∧At (Ty.nat k) t1 a4 (.tmp 4)∧At (Ty.nat n) t1 a4 (.tmp 0)∧(k ≤ n)∧n1 = n - k) (n - (0)) ?_ ?_
 ·
  exact ⟨s3,0,rfl,(((F0.step0 D1.stp).step0 D2.stp).step0 D3.stp),ok3,(by have e:a3.eval (.tmp 3) = _:=(D3.k (D2.m 0 rfl));rw [e];exact Own.nil _ _ _ _),(cJ (D3.m 0 rfl)),(D3.k (D2.k (D1.k p0))),by omega,rfl⟩
 ·
  rintro n2 a5 w2 ⟨t2,k,rfl,F4,ok4,q7,q8,q9,hk,rfl⟩
  have hp:=roundsL_len k
  refine wp_seq (wp_seq ?_)
  refine gI a5 t2 ok4 (gM q8 (gM q9 (gS rfl (fun A B E G H d0 d1=>rP (y_lss (eI d0) (eI d1))) (gE ok4 fun a6 s4 ok5 D4=>?_))));have F5:=F4.step0 D4.stp
  have q10:(Pr.own 2 3 1 (List.length (roundsL k)) (List.map Ty.int (roundsL k))).has s4 (a6.eval (.tmp 3)):=D4.ko q7 rfl
  have q11:=D4.k q8;refine tn ?_
  refine cond_p (p:=(((k:Nat):Int) < ((n:Nat):Int))) (D4.m 2 rfl) (fun c1=>?_) (fun c1=>?_)
  ·
   refine wp_skip (tn (wp_seq (wp_block ?_)))
   refine gI a6 s4 ok5 (gT (Ty.val (a6.eval (.tmp 3))) rfl (fun A B E G H=>rP (y_move (H 3 rfl))) (gM q11 (gT (Ty.sl 1 1 [(Ty.nat k)]) rfl (fun A B E G H d0=>rP (y_build1o Try.underlying22 Try.inf3 rfl (one_val rfl) (eI d0))) (gE2 ok5 fun a7 s5 ok6 D5=>?_))));have q14:=(Pr.own 2 3 1 (List.length (roundsL k)) (List.map Ty.int (roundsL k))).up D5.stp q10
   have q15:a7.eval (.tmp 3) = a6.eval (.tmp 3):=D5.same 3 rfl
   have q19:=D5.m 2 rfl
   refine tail_step (m:=2) (R:=(fun v τ=>Own τ 2 3 1 v ((List.length (roundsL k)) + 1) ((List.map Ty.int (roundsL k)) ++ [(Ty.nat k)]))) rfl rfl dE ok6 (m_append Try.underlying22 Try.inf3 dE rfl dE (al (D5.m 0 rfl) q14) q19 (by intro U hU;simp at hU;  subst hU;exact one_val rfl) oM oM) (fun a8 s6 hs1 ok7 r1 sm1=>?_)
   have F7:=(F5.step0 D5.stp).step hs1 dE
   have q20:At (Ty.nat k) s6 a8 (.tmp 4):=kpm hs1 dE (sm1 4 dE) (D5.k q11)
   have q21:At (Ty.nat n) s6 a8 (.tmp 0):=kpm hs1 dE (sm1 0 dE) (D5.k (D4.k q9))
   have q22:At (Ty.sl 1 1 [(Ty.nat k)]) s6 a8 (.tmp 12):=kpm hs1 dE (sm1 12 dE) q19
   have q23:(Pr.own 2 3 1 (List.length ((roundsL k) ++ [((k:Nat):Int)])) (List.map Ty.int ((roundsL k) ++ [((k:Nat):Int)]))).has s6 (a8.eval (.tmp 13)):=(cvo (by simp) (by first | (rw [List.map_append];rfl) | simp) r1)
   refine tail_step (m:=0) (R:=(fun v τ=>Pr.has (Pr.own 2 3 1 (List.length ((roundsL k) ++ [((k:Nat):Int)])) (List.map Ty.int ((roundsL k) ++ [((k:Nat):Int)]))) τ v)) rfl rfl dE ok7 (Yld.toM (y_assign q23)) (fun a9 s7 hs2 ok8 r2 sm2=>?_)
   have F8:=F7.step hs2 dE
   have q24:At (Ty.nat k) s7 a9 (.tmp 4):=kpm hs2 dE (sm2 4 dE) q20
   have q25:At (Ty.nat n) s7 a9 (.tmp 0):=kpm hs2 dE (sm2 0 dE) q21
   have q26:At (Ty.sl 1 1 [(Ty.nat k)]) s7 a9 (.tmp 12):=kpm hs2 dE (sm2 12 dE) q22
   have q27:(Pr.own 2 3 1 (List.length ((roundsL k) ++ [((k:Nat):Int)])) (List.map Ty.int ((roundsL k) ++ [((k:Nat):Int)]))).has s7 (a9.eval (.tmp 13)):=kpmo hs2 dE (.inl rfl) (sm2 13 dE) q23
   have q28:(Pr.own 2 3 1 (List.length ((roundsL k) ++ [((k:Nat):Int)])) (List.map Ty.int ((roundsL k) ++ [((k:Nat):Int)]))).has s7 (a9.eval (.tmp 3)):=r2
   refine wpList_nil (bn (tn ?_))
   refine gI a9 s7 ok8 (gM q24 (gT (Ty.int (((k:Nat):Int) + (1:Int))) rfl (fun A B E G H d0=>rP (y_add (eI d0) rfl wX)) (gB 0 (gE ok8 fun a10 s8 ok9 D6=>?_))))
   have q30:(Pr.own 2 3 1 (List.length ((roundsL k) ++ [((k:Nat):Int)])) (List.map Ty.int ((roundsL k) ++ [((k:Nat):Int)]))).has s8 (a10.eval (.tmp 3)):=D6.ko q28 rfl
   exact tn ⟨n - ((k+1)),by omega,s8,(k+1),rfl,(F8.step0 D6.stp),ok9,(cvo (by (rw [roundsL_succ k])) (by (rw [roundsL_succ k])) q30),(cJ (D6.m 2 rfl)),(D6.k q25),by omega,rfl⟩
  ·
   refine wp_exit (tx (tx (bx (tn (wp_seq ?_)))))
   refine gI a6 s4 ok5 (gT (Ty.val (a6.eval (.tmp 3))) rfl (fun A B E G H=>rP (y_move (H 3 rfl))) (gB 0 (gE ok5 fun a11 s9 ok10 D7=>?_)))
   have q32:(Pr.own 2 3 1 (List.length (roundsL k)) (List.map Ty.int (roundsL k))).has s9 (a11.eval (.tmp 2)):=al (show _ = _ from D7.done 1) ((Pr.own 2 3 1 (List.length (roundsL k)) (List.map Ty.int (roundsL k))).up D7.stp q10)
   refine tn (wp_ret ?_)
   obtain ⟨t3,e1,h1,q33⟩:=Own.seal q32 dE
   rw [← e1]
   have F11:=(F5.step0 D7.stp).step h1 dE
   exact ret1 rfl ok10 F11 (cvt (by (obtain rfl:k = n:=oM;rfl)) q33)
set_option maxRecDepth 100000 in
theorem rBy_fn (a:List Int) (b:List Int) (σ:GW) (v0 v1:Value) (hv0:Ty.has (Ty.lst Ty.int a) σ v0) (hv1:Ty.has (Ty.lst Ty.int b) σ v1) (hbd:∀ i,i < b.length → 0 ≤ b.getD i 0∧b.getD i 0 < a.length) (E:b.length ≤ 1000000) :
    FnC Try.prog 22 #[v0,v1] σ (Ty.lst Ty.int (byL a b)):=by
 refine fn_intro Try.func22 rfl Try.ntmps22 (Nat.le_of_ble_eq_true rfl) (fun s0 a0 hle F0 ok0 hargs=>?_)
 have p0:=pA hle (hargs 0 _ rfl) hv0
 have b1:=sl_le p0
 have p1:=pA hle (hargs 1 _ rfl) hv1
 have b2:=sl_le p1
 clear hargs;refine wp_seq ?_
 refine gI a0 s0 ok0 (gC (Ty.val (Value.slice none 0 0)) (gE ok0 fun a1 s1 ok1 D1=>?_));refine tn (wp_seq ?_)
 refine gI a1 s1 ok1 (gC (Ty.val (Value.slice none 0 0)) (gE ok1 fun a2 s2 ok2 D2=>?_));refine tn (wp_seq (wp_seq ?_))
 refine gI a2 s2 ok2 (gC (Ty.int (0:Int)) (gE ok2 fun a3 s3 ok3 D3=>?_));refine tn (wp_block ?_)
 refine loop (fun n1 a4 w1=>∃ (t1:GW) (k:Nat),t1.w = w1∧From s0 t1∧Ok 24 [] a4∧(Pr.own 2 3 1 (List.length (byL a (b.take k))) (List.map Ty.int (byL a (b.take k)))).has t1 (a4.eval (.tmp 5))∧At (Ty.nat k) t1 a4 (.tmp 6)∧At (Ty.lst Ty.int a) t1 a4 (.tmp 0)∧At (Ty.lst Ty.int b) t1 a4 (.tmp 1)∧(k ≤ b.length)∧n1 = b.length - k) (b.length - (0)) ?_ ?_
 ·
  exact ⟨s3,0,rfl,(((F0.step0 D1.stp).step0 D2.stp).step0 D3.stp),ok3,(by have e:a3.eval (.tmp 5) = _:=(D3.k (D2.m 0 rfl));rw [e];exact Own.nil _ _ _ _),(cJ (D3.m 0 rfl)),(D3.k (D2.k (D1.k p0))),(D3.k (D2.k (D1.k p1))),by omega,rfl⟩
 ·
  rintro n2 a5 w2 ⟨t2,k,rfl,F4,ok4,q10,q11,q12,q13,hk,rfl⟩
  have hp:=byL_take_len a b k
  refine wp_seq (wp_seq ?_)
  refine gI a5 t2 ok4 (gM q11 (gM q13 (gS rfl (fun A B E G H d0=>rP (y_len Try.underlying22 (eI d0))) (gS rfl (fun A B E G H d0 d1=>rP (y_lss (eI d0) (eI d1))) (gE ok4 fun a6 s4 ok5 D4=>?_)))));have F5:=F4.step0 D4.stp
  have q14:(Pr.own 2 3 1 (List.length (byL a (b.take k))) (List.map Ty.int (byL a (b.take k)))).has s4 (a6.eval (.tmp 5)):=D4.ko q10 rfl
  have q15:=D4.k q11;have q16:=D4.k q12;have q17:=D4.k q13;refine tn ?_
  refine cond_p (p:=(((k:Nat):Int) < (((List.length b):Nat):Int))) (D4.m 3 rfl) (fun c1=>?_) (fun c1=>?_)
  ·
   have hq:=hbd k oM
   refine wp_skip (tn (wp_seq (wp_block ?_)))
   refine gI a6 s4 ok5 (gT (Ty.val (a6.eval (.tmp 5))) rfl (fun A B E G H=>rP (y_move (H 5 rfl))) (gM q16 (gM q17 (gM q15 (gT (Ty.ref [(Ty.int (b.getD k 0))]) rfl (fun A B E G H d0 d1=>rP (y_index1 Try.underlying22 Try.inf3 (eI d0) (eI d1) oM (lst_get Ty.int b 0 k oM))) (gS rfl (fun A B E G H d0=>rP (y_load Try.underlying3 rfl (eI d0) rfl)) (gT (Ty.ref [(Ty.int (a.getD ((b.getD k 0)).toNat 0))]) rfl (fun A B E G H d0 d1=>rP (y_index1 Try.underlying22 Try.inf3 (eI d0) (eI d1) oM (lst_get Ty.int a 0 ((b.getD k 0)).toNat oM))) (gS rfl (fun A B E G H d0=>rP (y_load Try.underlying3 rfl (eI d0) rfl)) (gT (Ty.sl 1 1 [(Ty.int (a.getD ((b.getD k 0)).toNat 0))]) rfl (fun A B E G H d0=>rP (y_build1o Try.underlying22 Try.inf3 rfl (one_val rfl) (eI d0))) (gE2 ok5 fun a7 s5 ok6 D5=>?_))))))))));have q19:=(Pr.own 2 3 1 (List.length (byL a (b.take k))) (List.map Ty.int (byL a (b.take k)))).up D5.stp q14
   have q20:a7.eval (.tmp 5) = a6.eval (.tmp 5):=D5.same 5 rfl
   have q25:=D5.m 8 rfl
   refine tail_step (m:=2) (R:=(fun v τ=>Own τ 2 3 1 v ((List.length (byL a (b.take k))) + 1) ((List.map Ty.int (byL a (b.take k))) ++ [(Ty.int (a.getD ((b.getD k 0)).toNat 0))]))) rfl rfl dE ok6 (m_append Try.underlying22 Try.inf3 dE rfl dE (al (D5.m 0 rfl) q19) q25 (by intro U hU;simp at hU;  subst hU;exact one_val rfl) oM oM) (fun a8 s6 hs1 ok7 r1 sm1=>?_)
   have F7:=(F5.step0 D5.stp).step hs1 dE
   have q26:At (Ty.nat k) s6 a8 (.tmp 6):=kpm hs1 dE (sm1 6 dE) (D5.k q15)
   have q27:At (Ty.lst Ty.int a) s6 a8 (.tmp 0):=kpm hs1 dE (sm1 0 dE) (D5.k q16)
   have q28:At (Ty.lst Ty.int b) s6 a8 (.tmp 1):=kpm hs1 dE (sm1 1 dE) (D5.k q17)
   have q29:At (Ty.sl 1 1 [(Ty.int (a.getD ((b.getD k 0)).toNat 0))]) s6 a8 (.tmp 21):=kpm hs1 dE (sm1 21 dE) q25
   have q30:(Pr.own 2 3 1 (List.length ((byL a (b.take k)) ++ [(a.getD ((b.getD k 0)).toNat 0)])) (List.map Ty.int ((byL a (b.take k)) ++ [(a.getD ((b.getD k 0)).toNat 0)]))).has s6 (a8.eval (.tmp 22)):=(cvo (by simp) (by first | (rw [List.map_append];rfl) | simp) r1)
   refine tail_step (m:=0) (R:=(fun v τ=>Pr.has (Pr.own 2 3 1 (List.length ((byL a (b.take k)) ++ [(a.getD ((b.getD k 0)).toNat 0)])) (List.map Ty.int ((byL a (b.take k)) ++ [(a.getD ((b.getD k 0)).toNat 0)]))) τ v)) rfl rfl dE ok7 (Yld.toM (y_assign q30)) (fun a9 s7 hs2 ok8 r2 sm2=>?_)
   have F8:=F7.step hs2 dE
   have q31:At (Ty.nat k) s7 a9 (.tmp 6):=kpm hs2 dE (sm2 6 dE) q26
   have q32:At (Ty.lst Ty.int a) s7 a9 (.tmp 0):=kpm hs2 dE (sm2 0 dE) q27
   have q33:At (Ty.lst Ty.int b) s7 a9 (.tmp 1):=kpm hs2 dE (sm2 1 dE) q28
   have q34:At (Ty.sl 1 1 [(Ty.int (a.getD ((b.getD k 0)).toNat 0))]) s7 a9 (.tmp 21):=kpm hs2 dE (sm2 21 dE) q29
   have q35:(Pr.own 2 3 1 (List.length ((byL a (b.take k)) ++ [(a.getD ((b.getD k 0)).toNat 0)])) (List.map Ty.int ((byL a (b.take k)) ++ [(a.getD ((b.getD k 0)).toNat 0)]))).has s7 (a9.eval (.tmp 22)):=kpmo hs2 dE (.inl rfl) (sm2 22 dE) q30
   have q36:(Pr.own 2 3 1 (List.length ((byL a (b.take k)) ++ [(a.getD ((b.getD k 0)).toNat 0)])) (List.map Ty.int ((byL a (b.take k)) ++ [(a.getD ((b.getD k 0)).toNat 0)]))).has s7 (a9.eval (.tmp 5)):=r2
   refine wpList_nil (bn (tn ?_))
   refine gI a9 s7 ok8 (gM q31 (gT (Ty.int (((k:Nat):Int) + (1:Int))) rfl (fun A B E G H d0=>rP (y_add (eI d0) rfl wX)) (gB 0 (gE ok8 fun a10 s8 ok9 D6=>?_))))
   have q39:(Pr.own 2 3 1 (List.length ((byL a (b.take k)) ++ [(a.getD ((b.getD k 0)).toNat 0)])) (List.map Ty.int ((byL a (b.take k)) ++ [(a.getD ((b.getD k 0)).toNat 0)]))).has s8 (a10.eval (.tmp 5)):=D6.ko q36 rfl
   exact tn ⟨b.length - ((k+1)),by omega,s8,(k+1),rfl,(F8.step0 D6.stp),ok9,(cvo (by (rw [byL_snoc a b k oM])) (by (rw [byL_snoc a b k oM])) q39),(cJ (D6.m 2 rfl)),(D6.k q32),(D6.k q33),by omega,rfl⟩
  ·
   refine wp_exit (tx (tx (bx (tn (wp_seq ?_)))))
   refine gI a6 s4 ok5 (gT (Ty.val (a6.eval (.tmp 5))) rfl (fun A B E G H=>rP (y_move (H 5 rfl))) (gB 0 (gE ok5 fun a11 s9 ok10 D7=>?_)))
   have q41:(Pr.own 2 3 1 (List.length (byL a (b.take k))) (List.map Ty.int (byL a (b.take k)))).has s9 (a11.eval (.tmp 4)):=al (show _ = _ from D7.done 1) ((Pr.own 2 3 1 (List.length (byL a (b.take k))) (List.map Ty.int (byL a (b.take k)))).up D7.stp q14)
   refine tn (wp_ret ?_)
   obtain ⟨t3,e1,h1,q42⟩:=Own.seal q41 dE
   rw [← e1]
   have F11:=(F5.step0 D7.stp).step h1 dE
   exact ret1 rfl ok10 F11 (cvt (by (obtain rfl:k = b.length:=oM;rw [List.take_length])) q42)
set_option maxRecDepth 100000 in
theorem rUndo_fn (r:List Int) (σ:GW) (v0:Value) (hv0:Ty.has (Ty.lst Ty.int r) σ v0) (hr:IsRow r) :
    FnC Try.prog 23 #[v0] σ (Ty.lst Ty.int (undoL r)):=by
 have hln:=hr.le
 refine fn_intro Try.func23 rfl Try.ntmps23 (Nat.le_of_ble_eq_true rfl) (fun s0 a0 hle F0 ok0 hargs=>?_)
 have p0:=pA hle (hargs 0 _ rfl) hv0
 have b1:=sl_le p0
 clear hargs;refine wp_seq ?_
 refine gI a0 s0 ok0 (gC (Ty.val (Value.slice none 0 0)) (gE ok0 fun a1 s1 ok1 D1=>?_));have q1:=D1.k p0;refine tn (wp_seq ?_)
 refine gI a1 s1 ok1 (gM q1 (gS rfl (fun A B E G H d0=>rP (y_len Try.underlying22 (eI d0))) (gR (Pr.own 11 3 1 (List.length r) (List.map Ty.int (List.replicate (List.length r) 0))) rfl (by intro A B E G H d0 d1;have e1:=ed d0 rfl rfl rfl;exact rP ((y_make (k:=11) (T:=Ty.int 0) (n:=(List.length r)) Try.underlying22 Try.inf3 rfl (fun _=>rfl) e1 e1 oM oM).mono (fun _ _ h=>cvo (by simp) (by simp) h))) (gR (Pr.own 11 3 1 (List.length r) (List.map Ty.int (List.replicate (List.length r) 0))) rfl (by intro A B E G H d0 d1 d2 d3;have e2:(Pr.own 11 3 1 (List.length r) (List.map Ty.int (List.replicate (List.length r) 0))).has B (A.eval (.tmp 7)):=d0 rfl;exact rP (y_assign e2)) (gE ok1 fun a2 s2 ok2 D2=>?_)))))
 have q3:(Pr.own 11 3 1 (List.length r) (List.map Ty.int (List.replicate (List.length r) 0))).has s2 (a2.eval (.tmp 3)):=D2.done 3
 refine tn (wp_seq (wp_seq ?_))
 refine gI a2 s2 ok2 (gC (Ty.int (0:Int)) (gE ok2 fun a3 s3 ok3 D3=>?_))
 have q5:(Pr.own 11 3 1 (List.length r) (List.map Ty.int (List.replicate (List.length r) 0))).has s3 (a3.eval (.tmp 3)):=D3.ko q3 rfl
 refine tn (wp_block ?_)
 refine loop (fun n1 a4 w1=>∃ (t1:GW) (k:Nat),t1.w = w1∧From s0 t1∧Ok 22 [] a4∧(Pr.own 11 3 1 (List.length (undoTo r k)) (List.map Ty.int (undoTo r k))).has t1 (a4.eval (.tmp 3))∧At (Ty.nat k) t1 a4 (.tmp 4)∧At (Ty.lst Ty.int r) t1 a4 (.tmp 0)∧(k ≤ r.length)∧n1 = r.length - k) (r.length - (0)) ?_ ?_
 ·
  exact ⟨s3,0,rfl,(((F0.step0 D1.stp).step0 D2.stp).step0 D3.stp),ok3,(cvo (by (simp [undoTo_zero])) (by (simp [undoTo_zero])) q5),(cJ (D3.m 0 rfl)),(D3.k (D2.k q1)),by omega,rfl⟩
 ·
  rintro n2 a5 w2 ⟨t2,k,rfl,F4,ok4,q7,q8,q9,hk,rfl⟩
  have hp:=undoTo_len r k
  refine wp_seq (wp_seq ?_)
  refine gI a5 t2 ok4 (gM q8 (gM q9 (gS rfl (fun A B E G H d0=>rP (y_len Try.underlying22 (eI d0))) (gS rfl (fun A B E G H d0 d1=>rP (y_lss (eI d0) (eI d1))) (gE ok4 fun a6 s4 ok5 D4=>?_)))));have F5:=F4.step0 D4.stp
  have q10:(Pr.own 11 3 1 (List.length (undoTo r k)) (List.map Ty.int (undoTo r k))).has s4 (a6.eval (.tmp 3)):=D4.ko q7 rfl
  have q11:=D4.k q8;have q12:=D4.k q9;refine tn ?_
  refine cond_p (p:=(((k:Nat):Int) < (((List.length r):Nat):Int))) (D4.m 3 rfl) (fun c1=>?_) (fun c1=>?_)
  ·
   have hq:=hr.at (i:=k) oM
   refine wp_skip (tn (wp_seq (wp_block ?_)))
   refine gI a6 s4 ok5 (gT (Ty.val (a6.eval (.tmp 3))) rfl (fun A B E G H=>rP (y_move (H 3 rfl))) (gM q12 (gM q11 (gT (Ty.ref [(Ty.int (r.getD k 0))]) rfl (fun A B E G H d0 d1=>rP (y_index1 Try.underlying22 Try.inf3 (eI d0) (eI d1) oM (lst_get Ty.int r 0 k oM))) (gS rfl (fun A B E G H d0=>rP (y_load Try.underlying3 rfl (eI d0) rfl)) (gM q11 (gT (Ty.val (cellPtr (a6.eval (.tmp 3)) ((r.getD k 0)).toNat)) rfl (fun A B E G H d0 d1 d2 d3 d4 d5 d6 d7=>rP (own_index1 (i:=(r.getD k 0)) Try.underlying22 Try.inf3 ((Pr.own 11 3 1 (List.length (undoTo r k)) (List.map Ty.int (undoTo r k))).up E q10) (eI d0) (eI d1) oM oM)) (gE2 ok5 fun a7 s5 ok6 D5=>?_))))))));have q14:=(Pr.own 11 3 1 (List.length (undoTo r k)) (List.map Ty.int (undoTo r k))).up D5.stp q10
   have q15:a7.eval (.tmp 3) = a6.eval (.tmp 3):=D5.same 3 rfl
   have q18:=D5.m 5 rfl
   refine tail_step0 (m:=11) (R:=(fun _ τ=>Own τ 11 3 1 (a6.eval (.tmp 3)) (List.length (undoTo r k)) ((List.map Ty.int (undoTo r k)).set ((r.getD k 0)).toNat (Ty.nat k)))) rfl rfl (m_store Try.inf3 dE q14 (D5.m 6 rfl) (by simp only [List.length_map,List.length_set];omega) q18 (one_val rfl)) (fun v1 s6 hs1 r1=>?_)
   have F7:=(F5.step0 D5.stp).step hs1 dE
   have q20:At (Ty.nat k) s6 a7 (.tmp 4):=kpm hs1 dE rfl (D5.k q11)
   have q21:At (Ty.lst Ty.int r) s6 a7 (.tmp 0):=kpm hs1 dE rfl (D5.k q12)
   have q22:At (Ty.nat k) s6 a7 (.tmp 19):=kpm hs1 dE rfl q18
   have q23:(Pr.own 11 3 1 (List.length ((undoTo r k).set ((r.getD k 0)).toNat ((k:Nat):Int))) (List.map Ty.int ((undoTo r k).set ((r.getD k 0)).toNat ((k:Nat):Int)))).has s6 (a6.eval (.tmp 3)):=(cvo (by simp) (by simp) r1)
   refine wpList_nil ?_
   have q24:(Pr.own 11 3 1 (List.length ((undoTo r k).set ((r.getD k 0)).toNat ((k:Nat):Int))) (List.map Ty.int ((undoTo r k).set ((r.getD k 0)).toNat ((k:Nat):Int)))).has s6 (a7.eval (.tmp 3)):=al q15 q23
   refine bn (tn ?_)
   refine gI a7 s6 ok6 (gM q20 (gT (Ty.int (((k:Nat):Int) + (1:Int))) rfl (fun A B E G H d0=>rP (y_add (eI d0) rfl wX)) (gB 0 (gE ok6 fun a9 s7 ok8 D6=>?_))))
   have q25:(Pr.own 11 3 1 (List.length ((undoTo r k).set ((r.getD k 0)).toNat ((k:Nat):Int))) (List.map Ty.int ((undoTo r k).set ((r.getD k 0)).toNat ((k:Nat):Int)))).has s7 (a9.eval (.tmp 3)):=D6.ko q24 rfl
   exact tn ⟨r.length - ((k+1)),by omega,s7,(k+1),rfl,(F7.step0 D6.stp),ok8,(cvo (by (rw [undoTo_step r k hr oM])) (by (rw [undoTo_step r k hr oM])) q25),(cJ (D6.m 2 rfl)),(D6.k q21),by omega,rfl⟩
  ·
   refine wp_exit (tx (tx (bx (tn (wp_seq ?_)))))
   refine gI a6 s4 ok5 (gT (Ty.val (a6.eval (.tmp 3))) rfl (fun A B E G H=>rP (y_move (H 3 rfl))) (gB 0 (gE ok5 fun a10 s8 ok9 D7=>?_)))
   have q28:(Pr.own 11 3 1 (List.length (undoTo r k)) (List.map Ty.int (undoTo r k))).has s8 (a10.eval (.tmp 2)):=al (show _ = _ from D7.done 1) ((Pr.own 11 3 1 (List.length (undoTo r k)) (List.map Ty.int (undoTo r k))).up D7.stp q10)
   refine tn (wp_ret ?_)
   obtain ⟨t3,e1,h1,q29⟩:=Own.seal q28 dE
   rw [← e1]
   have F10:=(F5.step0 D7.stp).step h1 dE
   exact ret1 rfl ok9 F10 (cvt (by (obtain rfl:k = r.length:=oM;rw [undoTo_all r hr])) q29)
set_option maxHeartbeats 4000000 in
set_option maxRecDepth 100000 in
theorem rThin_fn (n:Nat) (l:List (List Int)) (fr:Nat) (σ:GW) (hlow:Low [] σ) (v0 v1 v2:Value) (hv0:Ty.has (Ty.nat n) σ v0) (hv1:Ty.has (Ty.lst Ty.ints l) σ v1) (hv2:Ty.has (Ty.nat fr) σ v2)  (hn:1 ≤ n∧n ≤ 12) (hf:fr ≤ n) (hl:∀ x ∈ l,RowN n x∧Fx fr x) (hll:l.length ≤ 100000) :
    FnL Try.prog 66 #[v0,v1,v2] σ [] (fun v τ=>∃ (T:(List (List Int))),(Ty.has (Ty.lst Ty.ints (outT T (n * n))) τ v)∧(Thin n fr l T l.length)):=by
 have hnn:n * n ≤ 144:=Nat.mul_le_mul hn.2 hn.2
 refine fn_introL hlow Try.func66 rfl Try.ntmps66 (Nat.le_of_ble_eq_true rfl) (fun a0 F0 ok0 hargs=>?_)
 have p0:=pB (hargs 0 _ rfl) hv0
 have p1:=pB (hargs 1 _ rfl) hv1
 have b1:=sl_le p1
 have p2:=pB (hargs 2 _ rfl) hv2
 clear hargs;refine wp_seq ?_
 refine gI a0 σ ok0 (gC (Ty.val (Value.slice none 0 0)) (gE ok0 fun a1 s1 ok1 D1=>?_));have q1:=D1.k p0;refine tn (wp_seq ?_)
 refine gI a1 s1 ok1 (gM q1 (gM q1 (gT (Ty.nat (n * n)) rfl (fun A B E G H d0 d1=>rP ((y_mul (eI d0) (eI d1) wX).mono (fun τ _ h=>cN (σ:=τ) h))) (gR (Pr.own 5 22 1 (n * n) (List.map Ty.rowz (List.replicate (n * n) []))) rfl (by intro A B E G H d0 d1;have e2:=ed d0 rfl rfl rfl;exact rP ((y_make (k:=5) (T:=Ty.rowz []) (n:=(n * n)) Try.underlying24 Try.inf22 rfl (fun _=>rowz_nil) e2 e2 oM oM).mono (fun _ _ h=>cvo (by simp) (by simp) h))) (gE2 ok1 fun a2 s2 ok2 D2=>?_)))))
 obtain ⟨x1,hx1⟩:∃ x,a2.eval (.tmp 17) = x:=⟨_,rfl⟩
 have q7:At (Ty.val x1) s2 a2 (.tmp 17):=hx1
 have o1:=al2 (R:=(Pr.own 5 22 1 (n * n) (List.map Ty.rowz (List.replicate (n * n) [])))) hx1 (D2.done 3 dE)
 refine tL ok2 (Yld.toL (y_as q7)) fun a3 s3 hs1 ok3 r1 sm1=>?_
 have q11:At (Ty.val x1) s3 a3 (.tmp 7):=r1
 clear r1;refine wpList_nil (tn (wp_seq (wp_seq ?_)))
 refine gI a3 s3 ok3 (gC (Ty.int (0:Int)) (gE ok3 fun a4 s4 ok4 D3=>?_));have o3:=Own.k0 (Own.kl o1 hs1) D3.stp;refine tn (wp_block ?_)
 refine loop (fun n1 a5 w1=>∃ (t1:GW) (i:Nat) (T:(List (List Int))),t1.w = w1∧FromL [] σ t1∧Ok 84 [] a5∧At (Ty.nat i) t1 a5 (.tmp 8)∧At (Ty.nat n) t1 a5 (.tmp 0)∧At (Ty.lst Ty.ints l) t1 a5 (.tmp 1)∧At (Ty.nat fr) t1 a5 (.tmp 2)∧At (Ty.val x1) t1 a5 (.tmp 7)∧Own t1 5 22 1 x1 (List.length T) (List.map Ty.rowz T)∧(i ≤ l.length)∧(Thin n fr l T i)∧n1 = l.length - i) (l.length - (0)) ?_ ?_
 ·
  exact ⟨s4,0,(List.replicate (n * n) []),rfl,((((F0.step0 D1.stp).step0 D2.stp).sl hs1).step0 D3.stp),ok4,(cJ (D3.m 0 rfl)),(D3.k (kq hs1 sm1 0 (D2.k q1))),(D3.k (kq hs1 sm1 1 (D2.k (D1.k p1)))),(D3.k (kq hs1 sm1 2 (D2.k (D1.k p2)))),(D3.k q11),(cvo (by (simp)) (by (simp)) o3),by omega,Thin.start,rfl⟩
 ·
  rintro n2 a6 w2 ⟨t2,i,T,rfl,F5,ok5,q17,q18,q19,q20,q21,o4,hi,hT,rfl⟩
  have hTl:=hT.len
  refine wp_seq (wp_seq ?_)
  refine gI a6 t2 ok5 (gM q17 (gM q19 (gS rfl (fun A B E G H d0=>rP (y_len Try.underlying24 (eI d0))) (gS rfl (fun A B E G H d0 d1=>rP (y_lss (eI d0) (eI d1))) (gE ok5 fun a7 s5 ok6 D4=>?_)))));have F6:=F5.step0 D4.stp;have q22:=D4.k q17;have q23:=D4.k q18;have q24:=D4.k q19;have q26:=D4.k q21;have o5:=Own.k0 o4 D4.stp;refine tn ?_
  refine cond_p (p:=(((i:Nat):Int) < (((List.length l):Nat):Int))) (D4.m 3 rfl) (fun c1=>?_) (fun c1=>?_)
  ·
   refine wp_skip (tn (wp_seq (wp_block (wp_seq ?_))))
   refine gI a7 s5 ok6 (gM q24 (gM q22 (gT (Ty.ref [(Ty.lst Ty.int (l.getD i []))]) rfl (fun A B E G H d0 d1=>rP (y_index1 Try.underlying24 Try.inf22 (eI d0) (eI d1) oM (lst_get Ty.ints l [] i oM))) (gS rfl (fun A B E G H d0=>rP (y_load Try.underlying22 rfl (eI d0) rfl)) (gB 0 (gE ok6 fun a8 s6 ok7 D5=>?_))))));have q31:=D5.k (D4.k q20);have o6:=Own.k0 o5 D5.stp;refine tn (wp_seq ?_)
   refine gI a8 s6 ok7 (gM q31 (gB 0 (gE ok7 fun a9 s7 ok8 D6=>?_)));have o7:=Own.k0 o6 D6.stp;refine tn (wp_block ?_)
   refine loop (fun n3 a10 w3=>∃ (t3:GW) (b:Nat) (q:(List Int)),t3.w = w3∧FromL [] σ t3∧Ok 84 [] a10∧At (Ty.nat b) t3 a10 (.tmp 10)∧At (Ty.lst Ty.int q) t3 a10 (.tmp 9)∧At (Ty.nat i) t3 a10 (.tmp 8)∧At (Ty.nat n) t3 a10 (.tmp 0)∧At (Ty.lst Ty.ints l) t3 a10 (.tmp 1)∧At (Ty.nat fr) t3 a10 (.tmp 2)∧At (Ty.val x1) t3 a10 (.tmp 7)∧Own t3 5 22 1 x1 (List.length T) (List.map Ty.rowz T)∧(ThinR n fr l T i b q)∧n3 = 2 * (n - b) + mzB q b) (2 * (n - (fr)) + mzB ((l.getD i [])) (fr)) ?_ ?_
   ·
    exact ⟨s7,fr,(l.getD i []),rfl,((F6.step0 D5.stp).step0 D6.stp),ok8,(cJ (D6.m 1 rfl)),(cvt (by (first | rfl | omega | (simp_all;done) | (simp_all;omega))) (D6.k (D5.m 4 rfl))),(D6.k (D5.k q22)),(D6.k (D5.k q23)),(D6.k (D5.k q24)),(D6.k q31),(D6.k (D5.k q26)),o7,hT.row hn oM hf hl,rfl⟩
   ·
    rintro n4 a11 w4 ⟨t4,b,q,rfl,F9,ok9,q41,q42,q43,q44,q45,q46,q47,o8,hR,rfl⟩
    have hql:=hR.row.len
    refine wp_seq (wp_seq ?_)
    refine gI a11 t4 ok9 (gM q41 (gM q44 (gS rfl (fun A B E G H d0 d1=>rP (y_lss (eI d0) (eI d1))) (gE ok9 fun a12 s8 ok10 D7=>?_))));have F10:=F9.step0 D7.stp;have q48:=D7.k q41;have q49:=D7.k q42;have q50:=D7.k q43;have q51:=D7.k q44;have q52:=D7.k q45;have q53:=D7.k q46;have q54:=D7.k q47;have o9:=Own.k0 o8 D7.stp;refine tn ?_
    refine cond_p (p:=(((b:Nat):Int) < ((n:Nat):Int))) (D7.m 2 rfl) (fun c2=>?_) (fun c2=>?_)
    ·
     have hkey:=hR.key oM
     refine wp_skip (tn (wp_block (wp_seq (wp_seq ?_))))
     refine gI a12 s8 ok10 (gM q49 (gM q48 (gT (Ty.ref [(Ty.int (q.getD b 0))]) rfl (fun A B E G H d0 d1=>rP (y_index1 Try.underlying22 Try.inf3 (eI d0) (eI d1) oM (lst_get Ty.int q 0 b oM))) (gS rfl (fun A B E G H d0=>rP (y_load Try.underlying3 rfl (eI d0) rfl)) (gM q48 (gS rfl (fun A B E G H d0 d1=>rP (y_eql (eI d0) (eI d1))) (gE ok10 fun a13 s9 ok11 D8=>?_)))))));have F11:=F10.step0 D8.stp;have q56:=D8.k q48;have q57:=D8.k q49;have q58:=D8.k q50;have q59:=D8.k q51;have q60:=D8.k q52;have q61:=D8.k q53;have q62:=D8.k q54;have o10:=Own.k0 o9 D8.stp;refine tn ?_
     refine cond_p (p:=((q.getD b 0) = ((b:Nat):Int))) (D8.m 5 rfl) (fun c3=>?_) (fun c3=>?_)
     ·
      have hqb:q.getD b 0 = (b:Int):=c3;have hz1:=mzB_le q (b + 1)
      refine wp_seq ?_
      refine gI a13 s9 ok11 (gM q56 (gT (Ty.nat (b + 1)) rfl (fun A B E G H d0=>rP ((y_add (eI d0) rfl wX).mono (fun τ _ h=>cN (σ:=τ) h))) (gB 0 (gE ok11 fun a14 s10 ok12 D9=>?_))));have o11:=Own.k0 o10 D9.stp;refine tn (wp_exit (tx (bx ?_)))
      exact tn ⟨2 * (n - ((b + 1))) + mzB q ((b + 1)),by omega,s10,(b + 1),q,rfl,(F11.step0 D9.stp),ok12,(cJ (D9.m 2 rfl)),(D9.k q57),(D9.k q58),(D9.k q59),(D9.k q60),(D9.k q61),(D9.k q62),o11,hR.skip oM hqb,rfl⟩
     ·
      have hqb:¬ q.getD b 0 = (b:Int):=c3;have hz1:=mzB_1 hqb
      refine wp_skip (tn (wp_seq ?_))
      refine gI a13 s9 ok11 (gM q56 (gM q59 (gT (Ty.nat (b * n)) rfl (fun A B E G H d0 d1=>rP ((y_mul (eI d0) (eI d1) wX).mono (fun τ _ h=>cN (σ:=τ) h))) (gM q57 (gM q56 (gT (Ty.ref [(Ty.int (q.getD b 0))]) rfl (fun A B E G H d0 d1=>rP (y_index1 Try.underlying22 Try.inf3 (eI d0) (eI d1) oM (lst_get Ty.int q 0 b oM))) (gS rfl (fun A B E G H d0=>rP (y_load Try.underlying3 rfl (eI d0) rfl)) (gT (Ty.int ((((b * n):Nat):Int) + (q.getD b 0))) rfl (fun A B E G H d0 d1=>rP (y_add (eI d0) (eI d1) wX)) (gB 0 (gE ok11 fun a15 s11 ok13 D10=>?_))))))))));have q77:=D10.k q62;have o12:=Own.k0 o10 D10.stp
      have q79:At (Ty.nat (b * n + (q.getD b 0).toNat)) s11 a15 (.tmp 11):=(cvi (by (omega)) (D10.m 8 rfl))
      refine tn (wp_seq (wp_seq ?_))
      refine gI a15 s11 ok13 (gM q77 (gM q79 (gT (Ty.val (cellPtr x1 (b * n + (q.getD b 0).toNat))) rfl (fun A B E G H d0 d1=>rP (own_index1 (i:=(((b * n + (q.getD b 0).toNat):Nat):Int)) Try.underlying24 Try.inf22 (Own.k0 o12 E) (eI d0) (eI d1) oM oM)) (gS rfl (fun A B E G H d0=>rP (own_load Try.underlying22 rfl (Own.k0 o12 E) (eI d0) (lst_get Ty.rowz T [] (b * n + (q.getD b 0).toNat) oM))) (gT (Ty.bool (decide ((T.getD (b * n + (q.getD b 0).toNat) []) = []))) rfl (fun A B E G H d0=>rP (y_rzeq Try.underlying22 (eI d0) rfl)) (gE ok13 fun a16 s12 ok14 D11=>?_))))));have F14:=(F11.step0 D10.stp).step0 D11.stp;have q81:=D11.k (D10.k q57);have q82:=D11.k (D10.k q58);have q83:=D11.k (D10.k q59);have q84:=D11.k (D10.k q60);have q85:=D11.k (D10.k q61);have q86:=D11.k q77;have q87:=D11.k q79;have o13:=Own.k0 o12 D11.stp;refine tn ?_
      refine cond_p (p:=((T.getD (b * n + (q.getD b 0).toNat) []) = [])) (D11.m 4 rfl) (fun c4=>?_) (fun c4=>?_)
      ·
       have hT2:=hR.lay oM c4
       refine wp_seq ?_
       have q89:At (Ty.rowz q) s12 a16 (.tmp 9):=rowz_of q81 (by intro e_;rw [e_] at hql;simp at hql;omega)
       refine gI a16 s12 ok14 (gM q86 (gM q87 (gM q89 (gT (Ty.val (cellPtr x1 (b * n + (q.getD b 0).toNat))) rfl (fun A B E G H d0 d1 d2 d3 d4=>rP (own_index1 (i:=(((b * n + (q.getD b 0).toNat):Nat):Int)) Try.underlying24 Try.inf22 (Own.k0 o13 E) (eI d0) (eI d1) oM oM)) (gE2 ok14 fun a17 s13 ok15 D12=>?_)))));have o14:=Own.k0 o13 D12.stp
       refine tailL0 (L:=[5]) (R:=(fun _ τ=>Own τ 5 22 1 x1 (List.length T) ((List.map Ty.rowz T).set (b * n + (q.getD b 0).toNat) (Ty.rowz q)))) rfl rfl (YldM.toL (m_store Try.inf22 dE o14 (D12.m 3 rfl) (by simp only [List.length_map,List.length_set];omega) (D12.m 2 rfl) (one_rowz))) (fun v1 s14 hs2 r2=>?_)
       have q97:=kpL hs2 dE rfl (D12.k q82);have q98:=kpL hs2 dE rfl (D12.k q83);have q99:=kpL hs2 dE rfl (D12.k q84);have q100:=kpL hs2 dE rfl (D12.k q85);have q101:=kpL hs2 dE rfl (D12.k q86)
       have o15:Own s14 5 22 1 x1 (List.length (T.set (b * n + (q.getD b 0).toNat) q)) (List.map Ty.rowz (T.set (b * n + (q.getD b 0).toNat) q)):=(cvo (by simp) (by first | (simp;done) | (rw [List.map_set];done) | (rw [List.map_set];rfl)) r2)
       clear r2;refine wpList_nil (tn (wp_exit (tx ?_)))
       refine bo dE ?_
       refine tx (bx (bn (tn ?_)))
       refine gI a17 s14 ok15 (gM q97 (gT (Ty.nat (i + 1)) rfl (fun A B E G H d0=>rP ((y_add (eI d0) rfl wX).mono (fun τ _ h=>cN (σ:=τ) h))) (gB 0 (gE ok15 fun a18 s15 ok16 D13=>?_))));have o16:=Own.k0 o15 D13.stp
       exact tn ⟨l.length - ((i+1)),by omega,s15,(i+1),(T.set (b * n + (q.getD b 0).toNat) q),rfl,(((F14.step0 D12.stp).sl hs2).step0 D13.stp),ok16,(cJ (D13.m 2 rfl)),(D13.k q98),(D13.k q99),(D13.k q100),(D13.k q101),(cvo (by (simp)) (by (simp)) o16),by omega,hT2,rfl⟩
      ·
       obtain ⟨hd1,hd2,hd3,hd4⟩:=hR.divide hn oM c4;have hz0:=mzB_0 hd4
       refine wp_skip (tn ?_)
       refine gI a16 s12 ok14 (gM q86 (gM q87 (gT (Ty.val (cellPtr x1 (b * n + (q.getD b 0).toNat))) rfl (fun A B E G H d0 d1=>rP (own_index1 (i:=(((b * n + (q.getD b 0).toNat):Nat):Int)) Try.underlying24 Try.inf22 (Own.k0 o13 E) (eI d0) (eI d1) oM oM)) (gT (Ty.lst Ty.int (T.getD (b * n + (q.getD b 0).toNat) [])) rfl (fun A B E G H d0=>rP ((own_load Try.underlying22 rfl (Own.k0 o13 E) (eI d0) (lst_get Ty.rowz T [] (b * n + (q.getD b 0).toNat) oM)).mono (fun _ _ h=>rowz_ints h))) (gS rfl (fun A B E G H d0=>rP (y_call _ Try.func23 rfl rfl my1 (rUndo_fn ((T.getD (b * n + (q.getD b 0).toNat) [])) _ _ (eI d0) (by assumption)))) (gM q81 (gS rfl (fun A B E G H d0 d1 d2=>rP (y_call _ Try.func22 rfl rfl my2 (rBy_fn ((undoL ((T.getD (b * n + (q.getD b 0).toNat) [])))) (q) _ _ _ (eI d0) (eI d1) (by first | assumption | omega) (by first | assumption | omega)))) (gB 0 (gE ok14 fun a19 s16 ok17 D14=>?_)))))))));have o17:=Own.k0 o13 D14.stp;refine bn ?_
       exact tn ⟨2 * (n - b) + mzB ((byL (undoL (T.getD (b * n + (q.getD b 0).toNat) [])) q)) b,by omega,s16,b,(byL (undoL (T.getD (b * n + (q.getD b 0).toNat) [])) q),rfl,(F14.step0 D14.stp),ok17,(D14.k (D11.k (D10.k q56))),(cvt (by (first | rfl | omega | (simp_all;done) | (simp_all;omega))) (D14.m 7 rfl)),(D14.k q82),(D14.k q83),(D14.k q84),(D14.k q85),(D14.k q86),o17,hd3,rfl⟩
    ·
     have hT3:Thin n fr l T (i + 1):=by (have eb:b = n:=(by have h_:=hR.fb.2;omega);subst eb;exact hR.gone hn)
     refine wp_exit (tx (tx (bx (bn (tn ?_)))))
     refine gI a12 s8 ok10 (gM q50 (gT (Ty.nat (i + 1)) rfl (fun A B E G H d0=>rP ((y_add (eI d0) rfl wX).mono (fun τ _ h=>cN (σ:=τ) h))) (gB 0 (gE ok10 fun a20 s17 ok18 D15=>?_))));have o18:=Own.k0 o9 D15.stp
     exact tn ⟨l.length - ((i+1)),by omega,s17,(i+1),T,rfl,(F10.step0 D15.stp),ok18,(cJ (D15.m 2 rfl)),(D15.k q51),(D15.k q52),(D15.k q53),(D15.k q54),o18,by omega,hT3,rfl⟩
  ·
   have ei:i = l.length:=oM;rw [ei] at hT
   refine wp_exit (tx (tx (bx (tn (wp_seq ?_)))))
   refine gI a7 s5 ok6 (gC (Ty.val (Value.slice none 0 0)) (gE ok6 fun a21 s18 ok19 D16=>?_));have o19:=Own.k0 o5 D16.stp;refine tn (wp_seq (wp_seq ?_))
   refine gI a21 s18 ok19 (gC (Ty.int (0:Int)) (gE ok19 fun a22 s19 ok20 D17=>?_));have o20:=Own.k0 o19 D17.stp;refine tn (wp_block ?_)
   have o21:Own s19 6 22 1 (Value.slice none 0 0) 0 (List.map Ty.ints ([]:List (List Int))):=Own.nil _ _ _ _
   refine loop (fun n5 a23 w5=>∃ (t5:GW) (k:Nat) (x12_2:Value),t5.w = w5∧FromL [] σ t5∧Ok 84 [] a23∧At (Ty.nat k) t5 a23 (.tmp 13)∧At (Ty.val x12_2) t5 a23 (.tmp 12)∧At (Ty.nat n) t5 a23 (.tmp 0)∧At (Ty.val x1) t5 a23 (.tmp 7)∧Own t5 6 22 1 x12_2 (List.length (outT T k)) (List.map Ty.ints (outT T k))∧Own t5 5 22 1 x1 (List.length T) (List.map Ty.rowz T)∧(k ≤ n * n)∧n5 = n * n - k) (n * n - (0)) ?_ ?_
   ·
    exact ⟨s19,0,(Value.slice none 0 0),rfl,((F6.step0 D16.stp).step0 D17.stp),ok20,(cJ (D17.m 0 rfl)),(D17.k (D16.m 0 rfl)),(D17.k (D16.k q23)),(D17.k (D16.k q26)),(cvo (by (first | rfl | simp)) (by (first | rfl | simp)) o21),o20,by omega,rfl⟩
   ·
    rintro n6 a24 w6 ⟨t6,k,x12_2,rfl,F22,ok21,q127,q128,q129,q130,o22,o23,hk,rfl⟩
    have hol:=outT_le T k
    have hTl2:=hT.len
    refine wp_seq (wp_seq ?_)
    refine gI a24 t6 ok21 (gM q127 (gM q129 (gM q129 (gT (Ty.nat (n * n)) rfl (fun A B E G H d0 d1=>rP ((y_mul (eI d0) (eI d1) wX).mono (fun τ _ h=>cN (σ:=τ) h))) (gS rfl (fun A B E G H d0 d1=>rP (y_lss (eI d0) (eI d1))) (gE ok21 fun a25 s20 ok22 D18=>?_))))));have F23:=F22.step0 D18.stp;have q131:=D18.k q127;have q132:=D18.k q128;have q134:=D18.k q130;have o24:=Own.k0 o22 D18.stp;have o25:=Own.k0 o23 D18.stp;refine tn ?_
    refine cond_p (p:=(((k:Nat):Int) < (((n * n):Nat):Int))) (D18.m 4 rfl) (fun c5=>?_) (fun c5=>?_)
    ·
     refine wp_skip (tn (wp_seq (wp_block (wp_seq ?_))))
     refine gI a25 s20 ok22 (gM q134 (gM q131 (gT (Ty.val (cellPtr x1 k)) rfl (fun A B E G H d0 d1=>rP (own_index1 (i:=((k:Nat):Int)) Try.underlying24 Try.inf22 (Own.k0 o25 E) (eI d0) (eI d1) oM oM)) (gS rfl (fun A B E G H d0=>rP (own_load Try.underlying22 rfl (Own.k0 o25 E) (eI d0) (lst_get Ty.rowz T [] k oM))) (gT (Ty.bool (decide ((T.getD k []) ≠ []))) rfl (fun A B E G H d0=>rP (y_rzne Try.underlying22 (eI d0) rfl)) (gE ok22 fun a26 s21 ok23 D19=>?_))))));have F24:=F23.step0 D19.stp;have q136:=D19.k q131;have q137:=D19.k q132;have q138:=D19.k (D18.k q129);have q139:=D19.k q134;have o26:=Own.k0 o24 D19.stp;have o27:=Own.k0 o25 D19.stp;refine tn ?_
     refine cond_p (p:=((T.getD k []) ≠ [])) (D19.m 4 rfl) (fun c6=>?_) (fun c6=>?_)
     ·
      refine gI a26 s21 ok23 (gM q137 (gM q139 (gM q136 (gT (Ty.val (cellPtr x1 k)) rfl (fun A B E G H d0 d1=>rP (own_index1 (i:=((k:Nat):Int)) Try.underlying24 Try.inf22 (Own.k0 o27 E) (eI d0) (eI d1) oM oM)) (gT (Ty.lst Ty.int (T.getD k [])) rfl (fun A B E G H d0=>rP ((own_load Try.underlying22 rfl (Own.k0 o27 E) (eI d0) (lst_get Ty.rowz T [] k oM)).mono (fun _ _ h=>rowz_ints h))) (gT (Ty.sl 1 1 [(Ty.lst Ty.int (T.getD k []))]) rfl (fun A B E G H d0=>rP (y_build1o Try.underlying24 Try.inf22 rfl (one_sl) (eI d0))) (gE2 ok23 fun a27 s22 ok24 D20=>?_)))))));have o28:=Own.k0 o26 D20.stp;have o29:=Own.k0 o27 D20.stp
      have q145:At (Ty.val x12_2) s22 a27 (.tmp 76):=D20.done 0 dE
      have q146:=D20.m 5 rfl
      have b2:=sl_le q146
      refine tL ok24 (YldM.toL (m_append Try.underlying24 Try.inf22 dE rfl dE (al (R:=(Pr.own 6 22 1 (List.length (outT T k)) (List.map Ty.ints (outT T k)))) q145 o28) q146 (by intro U hU;simp at hU;subst hU;exact one_sl) oM oM)) fun a28 s23 hs3 ok25 r3 sm2=>?_
      have q148:=kq hs3 sm2 12 (D20.k q137)
      obtain ⟨x2,hx2⟩:∃ x,a28.eval (.tmp 82) = x:=⟨_,rfl⟩
      have q151:At (Ty.val x2) s23 a28 (.tmp 82):=hx2
      have o30:=al2 (R:=(Pr.own 6 22 1 (List.length ((outT T k) ++ [(T.getD k [])])) (List.map Ty.ints ((outT T k) ++ [(T.getD k [])])))) hx2 (cvo (by simp) (by first | (rw [List.map_append];rfl) | simp) r3)
      clear r3
      refine tL ok25 (Yld.toL (y_as q151)) fun a29 s24 hs4 ok26 r4 sm3=>?_
      have q155:At (Ty.val x2) s24 a29 (.tmp 12):=r4
      clear r4;refine wpList_nil (bn (tn ?_))
      refine gI a29 s24 ok26 (gM (kq hs4 sm3 13 (kq hs3 sm2 13 (D20.k q136))) (gT (Ty.nat (k + 1)) rfl (fun A B E G H d0=>rP ((y_add (eI d0) rfl wX).mono (fun τ _ h=>cN (σ:=τ) h))) (gB 0 (gE ok26 fun a30 s25 ok27 D21=>?_))));have o34:=Own.k0 (Own.kl (Own.kl o29 hs3) hs4) D21.stp;have o35:=Own.k0 (Own.kl o30 hs4) D21.stp
      exact tn ⟨n * n - ((k+1)),by omega,s25,(k+1),x2,rfl,((((F24.step0 D20.stp).sl hs3).sl hs4).step0 D21.stp),ok27,(cJ (D21.m 2 rfl)),(D21.k q155),(D21.k (kq hs4 sm3 0 (kq hs3 sm2 0 (D20.k q138)))),(D21.k (kq hs4 sm3 7 (kq hs3 sm2 7 (D20.k q139)))),(cvo (by (first | (rw [outT_yes oM c6];done) | (rw [outT_yes oM c6];simp))) (by (first | (rw [outT_yes oM c6];done) | (rw [outT_yes oM c6];simp))) o35),o34,by omega,rfl⟩
     ·
      have h6:T.getD k [] = []:=Classical.not_not.1 c6
      refine wp_skip (bn (tn ?_))
      refine gI a26 s21 ok23 (gM q136 (gT (Ty.nat (k + 1)) rfl (fun A B E G H d0=>rP ((y_add (eI d0) rfl wX).mono (fun τ _ h=>cN (σ:=τ) h))) (gB 0 (gE ok23 fun a31 s26 ok28 D22=>?_))));have o36:=Own.k0 o26 D22.stp;have o37:=Own.k0 o27 D22.stp
      exact tn ⟨n * n - ((k+1)),by omega,s26,(k+1),x12_2,rfl,(F24.step0 D22.stp),ok28,(cJ (D22.m 2 rfl)),(D22.k q137),(D22.k q138),(D22.k q139),(cvo (by (first | rw [outT_no oM h6] | (rw [outT_no oM h6];simp))) (by (first | rw [outT_no oM h6] | (rw [outT_no oM h6];simp))) o36),o37,by omega,rfl⟩
    ·
     refine wp_exit (tx (tx (bx (tn (wp_seq ?_)))))
     refine gI a25 s20 ok22 (gM q132 (gB 0 (gE ok22 fun a32 s27 ok29 D23=>?_)));have o38:=Own.k0 o24 D23.stp;have o39:=Own.k0 o25 D23.stp
     have q164:At (Ty.val x12_2) s27 a32 (.tmp 6):=D23.done 1
     refine tn (wp_ret ?_)
     obtain ⟨t7,e1,h1,q165⟩:=Own.seal o38 dE
     rw [← e1]
     have F31:=(F23.step0 D23.stp).step h1 dE
     have q166:At (Ty.lst Ty.ints (outT T k)) t7 a32 (.tmp 6):=by have e:a32.eval (.tmp 6) = x12_2:=q164;show Ty.has _ _ _;rw [e];exact q165
     exact retL1 rfl ok29 F31 ⟨T,(cvt (by (rw [show k = n * n by omega])) q166),(by exact hT)⟩
end Go.Proofs.Ytkjifbgofckfeaa
