/- The functions that the law ColourSays reaches, each by its contract. Part 6. -/
import Derived.Test.YtkjifbgofckfeaaColourSaysW5
namespace Go.Proofs.Ytkjifbgofckfeaa
open Go.KL
set_option maxHeartbeats 4000000 in
set_option maxRecDepth 100000 in
theorem rLengths_fn (r:List Int) (σ:GW)  (v0:Value) (hv0:Ty.has (Ty.lst Ty.int r) σ v0)  (hr:IsRow r) :
    FnC Try.prog 84 #[v0] σ (Ty.lst Ty.int (lensL r)):=by
 have hrl:=hr.le
 have hr0:=rowMay_ok.2 hr
 have hcl:(cyclesL r).length ≤ r.length:=cyclesTo_len r r.length
 refine fn_intro0 Try.func84 rfl Try.ntmps84 (Nat.le_of_ble_eq_true rfl) (fun s0 a0 hle F0 ok0 hargs=>?_)
 have p0:=pA hle (hargs 0 _ rfl) hv0
 have b1:=sl_le p0
 clear hargs;refine wp_seq ?_
 refine gI a0 s0 ok0 (gC (Ty.val (Value.slice none 0 0)) (gE ok0 fun a1 s1 ok1 D1=>?_));have q1:=D1.k p0;refine tn (wp_seq ?_)
 refine gI a1 s1 ok1 (gM q1 (gS rfl (fun G H I J O d0=>rP (y_len Try.underlying22 (eI d0))) (gR (Pr.own 20 3 1 (List.length r) (List.map Ty.int (List.replicate (List.length r) 0))) rfl (by intro G H I J O d0 d1;have e1:=ed d0 rfl rfl rfl;exact rP ((y_make (k:=20) (T:=Ty.int 0) (n:=(List.length r)) Try.underlying22 Try.inf3 rfl (fun _=>rfl) e1 e1 oM oM).mono (fun _ _ h=>cvo (by simp) (by simp) h))) (gE2 ok1 fun a2 s2 ok2 D2=>?_))))
 obtain ⟨x1,hx1⟩:∃ x,a2.eval (.tmp 8) = x:=⟨_,rfl⟩
 have q3:At (Ty.val x1) s2 a2 (.tmp 8):=hx1
 have o1:=al2 (R:=(Pr.own 20 3 1 (List.length r) (List.map Ty.int (List.replicate (List.length r) 0)))) hx1 (D2.done 2 dE)
 refine tL ok2 (Yld.toL (y_as q3)) fun a3 s3 hs1 ok3 r1 sm1=>?_
 have q5:At (Ty.val x1) s3 a3 (.tmp 3):=r1
 clear r1;refine wpList_nil (tn (wp_seq ?_))
 refine gI a3 s3 ok3 (gM (kq hs1 sm1 0 (D2.k q1)) (gS rfl (fun G H I J O d0=>rP (y_call _ Try.func85 rfl rfl my1 (rCycles_fn (r) _ _ (eI d0) oX))) (gB 0 (gE ok3 fun a4 s4 ok4 D3=>?_))));have o3:=Own.k0 (Own.kl o1 hs1) D3.stp;refine tn (wp_seq (wp_seq ?_))
 refine gI a4 s4 ok4 (gC (Ty.int (0:Int)) (gE ok4 fun a5 s5 ok5 D4=>?_));have o4:=Own.k0 o3 D4.stp;refine tn (wp_block ?_)
 refine loop (fun n1 a6 w1=>∃ (t1:GW) (k:Nat) (x3_0:Value),t1.w = w1∧FromL [] s0 t1∧Ok 29 [] a6∧At (Ty.nat k) t1 a6 (.tmp 5)∧At (Ty.val x3_0) t1 a6 (.tmp 3)∧At (Ty.lst Ty.ints (cyclesL r)) t1 a6 (.tmp 4)∧Own t1 20 3 1 x3_0 (List.length (lensT r k)) (List.map Ty.int (lensT r k))∧(k ≤ (cyclesL r).length)∧n1 = (cyclesL r).length - k) ((cyclesL r).length - (0)) ?_ ?_
 ·
  exact ⟨s5,0,x1,rfl,(((((F0.step0 D1.stp).step0 D2.stp).sl hs1).step0 D3.stp).step0 D4.stp),ok5,(cJ (D4.m 0 rfl)),(D4.k (D3.k q5)),(D4.k (D3.m 2 rfl)),(cvo (by (first | rfl | (rw [lensT_zero];done) | simp [lensT_zero])) (by (first | rfl | (rw [lensT_zero];done) | simp [lensT_zero])) o4),by omega,rfl⟩
 ·
  rintro n2 a7 w2 ⟨t2,k,x3_0,rfl,F6,ok6,q11,q12,q13,o5,hk,rfl⟩
  have hll:=lensT_len (r:=r) (k:=k)
  refine wp_seq (wp_seq ?_)
  refine gI a7 t2 ok6 (gM q11 (gM q13 (gS rfl (fun G H I J O d0=>rP (y_len Try.underlying24 (eI d0))) (gS rfl (fun G H I J O d0 d1=>rP (y_lss (eI d0) (eI d1))) (gE ok6 fun a8 s6 ok7 D5=>?_)))));have F7:=F6.step0 D5.stp;have q14:=D5.k q11;have q15:=D5.k q12;have q16:=D5.k q13;have o6:=Own.k0 o5 D5.stp;refine tn ?_
  refine cond_p (p:=(((k:Nat):Int) < (((List.length (cyclesL r)):Nat):Int))) (D5.m 3 rfl) (fun c1=>?_) (fun c1=>?_)
  ·
   have hck:=cycl_len hr (show k < (cyclesL r).length by omega);have hlb:=lensT_bd (r:=r) (k:=k) (j:=(((cyclesL r).getD k []).length - 1))
   refine wp_skip (tn (wp_seq (wp_block ?_)))
   refine gI a8 s6 ok7 (gM q15 (gM q16 (gM q14 (gT (Ty.ref [(Ty.lst Ty.int ((cyclesL r).getD k []))]) rfl (fun G H I J O d0 d1=>rP (y_index1 Try.underlying24 Try.inf22 (eI d0) (eI d1) oM (lst_get Ty.ints (cyclesL r) [] k oM))) (gS rfl (fun G H I J O d0=>rP (y_load Try.underlying22 rfl (eI d0) rfl)) (gS rfl (fun G H I J O d0=>rP (y_len Try.underlying22 (eI d0))) (gT (Ty.nat ((List.length ((cyclesL r).getD k [])) - 1)) rfl (fun G H I J O d0=>rP ((y_sub (eI d0) rfl wX).mono (fun τ _ h=>cvi (σ:=τ) oM h))) (gT (Ty.val (cellPtr x3_0 ((List.length ((cyclesL r).getD k [])) - 1))) rfl (fun G H I J O d0 d1=>rP (own_index1 (i:=((((List.length ((cyclesL r).getD k [])) - 1):Nat):Int)) Try.underlying22 Try.inf3 (Own.k0 o6 I) (eI d0) (eI d1) oM oM)) (gS rfl (fun G H I J O d0=>rP (own_load Try.underlying3 rfl (Own.k0 o6 I) (eI d0) (lst_get Ty.int (lensT r k) 0 ((List.length ((cyclesL r).getD k [])) - 1) oM))) (gT (Ty.int (((lensT r k).getD ((List.length ((cyclesL r).getD k [])) - 1) 0) + (1:Int))) rfl (fun G H I J O d0=>rP (y_add (eI d0) rfl wX)) (gT (Ty.val (cellPtr x3_0 ((List.length ((cyclesL r).getD k [])) - 1))) rfl (fun G H I J O d0 d1 d2 d3 d4 d5 d6 d7 d8 d9 d10 d11=>rP (own_index1 (i:=((((List.length ((cyclesL r).getD k [])) - 1):Nat):Int)) Try.underlying22 Try.inf3 (Own.k0 o6 I) (eI d0) (eI d1) oM oM)) (gE2 ok7 fun a9 s7 ok8 D6=>?_))))))))))));have o7:=Own.k0 o6 D6.stp
   refine tailL0 (L:=[20]) (R:=(fun _ τ=>Own τ 20 3 1 x3_0 (List.length (lensT r k)) ((List.map Ty.int (lensT r k)).set ((List.length ((cyclesL r).getD k [])) - 1) (Ty.int (((lensT r k).getD ((List.length ((cyclesL r).getD k [])) - 1) 0) + (1:Int)))))) rfl rfl (YldM.toL (m_store Try.inf3 dE o7 (D6.m 10 rfl) (by simp only [List.length_map,List.length_set];omega) (D6.m 9 rfl) (one_val rfl))) (fun v1 s8 hs2 r2=>?_)
   have q23:=kpL hs2 dE rfl (D6.k q14);have q24:=kpL hs2 dE rfl (D6.k q15);have q25:=kpL hs2 dE rfl (D6.k q16)
   have o8:Own s8 20 3 1 x3_0 (List.length ((lensT r k).set ((List.length ((cyclesL r).getD k [])) - 1) (((lensT r k).getD ((List.length ((cyclesL r).getD k [])) - 1) 0) + (1:Int)))) (List.map Ty.int ((lensT r k).set ((List.length ((cyclesL r).getD k [])) - 1) (((lensT r k).getD ((List.length ((cyclesL r).getD k [])) - 1) 0) + (1:Int)))):=(cvo (by simp) (by first | (simp;done) | (rw [List.map_set];done) | (rw [List.map_set];rfl)) r2)
   clear r2;refine wpList_nil (bn (tn ?_))
   refine gI a9 s8 ok8 (gM q23 (gT (Ty.nat (k + 1)) rfl (fun G H I J O d0=>rP ((y_add (eI d0) rfl wX).mono (fun τ _ h=>cN (σ:=τ) h))) (gB 0 (gE ok8 fun a10 s9 ok9 D7=>?_))));have o9:=Own.k0 o8 D7.stp
   exact tn ⟨(cyclesL r).length - ((k+1)),by omega,s9,(k+1),x3_0,rfl,(((F7.step0 D6.stp).sl hs2).step0 D7.stp),ok9,(cJ (D7.m 2 rfl)),(D7.k q24),(D7.k q25),(cvo (by (first | rfl | (rw [lensT_step hr oM];done) | (rw [← lensT_step hr oM];rfl))) (by (first | rfl | (rw [lensT_step hr oM];done) | (rw [← lensT_step hr oM];rfl))) o9),by omega,rfl⟩
  ·
   have ek:k = (cyclesL r).length:=oM
   refine wp_exit (tx (tx (bx (tn (wp_seq ?_)))))
   refine gI a8 s6 ok7 (gM q15 (gB 0 (gE ok7 fun a11 s10 ok10 D8=>?_)));have o10:=Own.k0 o6 D8.stp
   have q30:At (Ty.val x3_0) s10 a11 (.tmp 2):=D8.done 1
   refine tn (wp_ret ?_)
   obtain ⟨t3,e1,h1,q31⟩:=Own.seal o10 dE
   rw [← e1]
   have F12:=(F7.step0 D8.stp).step h1 dE
   have q32:At (Ty.lst Ty.int (lensT r k)) t3 a11 (.tmp 2):=by have e:a11.eval (.tmp 2) = x3_0:=q30;show Ty.has _ _ _;rw [e];exact q31
   exact retL1 rfl ok10 F12 (cvt (by (rw [ek];rfl)) q32)
set_option maxHeartbeats 4000000 in
set_option maxRecDepth 100000 in
theorem rBelow_fn (a:List Int) (b:List Int) (σ:GW)  (v0 v1:Value) (hv0:Ty.has (Ty.lst Ty.int a) σ v0) (hv1:Ty.has (Ty.lst Ty.int b) σ v1)   :
    FnC Try.prog 67 #[v0,v1] σ (Ty.bool (belowL a b)):=by
 refine fn_intro0 Try.func67 rfl Try.ntmps67 (Nat.le_of_ble_eq_true rfl) (fun s0 a0 hle F0 ok0 hargs=>?_)
 have p0:=pA hle (hargs 0 _ rfl) hv0
 have b1:=sl_le p0
 have p1:=pA hle (hargs 1 _ rfl) hv1
 have b2:=sl_le p1
 clear hargs;refine wp_seq ?_
 refine gI a0 s0 ok0 (gC (Ty.bool false) (gE ok0 fun a1 s1 ok1 D1=>?_));refine tn (wp_seq (wp_seq ?_))
 refine gI a1 s1 ok1 (gC (Ty.int (0:Int)) (gE ok1 fun a2 s2 ok2 D2=>?_));refine tn (wp_block ?_)
 refine loop (fun n1 a3 w1=>∃ (t1:GW) (i:Nat),t1.w = w1∧FromL [] s0 t1∧Ok 41 [] a3∧At (Ty.nat i) t1 a3 (.tmp 5)∧At (Ty.lst Ty.int a) t1 a3 (.tmp 0)∧At (Ty.lst Ty.int b) t1 a3 (.tmp 1)∧(i ≤ a.length)∧(i ≤ b.length)∧(belowL (a.drop i) (b.drop i) = belowL a b)∧n1 = a.length - i) (a.length - (0)) ?_ ?_
 ·
  exact ⟨s2,0,rfl,((F0.step0 D1.stp).step0 D2.stp),ok2,(cJ (D2.m 0 rfl)),(D2.k (D1.k p0)),(D2.k (D1.k p1)),by omega,by omega,rfl,rfl⟩
 ·
  rintro n2 a4 w2 ⟨t2,i,rfl,F3,ok3,q6,q7,q8,hi,hi2,hb,rfl⟩
  refine wp_seq (wp_seq ?_)
  refine gI a4 t2 ok3 (gM q6 (gM q7 (gS rfl (fun G H I J O d0=>rP (y_len Try.underlying22 (eI d0))) (gS rfl (fun G H I J O d0 d1=>rP (y_lss (eI d0) (eI d1))) (gS rfl (fun G H I J O d0=>rP (y_move (eI d0))) (gS rfl (fun G H I J O d0=>gu J (eI d0) fun hg=>y_move (kp (O 5 rfl) I q6)) (gS rfl (fun G H I J O d0=>gu J (eI d0) fun hg=>y_move (kp (O 1 rfl) I q8)) (gS rfl (fun G H I J O d0 d1=>gu J (eI d1) fun hg=>y_len Try.underlying22 ((ef d0 rfl).1 hg)) (gS rfl (fun G H I J O d0 d1 d2=>gu J (eI d2) fun hg=>y_lss ((ef d0 rfl).1 hg) ((ef d1 rfl).1 hg)) (gS rfl (fun G H I J O d0 d1=>rP (y_pick_and (eI d0) (eI d1) rfl)) (gE ok3 fun a5 s3 ok4 D3=>?_)))))))))));have F4:=F3.step0 D3.stp;have q9:=D3.k q6;have q10:=D3.k q7;have q11:=D3.k q8;refine tn ?_
  refine cond_t (D3.m 9 rfl) (fun c1=>?_) (fun c1=>?_)
  ·
   obtain ⟨d1,d2⟩:=Bool.and_eq_true_iff.mp c1
   replace d1:=of_decide_eq_true d1
   replace d2:=of_decide_eq_true d2
   simp only [Bool.and_eq_true,decide_eq_true_eq] at c1
   refine wp_skip (tn (wp_seq (wp_block (wp_seq ?_))))
   refine gI a5 s3 ok4 (gM q10 (gM q9 (gT (Ty.ref [(Ty.int (a.getD i 0))]) rfl (fun G H I J O d0 d1=>rP (y_index1 Try.underlying22 Try.inf3 (eI d0) (eI d1) oM (lst_get Ty.int a 0 i oM))) (gS rfl (fun G H I J O d0=>rP (y_load Try.underlying3 rfl (eI d0) rfl)) (gM q11 (gM q9 (gT (Ty.ref [(Ty.int (b.getD i 0))]) rfl (fun G H I J O d0 d1=>rP (y_index1 Try.underlying22 Try.inf3 (eI d0) (eI d1) oM (lst_get Ty.int b 0 i oM))) (gS rfl (fun G H I J O d0=>rP (y_load Try.underlying3 rfl (eI d0) rfl)) (gS rfl (fun G H I J O d0 d1=>rP (y_neq (eI d0) (eI d1))) (gE ok4 fun a6 s4 ok5 D4=>?_))))))))));have F5:=F4.step0 D4.stp;have q13:=D4.k q9;have q14:=D4.k q10;have q15:=D4.k q11;refine tn ?_
   refine cond_p (p:=((a.getD i 0) ≠ (b.getD i 0))) (D4.m 8 rfl) (fun c2=>?_) (fun c2=>?_)
   ·
    refine wp_seq ?_
    refine gI a6 s4 ok5 (gM q14 (gM q13 (gT (Ty.ref [(Ty.int (a.getD i 0))]) rfl (fun G H I J O d0 d1=>rP (y_index1 Try.underlying22 Try.inf3 (eI d0) (eI d1) oM (lst_get Ty.int a 0 i oM))) (gS rfl (fun G H I J O d0=>rP (y_load Try.underlying3 rfl (eI d0) rfl)) (gM q15 (gM q13 (gT (Ty.ref [(Ty.int (b.getD i 0))]) rfl (fun G H I J O d0 d1=>rP (y_index1 Try.underlying22 Try.inf3 (eI d0) (eI d1) oM (lst_get Ty.int b 0 i oM))) (gS rfl (fun G H I J O d0=>rP (y_load Try.underlying3 rfl (eI d0) rfl)) (gS rfl (fun G H I J O d0 d1=>rP (y_lss (eI d0) (eI d1))) (gB 0 (gE ok5 fun a7 s5 ok6 D5=>?_)))))))))));refine tn (wp_ret (br (tr (tr (br (tr ?_))))))
    exact retL1 rfl ok6 (F5.step0 D5.stp) (cvb (by (exact below_ne hb oM oM (by assumption))) (D5.m 9 rfl))
   ·
    refine wp_skip (bn (tn ?_))
    refine gI a6 s4 ok5 (gM q13 (gT (Ty.int (((i:Nat):Int) + (1:Int))) rfl (fun G H I J O d0=>rP (y_add (eI d0) rfl wX)) (gB 0 (gE ok5 fun a8 s6 ok7 D6=>?_))))
    exact tn ⟨a.length - ((i+1)),by omega,s6,(i+1),rfl,(F5.step0 D6.stp),ok7,(cJ (D6.m 2 rfl)),(D6.k q14),(D6.k q15),by omega,by omega,below_step hb oM oM (by assumption),rfl⟩
  ·
   have hc1:¬ (i < a.length∧i < b.length):=(by intro h;simp only [Bool.and_eq_false_iff,decide_eq_false_iff_not] at c1;omega)
   refine wp_exit (tx (tx (bx (tn (wp_seq ?_)))))
   refine gI a5 s3 ok4 (gM q10 (gS rfl (fun G H I J O d0=>rP (y_len Try.underlying22 (eI d0))) (gM q11 (gS rfl (fun G H I J O d0=>rP (y_len Try.underlying22 (eI d0))) (gS rfl (fun G H I J O d0 d1=>rP (y_lss (eI d0) (eI d1))) (gB 0 (gE ok4 fun a9 s7 ok8 D7=>?_)))))));refine tn (wp_ret ?_)
   exact retL1 rfl ok8 (F4.step0 D7.stp) (cvb (by (exact below_end hb oM oM hc1)) (D7.m 5 rfl))
set_option maxHeartbeats 4000000 in
set_option maxRecDepth 100000 in
theorem rOrdered_fn:∀ (d:Nat) (l:List (List Int)) (σ:GW)  (v0:Value) (hv0:Ty.has (Ty.lst Ty.ints l) σ v0)  (hd:d = l.length) (hl:l.length ≤ 1000000),FnC Try.prog 25 #[v0] σ (Ty.lst Ty.ints (ordS l)):=by
 intro d
 induction d using Nat.strongRecOn with
 | _ d ih =>
 intro l σ v0 hv0 hd hl
 refine fn_intro0 Try.func25 rfl Try.ntmps25 (Nat.le_of_ble_eq_true rfl) (fun s0 a0 hle F0 ok0 hargs=>?_)
 have p0:=pA hle (hargs 0 _ rfl) hv0
 have b1:=sl_le p0
 clear hargs;refine wp_seq ?_
 refine gI a0 s0 ok0 (gC (Ty.val (Value.slice none 0 0)) (gE ok0 fun a1 s1 ok1 D1=>?_));have q1:=D1.k p0;refine tn (wp_seq (wp_seq ?_))
 refine gI a1 s1 ok1 (gM q1 (gS rfl (fun G H I J O d0=>rP (y_len Try.underlying24 (eI d0))) (gS rfl (fun G H I J O d0=>rP (y_lss (eI d0) rfl)) (gE ok1 fun a2 s2 ok2 D2=>?_))));have F2:=(F0.step0 D1.stp).step0 D2.stp;have q2:=D2.k q1;refine tn ?_
 refine cond_p (p:=((((List.length l):Nat):Int) < (2:Int))) (D2.m 2 rfl) (fun c1=>?_) (fun c1=>?_)
 ·
  refine wp_seq ?_
  refine gI a2 s2 ok2 (gM q2 (gB 0 (gE ok2 fun a3 s3 ok3 D3=>?_)));refine tn (wp_ret (tr ?_))
  exact retL1 rfl ok3 (F2.step0 D3.stp) (cvt (by (rw [ordS_small (l:=l) oM])) (D3.m 1 rfl))
 ·
  have htl:(List.take (l.length / 2) l).length = l.length / 2:=(by rw [List.length_take];omega);have hdl:(List.drop (l.length / 2) l).length = l.length - l.length / 2:=List.length_drop;obtain ⟨A,hA⟩:∃ A,A = ordS (List.take (l.length / 2) l):=⟨_,rfl⟩;obtain ⟨B,hB⟩:∃ B,B = ordS (List.drop (l.length / 2) l):=⟨_,rfl⟩;have hAl:A.length = l.length / 2:=(by rw [hA,ordS_len,htl]);have hBl:B.length = l.length - l.length / 2:=(by rw [hB,ordS_len,hdl]);have hT:List.merge A B leL = ordS l:=(by rw [hA,hB];exact (ordS_big (l:=l) oM).symm)
  refine wp_skip (tn (wp_seq ?_))
  refine gI a2 s2 ok2 (gM q2 (gM q2 (gS rfl (fun G H I J O d0=>rP (y_len Try.underlying24 (eI d0))) (gT (Ty.nat ((List.length l) / 2)) rfl (fun G H I J O d0=>rP (y_quoN (eI d0) (toN (σ:=H) rfl oM) oM oM)) (gT (Ty.lst Ty.ints (l.take ((List.length l) / 2))) rfl (fun G H I J O d0 d1=>rP (y_take Try.underlying24 Try.inf22 (eI d0) (eI d1) oM)) (gT (Ty.lst Ty.ints A) rfl (fun G H I J O d0=>rP ((y_call _ Try.func25 rfl rfl my1 (ih (((l.take ((List.length l) / 2))).length) oM ((l.take ((List.length l) / 2))) _ _ (eI d0) oX oX)).mono (fun τ _ h=>cvt (σ:=τ) (T:=(Ty.lst Ty.ints (ordS ((l.take ((List.length l) / 2)))))) (U:=(Ty.lst Ty.ints A)) (by rw [hA]) h))) (gB 0 (gE ok2 fun a4 s4 ok4 D4=>?_))))))));have q5:=D4.k q2;refine tn (wp_seq ?_)
  refine gI a4 s4 ok4 (gM q5 (gM q5 (gS rfl (fun G H I J O d0=>rP (y_len Try.underlying24 (eI d0))) (gT (Ty.nat ((List.length l) / 2)) rfl (fun G H I J O d0=>rP (y_quoN (eI d0) (toN (σ:=H) rfl oM) oM oM)) (gT (Ty.lst Ty.ints (l.drop ((List.length l) / 2))) rfl (fun G H I J O d0 d1=>rP (y_drop Try.underlying24 Try.inf22 (eI d0) (eI d1) oM)) (gT (Ty.lst Ty.ints B) rfl (fun G H I J O d0=>rP ((y_call _ Try.func25 rfl rfl my1 (ih (((l.drop ((List.length l) / 2))).length) oM ((l.drop ((List.length l) / 2))) _ _ (eI d0) oX oX)).mono (fun τ _ h=>cvt (σ:=τ) (T:=(Ty.lst Ty.ints (ordS ((l.drop ((List.length l) / 2)))))) (U:=(Ty.lst Ty.ints B)) (by rw [hB]) h))) (gB 0 (gE ok4 fun a5 s5 ok5 D5=>?_))))))));refine tn (wp_seq ?_)
  refine gI a5 s5 ok5 (gC (Ty.val (Value.slice none 0 0)) (gE ok5 fun a6 s6 ok6 D6=>?_));refine tn (wp_seq ?_)
  refine gI a6 s6 ok6 (gC (Ty.int (0:Int)) (gE ok6 fun a7 s7 ok7 D7=>?_));refine tn (wp_seq ?_)
  refine gI a7 s7 ok7 (gC (Ty.int (0:Int)) (gE ok7 fun a8 s8 ok8 D8=>?_));refine tn (wp_seq (wp_block ?_))
  have o1:Own s8 5 22 1 (Value.slice none 0 0) 0 (List.map Ty.ints ([]:List (List Int))):=Own.nil _ _ _ _
  refine loop (fun n1 a9 w1=>∃ (t1:GW) (i:Nat) (k:Nat) (out:List (List Int)) (x5_0:Value),t1.w = w1∧FromL [] s0 t1∧Ok 75 [] a9∧At (Ty.nat i) t1 a9 (.tmp 6)∧At (Ty.nat k) t1 a9 (.tmp 7)∧At (Ty.val x5_0) t1 a9 (.tmp 5)∧At (Ty.lst Ty.ints A) t1 a9 (.tmp 3)∧At (Ty.lst Ty.ints B) t1 a9 (.tmp 4)∧Own t1 5 22 1 x5_0 (List.length out) (List.map Ty.ints out)∧(out ++ List.merge (A.drop i) (B.drop k) leL = ordS l)∧(i ≤ A.length)∧(k ≤ B.length)∧(out.length = i + k)∧n1 = (A.length + B.length) - (i + k)) ((A.length + B.length) - ((0) + (0))) ?_ ?_
  ·
   exact ⟨s8,0,0,([]:List (List Int)),(Value.slice none 0 0),rfl,(((((F2.step0 D4.stp).step0 D5.stp).step0 D6.stp).step0 D7.stp).step0 D8.stp),ok8,(cvi (by (rfl)) (D8.k (D7.m 0 rfl))),(cvi (by (rfl)) (D8.m 0 rfl)),(D8.k (D7.k (D6.m 0 rfl))),(D8.k (D7.k (D6.k (D5.k (D4.m 6 rfl))))),(D8.k (D7.k (D6.k (D5.m 6 rfl)))),(cvo (by (simp)) (by (simp)) o1),by rw [List.nil_append];exact hT,by omega,by omega,rfl,rfl⟩
  ·
   rintro n2 a10 w2 ⟨t2,i,k,out,x5_0,rfl,F9,ok9,q21,q22,q23,q24,q25,o2,ho,hi,hk,hol,rfl⟩
   refine wp_seq (wp_seq ?_)
   refine gI a10 t2 ok9 (gM q21 (gM q24 (gS rfl (fun G H I J O d0=>rP (y_len Try.underlying24 (eI d0))) (gS rfl (fun G H I J O d0 d1=>rP (y_lss (eI d0) (eI d1))) (gS rfl (fun G H I J O d0=>rP (y_move (eI d0))) (gS rfl (fun G H I J O d0=>gu J (eI d0) fun hg=>y_move (kp (O 7 rfl) I q22)) (gS rfl (fun G H I J O d0=>gu J (eI d0) fun hg=>y_move (kp (O 4 rfl) I q25)) (gS rfl (fun G H I J O d0 d1=>gu J (eI d1) fun hg=>y_len Try.underlying24 ((ef d0 rfl).1 hg)) (gS rfl (fun G H I J O d0 d1 d2=>gu J (eI d2) fun hg=>y_lss ((ef d0 rfl).1 hg) ((ef d1 rfl).1 hg)) (gS rfl (fun G H I J O d0 d1=>rP (y_pick_or (eI d0) rfl (eI d1))) (gE ok9 fun a11 s9 ok10 D9=>?_)))))))))));have F10:=F9.step0 D9.stp;have q26:=D9.k q21;have q27:=D9.k q22;have q28:=D9.k q23;have q29:=D9.k q24;have q30:=D9.k q25;have o3:=Own.k0 o2 D9.stp;refine tn ?_
   refine cond_t (D9.m 9 rfl) (fun c2=>?_) (fun c2=>?_)
   ·
    have hq2:i < A.length ∨ k < B.length:=(by simp only [Bool.or_eq_true,decide_eq_true_eq] at c2;omega)
    refine wp_skip (tn (wp_block (wp_seq ?_)))
    refine gI a11 s9 ok10 (gM q26 (gM q29 (gS rfl (fun G H I J O d0=>rP (y_len Try.underlying24 (eI d0))) (gS rfl (fun G H I J O d0 d1=>rP (y_lss (eI d0) (eI d1))) (gS rfl (fun G H I J O d0=>rP (y_move (eI d0))) (gS rfl (fun G H I J O d0=>gu J (eI d0) fun hg=>y_move (kp (O 7 rfl) I q27)) (gS rfl (fun G H I J O d0=>gu J (eI d0) fun hg=>y_move (kp (O 4 rfl) I q30)) (gS rfl (fun G H I J O d0 d1=>gu J (eI d1) fun hg=>y_len Try.underlying24 ((ef d0 rfl).1 hg)) (gS rfl (fun G H I J O d0 d1 d2=>gu J (eI d2) fun hg=>y_eql ((ef d0 rfl).1 hg) ((ef d1 rfl).1 hg)) (gS rfl (fun G H I J O d0 d1 d2=>gu J (eI d1) fun hg=>y_mv ((ef d0 rfl).1 hg)) (gS rfl (fun G H I J O d0=>gu2 J (eI d0) fun hg=>y_move (kp (O 4 rfl) I q30)) (gS rfl (fun G H I J O d0=>gu2 J (eI d0) fun hg=>y_move (kp (O 7 rfl) I q27)) (gT (Ty.grd (((decide (((i:Nat):Int) < (((List.length A):Nat):Int))) = true)∧(decide (((k:Nat):Int) = (((List.length B):Nat):Int))) = false) (Ty.ref [(Ty.lst Ty.int (B.getD k []))])) rfl (by intro G H I J O d0 d1 d2;refine run_guard2 J rfl rfl dE (eI d2) (fun hg=>?_);have hp:=of_decide_eq_false hg.2;have hp0:=hg.1;try simp only [Bool.and_eq_true,Bool.or_eq_true,decide_eq_true_eq,decide_eq_false_iff_not] at hp0;exact y_index1 Try.underlying24 Try.inf22 ((ef d0 rfl).1 hg) ((ef d1 rfl).1 hg) oM (lst_get Ty.ints B [] k oM)) (gS rfl (fun G H I J O d0 d1=>gu2 J (eI d1) fun hg=>y_load Try.underlying22 rfl ((ef d0 rfl).1 hg) rfl) (gS rfl (fun G H I J O d0=>gu2 J (eI d0) fun hg=>y_move (kp (O 3 rfl) I q29)) ?_)))))))))))))))
    refine gS rfl (fun G H I J O d0=>gu2 J (eI d0) fun hg=>y_move (kp (O 6 rfl) I q26)) (gT (Ty.grd (((decide (((i:Nat):Int) < (((List.length A):Nat):Int))) = true)∧(decide (((k:Nat):Int) = (((List.length B):Nat):Int))) = false) (Ty.ref [(Ty.lst Ty.int (A.getD i []))])) rfl (by intro G H I J O d0 d1 d2;refine run_guard2 J rfl rfl dE (eI d2) (fun hg=>?_);have hp:=of_decide_eq_false hg.2;have hp0:=hg.1;try simp only [Bool.and_eq_true,Bool.or_eq_true,decide_eq_true_eq,decide_eq_false_iff_not] at hp0;exact y_index1 Try.underlying24 Try.inf22 ((ef d0 rfl).1 hg) ((ef d1 rfl).1 hg) oM (lst_get Ty.ints A [] i oM)) (gS rfl (fun G H I J O d0 d1=>gu2 J (eI d1) fun hg=>y_load Try.underlying22 rfl ((ef d0 rfl).1 hg) rfl) (gT (Ty.grd (((decide (((i:Nat):Int) < (((List.length A):Nat):Int))) = true)∧(decide (((k:Nat):Int) = (((List.length B):Nat):Int))) = false) (Ty.bool (belowL ((B.getD k [])) ((A.getD i []))))) rfl (by intro G H I J O d0 d1 d2 d3;refine run_guard2 J rfl rfl dE (eI d2) (fun hg=>?_);have hp:=of_decide_eq_false hg.2;have hp0:=hg.1;try simp only [Bool.and_eq_true,Bool.or_eq_true,decide_eq_true_eq,decide_eq_false_iff_not] at hp0;exact y_call _ Try.func67 rfl rfl my2 (rBelow_fn ((B.getD k [])) ((A.getD i [])) _ _ _ ((ef d0 rfl).1 hg) ((ef d1 rfl).1 hg) )) (gS rfl (fun G H I J O d0 d1=>gu2 J (eI d1) fun hg=>y_not ((ef d0 rfl).1 hg)) (gS rfl (fun G H I J O d0 d1 d2=>gu J (eI d2) fun hg=>y_pick_or ((ef d0 rfl).1 hg) rfl (grd_part hg (eI d1))) (gS rfl (fun G H I J O d0 d1=>rP (y_pick_and (eI d0) (eI d1) rfl)) ?_))))))
    refine gE ok10 fun a12 s10 ok11 D10=>?_;have F11:=F10.step0 D10.stp;have q32:=D10.k q26;have q33:=D10.k q27;have q34:=D10.k q28;have q35:=D10.k q29;have q36:=D10.k q30;have o4:=Own.k0 o3 D10.stp;refine tn ?_
    refine cond_t (D10.m 21 rfl) (fun c3=>?_) (fun c3=>?_)
    ·
     obtain ⟨d1,d2⟩:=Bool.and_eq_true_iff.mp c3
     replace d1:=of_decide_eq_true d1
     simp only [Bool.and_eq_true,Bool.or_eq_true,Bool.not_eq_true',decide_eq_true_eq] at c3;have hiA:i < A.length:=oM;have hx:B.length ≤ k ∨ belowL (B.getD k []) (A.getD i []) = false:=(by rcases c3 with ⟨_,h_ | h_⟩;exact .inl oM;exact .inr h_)
     refine wp_seq ?_
     refine gI a12 s10 ok11 (gM q34 (gM q35 (gM q32 (gT (Ty.ref [(Ty.lst Ty.int (A.getD i []))]) rfl (fun G H I J O d0 d1=>rP (y_index1 Try.underlying24 Try.inf22 (eI d0) (eI d1) oM (lst_get Ty.ints A [] i oM))) (gS rfl (fun G H I J O d0=>rP (y_load Try.underlying22 rfl (eI d0) rfl)) (gT (Ty.sl 1 1 [(Ty.lst Ty.int (A.getD i []))]) rfl (fun G H I J O d0=>rP (y_build1o Try.underlying24 Try.inf22 rfl (one_sl) (eI d0))) (gE2 ok11 fun a13 s11 ok12 D11=>?_)))))));have o5:=Own.k0 o4 D11.stp
     have q43:At (Ty.val x5_0) s11 a13 (.tmp 56):=D11.done 0 dE
     have q44:=D11.m 5 rfl
     have b2:=sl_le q44
     refine tL ok12 (YldM.toL (m_append Try.underlying24 Try.inf22 dE rfl dE (al (R:=(Pr.own 5 22 1 (List.length out) (List.map Ty.ints out))) q43 o5) q44 (by intro U hU;simp at hU;subst hU;exact one_sl) oM oM)) fun a14 s12 hs1 ok13 r1 sm1=>?_
     have q47:=kq hs1 sm1 5 (D11.k q34)
     obtain ⟨x1,hx1⟩:∃ x,a14.eval (.tmp 62) = x:=⟨_,rfl⟩
     have q50:At (Ty.val x1) s12 a14 (.tmp 62):=hx1
     have o6:=al2 (R:=(Pr.own 5 22 1 (List.length (out ++ [(A.getD i [])])) (List.map Ty.ints (out ++ [(A.getD i [])])))) hx1 (cvo (by simp) (by first | (rw [List.map_append];rfl) | simp) r1)
     clear r1
     refine tL ok13 (Yld.toL (y_as q50)) fun a15 s13 hs2 ok14 r2 sm2=>?_
     have q55:At (Ty.val x1) s13 a15 (.tmp 5):=r2
     clear r2;refine wpList_nil (tn ?_)
     refine gI a15 s13 ok14 (gM (kq hs2 sm2 6 (kq hs1 sm1 6 (D11.k q32))) (gT (Ty.nat (i + 1)) rfl (fun G H I J O d0=>rP ((y_add (eI d0) rfl wX).mono (fun τ _ h=>cN (σ:=τ) h))) (gB 0 (gE ok14 fun a16 s14 ok15 D12=>?_))));have o8:=Own.k0 (Own.kl o6 hs2) D12.stp;refine bn ?_
     exact tn ⟨(A.length + B.length) - (((i + 1)) + k),by omega,s14,(i + 1),k,(out ++ [(A.getD i [])]),x1,rfl,((((F11.step0 D11.stp).sl hs1).sl hs2).step0 D12.stp),ok15,(cJ (D12.m 2 rfl)),(D12.k (kq hs2 sm2 7 (kq hs1 sm1 7 (D11.k q33)))),(D12.k q55),(D12.k (kq hs2 sm2 3 (kq hs1 sm1 3 (D11.k q35)))),(D12.k (kq hs2 sm2 4 (kq hs1 sm1 4 (D11.k q36)))),(cvo (by (simp)) (by (simp)) o8),out_left ho oM hx,by omega,by omega,by rw [List.length_append,List.length_singleton];omega,rfl⟩
    ·
     simp only [Bool.and_eq_false_iff,Bool.or_eq_false_iff,Bool.not_eq_false',decide_eq_false_iff_not] at c3;have hkB:k < B.length:=oM;have hx:A.length ≤ i ∨ belowL (B.getD k []) (A.getD i []) = true:=(by rcases c3 with h_ | ⟨_,h_⟩;exact .inl oM;exact .inr h_)
     refine wp_seq ?_
     refine gI a12 s10 ok11 (gM q34 (gM q36 (gM q33 (gT (Ty.ref [(Ty.lst Ty.int (B.getD k []))]) rfl (fun G H I J O d0 d1=>rP (y_index1 Try.underlying24 Try.inf22 (eI d0) (eI d1) oM (lst_get Ty.ints B [] k oM))) (gS rfl (fun G H I J O d0=>rP (y_load Try.underlying22 rfl (eI d0) rfl)) (gT (Ty.sl 1 1 [(Ty.lst Ty.int (B.getD k []))]) rfl (fun G H I J O d0=>rP (y_build1o Try.underlying24 Try.inf22 rfl (one_sl) (eI d0))) (gE2 ok11 fun a17 s15 ok16 D13=>?_)))))));have o9:=Own.k0 o4 D13.stp
     have q66:At (Ty.val x5_0) s15 a17 (.tmp 65):=D13.done 0 dE
     have q67:=D13.m 5 rfl
     have b3:=sl_le q67
     refine tL ok16 (YldM.toL (m_append Try.underlying24 Try.inf22 dE rfl dE (al (R:=(Pr.own 5 22 1 (List.length out) (List.map Ty.ints out))) q66 o9) q67 (by intro U hU;simp at hU;subst hU;exact one_sl) oM oM)) fun a18 s16 hs3 ok17 r3 sm3=>?_
     have q70:=kq hs3 sm3 5 (D13.k q34)
     obtain ⟨x2,hx2⟩:∃ x,a18.eval (.tmp 71) = x:=⟨_,rfl⟩
     have q73:At (Ty.val x2) s16 a18 (.tmp 71):=hx2
     have o10:=al2 (R:=(Pr.own 5 22 1 (List.length (out ++ [(B.getD k [])])) (List.map Ty.ints (out ++ [(B.getD k [])])))) hx2 (cvo (by simp) (by first | (rw [List.map_append];rfl) | simp) r3)
     clear r3
     refine tL ok17 (Yld.toL (y_as q73)) fun a19 s17 hs4 ok18 r4 sm4=>?_
     have q78:At (Ty.val x2) s17 a19 (.tmp 5):=r4
     clear r4;refine wpList_nil (tn ?_)
     refine gI a19 s17 ok18 (gM (kq hs4 sm4 7 (kq hs3 sm3 7 (D13.k q33))) (gT (Ty.nat (k + 1)) rfl (fun G H I J O d0=>rP ((y_add (eI d0) rfl wX).mono (fun τ _ h=>cN (σ:=τ) h))) (gB 0 (gE ok18 fun a20 s18 ok19 D14=>?_))));have o12:=Own.k0 (Own.kl o10 hs4) D14.stp;refine bn ?_
     exact tn ⟨(A.length + B.length) - (i + ((k + 1))),by omega,s18,i,(k + 1),(out ++ [(B.getD k [])]),x2,rfl,((((F11.step0 D13.stp).sl hs3).sl hs4).step0 D14.stp),ok19,(D14.k (kq hs4 sm4 6 (kq hs3 sm3 6 (D13.k q32)))),(cJ (D14.m 2 rfl)),(D14.k q78),(D14.k (kq hs4 sm4 3 (kq hs3 sm3 3 (D13.k q35)))),(D14.k (kq hs4 sm4 4 (kq hs3 sm3 4 (D13.k q36)))),(cvo (by (simp)) (by (simp)) o12),out_right ho oM hx,by omega,by omega,by rw [List.length_append,List.length_singleton];omega,rfl⟩
   ·
    obtain ⟨d3,d4⟩:=Bool.or_eq_false_iff.mp c2
    replace d3:=of_decide_eq_false d3
    replace d4:=of_decide_eq_false d4
    have hq2:A.length ≤ i∧B.length ≤ k:=(by simp only [Bool.or_eq_false_iff,decide_eq_false_iff_not] at c2;omega)
    refine wp_exit (tx (tx (bx (tn (wp_seq ?_)))))
    refine gI a11 s9 ok10 (gM q28 (gB 0 (gE ok10 fun a21 s19 ok20 D15=>?_)));have o13:=Own.k0 o3 D15.stp
    have q84:At (Ty.val x5_0) s19 a21 (.tmp 2):=D15.done 1
    refine tn (wp_ret ?_)
    obtain ⟨t3,e1,h1,q85⟩:=Own.seal o13 dE
    rw [← e1]
    have F21:=(F10.step0 D15.stp).step h1 dE
    have q86:At (Ty.lst Ty.ints out) t3 a21 (.tmp 2):=by have e:a21.eval (.tmp 2) = x5_0:=q84;show Ty.has _ _ _;rw [e];exact q85
    exact retL1 rfl ok20 F21 (cvt (by (rw [out_end ho oM oM])) q86)
set_option maxRecDepth 100000 in
theorem rsame_fn (xs:List Int) (ys:List Int) (σ:GW) (v0 v1:Value) (hv0:Ty.has (Ty.lst Ty.int xs) σ v0) (hv1:Ty.has (Ty.lst Ty.int ys) σ v1)  :
    FnC Try.prog 37 #[v0,v1] σ (Ty.bool (decide (xs = ys))):=by
 refine fn_intro Try.func37 rfl Try.ntmps37 (Nat.le_of_ble_eq_true rfl) (fun s0 a0 hle F0 ok0 hargs=>?_)
 have p0:=pA hle (hargs 0 _ rfl) hv0
 have b1:=sl_le p0
 have p1:=pA hle (hargs 1 _ rfl) hv1
 have b2:=sl_le p1
 clear hargs;refine wp_seq ?_
 refine gI a0 s0 ok0 (gC (Ty.bool false) (gE ok0 fun a1 s1 ok1 D1=>?_));have q1:=D1.k p0;have q2:=D1.k p1;refine tn (wp_seq (wp_seq ?_))
 refine gI a1 s1 ok1 (gM q1 (gS rfl (fun G H I J O d0=>rP (y_len Try.underlying22 (eI d0))) (gM q2 (gS rfl (fun G H I J O d0=>rP (y_len Try.underlying22 (eI d0))) (gS rfl (fun G H I J O d0 d1=>rP (y_neq (eI d0) (eI d1))) (gE ok1 fun a2 s2 ok2 D2=>?_))))));have F2:=(F0.step0 D1.stp).step0 D2.stp;refine tn ?_
 refine cond_p (p:=((((List.length xs):Nat):Int) ≠ (((List.length ys):Nat):Int))) (D2.m 4 rfl) (fun c1=>?_) (fun c1=>?_)
 ·
  refine wp_seq ?_
  refine gI a2 s2 ok2 (gC (Ty.bool false) (gE ok2 fun a3 s3 ok3 D3=>?_));refine tn (wp_ret (tr ?_))
  exact ret1 rfl ok3 (F2.step0 D3.stp) (cvb (by (rw [decide_eq_false];intro e;subst e;omega)) (D3.m 0 rfl))
 ·
  refine wp_skip (tn (wp_seq (wp_seq ?_)))
  refine gI a2 s2 ok2 (gC (Ty.int (0:Int)) (gE ok2 fun a4 s4 ok4 D4=>?_));refine tn (wp_block ?_)
  refine loop (fun n1 a5 w1=>∃ (t1:GW) (k:Nat),t1.w = w1∧From s0 t1∧Ok 26 [] a5∧At (Ty.nat k) t1 a5 (.tmp 5)∧At (Ty.lst Ty.int xs) t1 a5 (.tmp 0)∧At (Ty.lst Ty.int ys) t1 a5 (.tmp 1)∧(k ≤ xs.length)∧(xs.length = ys.length)∧(∀ j,j < k → xs.getD j 0 = ys.getD j 0)∧n1 = xs.length - k) (xs.length - (0)) ?_ ?_
  ·
   exact ⟨s4,0,rfl,(F2.step0 D4.stp),ok4,(cJ (D4.m 0 rfl)),(D4.k (D2.k q1)),(D4.k (D2.k q2)),by omega,by omega,fun j hj=>absurd hj (Nat.not_lt_zero j),rfl⟩
  ·
   rintro n2 a6 w2 ⟨t2,k,rfl,F5,ok5,q10,q11,q12,hk,hl,heq,rfl⟩
   refine wp_seq (wp_seq ?_)
   refine gI a6 t2 ok5 (gM q10 (gM q11 (gS rfl (fun G H I J O d0=>rP (y_len Try.underlying22 (eI d0))) (gS rfl (fun G H I J O d0 d1=>rP (y_lss (eI d0) (eI d1))) (gE ok5 fun a7 s5 ok6 D5=>?_)))));have F6:=F5.step0 D5.stp;have q13:=D5.k q10;have q14:=D5.k q11;have q15:=D5.k q12;refine tn ?_
   refine cond_p (p:=(((k:Nat):Int) < (((List.length xs):Nat):Int))) (D5.m 3 rfl) (fun c2=>?_) (fun c2=>?_)
   ·
    refine wp_skip (tn (wp_seq (wp_block (wp_seq ?_))))
    refine gI a7 s5 ok6 (gM q14 (gM q13 (gT (Ty.ref [(Ty.int (xs.getD k 0))]) rfl (fun G H I J O d0 d1=>rP (y_index1 Try.underlying22 Try.inf3 (eI d0) (eI d1) oM (lst_get Ty.int xs 0 k oM))) (gS rfl (fun G H I J O d0=>rP (y_load Try.underlying3 rfl (eI d0) rfl)) (gM q15 (gM q13 (gT (Ty.ref [(Ty.int (ys.getD k 0))]) rfl (fun G H I J O d0 d1=>rP (y_index1 Try.underlying22 Try.inf3 (eI d0) (eI d1) oM (lst_get Ty.int ys 0 k oM))) (gS rfl (fun G H I J O d0=>rP (y_load Try.underlying3 rfl (eI d0) rfl)) (gS rfl (fun G H I J O d0 d1=>rP (y_neq (eI d0) (eI d1))) (gE ok6 fun a8 s6 ok7 D6=>?_))))))))));have F7:=F6.step0 D6.stp;refine tn ?_
    refine cond_p (p:=((xs.getD k 0) ≠ (ys.getD k 0))) (D6.m 8 rfl) (fun c3=>?_) (fun c3=>?_)
    ·
     refine wp_seq ?_
     refine gI a8 s6 ok7 (gC (Ty.bool false) (gE ok7 fun a9 s7 ok8 D7=>?_));refine tn (wp_ret (br (tr (tr (br (tr ?_))))))
     exact ret1 rfl ok8 (F7.step0 D7.stp) (cvb (by (exact (decide_eq_false (fun e=>by subst e;simp_all)).symm)) (D7.m 0 rfl))
    ·
     refine wp_skip (bn (tn ?_))
     refine gI a8 s6 ok7 (gM (D6.k q13) (gT (Ty.int (((k:Nat):Int) + (1:Int))) rfl (fun G H I J O d0=>rP (y_add (eI d0) rfl wX)) (gB 0 (gE ok7 fun a10 s8 ok9 D8=>?_))))
     exact tn ⟨xs.length - ((k+1)),by omega,s8,(k+1),rfl,(F7.step0 D8.stp),ok9,(cJ (D8.m 2 rfl)),(D8.k (D6.k q14)),(D8.k (D6.k q15)),by omega,by omega,all_snoc heq (by assumption),rfl⟩
   ·
    refine wp_exit (tx (tx (bx (tn (wp_seq ?_)))))
    refine gI a7 s5 ok6 (gC (Ty.bool true) (gE ok6 fun a11 s9 ok10 D9=>?_));refine tn (wp_ret ?_)
    exact ret1 rfl ok10 (F6.step0 D9.stp) (cvb (by (exact (decide_eq_true (list_ext oM (fun j hj=>heq j oM))).symm)) (D9.m 0 rfl))
theorem Try.fld117_1:fieldOf Try.prog 117 1 = some (3,1):=by kernel_rfl
set_option maxHeartbeats 4000000 in
set_option maxRecDepth 100000 in
theorem rKinds_fn (rows:List (List Int)) (σ:GW) (hlow:Low [] σ) (v0:Value) (hv0:Ty.has (Ty.lst Ty.ints rows) σ v0)  (hR:∀ x ∈ rows,IsRow x) (hl:rows.length ≤ 5040) :
    FnL Try.prog 50 #[v0] σ [] (fun v τ=>∃ (K:(List Knd)),(Ty.has (Ty.lstc 2 kndC K) τ v)∧(KindP (rows.map lensL) K)):=by
 refine fn_introL hlow Try.func50 rfl Try.ntmps50 (Nat.le_of_ble_eq_true rfl) (fun a0 F0 ok0 hargs=>?_)
 have p0:=pB (hargs 0 _ rfl) hv0
 have b1:=sl_le p0
 clear hargs;refine wp_seq ?_
 refine gI a0 σ ok0 (gC (Ty.val (Value.slice none 0 0)) (gE ok0 fun a1 s1 ok1 D1=>?_));refine tn (wp_seq ?_)
 refine gI a1 s1 ok1 (gC (Ty.val (Value.slice none 0 0)) (gE ok1 fun a2 s2 ok2 D2=>?_));refine tn (wp_seq (wp_seq ?_))
 refine gI a2 s2 ok2 (gC (Ty.int (0:Int)) (gE ok2 fun a3 s3 ok3 D3=>?_));refine tn (wp_block ?_)
 have o1:Own s3 20 22 1 (Value.slice none 0 0) 0 (List.map Ty.ints ([]:List (List Int))):=Own.nil _ _ _ _
 refine loop (fun n1 a4 w1=>∃ (t1:GW) (i:Nat) (x3_0:Value),t1.w = w1∧FromL [] σ t1∧Ok 67 [] a4∧At (Ty.nat i) t1 a4 (.tmp 4)∧At (Ty.val x3_0) t1 a4 (.tmp 3)∧At (Ty.lst Ty.ints rows) t1 a4 (.tmp 0)∧Own t1 20 22 1 x3_0 (List.length ((rows.take i).map lensL)) (List.map Ty.ints ((rows.take i).map lensL))∧(i ≤ rows.length)∧n1 = rows.length - i) (rows.length - (0)) ?_ ?_
 ·
  exact ⟨s3,0,(Value.slice none 0 0),rfl,(((F0.step0 D1.stp).step0 D2.stp).step0 D3.stp),ok3,(cJ (D3.m 0 rfl)),(D3.k (D2.m 0 rfl)),(D3.k (D2.k (D1.k p0))),(cvo (by (first | rfl | simp)) (by (first | rfl | simp)) o1),by omega,rfl⟩
 ·
  rintro n2 a5 w2 ⟨t2,i,x3_0,rfl,F4,ok4,q7,q8,q9,o2,hi,rfl⟩
  have hml:=lens_map (E:=rows) (f:=lensL) (k:=i)
  refine wp_seq (wp_seq ?_)
  refine gI a5 t2 ok4 (gM q7 (gM q9 (gS rfl (fun G H I J O d0=>rP (y_len Try.underlying24 (eI d0))) (gS rfl (fun G H I J O d0 d1=>rP (y_lss (eI d0) (eI d1))) (gE ok4 fun a6 s4 ok5 D4=>?_)))));have F5:=F4.step0 D4.stp;have q10:=D4.k q7;have q11:=D4.k q8;have q12:=D4.k q9;have o3:=Own.k0 o2 D4.stp;have q13:=D4.m 3 rfl;refine tn ?_
  refine cond_p (p:=(((i:Nat):Int) < (((List.length rows):Nat):Int))) q13 (fun c1=>?_) (fun c1=>?_)
  ·
   have hri:=hR _ (mem_atD [] (show i < rows.length by omega))
   refine wp_skip (tn (wp_seq (wp_block (wp_seq ?_))))
   refine gI a6 s4 ok5 (gM q12 (gM q10 (gT (Ty.ref [(Ty.lst Ty.int (rows.getD i []))]) rfl (fun G H I J O d0 d1=>rP (y_index1 Try.underlying24 Try.inf22 (eI d0) (eI d1) oM (lst_get Ty.ints rows [] i oM))) (gS rfl (fun G H I J O d0=>rP (y_load Try.underlying22 rfl (eI d0) rfl)) (gS rfl (fun G H I J O d0=>rP (y_call _ Try.func84 rfl rfl my1 (rLengths_fn ((rows.getD i [])) _ _ (eI d0) oX))) (gB 0 (gE ok5 fun a7 s5 ok6 D5=>?_)))))));have q15:=D5.k q11;have o4:=Own.k0 o3 D5.stp;refine tn ?_
   refine gI a7 s5 ok6 (gM q15 (gM (D5.m 5 rfl) (gT (Ty.sl 1 1 [(Ty.lst Ty.int (lensL ((rows.getD i []))))]) rfl (fun G H I J O d0=>rP (y_build1o Try.underlying24 Try.inf22 rfl (one_sl) (eI d0))) (gE2 ok6 fun a8 s6 ok7 D6=>?_))));have o5:=Own.k0 o4 D6.stp
   have q21:At (Ty.val x3_0) s6 a8 (.tmp 20):=D6.done 0 dE
   have q22:=D6.m 2 rfl
   have b2:=sl_le q22
   refine tL ok7 (YldM.toL (m_append Try.underlying24 Try.inf22 dE rfl dE (al (R:=(Pr.own 20 22 1 (List.length ((rows.take i).map lensL)) (List.map Ty.ints ((rows.take i).map lensL)))) q21 o5) q22 (by intro U hU;simp at hU;subst hU;exact one_sl) (by first | omega | (simp only [List.length_singleton];omega)) (by first | omega | (simp only [List.length_singleton];omega)))) fun a9 s7 hs1 ok8 r1 sm1=>?_
   have q24:=kq hs1 sm1 3 (D6.k q15)
   obtain ⟨x1,hx1⟩:∃ x,a9.eval (.tmp 23) = x:=⟨_,rfl⟩
   have q26:At (Ty.val x1) s7 a9 (.tmp 23):=hx1
   have o6:=al2 (R:=(Pr.own 20 22 1 (List.length (((rows.take i).map lensL) ++ [(lensL ((rows.getD i [])))])) (List.map Ty.ints (((rows.take i).map lensL) ++ [(lensL ((rows.getD i [])))])))) hx1 (cvo (by simp) (by first | (rw [List.map_append];rfl) | simp) r1)
   clear r1
   refine tL ok8 (Yld.toL (y_as q26)) fun a10 s8 hs2 ok9 r2 sm2=>?_
   have q29:At (Ty.val x1) s8 a10 (.tmp 3):=r2
   clear r2;refine wpList_nil (bn (tn ?_))
   refine gI a10 s8 ok9 (gM (kq hs2 sm2 4 (kq hs1 sm1 4 (D6.k (D5.k q10)))) (gT (Ty.nat (i + 1)) rfl (fun G H I J O d0=>rP ((y_add (eI d0) rfl wX).mono (fun τ _ h=>cN (σ:=τ) h))) (gB 0 (gE ok9 fun a11 s9 ok10 D7=>?_))));have o8:=Own.k0 (Own.kl o6 hs2) D7.stp
   exact tn ⟨rows.length - ((i+1)),by omega,s9,(i+1),x1,rfl,(((((F5.step0 D5.stp).step0 D6.stp).sl hs1).sl hs2).step0 D7.stp),ok10,(cJ (D7.m 2 rfl)),(D7.k q29),(D7.k (kq hs2 sm2 0 (kq hs1 sm1 0 (D6.k (D5.k q12))))),(cvo (by (first | (rw [take_map oM];done) | (rw [take_map oM];rfl))) (by (first | (rw [take_map oM];done) | (rw [take_map oM];rfl))) o8),by omega,rfl⟩
  ·
   have ei:i = rows.length:=oM
   refine wp_exit (tx (tx (bx (tn (wp_seq ?_)))))
   obtain ⟨L,hL⟩:∃ L,L = ordS (rows.map lensL):=⟨_,rfl⟩
   have hLs:L.Pairwise (fun x y=>leL x y = true):=(hL ▸ ordS_sort _)
   have hLp:L.Perm (rows.map lensL):=(hL ▸ ordS_perm _)
   have hLl:L.length = rows.length:=(by rw [hLp.length_eq,List.length_map])
   obtain ⟨t3,e1,h1,q33⟩:=Own.seal o3 dE
   rw [← e1]
   have F11:=F5.step h1 dE;have q34:=Ty.up (Ty.nat i) (h1.le dE) q10
   have q35:At (Ty.lst Ty.ints ((rows.take i).map lensL)) t3 a6 (.tmp 3):=by have e:a6.eval (.tmp 3) = x3_0:=q11;show Ty.has _ _ _;rw [e];exact q33
   have q36:=Ty.up (Ty.lst Ty.ints rows) (h1.le dE) q12;have q37:=Ty.up (Ty.bool (decide (((i:Nat):Int) < (((List.length rows):Nat):Int)))) (h1.le dE) q13
   refine gI a6 t3 ok5 (gM q35 (gS rfl (fun G H I J O d0=>rP (y_call _ Try.func25 rfl rfl my1 (rOrdered_fn ((((rows.take i).map lensL)).length) (((rows.take i).map lensL)) _ _ (eI d0) oX oX))) (gB 0 (gE ok5 fun a12 s10 ok11 D8=>?_))))
   have q39:At (Ty.lst Ty.ints L) s10 a12 (.tmp 3):=(cvt (by (rw [hL,ei,List.take_length])) (D8.m 2 rfl))
   refine tn (wp_seq ?_)
   refine gI a12 s10 ok11 (gC (Ty.val (Value.slice none 0 0)) (gE ok11 fun a13 s11 ok12 D9=>?_));refine tn (wp_seq (wp_seq ?_))
   refine gI a13 s11 ok12 (gC (Ty.int (0:Int)) (gE ok12 fun a14 s12 ok13 D10=>?_));refine tn (wp_block ?_)
   have o9:Own s12 21 117 2 (Value.slice none 0 0) 0 (List.flatMap kndC ([]:List Knd)):=Own.nil _ _ _ _
   refine loop (fun n3 a15 w3=>∃ (t4:GW) (k:Nat) (K:(List Knd)) (x6_1:Value),t4.w = w3∧FromL [] σ t4∧Ok 67 [] a15∧At (Ty.nat k) t4 a15 (.tmp 7)∧At (Ty.val x6_1) t4 a15 (.tmp 6)∧At (Ty.lst Ty.ints L) t4 a15 (.tmp 3)∧Own t4 21 117 2 x6_1 (List.length K) (List.flatMap kndC K)∧(k ≤ L.length)∧(KindP (L.take k) K)∧n3 = L.length - k) (L.length - (0)) ?_ ?_
   ·
    exact ⟨s12,0,([]:List Knd),(Value.slice none 0 0),rfl,(((F11.step0 D8.stp).step0 D9.stp).step0 D10.stp),ok13,(cJ (D10.m 0 rfl)),(D10.k (D9.m 0 rfl)),(D10.k (D9.k q39)),(cvo (by (simp)) (by (simp)) o9),by omega,KindP.nil,rfl⟩
   ·
    rintro n4 a16 w4 ⟨t5,k,K,x6_1,rfl,F15,ok14,q45,q46,q47,o10,hk,hKP,rfl⟩
    have hKl:=hKP.len
    have hKt:=List.length_take_le k L
    refine wp_seq (wp_seq ?_)
    refine gI a16 t5 ok14 (gM q45 (gM q47 (gS rfl (fun G H I J O d0=>rP (y_len Try.underlying24 (eI d0))) (gS rfl (fun G H I J O d0 d1=>rP (y_lss (eI d0) (eI d1))) (gE ok14 fun a17 s13 ok15 D11=>?_)))));have F16:=F15.step0 D11.stp;have q49:=D11.k q46;have o11:=Own.k0 o10 D11.stp;refine tn ?_
    refine cond_p (p:=(((k:Nat):Int) < (((List.length L):Nat):Int))) (D11.m 3 rfl) (fun c2=>?_) (fun c2=>?_)
    ·
     refine wp_skip (tn (wp_seq (wp_block (wp_seq ?_))))
     refine gI a17 s13 ok15 (gM q49 (gT (Ty.nat (List.length K)) rfl (fun G H I J O d0=>rP (own_len Try.underlying73 (al (R:=(Pr.own 21 117 2 (List.length K) (List.flatMap kndC K))) (eI d0) (Own.k0 o11 I)))) (gB 0 (gE ok15 fun a18 s14 ok16 D12=>?_))));have q52:=D12.k (D11.k q45);have q53:=D12.k q49;have q54:=D12.k (D11.k q47);have o12:=Own.k0 o11 D12.stp;have q55:=D12.m 2 rfl;refine tn (wp_seq ?_)
     refine gI a18 s14 ok16 (gM q55 (gS rfl (fun G H I J O d0=>rP (y_gtr (eI d0) rfl)) (gS rfl (fun G H I J O d0=>rP (y_move (eI d0))) (gS rfl (fun G H I J O d0=>gu J (eI d0) fun hg=>y_move (kp (O 6 rfl) I q53)) (gS rfl (fun G H I J O d0=>gu J (eI d0) fun hg=>y_move (kp (O 8 rfl) I q55)) (gT (Ty.grd ((decide ((0:Int) < (((List.length K):Nat):Int))) = true) (Ty.nat ((List.length K) - 1))) rfl (fun G H I J O d0 d1=>gut J (eI d1) fun hg hp=>(y_sub ((ef d0 rfl).1 hg) rfl wX).mono (fun τ _ h=>cvi (σ:=τ) oM h)) (gT (Ty.grd ((decide ((0:Int) < (((List.length K):Nat):Int))) = true) (Ty.val (cellPtr x6_1 (((List.length K) - 1) * 2)))) rfl (fun G H I J O d0 d1 d2=>gut J (eI d2) fun hg hp=>y_idxc (i:=((List.length K) - 1)) Try.underlying73 Try.inf117 (Own.k0 o12 I) ((ef d0 rfl).1 hg) ((ef d1 rfl).1 hg) oM) (gT (Ty.grd ((decide ((0:Int) < (((List.length K):Nat):Int))) = true) (Ty.val (cellPtr x6_1 (((List.length K) - 1) * 2 + 0)))) rfl (fun G H I J O d0 d1=>gut J (eI d1) fun hg hp=>y_fieldcc Try.fld117_0 Try.inf22 dE (Own.k0 o12 I) oM ((ef d0 rfl).1 hg)) (gS rfl (fun G H I J O d0 d1=>gut J (eI d1) fun hg hp=>own_load Try.underlying22 rfl (Own.k0 o12 I) ((ef d0 rfl).1 hg) (knds_get (xs:=K) (i:=((List.length K) - 1)) (f:=0) oM dE rfl)) (gS rfl (fun G H I J O d0=>gu J (eI d0) fun hg=>y_move (kp (O 3 rfl) I q54)) (gS rfl (fun G H I J O d0=>gu J (eI d0) fun hg=>y_move (kp (O 7 rfl) I q52)) ?_)))))))))))
     refine gT (Ty.grd ((decide ((0:Int) < (((List.length K):Nat):Int))) = true) (Ty.ref [(Ty.lst Ty.int (L.getD k []))])) rfl (fun G H I J O d0 d1 d2=>gut J (eI d2) fun hg hp=>y_index1 Try.underlying24 Try.inf22 ((ef d0 rfl).1 hg) ((ef d1 rfl).1 hg) oM (lst_get Ty.ints L [] k oM)) (gS rfl (fun G H I J O d0 d1=>gu J (eI d1) fun hg=>y_load Try.underlying22 rfl ((ef d0 rfl).1 hg) rfl) (gS rfl (fun G H I J O d0 d1 d2 d3=>gut J (eI d2) fun hg hp=>y_call _ Try.func37 rfl rfl my2 (rsame_fn (((K.getD ((List.length K) - 1) ([],0))).1) ((L.getD k [])) _ _ _ ((ef d0 rfl).1 hg) ((ef d1 rfl).1 hg) )) (gS rfl (fun G H I J O d0 d1=>rP (y_pick_and (eI d0) (eI d1) rfl)) (gE ok16 fun a19 s15 ok17 D13=>?_))));have F18:=(F16.step0 D12.stp).step0 D13.stp;have q56:=D13.k q52;have q57:=D13.k q53;have q58:=D13.k q54;have o13:=Own.k0 o12 D13.stp;refine tn ?_
     refine cond_t (D13.m 14 rfl) (fun c3=>?_) (fun c3=>?_)
     ·
      obtain ⟨d1,d2⟩:=Bool.and_eq_true_iff.mp c3
      replace d1:=of_decide_eq_true d1
      simp only [Bool.and_eq_true,decide_eq_true_eq] at c3;have hK0:0 < K.length:=oM;have hKP4:=hKP.again (show k < L.length by omega) hK0 c3.2;have hKb:=hKP.bd _ (mem_atD ([],0) (show K.length - 1 < K.length by omega))
      refine gI a19 s15 ok17 (gM q57 (gM (D13.k q55) (gT (Ty.nat ((List.length K) - 1)) rfl (fun G H I J O d0=>rP ((y_sub (eI d0) rfl wX).mono (fun τ _ h=>cvi (σ:=τ) oM h))) (gT (Ty.val (cellPtr x6_1 (((List.length K) - 1) * 2))) rfl (fun G H I J O d0 d1=>rP (y_idxc (i:=((List.length K) - 1)) Try.underlying73 Try.inf117 (Own.k0 o13 I) (eI d0) (eI d1) oM)) (gT (Ty.val (cellPtr x6_1 (((List.length K) - 1) * 2 + 1))) rfl (fun G H I J O d0=>rP (y_fieldcc Try.fld117_1 Try.inf3 dE (Own.k0 o13 I) oM (eI d0))) (gS rfl (fun G H I J O d0=>rP (own_load Try.underlying3 rfl (Own.k0 o13 I) (eI d0) (knds_get (xs:=K) (i:=((List.length K) - 1)) (f:=1) oM dE rfl))) (gT (Ty.int (((K.getD ((List.length K) - 1) ([],0))).2 + (1:Int))) rfl (fun G H I J O d0=>rP (y_add (eI d0) rfl wX)) (gT (Ty.val (cellPtr x6_1 (((List.length K) - 1) * 2))) rfl (fun G H I J O d0 d1 d2 d3 d4 d5 d6 d7 d8=>rP (y_idxc (i:=((List.length K) - 1)) Try.underlying73 Try.inf117 (Own.k0 o13 I) (eI d0) (eI d1) oM)) (gT (Ty.val (cellPtr x6_1 (((List.length K) - 1) * 2 + 1))) rfl (fun G H I J O d0 d1 d2 d3 d4 d5 d6 d7=>rP (y_fieldcc Try.fld117_1 Try.inf3 dE (Own.k0 o13 I) oM (eI d0))) (gE2 ok17 fun a20 s16 ok18 D14=>?_))))))))));have o14:=Own.k0 o13 D14.stp
      refine tailL0 (L:=[21]) (R:=(fun _ τ=>Own τ 21 117 2 x6_1 (List.length K) ((List.flatMap kndC K).set (((List.length K) - 1) * 2 + 1) (Ty.int (((K.getD ((List.length K) - 1) ([],0))).2 + (1:Int)))))) rfl rfl (YldM.toL (m_store Try.inf3 dE o14 (D14.m 8 rfl) (by rw [knds_len];omega) (D14.m 6 rfl) (one_val rfl))) (fun v1 s17 hs3 r3=>?_)
      have q66:=kpL hs3 dE rfl (D14.k q56);have q67:=kpL hs3 dE rfl (D14.k q57);have q68:=kpL hs3 dE rfl (D14.k q58)
      have o15:Own s17 21 117 2 x6_1 (List.length K) (List.flatMap kndC (K.set ((List.length K) - 1) ((K.getD ((List.length K) - 1) ([],0)).1,(((K.getD ((List.length K) - 1) ([],0))).2 + (1:Int))))):=(cvo rfl (knds_set oM) r3)
      clear r3;refine wpList_nil (bn (tn ?_))
      refine gI a20 s17 ok18 (gM q66 (gT (Ty.nat (k + 1)) rfl (fun G H I J O d0=>rP ((y_add (eI d0) rfl wX).mono (fun τ _ h=>cN (σ:=τ) h))) (gB 0 (gE ok18 fun a21 s18 ok19 D15=>?_))));have o16:=Own.k0 o15 D15.stp
      exact tn ⟨L.length - ((k+1)),by omega,s18,(k+1),(K.set (K.length - 1) ((K.getD (K.length - 1) ([],0)).1,(K.getD (K.length - 1) ([],0)).2 + 1)),x6_1,rfl,(((F18.step0 D14.stp).sl hs3).step0 D15.stp),ok19,(cJ (D15.m 2 rfl)),(D15.k q67),(D15.k q68),(cvo (by (simp)) (by (simp)) o16),by omega,hKP4,rfl⟩
     ·
      simp only [Bool.and_eq_false_iff,decide_eq_false_iff_not] at c3;have hKP4:=hKP.last (show k < L.length by omega) hLs (by (by_cases h_:K.length = 0;exact .inl h_;exact .inr (c3.resolve_left oM)))
      refine gI a19 s15 ok17 (gM q57 (gM q58 (gM q56 (gT (Ty.ref [(Ty.lst Ty.int (L.getD k []))]) rfl (fun G H I J O d0 d1=>rP (y_index1 Try.underlying24 Try.inf22 (eI d0) (eI d1) oM (lst_get Ty.ints L [] k oM))) (gS rfl (fun G H I J O d0=>rP (y_load Try.underlying22 rfl (eI d0) rfl)) (gT (Ty.agg [(Ty.lst Ty.int (L.getD k [])),(Ty.int (1:Int))]) rfl (fun G H I J O d0=>rP (y_bld [(0,(.tmp 62),(Ty.lst Ty.int (L.getD k []))),(1,((Operand.const (Value.int IntKind.i64 1))),(Ty.int (1:Int)))] [(Ty.val (Value.slice none 0 0)),(Ty.int (0:Int))] (l:=[(0,1),(1,1)]) rfl Try.inf117 rfl (alloc_vals (vs:=[.slice none 0 0,.int .i64 0]) rfl) rfl (by intro p hp;simp only [List.mem_cons,List.not_mem_nil,or_false] at hp;rcases hp with rfl | rfl;exact ⟨one_sl,(eI d0)⟩;exact ⟨one_val rfl,rfl⟩))) (gT (Ty.lstc 2 kndC [((L.getD k []),(1:Int))]) rfl (fun G H I J O d0=>rP (y_build1c (c:=2) Try.underlying73 Try.inf117 rfl dE dE rfl (eI d0))) (gE2 ok17 fun a22 s19 ok20 D16=>?_))))))));have o17:=Own.k0 o13 D16.stp
      have q76:At (Ty.val x6_1) s19 a22 (.tmp 58):=D16.done 0 dE
      have q77:=D16.m 6 rfl
      have b3:=sl_le q77
      refine tL ok20 (YldM.toL (m_append Try.underlying73 Try.inf117 dE rfl dE (al (R:=(Pr.own 21 117 2 (List.length K) (List.flatMap kndC K))) q76 o17) q77 (one_flat kndOne) (by first | omega | (simp only [List.length_singleton];omega)) (by first | omega | (simp only [List.length_singleton];omega)))) fun a23 s20 hs4 ok21 r4 sm3=>?_
      have q79:=kq hs4 sm3 6 (D16.k q57)
      obtain ⟨x2,hx2⟩:∃ x,a23.eval (.tmp 65) = x:=⟨_,rfl⟩
      have q81:At (Ty.val x2) s20 a23 (.tmp 65):=hx2
      have o18:=al2 (R:=(Pr.own 21 117 2 (List.length (K ++ [((L.getD k []),(1:Int))])) (List.flatMap kndC (K ++ [((L.getD k []),(1:Int))])))) hx2 (cvo (by simp) (by first | (rw [List.map_append];rfl) | simp) r4)
      clear r4
      refine tL ok21 (Yld.toL (y_as q81)) fun a24 s21 hs5 ok22 r5 sm4=>?_
      have q84:At (Ty.val x2) s21 a24 (.tmp 6):=r5
      clear r5;refine wpList_nil (bn (tn ?_))
      refine gI a24 s21 ok22 (gM (kq hs5 sm4 7 (kq hs4 sm3 7 (D16.k q56))) (gT (Ty.nat (k + 1)) rfl (fun G H I J O d0=>rP ((y_add (eI d0) rfl wX).mono (fun τ _ h=>cN (σ:=τ) h))) (gB 0 (gE ok22 fun a25 s22 ok23 D17=>?_))));have o20:=Own.k0 (Own.kl o18 hs5) D17.stp
      exact tn ⟨L.length - ((k+1)),by omega,s22,(k+1),(K ++ [(L.getD k [],1)]),x2,rfl,((((F18.step0 D16.stp).sl hs4).sl hs5).step0 D17.stp),ok23,(cJ (D17.m 2 rfl)),(D17.k q84),(D17.k (kq hs5 sm4 3 (kq hs4 sm3 3 (D16.k q58)))),(cvo (by (simp)) (by (simp)) o20),by omega,hKP4,rfl⟩
    ·
     have ek:k = L.length:=oM
     refine wp_exit (tx (tx (bx (tn (wp_seq ?_)))))
     refine gI a17 s13 ok15 (gM q49 (gB 0 (gE ok15 fun a26 s23 ok24 D18=>?_)));have o21:=Own.k0 o11 D18.stp
     have q88:At (Ty.val x6_1) s23 a26 (.tmp 2):=D18.done 1
     refine tn (wp_ret ?_)
     obtain ⟨t6,e2,h2,q89⟩:=Own.seal o21 dE
     rw [← e2]
     have F27:=(F16.step0 D18.stp).step h2 dE
     have q90:At (Ty.lstc 2 kndC K) t6 a26 (.tmp 2):=by have e:a26.eval (.tmp 2) = x6_1:=q88;show Ty.has _ _ _;rw [e];exact q89
     exact retL1 rfl ok24 F27 ⟨K,q90,(by exact KindP.perm (by (have h_:=hKP;rw [ek,List.take_length] at h_;exact h_)) hLp)⟩
set_option maxHeartbeats 4000000 in
set_option maxRecDepth 100000 in
theorem sameKinds_fn (K:List Knd) (σ:GW)  (v0 v1:Value) (hv0:Ty.has (Ty.lstc 2 kndC K) σ v0) (hv1:Ty.has (Ty.lstc 2 kndC K) σ v1)  (hK:K.length ≤ 1000000) :
    FnC Try.prog 49 #[v0,v1] σ (Ty.bool true):=by
 refine fn_intro0 Try.func49 rfl Try.ntmps49 (Nat.le_of_ble_eq_true rfl) (fun s0 a0 hle F0 ok0 hargs=>?_)
 have p0:=pA hle (hargs 0 _ rfl) hv0
 have b1:=sl_le p0
 have p1:=pA hle (hargs 1 _ rfl) hv1
 have b2:=sl_le p1
 clear hargs;refine wp_seq ?_
 refine gI a0 s0 ok0 (gC (Ty.bool false) (gE ok0 fun a1 s1 ok1 D1=>?_));have q1:=D1.k p0;have q2:=D1.k p1;refine tn (wp_seq (wp_seq ?_))
 refine gI a1 s1 ok1 (gM q1 (gS rfl (fun G H I J O d0=>rP (y_len Try.underlying73 (ef d0 rfl))) (gM q2 (gS rfl (fun G H I J O d0=>rP (y_len Try.underlying73 (ef d0 rfl))) (gS rfl (fun G H I J O d0 d1=>rP (y_neq (ef d0 rfl) (ef d1 rfl))) (gE ok1 fun a2 s2 ok2 D2=>?_))))));refine tn ?_
 refine cond_p (p:=((((List.length K):Nat):Int) ≠ (((List.length K):Nat):Int))) (D2.m 4 rfl) (fun c1=>?_) (fun c1=>?_)
 ·
  exfalso
  omega
 ·
  refine wp_skip (tn (wp_seq (wp_seq ?_)))
  refine gI a2 s2 ok2 (gC (Ty.int (0:Int)) (gE ok2 fun a3 s3 ok3 D3=>?_));refine tn (wp_block ?_)
  refine loop (fun n1 a4 w1=>∃ (t1:GW) (i:Nat),t1.w = w1∧FromL [] s0 t1∧Ok 44 [] a4∧At (Ty.nat i) t1 a4 (.tmp 5)∧At (Ty.lstc 2 kndC K) t1 a4 (.tmp 0)∧At (Ty.lstc 2 kndC K) t1 a4 (.tmp 1)∧(i ≤ K.length)∧n1 = K.length - i) (K.length - (0)) ?_ ?_
  ·
   exact ⟨s3,0,rfl,(((F0.step0 D1.stp).step0 D2.stp).step0 D3.stp),ok3,(cvi (by (first | rfl | omega | (simp_all;done) | (simp_all;omega))) (D3.m 0 rfl)),(D3.k (D2.k q1)),(D3.k (D2.k q2)),by omega,rfl⟩
  ·
   rintro n2 a5 w2 ⟨t2,i,rfl,F4,ok4,q9,q10,q11,hi,rfl⟩
   refine wp_seq (wp_seq ?_)
   refine gI a5 t2 ok4 (gM q9 (gM q10 (gS rfl (fun G H I J O d0=>rP (y_len Try.underlying73 (ef d0 rfl))) (gS rfl (fun G H I J O d0 d1=>rP (y_lss (ef d0 rfl) (ef d1 rfl))) (gE ok4 fun a6 s4 ok5 D4=>?_)))));have F5:=F4.step0 D4.stp;have q12:=D4.k q9;have q13:=D4.k q10;have q14:=D4.k q11;refine tn ?_
   refine cond_p (p:=(((i:Nat):Int) < (((List.length K):Nat):Int))) (D4.m 3 rfl) (fun c2=>?_) (fun c2=>?_)
   ·
    refine wp_skip (tn (wp_seq (wp_block (wp_seq ?_))))
    refine gI a6 s4 ok5 (gM q13 (gM q12 (gT (Ty.ref [(Ty.lst Ty.int ((K.getD i ([],0))).1),(Ty.int ((K.getD i ([],0))).2)]) rfl (fun G H I J O d0 d1=>rP (y_indexc (i:=((i:Nat):Int)) ([],0) Try.underlying73 Try.inf117 (ef d0 rfl) (ef d1 rfl) (by omega) (by omega) (by decide) (fun _=>rfl))) (gS rfl (fun G H I J O d0=>rP (y_field Try.fld117_0 Try.inf22 (by decide) (ef d0 rfl) rfl)) (gS rfl (fun G H I J O d0=>rP (y_load Try.underlying22 rfl (ef d0 rfl) rfl)) (gM q14 (gM q12 (gT (Ty.ref [(Ty.lst Ty.int ((K.getD i ([],0))).1),(Ty.int ((K.getD i ([],0))).2)]) rfl (fun G H I J O d0 d1=>rP (y_indexc (i:=((i:Nat):Int)) ([],0) Try.underlying73 Try.inf117 (ef d0 rfl) (ef d1 rfl) (by omega) (by omega) (by decide) (fun _=>rfl))) (gS rfl (fun G H I J O d0=>rP (y_field Try.fld117_0 Try.inf22 (by decide) (ef d0 rfl) rfl)) (gS rfl (fun G H I J O d0=>rP (y_load Try.underlying22 rfl (ef d0 rfl) rfl)) (gS rfl (fun G H I J O d0 d1=>rP (y_call _ Try.func37 rfl rfl my2 (rsame_fn (((K.getD i ([],0))).1) (((K.getD i ([],0))).1) _ _ _ (ef d0 rfl) (ef d1 rfl) ))) (gB 0 (gE ok5 fun a7 s5 ok6 D5=>?_)))))))))))));have q16:=D5.k q12;have q17:=D5.k q13;have q18:=D5.k q14;refine tn (wp_seq ?_)
    refine gI a7 s5 ok6 (gM (D5.m 11 rfl) (gS rfl (fun G H I J O d0=>rP (y_not (ef d0 rfl))) (gS rfl (fun G H I J O d0=>rP (y_move (ef d0 rfl))) (gS rfl (fun G H I J O d0=>gu J (ef d0 rfl) fun hg=>y_move (kp (O 0 rfl) I q17)) (gS rfl (fun G H I J O d0=>gu J (ef d0 rfl) fun hg=>y_move (kp (O 5 rfl) I q16)) (gT (Ty.grd ((!(decide ((((K.getD i ([],0))).1) = (((K.getD i ([],0))).1)))) = false) (Ty.ref [(Ty.lst Ty.int ((K.getD i ([],0))).1),(Ty.int ((K.getD i ([],0))).2)])) rfl (fun G H I J O d0 d1 d2=>gu J (ef d2 rfl) fun hg=>y_indexc (i:=((i:Nat):Int)) ([],0) Try.underlying73 Try.inf117 ((ef d0 rfl).1 hg) ((ef d1 rfl).1 hg) (by omega) (by omega) (by decide) (fun _=>rfl)) (gS rfl (fun G H I J O d0 d1=>gu J (ef d1 rfl) fun hg=>y_field Try.fld117_1 Try.inf3 (by decide) ((ef d0 rfl).1 hg) rfl) (gS rfl (fun G H I J O d0 d1=>gu J (ef d1 rfl) fun hg=>y_load Try.underlying3 rfl ((ef d0 rfl).1 hg) rfl) (gS rfl (fun G H I J O d0=>gu J (ef d0 rfl) fun hg=>y_move (kp (O 1 rfl) I q18)) (gS rfl (fun G H I J O d0=>gu J (ef d0 rfl) fun hg=>y_move (kp (O 5 rfl) I q16)) (gT (Ty.grd ((!(decide ((((K.getD i ([],0))).1) = (((K.getD i ([],0))).1)))) = false) (Ty.ref [(Ty.lst Ty.int ((K.getD i ([],0))).1),(Ty.int ((K.getD i ([],0))).2)])) rfl (fun G H I J O d0 d1 d2=>gu J (ef d2 rfl) fun hg=>y_indexc (i:=((i:Nat):Int)) ([],0) Try.underlying73 Try.inf117 ((ef d0 rfl).1 hg) ((ef d1 rfl).1 hg) (by omega) (by omega) (by decide) (fun _=>rfl)) (gS rfl (fun G H I J O d0 d1=>gu J (ef d1 rfl) fun hg=>y_field Try.fld117_1 Try.inf3 (by decide) ((ef d0 rfl).1 hg) rfl) ?_))))))))))))
    refine gS rfl (fun G H I J O d0 d1=>gu J (ef d1 rfl) fun hg=>y_load Try.underlying3 rfl ((ef d0 rfl).1 hg) rfl) (gS rfl (fun G H I J O d0 d1 d2=>gu J (ef d2 rfl) fun hg=>y_neq ((ef d0 rfl).1 hg) ((ef d1 rfl).1 hg)) (gS rfl (fun G H I J O d0 d1=>rP (y_pick_or (ef d0 rfl) rfl (ef d1 rfl))) (gE ok6 fun a8 s6 ok7 D6=>?_)));have F7:=(F5.step0 D5.stp).step0 D6.stp;refine tn ?_
    refine cond_t (D6.m 14 rfl) (fun c3=>?_) (fun c3=>?_)
    ·
     refine wp_seq ?_
     refine gI a8 s6 ok7 (gC (Ty.bool false) (gE ok7 fun a9 s7 ok8 D7=>?_));refine tn (wp_ret (br (tr (tr (br (tr ?_))))))
     exact retL1 rfl ok8 (F7.step0 D7.stp) (cvb (by (first | rfl | omega | (simp_all;done) | (simp_all;omega))) (D7.m 0 rfl))
    ·
     obtain ⟨d1,d2⟩:=Bool.or_eq_false_iff.mp c3
     replace d2:=of_decide_eq_false d2
     refine wp_skip (bn (tn ?_))
     refine gI a8 s6 ok7 (gM (D6.k q16) (gT (Ty.nat (i + 1)) rfl (fun G H I J O d0=>rP ((y_add (ef d0 rfl) rfl (w64 (by omega) (by omega))).mono (fun τ _ h=>cvi (σ:=τ) (by first | omega | exact (Int.natCast_mul _ _).symm) h))) (gB 0 (gE ok7 fun a10 s8 ok9 D8=>?_))))
     exact tn ⟨K.length - ((i+1)),by omega,s8,(i+1),rfl,(F7.step0 D8.stp),ok9,(cvi (by (first | rfl | omega | (simp_all;done) | (simp_all;omega))) (D8.m 2 rfl)),(D8.k (D6.k q17)),(D8.k (D6.k q18)),by omega,rfl⟩
   ·
    refine wp_exit (tx (tx (bx (tn (wp_seq ?_)))))
    refine gI a6 s4 ok5 (gC (Ty.bool true) (gE ok5 fun a11 s9 ok10 D9=>?_));refine tn (wp_ret ?_)
    exact retL1 rfl ok10 (F5.step0 D9.stp) (D9.m 0 rfl)
theorem sameK2_fn (K K2:List Knd) (σ:GW) (v0 v1:Value) (hv0:Ty.has (Ty.lstc 2 kndC K) σ v0) (hv1:Ty.has (Ty.lstc 2 kndC K2) σ v1) (hK:K.length ≤ 1000000) (hKK:K2 = K) :
    FnC Try.prog 49 #[v0,v1] σ (Ty.bool true):=by
  subst hKK;exact sameKinds_fn K2 σ v0 v1 hv0 hv1 hK
set_option maxHeartbeats 4000000 in
set_option maxRecDepth 100000 in
theorem countA_fn (n:Int) (gens:List (List Int)) (colours:Int) (σ:GW) (hlow:Low [] σ) (v0 v1 v2:Value) (hv0:Ty.has (Ty.int n) σ v0) (hv1:Ty.has (Ty.lst Ty.ints gens) σ v1) (hv2:Ty.has (Ty.int colours) σ v2)  (hbc:colours < 0 ∨ 8 < colours) :
    FnL Try.prog 51 #[v0,v1,v2] σ [] (fun v τ=>∃ (z:Nat),∃ (e:Int),(Ty.has (Ty.tup2 (Ty.nat z) (Ty.int e)) τ v)∧(CntP n gens colours z e)):=by
 refine fn_introL hlow Try.func51 rfl Try.ntmps51 (Nat.le_of_ble_eq_true rfl) (fun a0 F0 ok0 hargs=>?_)
 have p0:=pB (hargs 0 _ rfl) hv0
 have p1:=pB (hargs 1 _ rfl) hv1
 have b1:=sl_le p1
 have p2:=pB (hargs 2 _ rfl) hv2
 clear hargs;refine wp_seq ?_
 refine gI a0 σ ok0 (gC (Ty.int (0:Int)) (gC (Ty.int (0:Int)) (gE ok0 fun a1 s1 ok1 D1=>?_)));have q3:=D1.k p2;refine tn (wp_seq (wp_seq ?_))
 refine gI a1 s1 ok1 (gM q3 (gS rfl (fun G H I J O d0=>rP (y_lss (eI d0) rfl)) (gS rfl (fun G H I J O d0=>rP (y_move (eI d0))) (gS rfl (fun G H I J O d0=>gu J (eI d0) fun hg=>y_move (kp (O 2 rfl) I q3)) (gS rfl (fun G H I J O d0 d1=>gu J (eI d1) fun hg=>y_gtr ((ef d0 rfl).1 hg) rfl) (gS rfl (fun G H I J O d0 d1=>rP (y_pick_or (eI d0) rfl (eI d1))) (gE ok1 fun a2 s2 ok2 D2=>?_)))))));refine tn ?_
 refine cond_t (D2.m 5 rfl) (fun c1=>?_) (fun c1=>?_)
 ·
  refine wp_seq ?_
  refine gI a2 s2 ok2 (gC (Ty.int (0:Int)) (gC (Ty.int (12:Int)) (gE ok2 fun a3 s3 ok3 D3=>?_)));refine tn (wp_ret (tr ?_))
  exact retL2 rfl ok3 (((F0.step0 D1.stp).step0 D2.stp).step0 D3.stp) ⟨0,(12:Int),(hasT2 (cvi (by (rfl)) (D3.m 0 rfl)) (cvi (by (rfl)) (D3.m 1 rfl))),(by exact CntP.bad hbc)⟩
 ·
  exfalso
  simp only [Bool.or_eq_false_iff,decide_eq_false_iff_not] at c1;omega
set_option maxHeartbeats 4000000 in
set_option maxRecDepth 100000 in
theorem countB_fn (n:Int) (gens:List (List Int)) (C:Nat) (σ:GW) (hlow:Low [] σ) (v0 v1 v2:Value) (hv0:Ty.has (Ty.int n) σ v0) (hv1:Ty.has (Ty.lst Ty.ints gens) σ v1) (hv2:Ty.has (Ty.nat C) σ v2)  (hC:C ≤ 8) (hbad:gensMay n gens ≠ 0) :
    FnL Try.prog 51 #[v0,v1,v2] σ [] (fun v τ=>∃ (z:Nat),∃ (e:Int),(Ty.has (Ty.tup2 (Ty.nat z) (Ty.int e)) τ v)∧(CntP n gens (C:Int) z e)):=by
 refine fn_introL hlow Try.func51 rfl Try.ntmps51 (Nat.le_of_ble_eq_true rfl) (fun a0 F0 ok0 hargs=>?_)
 have p0:=pB (hargs 0 _ rfl) hv0
 have p1:=pB (hargs 1 _ rfl) hv1
 have b1:=sl_le p1
 have p2:=pB (hargs 2 _ rfl) hv2
 clear hargs;refine wp_seq ?_
 refine gI a0 σ ok0 (gC (Ty.int (0:Int)) (gC (Ty.int (0:Int)) (gE ok0 fun a1 s1 ok1 D1=>?_)));have q3:=D1.k p2;refine tn (wp_seq (wp_seq ?_))
 refine gI a1 s1 ok1 (gM q3 (gS rfl (fun G H I J O d0=>rP (y_lss (eI d0) rfl)) (gS rfl (fun G H I J O d0=>rP (y_move (eI d0))) (gS rfl (fun G H I J O d0=>gu J (eI d0) fun hg=>y_move (kp (O 2 rfl) I q3)) (gS rfl (fun G H I J O d0 d1=>gu J (eI d1) fun hg=>y_gtr ((ef d0 rfl).1 hg) rfl) (gS rfl (fun G H I J O d0 d1=>rP (y_pick_or (eI d0) rfl (eI d1))) (gE ok1 fun a2 s2 ok2 D2=>?_)))))));refine tn ?_
 refine cond_t (D2.m 5 rfl) (fun c1=>?_) (fun c1=>?_)
 ·
  exfalso
  simp only [Bool.or_eq_true,decide_eq_true_eq] at c1;omega
 ·
  obtain ⟨d1,d2⟩:=Bool.or_eq_false_iff.mp c1
  replace d1:=of_decide_eq_false d1
  replace d2:=of_decide_eq_false d2
  refine wp_skip (tn (wp_seq ?_))
  refine gI a2 s2 ok2 (gM (D2.k (D1.k p0)) (gM (D2.k (D1.k p1)) (gS rfl (fun G H I J O d0 d1=>rP (y_call _ Try.func48 rfl rfl my2 (cKindsA_fn (n) (gens) _ _ _ (eI d0) (eI d1) oX))) (gS rfl (fun G H I J O d0=>rP (y_move (eI d0))) (gT (Ty.lstc 2 kndC ([]:List Knd)) rfl (fun G H I J O d0=>rP (y_ext2_0 (eI d0))) (gT (Ty.int (gensMay n gens)) rfl (fun G H I J O d0 d1=>rP (y_ext2_1 (eI d0))) (gB 0 (gB 0 (gE ok2 fun a3 s3 ok3 D3=>?_)))))))));have q10:=D3.m 7 rfl;refine tn (wp_seq (wp_seq ?_))
  refine gI a3 s3 ok3 (gM q10 (gS rfl (fun G H I J O d0=>rP (y_neq (eI d0) rfl)) (gE ok3 fun a4 s4 ok4 D4=>?_)));refine tn ?_
  refine cond_p (p:=((gensMay n gens) ≠ (0:Int))) (D4.m 1 rfl) (fun c2=>?_) (fun c2=>?_)
  ·
   refine wp_seq ?_
   refine gI a4 s4 ok4 (gM (D4.k q10) (gC (Ty.int (0:Int)) (gB 0 (gE ok4 fun a5 s5 ok5 D5=>?_))));refine tn (wp_ret (tr ?_))
   exact retL2 rfl ok5 (((((F0.step0 D1.stp).step0 D2.stp).step0 D3.stp).step0 D4.stp).step0 D5.stp) ⟨0,(gensMay n gens),(hasT2 (cvi (by (rfl)) (D5.m 1 rfl)) (cvi (by (rfl)) (D5.m 2 rfl))),(by exact CntP.gen hC hbad)⟩
  ·
   exfalso
   exact c2 hbad
set_option maxHeartbeats 4000000 in
set_option maxRecDepth 100000 in
theorem countC_fn (n:Nat) (gens:List (List Int)) (C:Nat) (σ:GW) (hlow:Low [] σ) (v0 v1 v2:Value) (hv0:Ty.has (Ty.nat n) σ v0) (hv1:Ty.has (Ty.lst Ty.ints gens) σ v1) (hv2:Ty.has (Ty.nat C) σ v2)  (hC:C ≤ 8) (hG0:gensMay (n:Int) gens = 0) (hL:5040 < szTo n (fun y=>y ∈ gens) n) :
    FnL Try.prog 51 #[v0,v1,v2] σ [] (fun v τ=>∃ (z:Nat),∃ (e:Int),(Ty.has (Ty.tup2 (Ty.nat z) (Ty.int e)) τ v)∧(CntP (n:Int) gens (C:Int) z e)):=by
 refine fn_introL hlow Try.func51 rfl Try.ntmps51 (Nat.le_of_ble_eq_true rfl) (fun a0 F0 ok0 hargs=>?_)
 have p0:=pB (hargs 0 _ rfl) hv0
 have p1:=pB (hargs 1 _ rfl) hv1
 have b1:=sl_le p1
 have p2:=pB (hargs 2 _ rfl) hv2
 clear hargs;refine wp_seq ?_
 refine gI a0 σ ok0 (gC (Ty.int (0:Int)) (gC (Ty.int (0:Int)) (gE ok0 fun a1 s1 ok1 D1=>?_)));have q3:=D1.k p2;refine tn (wp_seq (wp_seq ?_))
 refine gI a1 s1 ok1 (gM q3 (gS rfl (fun G H I J O d0=>rP (y_lss (eI d0) rfl)) (gS rfl (fun G H I J O d0=>rP (y_move (eI d0))) (gS rfl (fun G H I J O d0=>gu J (eI d0) fun hg=>y_move (kp (O 2 rfl) I q3)) (gS rfl (fun G H I J O d0 d1=>gu J (eI d1) fun hg=>y_gtr ((ef d0 rfl).1 hg) rfl) (gS rfl (fun G H I J O d0 d1=>rP (y_pick_or (eI d0) rfl (eI d1))) (gE ok1 fun a2 s2 ok2 D2=>?_)))))));refine tn ?_
 refine cond_t (D2.m 5 rfl) (fun c1=>?_) (fun c1=>?_)
 ·
  exfalso
  simp only [Bool.or_eq_true,decide_eq_true_eq] at c1;omega
 ·
  obtain ⟨d1,d2⟩:=Bool.or_eq_false_iff.mp c1
  replace d1:=of_decide_eq_false d1
  replace d2:=of_decide_eq_false d2
  refine wp_skip (tn (wp_seq ?_))
  refine gI a2 s2 ok2 (gM (D2.k (D1.k p0)) (gM (D2.k (D1.k p1)) (gS rfl (fun G H I J O d0 d1=>rP (y_call _ Try.func48 rfl rfl my2 (cKindsB_fn (n) (gens) _ _ _ (eI d0) (eI d1) oX oX))) (gS rfl (fun G H I J O d0=>rP (y_move (eI d0))) (gT (Ty.lstc 2 kndC ([]:List Knd)) rfl (fun G H I J O d0=>rP (y_ext2_0 (eI d0))) (gT (Ty.int (3:Int)) rfl (fun G H I J O d0 d1=>rP (y_ext2_1 (eI d0))) (gB 0 (gB 0 (gE ok2 fun a3 s3 ok3 D3=>?_)))))))));have q10:=D3.m 7 rfl;refine tn (wp_seq (wp_seq ?_))
  refine gI a3 s3 ok3 (gM q10 (gT (Ty.bool true) rfl (fun G H I J O d0=>rP ((y_neq (eI d0) rfl).mono (fun τ _ h=>cvb (σ:=τ) dE h))) (gE ok3 fun a4 s4 ok4 D4=>?_)));refine tn ?_
  refine cond_t (D4.m 1 rfl) (fun _=>?_) (fun c2=>(by cases c2))
  refine wp_seq ?_
  refine gI a4 s4 ok4 (gM (D4.k q10) (gC (Ty.int (0:Int)) (gB 0 (gE ok4 fun a5 s5 ok5 D5=>?_))));refine tn (wp_ret (tr ?_))
  exact retL2 rfl ok5 (((((F0.step0 D1.stp).step0 D2.stp).step0 D3.stp).step0 D4.stp).step0 D5.stp) ⟨0,(3:Int),(hasT2 (cvi (by (rfl)) (D5.m 1 rfl)) (cvi (by (rfl)) (D5.m 2 rfl))),(by exact CntP.lim hC hG0 hL)⟩
end Go.Proofs.Ytkjifbgofckfeaa
