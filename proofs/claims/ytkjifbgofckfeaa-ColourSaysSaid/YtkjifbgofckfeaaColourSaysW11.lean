/- The functions that the law ColourSays reaches, each by its contract. Part 11. -/
import Derived.Test.YtkjifbgofckfeaaColourSaysW10
namespace Go.Proofs.Ytkjifbgofckfeaa
open Go.KL
set_option maxHeartbeats 4000000 in
set_option maxRecDepth 100000 in
theorem cwOk_fn (n:Nat) (gens:List (List Int)) (many:List Int) (rows:List (List Int)) (σ:GW)  (v0 v1 v2 v3 v4:Value) (hv0:Ty.has (Ty.nat n) σ v0) (hv1:Ty.has (Ty.lst Ty.ints gens) σ v1) (hv2:Ty.has (Ty.lst Ty.int many) σ v2) (hv3:Ty.has (Ty.lst Ty.ints rows) σ v3) (hv4:Ty.has (Ty.int (0:Int)) σ v4)  (hok:manyOk (n:Int) many) (heq:alT many many.length = (n:Int)) (hn:1 ≤ n∧n ≤ 12) (hG0:gensMay (n:Int) gens = 0) (hL:szTo n (fun y=>y ∈ gens) n ≤ 5040) (hRr:∀ x ∈ rows,RowN n x) (hRm:∀ x,x ∈ rows ↔ Cl n (fun y=>y ∈ gens) x) (hRl:rows.length ≤ 5040) :
    FnC Try.prog 54 #[v0,v1,v2,v3,v4] σ (Ty.bool true):=by
 have hok1:=hok.1
 refine fn_intro0 Try.func54 rfl Try.ntmps54 (Nat.le_of_ble_eq_true rfl) (fun s0 a0 hle F0 ok0 hargs=>?_)
 have p0:=pA hle (hargs 0 _ rfl) hv0
 have p1:=pA hle (hargs 1 _ rfl) hv1
 have b1:=sl_le p1
 have p2:=pA hle (hargs 2 _ rfl) hv2
 have b2:=sl_le p2
 have p3:=pA hle (hargs 3 _ rfl) hv3
 have b3:=sl_le p3
 have p4:=pA hle (hargs 4 _ rfl) hv4
 clear hargs;refine wp_seq ?_
 refine gI a0 s0 ok0 (gC (Ty.bool false) (gE ok0 fun a1 s1 ok1 D1=>?_));have q1:=D1.k p0;have q3:=D1.k p2;refine tn (wp_seq ?_)
 refine gI a1 s1 ok1 (gM q1 (gM (D1.k p1) (gM q3 (gE2 ok1 fun a2 s2 ok2 D2=>?_))))
 refine tL ok2 (y_callL (L:=[]) [] [] _ rfl dE Try.func62 rfl rfl my3 (withE_fn (n) (gens) (many) _ lW _ _ _ (uL (D2.m 0 rfl)) (uL (D2.m 1 rfl)) (uL (D2.m 2 rfl))  oX oX oX oX)) fun a3 s3 hs1 ok3 r1 sm1=>?_
 obtain ⟨t1,⟨g1,hT1,hp1⟩,B1⟩:=r1
 have q17:At (Ty.tup2 (Ty.nat (g1)) (Ty.int (0:Int))) s3 a3 (.tmp 29):=Ty.up _ B1.le hT1
 refine tL ok3 (Yld.toL (y_mv q17)) fun a4 s4 hs2 ok4 r2 sm2=>?_
 have q22:At (Ty.tup2 (Ty.nat (g1)) (Ty.int (0:Int))) s4 a4 (.tmp 25):=r2
 clear r2
 refine tL (R:=(fun v τ=>Pr.has (Ty.pr (Ty.nat (g1))) τ v)) ok4 (Yld.toL (y_ext2_0 q22)) fun a5 s5 hs3 ok5 r3 sm3=>?_
 have q28:At (Ty.nat (g1)) s5 a5 (.tmp 30):=r3
 clear r3
 refine tL (R:=(fun v τ=>Pr.has (Ty.pr (Ty.int (0:Int))) τ v)) ok5 (Yld.toL (y_ext2_1 (kq hs3 sm3 25 q22))) fun a6 s6 hs4 ok6 r4 sm4=>?_
 have q34:At (Ty.int (0:Int)) s6 a6 (.tmp 31):=r4
 clear r4
 refine tL ok6 (Yld.toL (y_as (kq hs4 sm4 30 q28))) fun a7 s7 hs5 ok7 r5 sm5=>?_
 have q40:At (Ty.nat (g1)) s7 a7 (.tmp 11):=r5
 clear r5
 refine tL ok7 (Yld.toL (y_as (kq hs5 sm5 31 q34))) fun a8 s8 hs6 ok8 r6 sm6=>?_
 have q46:At (Ty.int (0:Int)) s8 a8 (.tmp 12):=r6
 clear r6;refine wpList_nil (tn (wp_seq ?_))
 obtain ⟨E,hE,hLE⟩:=hp1
 refine gI a8 s8 ok8 (gM (kq hs6 sm6 4 (kq hs5 sm5 4 (kq hs4 sm4 4 (kq hs3 sm3 4 (kq hs2 sm2 4 (kq hs1 sm1 4 (D2.k (D1.k p4)))))))) (gB 0 (gE ok8 fun a9 s9 ok9 D3=>?_)));refine tn (wp_seq ?_)
 refine gI a9 s9 ok9 (gC (Ty.int (0:Int)) (gE ok9 fun a10 s10 ok10 D4=>?_));have q54:=D4.k (D3.k (kq hs6 sm6 2 (kq hs5 sm5 2 (kq hs4 sm4 2 (kq hs3 sm3 2 (kq hs2 sm2 2 (kq hs1 sm1 2 (D2.k q3))))))));refine tn (wp_seq ?_)
 refine gI a10 s10 ok10 (gM q54 (gS rfl (fun A B G H I d0=>rP (y_len Try.underlying22 (eI d0))) (gS rfl (fun A B G H I d0=>rP (y_gtr (eI d0) rfl)) (gB 0 (gE ok10 fun a11 s11 ok11 D5=>?_)))));refine tn (wp_seq (wp_seq ?_))
 refine gI a11 s11 ok11 (gC (Ty.int (0:Int)) (gE ok11 fun a12 s12 ok12 D6=>?_));refine tn (wp_block ?_)
 refine loop (fun n1 a13 w1=>∃ (t2:GW) (i:Nat),t2.w = w1∧FromL [] s0 t2∧Ok 140 [] a13∧At (Ty.nat i) t2 a13 (.tmp 16)∧At (Ty.int (alT many i)) t2 a13 (.tmp 14)∧At (Ty.bool (decide ((8:Int) < (((List.length (many)):Nat):Int)))) t2 a13 (.tmp 15)∧At (Ty.nat n) t2 a13 (.tmp 0)∧At (Ty.lst Ty.int many) t2 a13 (.tmp 2)∧At (Ty.lst Ty.ints rows) t2 a13 (.tmp 3)∧At (Ty.nat (g1)) t2 a13 (.tmp 11)∧At (Ty.int (0:Int)) t2 a13 (.tmp 12)∧At (Ty.int (0:Int)) t2 a13 (.tmp 13)∧(i ≤ many.length)∧(∀ k,k < i → 0 ≤ many.getD k 0∧many.getD k 0 ≤ n)∧(0 < i → many.length ≤ 8)∧n1 = many.length - i) (many.length - (0)) ?_ ?_
 ·
  exact ⟨s12,0,rfl,((((((((((((F0.step0 D1.stp).step0 D2.stp).sl hs1).sl hs2).sl hs3).sl hs4).sl hs5).sl hs6).step0 D3.stp).step0 D4.stp).step0 D5.stp).step0 D6.stp),ok12,(cJ (D6.m 0 rfl)),(cvi (by (rfl)) (D6.k (D5.k (D4.m 0 rfl)))),(cvb (by (rfl)) (D6.k (D5.m 3 rfl))),(D6.k (D5.k (D4.k (D3.k (kq hs6 sm6 0 (kq hs5 sm5 0 (kq hs4 sm4 0 (kq hs3 sm3 0 (kq hs2 sm2 0 (kq hs1 sm1 0 (D2.k q1))))))))))),(D6.k (D5.k q54)),(D6.k (D5.k (D4.k (D3.k (kq hs6 sm6 3 (kq hs5 sm5 3 (kq hs4 sm4 3 (kq hs3 sm3 3 (kq hs2 sm2 3 (kq hs1 sm1 3 (D2.k (D1.k p3)))))))))))),(D6.k (D5.k (D4.k (D3.k (kq hs6 sm6 11 q40))))),(D6.k (D5.k (D4.k (D3.k q46)))),(D6.k (D5.k (D4.k (D3.m 1 rfl)))),by omega,fun k h=>by omega,by omega,rfl⟩
 ·
  rintro n2 a14 w2 ⟨t3,i,rfl,F13,ok13,q77,q78,q79,q80,q81,q82,q83,q84,q85,hi,hA,hl8,rfl⟩
  refine wp_seq (wp_seq ?_)
  refine gI a14 t3 ok13 (gM q77 (gM q81 (gS rfl (fun A B G H I d0=>rP (y_len Try.underlying22 (eI d0))) (gS rfl (fun A B G H I d0 d1=>rP (y_lss (eI d0) (eI d1))) (gE ok13 fun a15 s13 ok14 D7=>?_)))));have F14:=F13.step0 D7.stp;have q86:=D7.k q77;have q87:=D7.k q78;have q88:=D7.k q79;have q89:=D7.k q80;have q90:=D7.k q81;have q91:=D7.k q82;have q92:=D7.k q83;have q93:=D7.k q84;have q94:=D7.k q85;refine tn ?_
  refine cond_p (p:=(((i:Nat):Int) < (((List.length many):Nat):Int))) (D7.m 3 rfl) (fun c1=>?_) (fun c1=>?_)
  ·
   refine wp_skip (tn (wp_seq (wp_block (wp_seq (wp_seq ?_)))))
   refine gI a15 s13 ok14 (gM q88 (gS rfl (fun A B G H I d0=>rP (y_move (eI d0))) (gS rfl (fun A B G H I d0=>gu H (eI d0) fun hg=>y_move (kp (I 2 rfl) G q90)) (gS rfl (fun A B G H I d0=>gu H (eI d0) fun hg=>y_move (kp (I 16 rfl) G q86)) (gT (Ty.grd ((decide ((8:Int) < (((List.length (many)):Nat):Int))) = false) (Ty.ref [(Ty.int (many.getD i 0))])) rfl (fun A B G H I d0 d1 d2=>gu H (eI d2) fun hg=>y_index1 Try.underlying22 Try.inf3 ((ef d0 rfl).1 hg) ((ef d1 rfl).1 hg) oM (lst_get Ty.int many 0 i oM)) (gS rfl (fun A B G H I d0 d1=>gu H (eI d1) fun hg=>y_load Try.underlying3 rfl ((ef d0 rfl).1 hg) rfl) (gS rfl (fun A B G H I d0 d1=>gu H (eI d1) fun hg=>y_lss ((ef d0 rfl).1 hg) rfl) (gS rfl (fun A B G H I d0 d1=>rP (y_pick_or (eI d0) rfl (eI d1))) (gS rfl (fun A B G H I d0 d1=>rP (y_move (eI d0))) (gT (Ty.grd (((decide ((8:Int) < (((List.length (many)):Nat):Int))) || (decide ((many.getD i 0) < (0:Int)))) = false) (Ty.lst Ty.int many)) rfl (by intro A B G H I d0;refine run_guard H rfl rfl dE (eI d0) (fun hg=>?_);obtain ⟨d1,d2⟩:=Bool.or_eq_false_iff.mp hg;have d2:=of_decide_eq_false d2;exact y_move (kp (I 2 rfl) G q90)) (gT (Ty.grd (((decide ((8:Int) < (((List.length (many)):Nat):Int))) || (decide ((many.getD i 0) < (0:Int)))) = false) (Ty.nat i)) rfl (by intro A B G H I d0;refine run_guard H rfl rfl dE (eI d0) (fun hg=>?_);obtain ⟨d3,d4⟩:=Bool.or_eq_false_iff.mp hg;have d4:=of_decide_eq_false d4;exact y_move (kp (I 16 rfl) G q86)) ?_)))))))))))
   refine gT (Ty.grd (((decide ((8:Int) < (((List.length (many)):Nat):Int))) || (decide ((many.getD i 0) < (0:Int)))) = false) (Ty.ref [(Ty.int (many.getD i 0))])) rfl (by intro A B G H I d0 d1 d2;refine run_guard H rfl rfl dE (eI d2) (fun hg=>?_);obtain ⟨d5,d6⟩:=Bool.or_eq_false_iff.mp hg;have d6:=of_decide_eq_false d6;exact y_index1 Try.underlying22 Try.inf3 ((ef d0 rfl).1 hg) ((ef d1 rfl).1 hg) oM (lst_get Ty.int many 0 i oM)) (gT (Ty.grd (((decide ((8:Int) < (((List.length (many)):Nat):Int))) || (decide ((many.getD i 0) < (0:Int)))) = false) (Ty.int (many.getD i 0))) rfl (by intro A B G H I d0 d1;refine run_guard H rfl rfl dE (eI d1) (fun hg=>?_);obtain ⟨d7,d8⟩:=Bool.or_eq_false_iff.mp hg;have d8:=of_decide_eq_false d8;exact y_load Try.underlying3 rfl ((ef d0 rfl).1 hg) rfl) (gT (Ty.grd (((decide ((8:Int) < (((List.length (many)):Nat):Int))) || (decide ((many.getD i 0) < (0:Int)))) = false) (Ty.nat n)) rfl (by intro A B G H I d0;refine run_guard H rfl rfl dE (eI d0) (fun hg=>?_);obtain ⟨d9,d10⟩:=Bool.or_eq_false_iff.mp hg;have d10:=of_decide_eq_false d10;exact y_move (kp (I 0 rfl) G q89)) (gT (Ty.grd (((decide ((8:Int) < (((List.length (many)):Nat):Int))) || (decide ((many.getD i 0) < (0:Int)))) = false) (Ty.bool (decide (((n:Nat):Int) < (many.getD i 0))))) rfl (by intro A B G H I d0 d1 d2;refine run_guard H rfl rfl dE (eI d2) (fun hg=>?_);obtain ⟨d11,d12⟩:=Bool.or_eq_false_iff.mp hg;have d12:=of_decide_eq_false d12;exact y_gtr ((ef d0 rfl).1 hg) ((ef d1 rfl).1 hg)) (gS rfl (fun A B G H I d0 d1=>rP (y_pick_or (eI d0) rfl (eI d1))) (gE ok14 fun a16 s14 ok15 D8=>?_)))));have q96:=D8.k q86;have q100:=D8.k q90;refine tn ?_
   refine cond_t (D8.m 15 rfl) (fun c2=>?_) (fun c2=>?_)
   ·
    exfalso
    (simp only [Bool.or_eq_true,decide_eq_true_eq] at c2;have h_:=hok.2 i oM;omega)
   ·
    obtain ⟨d13,d14⟩:=Bool.or_eq_false_iff.mp c2
    obtain ⟨d15,d16⟩:=Bool.or_eq_false_iff.mp d13
    replace d16:=of_decide_eq_false d16
    replace d14:=of_decide_eq_false d14
    simp only [Bool.or_eq_false_iff,decide_eq_false_iff_not] at c2;have hA2:∀ k,k < i + 1 → 0 ≤ many.getD k 0∧many.getD k 0 ≤ n:=fun k hk=>(by (by_cases e_:k = i;(rw [e_];omega);exact hA k oM))
    refine wp_skip (tn ?_)
    refine gI a16 s14 ok15 (gM (D8.k q87) (gM q100 (gM q96 (gT (Ty.ref [(Ty.int (many.getD i 0))]) rfl (fun A B G H I d0 d1=>rP (y_index1 Try.underlying22 Try.inf3 (eI d0) (eI d1) oM (lst_get Ty.int many 0 i oM))) (gS rfl (fun A B G H I d0=>rP (y_load Try.underlying3 rfl (eI d0) rfl)) (gT (Ty.int (wr64 ((alT many i) + (many.getD i 0)))) rfl (fun A B G H I d0 d1=>rP (y_addW (eI d0) (eI d1))) (gB 0 (gE ok15 fun a17 s15 ok16 D9=>?_))))))));refine bn (tn ?_)
    refine gI a17 s15 ok16 (gM (D9.k q96) (gT (Ty.nat (i + 1)) rfl (fun A B G H I d0=>rP ((y_add (eI d0) rfl wX).mono (fun τ _ h=>cN (σ:=τ) h))) (gB 0 (gE ok16 fun a18 s16 ok17 D10=>?_))))
    exact tn ⟨many.length - ((i+1)),by omega,s16,(i+1),rfl,(((F14.step0 D8.stp).step0 D9.stp).step0 D10.stp),ok17,(cJ (D10.m 2 rfl)),(cvi (by (rfl)) (D10.k (D9.m 6 rfl))),(D10.k (D9.k (D8.k q88))),(D10.k (D9.k (D8.k q89))),(D10.k (D9.k q100)),(D10.k (D9.k (D8.k q91))),(D10.k (D9.k (D8.k q92))),(D10.k (D9.k (D8.k q93))),(D10.k (D9.k (D8.k q94))),by omega,hA2,fun _=>by omega,rfl⟩
  ·
   have ei:i = many.length:=oM;rw [← ei] at heq
   refine wp_exit (tx (tx (bx (tn (wp_seq (wp_seq ?_))))))
   refine gI a15 s13 ok14 (gM q88 (gE ok14 fun a19 s17 ok18 D11=>?_));have q125:=D11.k q89;refine tn ?_
   refine cond_t (D11.m 0 rfl) (fun c3=>?_) (fun c3=>?_)
   ·
    exfalso
    (simp only [decide_eq_true_eq] at c3;omega)
   ·
    refine wp_seq ?_
    refine gI a19 s17 ok18 (gM (D11.k q87) (gM q125 (gS rfl (fun A B G H I d0 d1=>rP (y_neq (eI d0) (eI d1))) (gE ok18 fun a20 s18 ok19 D12=>?_))));refine tn ?_
    refine cond_p (p:=((alT many i) ≠ ((n:Nat):Int))) (D12.m 2 rfl) (fun c4=>?_) (fun c4=>?_)
    ·
     exfalso
     exact c4 heq
    ·
     refine wp_skip (tn (wp_seq (wp_seq ?_)))
     refine gI a20 s18 ok19 (gM (D12.k (D11.k q94)) (gT (Ty.bool false) rfl (fun A B G H I d0=>rP ((y_neq (eI d0) rfl).mono (fun τ _ h=>cvb (σ:=τ) dE h))) (gE ok19 fun a21 s19 ok20 D13=>?_)));have q139:=D13.k (D12.k q125);have q140:=D13.k (D12.k (D11.k q90));refine tn ?_
     refine cond_t (D13.m 1 rfl) (fun c5=>(by cases c5)) (fun _=>?_)
     refine wp_skip (tn (wp_seq (wp_seq ?_)))
     refine gI a21 s19 ok20 (gM q140 (gS rfl (fun A B G H I d0=>rP (y_len Try.underlying22 (eI d0))) (gM q139 (gS rfl (fun A B G H I d0 d1=>rP (y_call _ Try.func86 rfl rfl my2 (power_fn ((List.length many)) (n) _ _ _ (cvi (σ:=B) (by first | omega | assumption | cases hg | exact absurd (of_decide_eq_true hg) hbad) (ef d0 rfl)) (eI d1) (by first | omega | assumption | cases hg | exact absurd (of_decide_eq_true hg) hbad) (by first | omega | assumption | cases hg | exact absurd (of_decide_eq_true hg) hbad)))) (gS rfl (fun A B G H I d0=>rP (y_gtr (eI d0) rfl)) (gE ok20 fun a22 s20 ok21 D14=>?_))))));have F21:=(((F14.step0 D11.stp).step0 D12.stp).step0 D13.stp).step0 D14.stp;have q150:=D14.k (D13.k (D12.k (D11.k q93)));refine tn ?_
     refine cond_p (p:=((1000:Int) < (((((List.length many)) ^ n):Nat):Int))) (D14.m 4 rfl) (fun c6=>?_) (fun c6=>?_)
     ·
      refine wp_seq ?_
      refine gI a22 s20 ok21 (gM q150 (gT (Ty.bool true) rfl (fun A B G H I d0=>rP ((y_eql (eI d0) rfl).mono (fun τ _ h=>cvb (σ:=τ) dE h))) (gB 0 (gE ok21 fun a23 s21 ok22 D15=>?_))));refine tn (wp_ret (tr ?_))
      exact retL1 rfl ok22 (F21.step0 D15.stp) (D15.m 2 rfl)
     ·
      refine wp_skip (tn (wp_seq ?_))
      refine gI a22 s20 ok21 (gC (Ty.int (0:Int)) (gE ok21 fun a24 s22 ok23 D16=>?_));refine tn (wp_seq (wp_seq ?_))
      refine gI a24 s22 ok23 (gC (Ty.int (0:Int)) (gE ok23 fun a25 s23 ok24 D17=>?_));refine tn (wp_block ?_)
      refine loop (fun n3 a26 w3=>∃ (t4:GW) (k:Nat),t4.w = w3∧FromL [] s0 t4∧Ok 140 [] a26∧At (Ty.nat k) t4 a26 (.tmp 18)∧At (Ty.nat (wntT n many rows k)) t4 a26 (.tmp 17)∧At (Ty.nat n) t4 a26 (.tmp 0)∧At (Ty.lst Ty.int many) t4 a26 (.tmp 2)∧At (Ty.lst Ty.ints rows) t4 a26 (.tmp 3)∧At (Ty.nat (g1)) t4 a26 (.tmp 11)∧At (Ty.int (0:Int)) t4 a26 (.tmp 12)∧(k ≤ (many.length ^ n))∧n3 = (many.length ^ n) - k) ((many.length ^ n) - (0)) ?_ ?_
      ·
       exact ⟨s23,0,rfl,((F21.step0 D16.stp).step0 D17.stp),ok24,(cJ (D17.m 0 rfl)),(cvi (by (first | rfl | simp [wntT])) (D17.k (D16.m 0 rfl))),(D17.k (D16.k (D14.k q139))),(D17.k (D16.k (D14.k q140))),(D17.k (D16.k (D14.k (D13.k (D12.k (D11.k q91)))))),(D17.k (D16.k (D14.k (D13.k (D12.k (D11.k q92)))))),(D17.k (D16.k q150)),by omega,rfl⟩
      ·
       rintro n4 a27 w4 ⟨t5,k,rfl,F25,ok25,q166,q167,q168,q169,q170,q171,q172,hk,rfl⟩
       have hwl:=wntT_le (n:=n) (m:=many) (R:=rows) (k:=k)
       refine wp_seq (wp_seq ?_)
       refine gI a27 t5 ok25 (gM q166 (gM q169 (gS rfl (fun A B G H I d0=>rP (y_len Try.underlying22 (eI d0))) (gM q168 (gS rfl (fun A B G H I d0 d1=>rP (y_call _ Try.func86 rfl rfl my2 (power_fn ((List.length many)) (n) _ _ _ (cvi (σ:=B) (by first | omega | assumption | cases hg | exact absurd (of_decide_eq_true hg) hbad) (ef d0 rfl)) (eI d1) (by first | omega | assumption | cases hg | exact absurd (of_decide_eq_true hg) hbad) (by first | omega | assumption | cases hg | exact absurd (of_decide_eq_true hg) hbad)))) (gS rfl (fun A B G H I d0 d1=>rP (y_lss (eI d0) (eI d1))) (gE ok25 fun a28 s24 ok26 D18=>?_)))))));have F26:=F25.step0 D18.stp;have q173:=D18.k q166;have q174:=D18.k q167;have q175:=D18.k q168;have q176:=D18.k q169;have q178:=D18.k q171;have q179:=D18.k q172;refine tn ?_
       refine cond_p (p:=(((k:Nat):Int) < (((((List.length many)) ^ n):Nat):Int))) (D18.m 5 rfl) (fun c7=>?_) (fun c7=>?_)
       ·
        have hm0:0 < many.length:=pow_pos_c (C:=many.length) (n:=n) hn.1 oM
        refine wp_skip (tn (wp_seq (wp_block (wp_seq ?_))))
        obtain ⟨X,hX⟩:∃ X,X = (colAt n many.length k):=⟨_,rfl⟩
        have hXl:X.length = n:=(by rw [hX];exact colAt_len)
        have hXr:∀ x ∈ rows,RowN X.length x:=(by rw [hXl];exact hRr)
        refine gI a28 s24 ok26 (gM q175 (gM q176 (gS rfl (fun A B G H I d0=>rP (y_len Try.underlying22 (eI d0))) (gM q173 (gS rfl (fun A B G H I d0 d1 d2=>rP (y_call _ Try.func87 rfl rfl my3 (colAt_fn (n) ((List.length many)) (k) _ _ _ _ (eI d0) (cvi (σ:=B) oX (ef d1 rfl)) (eI d2) oX oX oX))) (gB 0 (gE ok26 fun a29 s25 ok27 D19=>?_)))))))
        have q189:At (Ty.lst Ty.int X) s25 a29 (.tmp 19):=(cvt (by (rw [hX])) (D19.m 5 rfl))
        refine tn (wp_seq ?_)
        refine gI a29 s25 ok27 (gC (Ty.bool true) (gE ok27 fun a30 s26 ok28 D20=>?_));refine tn (wp_seq (wp_seq ?_))
        refine gI a30 s26 ok28 (gC (Ty.int (0:Int)) (gE ok28 fun a31 s27 ok29 D21=>?_));refine tn (wp_block ?_)
        refine loop (fun n5 a32 w5=>∃ (t6:GW) (a:Nat),t6.w = w5∧FromL [] s0 t6∧Ok 140 [] a32∧At (Ty.nat a) t6 a32 (.tmp 21)∧At (Ty.bool (distT many X a)) t6 a32 (.tmp 20)∧At (Ty.nat k) t6 a32 (.tmp 18)∧At (Ty.nat (wntT n many rows k)) t6 a32 (.tmp 17)∧At (Ty.nat n) t6 a32 (.tmp 0)∧At (Ty.lst Ty.int many) t6 a32 (.tmp 2)∧At (Ty.lst Ty.ints rows) t6 a32 (.tmp 3)∧At (Ty.nat (g1)) t6 a32 (.tmp 11)∧At (Ty.int (0:Int)) t6 a32 (.tmp 12)∧At (Ty.lst Ty.int X) t6 a32 (.tmp 19)∧(a ≤ many.length)∧n5 = many.length - a) (many.length - (0)) ?_ ?_
        ·
         exact ⟨s27,0,rfl,(((F26.step0 D19.stp).step0 D20.stp).step0 D21.stp),ok29,(cJ (D21.m 0 rfl)),(cvb (by (rfl)) (D21.k (D20.m 0 rfl))),(D21.k (D20.k (D19.k q173))),(D21.k (D20.k (D19.k q174))),(D21.k (D20.k (D19.k q175))),(D21.k (D20.k (D19.k q176))),(D21.k (D20.k (D19.k (D18.k q170)))),(D21.k (D20.k (D19.k q178))),(D21.k (D20.k (D19.k q179))),(D21.k (D20.k q189)),by omega,rfl⟩
        ·
         rintro n6 a33 w6 ⟨t7,a,rfl,F30,ok30,q209,q210,q211,q212,q213,q214,q215,q216,q217,q218,ha,rfl⟩
         refine wp_seq (wp_seq ?_)
         refine gI a33 t7 ok30 (gM q209 (gM q214 (gS rfl (fun A B G H I d0=>rP (y_len Try.underlying22 (eI d0))) (gS rfl (fun A B G H I d0 d1=>rP (y_lss (eI d0) (eI d1))) (gE ok30 fun a34 s28 ok31 D22=>?_)))));have F31:=F30.step0 D22.stp;have q220:=D22.k q210;have q221:=D22.k q211;have q222:=D22.k q212;have q223:=D22.k q213;have q224:=D22.k q214;have q225:=D22.k q215;have q226:=D22.k q216;have q227:=D22.k q217;have q228:=D22.k q218;refine tn ?_
         refine cond_p (p:=(((a:Nat):Int) < (((List.length many):Nat):Int))) (D22.m 3 rfl) (fun c8=>?_) (fun c8=>?_)
         ·
          refine wp_skip (tn (wp_seq (wp_block (wp_seq ?_))))
          refine gI a34 s28 ok31 (gC (Ty.int (0:Int)) (gE ok31 fun a35 s29 ok32 D23=>?_));refine tn (wp_seq (wp_seq ?_))
          refine gI a35 s29 ok32 (gC (Ty.int (0:Int)) (gE ok32 fun a36 s30 ok33 D24=>?_));refine tn (wp_block ?_)
          refine loop (fun n7 a37 w7=>∃ (t8:GW) (b:Nat),t8.w = w7∧FromL [] s0 t8∧Ok 140 [] a37∧At (Ty.nat b) t8 a37 (.tmp 23)∧At (Ty.nat (List.count ((a:Nat):Int) (List.take b X))) t8 a37 (.tmp 22)∧At (Ty.nat a) t8 a37 (.tmp 21)∧At (Ty.bool (distT many X a)) t8 a37 (.tmp 20)∧At (Ty.nat k) t8 a37 (.tmp 18)∧At (Ty.nat (wntT n many rows k)) t8 a37 (.tmp 17)∧At (Ty.nat n) t8 a37 (.tmp 0)∧At (Ty.lst Ty.int many) t8 a37 (.tmp 2)∧At (Ty.lst Ty.ints rows) t8 a37 (.tmp 3)∧At (Ty.nat (g1)) t8 a37 (.tmp 11)∧At (Ty.int (0:Int)) t8 a37 (.tmp 12)∧At (Ty.lst Ty.int X) t8 a37 (.tmp 19)∧(b ≤ n)∧n7 = n - b) (n - (0)) ?_ ?_
          ·
           exact ⟨s30,0,rfl,((F31.step0 D23.stp).step0 D24.stp),ok33,(cJ (D24.m 0 rfl)),(cvi (by (simp)) (D24.k (D23.m 0 rfl))),(D24.k (D23.k (D22.k q209))),(D24.k (D23.k q220)),(D24.k (D23.k q221)),(D24.k (D23.k q222)),(D24.k (D23.k q223)),(D24.k (D23.k q224)),(D24.k (D23.k q225)),(D24.k (D23.k q226)),(D24.k (D23.k q227)),(D24.k (D23.k q228)),by omega,rfl⟩
          ·
           rintro n8 a38 w8 ⟨t9,b,rfl,F34,ok34,q253,q254,q255,q256,q257,q258,q259,q260,q261,q262,q263,q264,hb,rfl⟩
           have hcb:=cnt_take_le (x:=X) (j:=b) (c:=a)
           refine wp_seq (wp_seq ?_)
           refine gI a38 t9 ok34 (gM q253 (gM q259 (gS rfl (fun A B G H I d0 d1=>rP (y_lss (eI d0) (eI d1))) (gE ok34 fun a39 s31 ok35 D25=>?_))));have F35:=F34.step0 D25.stp;have q265:=D25.k q253;have q266:=D25.k q254;have q267:=D25.k q255;have q268:=D25.k q256;have q269:=D25.k q257;have q270:=D25.k q258;have q271:=D25.k q259;have q272:=D25.k q260;have q273:=D25.k q261;have q274:=D25.k q262;have q275:=D25.k q263;have q276:=D25.k q264;refine tn ?_
           refine cond_p (p:=(((b:Nat):Int) < ((n:Nat):Int))) (D25.m 2 rfl) (fun c9=>?_) (fun c9=>?_)
           ·
            refine wp_skip (tn (wp_seq (wp_block (wp_seq ?_))))
            refine gI a39 s31 ok35 (gM q276 (gM q265 (gT (Ty.ref [(Ty.int (X.getD b 0))]) rfl (fun A B G H I d0 d1=>rP (y_index1 Try.underlying22 Try.inf3 (eI d0) (eI d1) oM (lst_get Ty.int X 0 b oM))) (gS rfl (fun A B G H I d0=>rP (y_load Try.underlying3 rfl (eI d0) rfl)) (gM q267 (gS rfl (fun A B G H I d0 d1=>rP (y_eql (eI d0) (eI d1))) (gE ok35 fun a40 s32 ok36 D26=>?_)))))));have F36:=F35.step0 D26.stp;have q278:=D26.k q265;have q279:=D26.k q266;have q280:=D26.k q267;have q281:=D26.k q268;have q282:=D26.k q269;have q283:=D26.k q270;have q284:=D26.k q271;have q285:=D26.k q272;have q286:=D26.k q273;have q287:=D26.k q274;have q288:=D26.k q275;have q289:=D26.k q276;refine tn ?_
            refine cond_p (p:=((X.getD b 0) = ((a:Nat):Int))) (D26.m 5 rfl) (fun c10=>?_) (fun c10=>?_)
            ·
             refine gI a40 s32 ok36 (gM q279 (gT (Ty.nat ((List.count ((a:Nat):Int) (List.take b X)) + 1)) rfl (fun A B G H I d0=>rP ((y_add (eI d0) rfl wX).mono (fun τ _ h=>cN (σ:=τ) h))) (gB 0 (gE ok36 fun a41 s33 ok37 D27=>?_))));refine bn (tn ?_)
             refine gI a41 s33 ok37 (gM (D27.k q278) (gT (Ty.nat (b + 1)) rfl (fun A B G H I d0=>rP ((y_add (eI d0) rfl wX).mono (fun τ _ h=>cN (σ:=τ) h))) (gB 0 (gE ok37 fun a42 s34 ok38 D28=>?_))))
             exact tn ⟨n - ((b+1)),by omega,s34,(b+1),rfl,((F36.step0 D27.stp).step0 D28.stp),ok38,(cJ (D28.m 2 rfl)),(cvi (by (rw [cnt_take_y oM (by first | exact c10 | exact of_decide_eq_true c10)])) (D28.k (D27.m 2 rfl))),(D28.k (D27.k q280)),(D28.k (D27.k q281)),(D28.k (D27.k q282)),(D28.k (D27.k q283)),(D28.k (D27.k q284)),(D28.k (D27.k q285)),(D28.k (D27.k q286)),(D28.k (D27.k q287)),(D28.k (D27.k q288)),(D28.k (D27.k q289)),by omega,rfl⟩
            ·
             refine wp_skip (bn (tn ?_))
             refine gI a40 s32 ok36 (gM q278 (gT (Ty.nat (b + 1)) rfl (fun A B G H I d0=>rP ((y_add (eI d0) rfl wX).mono (fun τ _ h=>cN (σ:=τ) h))) (gB 0 (gE ok36 fun a43 s35 ok39 D29=>?_))))
             exact tn ⟨n - ((b+1)),by omega,s35,(b+1),rfl,(F36.step0 D29.stp),ok39,(cJ (D29.m 2 rfl)),(cvi (by (rw [cnt_take_n oM (by first | exact c10 | exact of_decide_eq_false c10)])) (D29.k q279)),(D29.k q280),(D29.k q281),(D29.k q282),(D29.k q283),(D29.k q284),(D29.k q285),(D29.k q286),(D29.k q287),(D29.k q288),(D29.k q289),by omega,rfl⟩
           ·
            have eb:b = n:=oM;have hct:List.count ((a:Nat):Int) (List.take b X) = List.count ((a:Nat):Int) X:=(by rw [eb,← hXl,List.take_length])
            refine wp_exit (tx (tx (bx (tn ?_))))
            refine gI a39 s31 ok35 (gM q268 (gS rfl (fun A B G H I d0=>rP (y_move (eI d0))) (gS rfl (fun A B G H I d0=>gu H (eI d0) fun hg=>y_move (kp (I 22 rfl) G q266)) (gS rfl (fun A B G H I d0=>gu H (eI d0) fun hg=>y_move (kp (I 2 rfl) G q272)) (gS rfl (fun A B G H I d0=>gu H (eI d0) fun hg=>y_move (kp (I 21 rfl) G q267)) (gT (Ty.grd ((distT many X a) = true) (Ty.ref [(Ty.int (many.getD a 0))])) rfl (fun A B G H I d0 d1 d2=>gu H (eI d2) fun hg=>y_index1 Try.underlying22 Try.inf3 ((ef d0 rfl).1 hg) ((ef d1 rfl).1 hg) oM (lst_get Ty.int many 0 a oM)) (gS rfl (fun A B G H I d0 d1=>gu H (eI d1) fun hg=>y_load Try.underlying3 rfl ((ef d0 rfl).1 hg) rfl) (gS rfl (fun A B G H I d0 d1 d2=>gu H (eI d2) fun hg=>y_eql ((ef d0 rfl).1 hg) ((ef d1 rfl).1 hg)) (gS rfl (fun A B G H I d0 d1=>rP (y_pick_and (eI d0) (eI d1) rfl)) (gB 0 (gE ok35 fun a44 s36 ok40 D30=>?_)))))))))));refine bn (tn ?_)
            refine gI a44 s36 ok40 (gM (D30.k q267) (gT (Ty.nat (a + 1)) rfl (fun A B G H I d0=>rP ((y_add (eI d0) rfl wX).mono (fun τ _ h=>cN (σ:=τ) h))) (gB 0 (gE ok40 fun a45 s37 ok41 D31=>?_))))
            exact tn ⟨many.length - ((a+1)),by omega,s37,(a+1),rfl,((F35.step0 D30.stp).step0 D31.stp),ok41,(cJ (D31.m 2 rfl)),(cvb (by (rw [distT_succ,hct])) (D31.k (D30.m 9 rfl))),(D31.k (D30.k q269)),(D31.k (D30.k q270)),(D31.k (D30.k q271)),(D31.k (D30.k q272)),(D31.k (D30.k q273)),(D31.k (D30.k q274)),(D31.k (D30.k q275)),(D31.k (D30.k q276)),by omega,rfl⟩
         ·
          have ea:a = many.length:=oM
          refine wp_exit (tx (tx (bx (tn (wp_seq (wp_seq ?_))))))
          refine gI a34 s28 ok31 (gM q220 (gS rfl (fun A B G H I d0=>rP (y_not (eI d0))) (gE ok31 fun a46 s38 ok42 D32=>?_)));have F42:=F31.step0 D32.stp;have q347:=D32.k q221;have q348:=D32.k q222;have q349:=D32.k q223;have q350:=D32.k q224;have q351:=D32.k q225;have q352:=D32.k q226;have q353:=D32.k q227;refine tn ?_
          refine cond_t (D32.m 1 rfl) (fun c11=>?_) (fun c11=>?_)
          ·
           have hfd:dist many (colAt n many.length k) = false:=(by rw [← hX,← distT_all,← ea];simpa using c11)
           refine wp_exit (tx (bx (tn ?_)))
           refine gI a46 s38 ok42 (gM q347 (gT (Ty.nat (k + 1)) rfl (fun A B G H I d0=>rP ((y_add (eI d0) rfl wX).mono (fun τ _ h=>cN (σ:=τ) h))) (gB 0 (gE ok42 fun a47 s39 ok43 D33=>?_))))
           exact tn ⟨(many.length ^ n) - ((k+1)),by omega,s39,(k+1),rfl,(F42.step0 D33.stp),ok43,(cJ (D33.m 2 rfl)),(cvi (by (rw [wntT_no hfd])) (D33.k q348)),(D33.k q349),(D33.k q350),(D33.k q351),(D33.k q352),(D33.k q353),by omega,rfl⟩
          ·
           have hfd:dist many (colAt n many.length k) = true:=(by rw [← hX,← distT_all,← ea];simpa using c11)
           refine wp_skip (tn (wp_seq ?_))
           refine gI a46 s38 ok42 (gM (D32.k q228) (gM q351 (gS rfl (fun A B G H I d0 d1=>rP (y_call _ Try.func88 rfl rfl my2 (isFirst_fn (X) (rows) _ _ _ (eI d0) (eI d1) oX oX oX))) (gB 0 (gE ok42 fun a48 s40 ok44 D34=>?_)))));refine tn (wp_seq ?_)
           refine gI a48 s40 ok44 (gM (D34.m 3 rfl) (gE ok44 fun a49 s41 ok45 D35=>?_));have F45:=(F42.step0 D34.stp).step0 D35.stp;have q371:=D35.k (D34.k q347);have q372:=D35.k (D34.k q348);have q373:=D35.k (D34.k q349);have q374:=D35.k (D34.k q350);have q375:=D35.k (D34.k q351);have q376:=D35.k (D34.k q352);have q377:=D35.k (D34.k q353);refine tn ?_
           refine cond_t (D35.m 0 rfl) (fun c12=>?_) (fun c12=>?_)
           ·
            have hfk:fstP rows (colAt n many.length k) = true:=(hX ▸ c12)
            refine gI a49 s41 ok45 (gM q372 (gT (Ty.nat ((wntT n many rows k) + 1)) rfl (fun A B G H I d0=>rP ((y_add (eI d0) rfl wX).mono (fun τ _ h=>cN (σ:=τ) h))) (gB 0 (gE ok45 fun a50 s42 ok46 D36=>?_))));refine bn (tn ?_)
            refine gI a50 s42 ok46 (gM (D36.k q371) (gT (Ty.nat (k + 1)) rfl (fun A B G H I d0=>rP ((y_add (eI d0) rfl wX).mono (fun τ _ h=>cN (σ:=τ) h))) (gB 0 (gE ok46 fun a51 s43 ok47 D37=>?_))))
            exact tn ⟨(many.length ^ n) - ((k+1)),by omega,s43,(k+1),rfl,((F45.step0 D36.stp).step0 D37.stp),ok47,(cJ (D37.m 2 rfl)),(cvi (by (rw [wntT_in hfd hfk])) (D37.k (D36.m 2 rfl))),(D37.k (D36.k q373)),(D37.k (D36.k q374)),(D37.k (D36.k q375)),(D37.k (D36.k q376)),(D37.k (D36.k q377)),by omega,rfl⟩
           ·
            have hfk:fstP rows (colAt n many.length k) = false:=(hX ▸ c12)
            refine wp_skip (bn (tn ?_))
            refine gI a49 s41 ok45 (gM q371 (gT (Ty.nat (k + 1)) rfl (fun A B G H I d0=>rP ((y_add (eI d0) rfl wX).mono (fun τ _ h=>cN (σ:=τ) h))) (gB 0 (gE ok45 fun a52 s44 ok48 D38=>?_))))
            exact tn ⟨(many.length ^ n) - ((k+1)),by omega,s44,(k+1),rfl,(F45.step0 D38.stp),ok48,(cJ (D38.m 2 rfl)),(cvi (by (rw [wntT_out hfd hfk])) (D38.k q372)),(D38.k q373),(D38.k q374),(D38.k q375),(D38.k q376),(D38.k q377),by omega,rfl⟩
       ·
        have ek:k = many.length ^ n:=oM
        refine wp_exit (tx (tx (bx (tn (wp_seq ?_)))))
        refine gI a28 s24 ok26 (gM q179 (gT (Ty.bool true) rfl (fun A B G H I d0=>rP ((y_eql (eI d0) rfl).mono (fun τ _ h=>cvb (σ:=τ) dE h))) (gS rfl (fun A B G H I d0=>rP (y_move (eI d0))) (gS rfl (fun A B G H I d0=>gu H (eI d0) fun hg=>y_move (kp (I 11 rfl) G q178)) (gS rfl (fun A B G H I d0=>gu H (eI d0) fun hg=>y_move (kp (I 17 rfl) G q174)) (gS rfl (fun A B G H I d0 d1 d2=>gu H (eI d2) fun hg=>y_eql ((ef d0 rfl).1 hg) ((ef d1 rfl).1 hg)) (gS rfl (fun A B G H I d0 d1=>rP (y_pick_and (eI d0) (eI d1) rfl)) (gB 0 (gE ok26 fun a53 s45 ok49 D39=>?_)))))))));refine tn (wp_ret ?_)
        exact retL1 rfl ok49 (F26.step0 D39.stp) (cvb (by (simp [hLE,ek,wntT_full (fun x=>(hE.mem x).trans (hRm x).symm)])) (D39.m 7 rfl))
theorem colourWith_fn (n:Int) (gens:List (List Int)) (many:List Int) (rows:List (List Int)) (f:Int) (σ:GW) (v0 v1 v2 v3 v4:Value) (hv0:Ty.has (Ty.int n) σ v0) (hv1:Ty.has (Ty.lst Ty.ints gens) σ v1) (hv2:Ty.has (Ty.lst Ty.int many) σ v2) (hv3:Ty.has (Ty.lst Ty.ints rows) σ v3) (hv4:Ty.has (Ty.int f) σ v4) (hF:FOk n gens rows f) :
    FnC Try.prog 54 #[v0,v1,v2,v3,v4] σ (Ty.bool true):=by
  by_cases hok:manyOk n many
  · by_cases heq:alT many many.length = n
    · rcases hF.err with h | ⟨m,rfl,hn,h,hL,rfl,hr,hm,hl⟩
      · exact cwErr_fn n gens many rows f f σ v0 v1 v2 v3 v4 hv0 hv1 hv2 hv3 hv4 (.inr (.inr ⟨hok,heq,h⟩)) fun _ _=>rfl
      · exact cwOk_fn m gens many rows σ v0 v1 v2 v3 v4 hv0 hv1 hv2 hv3 hv4 hok heq hn h hL hr hm hl
    · exact cwErr_fn n gens many rows f 1 σ v0 v1 v2 v3 v4 hv0 hv1 hv2 hv3 hv4 (.inr (.inl ⟨hok,heq,rfl⟩)) fun _ h=>absurd h heq
  · exact cwErr_fn n gens many rows f 12 σ v0 v1 v2 v3 v4 hv0 hv1 hv2 hv3 hv4 (.inl ⟨hok,rfl⟩) fun h _=>absurd h hok
set_option maxHeartbeats 4000000 in
set_option maxRecDepth 100000 in
theorem csErr_fn (n:Int) (gens:List (List Int)) (colours:Int) (many:List Int) (e:Int) (σ:GW)  (v0 v1 v2 v3:Value) (hv0:Ty.has (Ty.int n) σ v0) (hv1:Ty.has (Ty.lst Ty.ints gens) σ v1) (hv2:Ty.has (Ty.int colours) σ v2) (hv3:Ty.has (Ty.lst Ty.int many) σ v3)  (hE:GErr n gens e) :
    FnC Try.prog 10 #[v0,v1,v2,v3] σ (Ty.bool true):=by
 have hne0:=hE.ne
 refine fn_intro0 Try.func10 rfl Try.ntmps10 (Nat.le_of_ble_eq_true rfl) (fun s0 a0 hle F0 ok0 hargs=>?_)
 have p0:=pA hle (hargs 0 _ rfl) hv0
 have p1:=pA hle (hargs 1 _ rfl) hv1
 have b1:=sl_le p1
 have p2:=pA hle (hargs 2 _ rfl) hv2
 have p3:=pA hle (hargs 3 _ rfl) hv3
 have b2:=sl_le p3
 clear hargs;refine wp_seq ?_
 refine gI a0 s0 ok0 (gC (Ty.bool false) (gE ok0 fun a1 s1 ok1 D1=>?_));have q1:=D1.k p0;have q2:=D1.k p1;refine tn (wp_seq ?_)
 refine gI a1 s1 ok1 (gM q1 (gM q2 (gS rfl (fun A B G H I d0 d1=>rP (y_call _ Try.func24 rfl rfl my2 (rGensMay_fn (n) (gens) _ _ _ (eI d0) (eI d1) ))) (gB 0 (gE ok1 fun a2 s2 ok2 D2=>?_)))));refine tn (wp_seq ?_)
 refine gI a2 s2 ok2 (gC (Ty.int (0:Int)) (gE ok2 fun a3 s3 ok3 D3=>?_));have q14:=D3.k (D2.m 3 rfl);refine tn (wp_seq (wp_seq ?_))
 refine gI a3 s3 ok3 (gM q14 (gS rfl (fun A B G H I d0=>rP (y_eql (eI d0) rfl)) (gE ok3 fun a4 s4 ok4 D4=>?_)));have F4:=(((F0.step0 D1.stp).step0 D2.stp).step0 D3.stp).step0 D4.stp;have q15:=D4.k (D3.k (D2.k q1));have q16:=D4.k (D3.k (D2.k q2));have q17:=D4.k (D3.k (D2.k (D1.k p2)));have q18:=D4.k (D3.k (D2.k (D1.k p3)));refine tn ?_
 refine Go.KL.join_then (Q':=fun a5 w1=>∃ (t1:GW),t1.w = w1∧FromL [] s0 t1∧Ok 106 [] a5∧At (Ty.int e) t1 a5 (.tmp 9)∧At (Ty.int n) t1 a5 (.tmp 0)∧At (Ty.lst Ty.ints gens) t1 a5 (.tmp 1)∧At (Ty.int colours) t1 a5 (.tmp 2)∧At (Ty.lst Ty.int many) t1 a5 (.tmp 3)∧True) ?_ ?_
 ·
  refine cond_p (p:=((gensMay n (gens)) = (0:Int))) (D4.m 1 rfl) (fun c1=>?_) (fun c1=>?_)
  ·
   have hel:=hE.lim c1
   refine wp_seq ?_
   refine gI a4 s4 ok4 (gM q15 (gM q16 (gS rfl (fun A B G H I d0 d1=>rP (y_call _ Try.func20 rfl rfl my2 (rSizesZ_fn (n) (gens) _ _ _ (eI d0) (eI d1) oX))) (gB 0 (gE ok4 fun a6 s5 ok5 D5=>?_)))));have q26:=D5.m 3 rfl;refine tn (wp_seq (wp_seq ?_))
   refine gI a6 s5 ok5 (gM q26 (gS rfl (fun A B G H I d0=>rP (y_gtr (eI d0) rfl)) (gS rfl (fun A B G H I d0=>rP (y_move (eI d0))) (gS rfl (fun A B G H I d0=>gu H (eI d0) fun hg=>y_move (kp (I 10 rfl) G q26)) (gS rfl (fun A B G H I d0 d1=>gu H (eI d1) fun hg=>y_lss ((ef d0 rfl).1 hg) rfl) (gS rfl (fun A B G H I d0 d1=>rP (y_pick_and (eI d0) (eI d1) rfl)) (gE ok5 fun a7 s6 ok6 D6=>?_)))))));refine tn ?_
   refine cond_t (D6.m 5 rfl) (fun c2=>?_) (fun c2=>?_)
   ·
    exfalso
    (simp only [Bool.and_eq_true,decide_eq_true_eq] at c2;omega)
   ·
    refine wp_skip (tn (wp_seq ?_))
    refine gI a7 s6 ok6 (gM (D6.k q26) (gS rfl (fun A B G H I d0=>rP (y_gtr (eI d0) rfl)) (gE ok6 fun a8 s7 ok7 D7=>?_)));refine tn ?_
    refine cond_p (p:=((5040:Int) < (((szTo (n).toNat (fun y=>y ∈ gens) (n).toNat):Nat):Int))) (D7.m 1 rfl) (fun c3=>?_) (fun c3=>?_)
    ·
     refine gI a8 s7 ok7 (gC (Ty.int (3:Int)) (gE ok7 fun a9 s8 ok8 D8=>?_))
     exact tn ⟨s8,rfl,((((F4.step0 D5.stp).step0 D6.stp).step0 D7.stp).step0 D8.stp),ok8,(cvi (by (exact hel.2.symm)) (D8.m 0 rfl)),(D8.k (D7.k (D6.k (D5.k q15)))),(D8.k (D7.k (D6.k (D5.k q16)))),(D8.k (D7.k (D6.k (D5.k q17)))),(D8.k (D7.k (D6.k (D5.k q18)))),trivial⟩
    ·
     exfalso
     omega
  ·
   refine wp_skip ?_
   exact tn ⟨s4,rfl,F4,ok4,(cvi (by (exact (hE.may c1).symm)) (D4.k q14)),q15,q16,q17,q18,trivial⟩
 ·
  rintro a10 w2 ⟨t2,rfl,F9,ok9,q45,q46,q47,q48,q49,-⟩
  refine wp_seq ?_
  refine gI a10 t2 ok9 (gM q46 (gM q47 (gS rfl (fun A B G H I d0 d1=>rP (y_call _ Try.func48 rfl rfl my2 (kindsErr_fn (n) (gens) (e) _ _ _ (eI d0) (eI d1) oX))) (gS rfl (fun A B G H I d0=>rP (y_move (eI d0))) (gT (Ty.lstc 2 kndC ([]:List Knd)) rfl (fun A B G H I d0=>rP (y_ext2_0 (eI d0))) (gT (Ty.int e) rfl (fun A B G H I d0 d1=>rP (y_ext2_1 (eI d0))) (gB 0 (gB 0 (gE ok9 fun a11 s9 ok10 D9=>?_)))))))));refine tn (wp_seq ?_)
  refine gI a11 s9 ok10 (gC (Ty.val (Value.slice none 0 0)) (gE ok10 fun a12 s10 ok11 D10=>?_));have q57:=D10.k (D9.k q45);refine tn (wp_seq (wp_seq ?_))
  refine gI a12 s10 ok11 (gM q57 (gS rfl (fun A B G H I d0=>rP (y_eql (eI d0) rfl)) (gE ok11 fun a13 s11 ok12 D11=>?_)));refine tn ?_
  refine cond_p (p:=(e = (0:Int))) (D11.m 1 rfl) (fun c4=>?_) (fun c4=>?_)
  ·
   exfalso
   exact hne0 c4
  ·
   refine wp_skip (tn (wp_seq (wp_seq ?_)))
   refine gI a13 s11 ok12 (gE2 ok12 fun a14 s12 ok13 D12=>?_)
   refine tL ok13 (Yld.toL (y_mv (D12.k (D11.k (D10.k (D9.m 7 rfl)))))) fun a15 s13 hs1 ok14 r1 sm1=>?_
   have q82:=kq hs1 sm1 9 (D12.k (D11.k q57))
   have q89:At (Ty.int e) s13 a15 (.tmp 47):=r1
   clear r1
   refine tL ok14 (Yld.toL (y_mv q82)) fun a16 s14 hs2 ok15 r2 sm2=>?_
   have q98:At (Ty.int e) s14 a16 (.tmp 48):=r2
   clear r2
   refine tL (R:=(fun v τ=>Pr.has (Ty.pr (Ty.bool (decide (e ≠ e)))) τ v)) ok15 (Yld.toL (y_neq (kq hs2 sm2 47 q89) q98)) fun a17 s15 hs3 ok16 r3 sm3=>?_
   have q106:At (Ty.bool (decide (e ≠ e))) s15 a17 (.tmp 49):=r3
   clear r3
   refine tL ok16 (Yld.toL (y_mv q106)) fun a18 s16 hs4 ok17 r4 sm4=>?_
   have q107:=kq hs4 sm4 9 (kq hs3 sm3 9 (kq hs2 sm2 9 q82))
   have q114:At (Ty.bool (decide (e ≠ e))) s16 a18 (.tmp 50):=r4
   clear r4
   rcases Bool.eq_false_or_eq_true (decide (e ≠ e)) with hg1 | hg1
   · exact absurd rfl (of_decide_eq_true hg1)
   ·
    have q115:At (Ty.bool false) s16 a18 (.tmp 50):=cvb hg1 q114
    refine tD (T:=(Ty.int e)) ok17 q115 (y_move q107) fun a19 s17 hs5 ok18 r5 sm5=>?_
    have q123:=kq hs5 sm5 50 q115
    have q124:At (Ty.int e) s17 a19 (.tmp 51):=r5
    clear r5
    refine tD (T:=(Ty.bool (decide (e = (0:Int))))) ok18 q123 (y_eql q124 rfl) fun a20 s18 hs6 ok19 r6 sm6=>?_
    have q132:=kq hs6 sm6 50 q123
    have q133:At (Ty.bool (decide (e = (0:Int)))) s18 a20 (.tmp 52):=r6
    clear r6
    refine tD (T:=(Ty.bool (decide (e = (0:Int))))) ok19 q132 (y_move q133) fun a21 s19 hs7 ok20 r7 sm7=>?_
    have q142:At (Ty.bool (decide (e = (0:Int)))) s19 a21 (.tmp 53):=r7
    clear r7
    rcases Bool.eq_false_or_eq_true (decide (e = (0:Int))) with hg2 | hg2
    · exact absurd (of_decide_eq_true hg2) hne0
    ·
     have q143:At (Ty.bool false) s19 a21 (.tmp 53):=cvb hg2 q142
     refine tailSkip ok20 rfl rfl dE q143 rfl rfl dE (fun a22 ok21 q144 sm8=>?_)
     have q145:At (Ty.int e) s19 a22 (.tmp 9):=kp (sm8 9 dE) (Stp.refl _ _) (kq hs7 sm7 9 (kq hs6 sm6 9 (kq hs5 sm5 9 q107)))
     have q146:At (Ty.int n) s19 a22 (.tmp 0):=kp (sm8 0 dE) (Stp.refl _ _) (kq hs7 sm7 0 (kq hs6 sm6 0 (kq hs5 sm5 0 (kq hs4 sm4 0 (kq hs3 sm3 0 (kq hs2 sm2 0 (kq hs1 sm1 0 (D12.k (D11.k (D10.k (D9.k q46)))))))))))
     have q147:At (Ty.lst Ty.ints gens) s19 a22 (.tmp 1):=kp (sm8 1 dE) (Stp.refl _ _) (kq hs7 sm7 1 (kq hs6 sm6 1 (kq hs5 sm5 1 (kq hs4 sm4 1 (kq hs3 sm3 1 (kq hs2 sm2 1 (kq hs1 sm1 1 (D12.k (D11.k (D10.k (D9.k q47)))))))))))
     have q148:At (Ty.int colours) s19 a22 (.tmp 2):=kp (sm8 2 dE) (Stp.refl _ _) (kq hs7 sm7 2 (kq hs6 sm6 2 (kq hs5 sm5 2 (kq hs4 sm4 2 (kq hs3 sm3 2 (kq hs2 sm2 2 (kq hs1 sm1 2 (D12.k (D11.k (D10.k (D9.k q48)))))))))))
     have q149:At (Ty.lst Ty.int many) s19 a22 (.tmp 3):=kp (sm8 3 dE) (Stp.refl _ _) (kq hs7 sm7 3 (kq hs6 sm6 3 (kq hs5 sm5 3 (kq hs4 sm4 3 (kq hs3 sm3 3 (kq hs2 sm2 3 (kq hs1 sm1 3 (D12.k (D11.k (D10.k (D9.k q49)))))))))))
     have q150:At (Ty.lstc 2 kndC ([]:List Knd)) s19 a22 (.tmp 11):=kp (sm8 11 dE) (Stp.refl _ _) (kq hs7 sm7 11 (kq hs6 sm6 11 (kq hs5 sm5 11 (kq hs4 sm4 11 (kq hs3 sm3 11 (kq hs2 sm2 11 (kq hs1 sm1 11 (D12.k (D11.k (D10.k (D9.m 6 rfl)))))))))))
     have q151:At (Ty.val (Value.slice none 0 0)) s19 a22 (.tmp 13):=kp (sm8 13 dE) (Stp.refl _ _) (kq hs7 sm7 13 (kq hs6 sm6 13 (kq hs5 sm5 13 (kq hs4 sm4 13 (kq hs3 sm3 13 (kq hs2 sm2 13 (kq hs1 sm1 13 (D12.k (D11.k (D10.m 0 rfl))))))))))
     have q152:At (Ty.bool false) s19 a22 (.tmp 50):=kp (sm8 50 dE) (Stp.refl _ _) (kq hs7 sm7 50 q132)
     have q153:At (Ty.bool false) s19 a22 (.tmp 53):=kp (sm8 53 dE) (Stp.refl _ _) q143
     refine tailSkip ok21 rfl rfl dE q153 rfl rfl dE (fun a23 ok22 q154 sm9=>?_)
     have q155:At (Ty.int e) s19 a23 (.tmp 9):=kp (sm9 9 dE) (Stp.refl _ _) q145
     have q156:At (Ty.int n) s19 a23 (.tmp 0):=kp (sm9 0 dE) (Stp.refl _ _) q146
     have q157:At (Ty.lst Ty.ints gens) s19 a23 (.tmp 1):=kp (sm9 1 dE) (Stp.refl _ _) q147
     have q158:At (Ty.int colours) s19 a23 (.tmp 2):=kp (sm9 2 dE) (Stp.refl _ _) q148
     have q159:At (Ty.lst Ty.int many) s19 a23 (.tmp 3):=kp (sm9 3 dE) (Stp.refl _ _) q149
     have q160:At (Ty.lstc 2 kndC ([]:List Knd)) s19 a23 (.tmp 11):=kp (sm9 11 dE) (Stp.refl _ _) q150
     have q161:At (Ty.val (Value.slice none 0 0)) s19 a23 (.tmp 13):=kp (sm9 13 dE) (Stp.refl _ _) q151
     have q162:At (Ty.bool false) s19 a23 (.tmp 50):=kp (sm9 50 dE) (Stp.refl _ _) q152
     have q163:At (Ty.bool false) s19 a23 (.tmp 53):=kp (sm9 53 dE) (Stp.refl _ _) q153
     have q164:At (Ty.val undef) s19 a23 (.tmp 54):=kp (sm9 54 dE) (Stp.refl _ _) q144
     refine tailSkip ok22 rfl rfl dE q163 rfl rfl dE (fun a24 ok23 q165 sm10=>?_)
     have q166:At (Ty.int e) s19 a24 (.tmp 9):=kp (sm10 9 dE) (Stp.refl _ _) q155
     have q167:At (Ty.int n) s19 a24 (.tmp 0):=kp (sm10 0 dE) (Stp.refl _ _) q156
     have q168:At (Ty.lst Ty.ints gens) s19 a24 (.tmp 1):=kp (sm10 1 dE) (Stp.refl _ _) q157
     have q169:At (Ty.int colours) s19 a24 (.tmp 2):=kp (sm10 2 dE) (Stp.refl _ _) q158
     have q170:At (Ty.lst Ty.int many) s19 a24 (.tmp 3):=kp (sm10 3 dE) (Stp.refl _ _) q159
     have q171:At (Ty.lstc 2 kndC ([]:List Knd)) s19 a24 (.tmp 11):=kp (sm10 11 dE) (Stp.refl _ _) q160
     have q172:At (Ty.val (Value.slice none 0 0)) s19 a24 (.tmp 13):=kp (sm10 13 dE) (Stp.refl _ _) q161
     have q173:At (Ty.bool false) s19 a24 (.tmp 50):=kp (sm10 50 dE) (Stp.refl _ _) q162
     have q174:At (Ty.bool false) s19 a24 (.tmp 53):=kp (sm10 53 dE) (Stp.refl _ _) q163
     have q175:At (Ty.val undef) s19 a24 (.tmp 54):=kp (sm10 54 dE) (Stp.refl _ _) q164
     refine tailSkip ok23 rfl rfl dE q174 rfl rfl dE (fun a25 ok24 q176 sm11=>?_)
     have q177:At (Ty.int e) s19 a25 (.tmp 9):=kp (sm11 9 dE) (Stp.refl _ _) q166
     have q178:At (Ty.int n) s19 a25 (.tmp 0):=kp (sm11 0 dE) (Stp.refl _ _) q167
     have q179:At (Ty.lst Ty.ints gens) s19 a25 (.tmp 1):=kp (sm11 1 dE) (Stp.refl _ _) q168
     have q180:At (Ty.int colours) s19 a25 (.tmp 2):=kp (sm11 2 dE) (Stp.refl _ _) q169
     have q181:At (Ty.lst Ty.int many) s19 a25 (.tmp 3):=kp (sm11 3 dE) (Stp.refl _ _) q170
     have q182:At (Ty.lstc 2 kndC ([]:List Knd)) s19 a25 (.tmp 11):=kp (sm11 11 dE) (Stp.refl _ _) q171
     have q183:At (Ty.val (Value.slice none 0 0)) s19 a25 (.tmp 13):=kp (sm11 13 dE) (Stp.refl _ _) q172
     have q184:At (Ty.bool false) s19 a25 (.tmp 50):=kp (sm11 50 dE) (Stp.refl _ _) q173
     have q185:At (Ty.bool false) s19 a25 (.tmp 53):=kp (sm11 53 dE) (Stp.refl _ _) q174
     refine tailSkip ok24 rfl rfl dE q185 rfl rfl dE (fun a26 ok25 q186 sm12=>?_)
     have q187:At (Ty.int e) s19 a26 (.tmp 9):=kp (sm12 9 dE) (Stp.refl _ _) q177
     have q188:At (Ty.int n) s19 a26 (.tmp 0):=kp (sm12 0 dE) (Stp.refl _ _) q178
     have q189:At (Ty.lst Ty.ints gens) s19 a26 (.tmp 1):=kp (sm12 1 dE) (Stp.refl _ _) q179
     have q190:At (Ty.int colours) s19 a26 (.tmp 2):=kp (sm12 2 dE) (Stp.refl _ _) q180
     have q191:At (Ty.lst Ty.int many) s19 a26 (.tmp 3):=kp (sm12 3 dE) (Stp.refl _ _) q181
     have q192:At (Ty.lstc 2 kndC ([]:List Knd)) s19 a26 (.tmp 11):=kp (sm12 11 dE) (Stp.refl _ _) q182
     have q193:At (Ty.val (Value.slice none 0 0)) s19 a26 (.tmp 13):=kp (sm12 13 dE) (Stp.refl _ _) q183
     have q194:At (Ty.bool false) s19 a26 (.tmp 50):=kp (sm12 50 dE) (Stp.refl _ _) q184
     have q195:At (Ty.bool false) s19 a26 (.tmp 53):=kp (sm12 53 dE) (Stp.refl _ _) q185
     refine tD (T:=(Ty.bool false)) ok25 q194 (y_pickF q195 rfl) fun a27 s20 hs8 ok26 r8 sm13=>?_
     have q204:At (Ty.bool false) s20 a27 (.tmp 59):=r8
     clear r8
     refine tL (R:=(fun v τ=>Pr.has (Ty.pr (Ty.bool false)) τ v)) ok26 (Yld.toL (y_pickF (kq hs8 sm13 50 q194) q204)) fun a28 s21 hs9 ok27 r9 sm14=>?_
     have q212:At (Ty.bool false) s21 a28 (.tmp 60):=r9
     clear r9
     refine tL ok27 (Yld.toL (y_mv q212)) fun a29 s22 hs10 ok28 r10 sm15=>?_
     have q213:=kq hs10 sm15 9 (kq hs9 sm14 9 (kq hs8 sm13 9 q187))
     have q220:At (Ty.bool false) s22 a29 (.tmp 61):=r10
     clear r10
     refine tD (T:=(Ty.int e)) ok28 q220 (y_move q213) fun a30 s23 hs11 ok29 r11 sm16=>?_
     have q228:=kq hs11 sm16 61 q220
     have q229:At (Ty.int e) s23 a30 (.tmp 62):=r11
     clear r11
     refine tD (T:=(Ty.bool (decide (e ≠ (0:Int))))) ok29 q228 (y_neq q229 rfl) fun a31 s24 hs12 ok30 r12 sm17=>?_
     have q237:=kq hs12 sm17 61 q228
     have q238:At (Ty.bool (decide (e ≠ (0:Int)))) s24 a31 (.tmp 63):=r12
     clear r12
     refine tD (T:=(Ty.bool (decide (e ≠ (0:Int))))) ok30 q237 (y_move q238) fun a32 s25 hs13 ok31 r13 sm18=>?_
     have q247:At (Ty.bool (decide (e ≠ (0:Int)))) s25 a32 (.tmp 64):=r13
     clear r13
     rcases Bool.eq_false_or_eq_true (decide (e ≠ (0:Int))) with hg3 | hg3
     ·
      have q248:At (Ty.bool true) s25 a32 (.tmp 64):=cvb hg3 q247
      refine tD (T:=(Ty.lstc 2 kndC ([]:List Knd))) ok31 q248 (y_move (kq hs13 sm18 11 (kq hs12 sm17 11 (kq hs11 sm16 11 (kq hs10 sm15 11 (kq hs9 sm14 11 (kq hs8 sm13 11 q192))))))) fun a33 s26 hs14 ok32 r14 sm19=>?_
      have q256:=kq hs14 sm19 64 q248
      have q257:At (Ty.lstc 2 kndC ([]:List Knd)) s26 a33 (.tmp 65):=r14
      clear r14
      refine tD (T:=(Ty.nat (List.length ([]:List Knd)))) ok32 q256 (y_len Try.underlying73 q257) fun a34 s27 hs15 ok33 r15 sm20=>?_
      have q265:=kq hs15 sm20 64 q256
      have q266:At (Ty.nat (List.length ([]:List Knd))) s27 a34 (.tmp 66):=r15
      clear r15
      refine tD (T:=(Ty.bool (decide ((0:Int) < (((List.length ([]:List Knd)):Nat):Int))))) ok33 q265 (y_gtr q266 rfl) fun a35 s28 hs16 ok34 r16 sm21=>?_
      have q273:=kq hs16 sm21 61 (kq hs15 sm20 61 (kq hs14 sm19 61 (kq hs13 sm18 61 q237)))
      have q275:At (Ty.bool (decide ((0:Int) < (((List.length ([]:List Knd)):Nat):Int)))) s28 a35 (.tmp 67):=r16
      clear r16
      refine tD (T:=(Ty.bool (decide ((0:Int) < (((List.length ([]:List Knd)):Nat):Int))))) ok34 q273 (y_pickT (kq hs16 sm21 64 q265) q275) fun a36 s29 hs17 ok35 r17 sm22=>?_
      have q283:At (Ty.bool (decide ((0:Int) < (((List.length ([]:List Knd)):Nat):Int)))) s29 a36 (.tmp 68):=r17
      clear r17
      refine tL (R:=(fun v τ=>Pr.has (Ty.pr (Ty.bool (decide ((0:Int) < (((List.length ([]:List Knd)):Nat):Int))))) τ v)) ok35 (Yld.toL (y_pickF (kq hs17 sm22 61 q273) q283)) fun a37 s30 hs18 ok36 r18 sm23=>?_
      have q285:=kq hs18 sm23 0 (kq hs17 sm22 0 (kq hs16 sm21 0 (kq hs15 sm20 0 (kq hs14 sm19 0 (kq hs13 sm18 0 (kq hs12 sm17 0 (kq hs11 sm16 0 (kq hs10 sm15 0 (kq hs9 sm14 0 (kq hs8 sm13 0 q188))))))))));have q286:=kq hs18 sm23 1 (kq hs17 sm22 1 (kq hs16 sm21 1 (kq hs15 sm20 1 (kq hs14 sm19 1 (kq hs13 sm18 1 (kq hs12 sm17 1 (kq hs11 sm16 1 (kq hs10 sm15 1 (kq hs9 sm14 1 (kq hs8 sm13 1 q189))))))))));have q287:=kq hs18 sm23 2 (kq hs17 sm22 2 (kq hs16 sm21 2 (kq hs15 sm20 2 (kq hs14 sm19 2 (kq hs13 sm18 2 (kq hs12 sm17 2 (kq hs11 sm16 2 (kq hs10 sm15 2 (kq hs9 sm14 2 (kq hs8 sm13 2 q190))))))))))
      have q290:At (Ty.bool (decide ((0:Int) < (((List.length ([]:List Knd)):Nat):Int)))) s30 a37 (.tmp 69):=r18
      clear r18;refine wpList_nil (tn ?_)
      refine cond_p (p:=((0:Int) < (((List.length ([]:List Knd)):Nat):Int))) q290 (fun c5=>?_) (fun c5=>?_)
      ·
       exfalso
       simp at c5
      ·
       refine wp_skip (tn (wp_seq ?_))
       refine gI a37 s30 ok36 (gM q285 (gM q286 (gM q287 (gE2 ok36 fun a38 s31 ok37 D13=>?_))))
       refine tL ok37 (y_callL (L:=[]) [] [] _ rfl dE Try.func51 rfl rfl my3 (count_fn (n) (gens) (colours) _ lW _ _ _ (uL (D13.m 0 rfl)) (uL (D13.m 1 rfl)) (uL (D13.m 2 rfl))  )) fun a39 s32 hs19 ok38 r19 sm24=>?_
       obtain ⟨t3,⟨g1,g2,hT1,hp1⟩,B1⟩:=r19
       have q306:At (Ty.tup2 (Ty.nat (g1)) (Ty.int (g2))) s32 a39 (.tmp 74):=Ty.up _ B1.le hT1
       refine tL ok38 (Yld.toL (y_mv q306)) fun a40 s33 hs20 ok39 r20 sm25=>?_
       have q313:At (Ty.tup2 (Ty.nat (g1)) (Ty.int (g2))) s33 a40 (.tmp 70):=r20
       clear r20
       refine tL (R:=(fun v τ=>Pr.has (Ty.pr (Ty.nat (g1))) τ v)) ok39 (Yld.toL (y_ext2_0 q313)) fun a41 s34 hs21 ok40 r21 sm26=>?_
       have q321:At (Ty.nat (g1)) s34 a41 (.tmp 75):=r21
       clear r21
       refine tL (R:=(fun v τ=>Pr.has (Ty.pr (Ty.int (g2))) τ v)) ok40 (Yld.toL (y_ext2_1 (kq hs21 sm26 70 q313))) fun a42 s35 hs22 ok41 r22 sm27=>?_
       have q329:At (Ty.int (g2)) s35 a42 (.tmp 76):=r22
       clear r22
       refine tL ok41 (Yld.toL (y_as (kq hs22 sm27 75 q321))) fun a43 s36 hs23 ok42 r23 sm28=>?_
       have q337:At (Ty.nat (g1)) s36 a43 (.tmp 14):=r23
       clear r23
       refine tL ok42 (Yld.toL (y_as (kq hs23 sm28 76 q329))) fun a44 s37 hs24 ok43 r24 sm29=>?_
       have q339:=kq hs24 sm29 0 (kq hs23 sm28 0 (kq hs22 sm27 0 (kq hs21 sm26 0 (kq hs20 sm25 0 (kq hs19 sm24 0 (D13.k q285))))));have q340:=kq hs24 sm29 1 (kq hs23 sm28 1 (kq hs22 sm27 1 (kq hs21 sm26 1 (kq hs20 sm25 1 (kq hs19 sm24 1 (D13.k q286))))));have q341:=kq hs24 sm29 2 (kq hs23 sm28 2 (kq hs22 sm27 2 (kq hs21 sm26 2 (kq hs20 sm25 2 (kq hs19 sm24 2 (D13.k q287))))))
       have q345:At (Ty.int (g2)) s37 a44 (.tmp 12):=r24
       clear r24;refine wpList_nil (tn (wp_seq ?_))
       refine gI a44 s37 ok43 (gM q339 (gM q340 (gM q341 (gE2 ok43 fun a45 s38 ok44 D14=>?_))))
       refine tL ok44 (y_callL (L:=[]) [] [] _ rfl dE Try.func52 rfl rfl my3 (rcount_fn (n) (gens) (colours) _ lW _ _ _ (uL (D14.m 0 rfl)) (uL (D14.m 1 rfl)) (uL (D14.m 2 rfl))  )) fun a46 s39 hs25 ok45 r25 sm30=>?_
       obtain ⟨t4,⟨g3,g4,hT2,hp2⟩,B2⟩:=r25
       have q365:At (Ty.tup2 (Ty.nat (g3)) (Ty.int (g4))) s39 a46 (.tmp 81):=Ty.up _ B2.le hT2
       refine tL ok45 (Yld.toL (y_mv q365)) fun a47 s40 hs26 ok46 r26 sm31=>?_
       have q374:At (Ty.tup2 (Ty.nat (g3)) (Ty.int (g4))) s40 a47 (.tmp 77):=r26
       clear r26
       refine tL (R:=(fun v τ=>Pr.has (Ty.pr (Ty.nat (g3))) τ v)) ok46 (Yld.toL (y_ext2_0 q374)) fun a48 s41 hs27 ok47 r27 sm32=>?_
       have q384:At (Ty.nat (g3)) s41 a48 (.tmp 82):=r27
       clear r27
       refine tL (R:=(fun v τ=>Pr.has (Ty.pr (Ty.int (g4))) τ v)) ok47 (Yld.toL (y_ext2_1 (kq hs27 sm32 77 q374))) fun a49 s42 hs28 ok48 r28 sm33=>?_
       have q394:At (Ty.int (g4)) s42 a49 (.tmp 83):=r28
       clear r28
       refine tL ok48 (Yld.toL (y_as (kq hs28 sm33 82 q384))) fun a50 s43 hs29 ok49 r29 sm34=>?_
       have q404:At (Ty.nat (g3)) s43 a50 (.tmp 15):=r29
       clear r29
       refine tL ok49 (Yld.toL (y_as (kq hs29 sm34 83 q394))) fun a51 s44 hs30 ok50 r30 sm35=>?_
       have q414:At (Ty.int (g4)) s44 a51 (.tmp 16):=r30
       clear r30;refine wpList_nil (tn (wp_seq (wp_seq ?_)))
       have hcc:=hp1.one hp2
       refine gI a51 s44 ok50 (gM (kq hs30 sm35 12 (kq hs29 sm34 12 (kq hs28 sm33 12 (kq hs27 sm32 12 (kq hs26 sm31 12 (kq hs25 sm30 12 (D14.k q345))))))) (gM q414 (gS rfl (fun A B G H I d0 d1=>rP (y_neq (eI d0) (eI d1))) (gS rfl (fun A B G H I d0=>rP (y_move (eI d0))) (gS rfl (fun A B G H I d0=>gu H (eI d0) fun hg=>y_move (kp (I 14 rfl) G (kq hs30 sm35 14 (kq hs29 sm34 14 (kq hs28 sm33 14 (kq hs27 sm32 14 (kq hs26 sm31 14 (kq hs25 sm30 14 (D14.k (kq hs24 sm29 14 q337)))))))))) (gS rfl (fun A B G H I d0=>gu H (eI d0) fun hg=>y_move (kp (I 15 rfl) G (kq hs30 sm35 15 q404))) (gS rfl (fun A B G H I d0 d1 d2=>gu H (eI d2) fun hg=>y_neq ((ef d0 rfl).1 hg) ((ef d1 rfl).1 hg)) (gS rfl (fun A B G H I d0 d1=>rP (y_pick_or (eI d0) rfl (eI d1))) (gE ok50 fun a52 s45 ok51 D15=>?_)))))))));refine tn ?_
       refine cond_t (D15.m 7 rfl) (fun c6=>?_) (fun c6=>?_)
       ·
        exfalso
        (simp [hcc.1,hcc.2] at c6)
       ·
        obtain ⟨d1,d2⟩:=Bool.or_eq_false_iff.mp c6
        replace d1:=of_decide_eq_false d1
        replace d2:=of_decide_eq_false d2
        refine wp_skip (tn (wp_seq ?_))
        have hF:FOk n gens ([]:List (List Int)) e:=hE.fok
        refine gI a52 s45 ok51 (gE2 ok51 fun a53 s46 ok52 D16=>?_);have q423:=D16.k (D15.k (kq hs30 sm35 0 (kq hs29 sm34 0 (kq hs28 sm33 0 (kq hs27 sm32 0 (kq hs26 sm31 0 (kq hs25 sm30 0 (D14.k q339))))))))
        refine tL ok52 (Yld.toL (y_mv q423)) fun a54 s47 hs31 ok53 r31 sm36=>?_
        have q430:=kq hs31 sm36 1 (D16.k (D15.k (kq hs30 sm35 1 (kq hs29 sm34 1 (kq hs28 sm33 1 (kq hs27 sm32 1 (kq hs26 sm31 1 (kq hs25 sm30 1 (D14.k q340)))))))))
        have q434:At (Ty.int n) s47 a54 (.tmp 92):=r31
        clear r31
        refine tL ok53 (Yld.toL (y_mv q430)) fun a55 s48 hs32 ok54 r32 sm37=>?_
        have q442:At (Ty.lst Ty.ints gens) s48 a55 (.tmp 93):=r32
        clear r32
        refine tL ok54 (Yld.toL (y_mv (kq hs32 sm37 2 (kq hs31 sm36 2 (D16.k (D15.k (kq hs30 sm35 2 (kq hs29 sm34 2 (kq hs28 sm33 2 (kq hs27 sm32 2 (kq hs26 sm31 2 (kq hs25 sm30 2 (D14.k q341))))))))))))) fun a56 s49 hs33 ok55 r33 sm38=>?_
        have q447:=kq hs33 sm38 13 (kq hs32 sm37 13 (kq hs31 sm36 13 (D16.k (D15.k (kq hs30 sm35 13 (kq hs29 sm34 13 (kq hs28 sm33 13 (kq hs27 sm32 13 (kq hs26 sm31 13 (kq hs25 sm30 13 (D14.k (kq hs24 sm29 13 (kq hs23 sm28 13 (kq hs22 sm27 13 (kq hs21 sm26 13 (kq hs20 sm25 13 (kq hs19 sm24 13 (D13.k (kq hs18 sm23 13 (kq hs17 sm22 13 (kq hs16 sm21 13 (kq hs15 sm20 13 (kq hs14 sm19 13 (kq hs13 sm18 13 (kq hs12 sm17 13 (kq hs11 sm16 13 (kq hs10 sm15 13 (kq hs9 sm14 13 (kq hs8 sm13 13 q193)))))))))))))))))))))))))))))
        have q450:At (Ty.int colours) s49 a56 (.tmp 94):=r33
        clear r33
        refine tL ok55 (Yld.toL (y_mv q447)) fun a57 s50 hs34 ok56 r34 sm39=>?_
        have q451:=kq hs34 sm39 9 (kq hs33 sm38 9 (kq hs32 sm37 9 (kq hs31 sm36 9 (D16.k (D15.k (kq hs30 sm35 9 (kq hs29 sm34 9 (kq hs28 sm33 9 (kq hs27 sm32 9 (kq hs26 sm31 9 (kq hs25 sm30 9 (D14.k (kq hs24 sm29 9 (kq hs23 sm28 9 (kq hs22 sm27 9 (kq hs21 sm26 9 (kq hs20 sm25 9 (kq hs19 sm24 9 (D13.k (kq hs18 sm23 9 (kq hs17 sm22 9 (kq hs16 sm21 9 (kq hs15 sm20 9 (kq hs14 sm19 9 (kq hs13 sm18 9 (kq hs12 sm17 9 (kq hs11 sm16 9 q213)))))))))))))))))))))))))))
        have q459:At (Ty.val (Value.slice none 0 0)) s50 a57 (.tmp 95):=r34
        clear r34
        refine tL ok56 (Yld.toL (y_mv q451)) fun a58 s51 hs35 ok57 r35 sm40=>?_
        have q469:At (Ty.int e) s51 a58 (.tmp 96):=r35
        clear r35
        refine tL (R:=(fun v τ=>Pr.has (Ty.pr (Ty.bool true)) τ v)) ok57 (Yld.toL (y_call _ Try.func53 rfl rfl my5 (colourList_fn (n) (gens) (colours) (([]:List (List Int))) (e) _ _ _ _ _ _ (kq hs35 sm40 92 (kq hs34 sm39 92 (kq hs33 sm38 92 (kq hs32 sm37 92 q434)))) (kq hs35 sm40 93 (kq hs34 sm39 93 (kq hs33 sm38 93 q442))) (kq hs35 sm40 94 (kq hs34 sm39 94 q450)) (nil_lst (σ:=s51) rfl (kq hs35 sm40 95 q459)) (cvi (σ:=s51) oX q469) oX))) fun a59 s52 hs36 ok58 r36 sm41=>?_
        have q475:At (Ty.bool true) s52 a59 (.tmp 97):=r36
        clear r36
        refine tL ok58 (Yld.toL (y_mv q475)) fun a60 s53 hs37 ok59 r37 sm42=>?_
        have q481:At (Ty.bool true) s53 a60 (.tmp 98):=r37
        clear r37
        refine tD (T:=(Ty.int n)) ok59 q481 (y_move (kq hs37 sm42 0 (kq hs36 sm41 0 (kq hs35 sm40 0 (kq hs34 sm39 0 (kq hs33 sm38 0 (kq hs32 sm37 0 (kq hs31 sm36 0 q423)))))))) fun a61 s54 hs38 ok60 r38 sm43=>?_
        have q486:=kq hs38 sm43 98 q481
        have q487:At (Ty.int n) s54 a61 (.tmp 99):=r38
        clear r38
        refine tD (T:=(Ty.lst Ty.ints gens)) ok60 q486 (y_move (kq hs38 sm43 1 (kq hs37 sm42 1 (kq hs36 sm41 1 (kq hs35 sm40 1 (kq hs34 sm39 1 (kq hs33 sm38 1 (kq hs32 sm37 1 q430)))))))) fun a62 s55 hs39 ok61 r39 sm44=>?_
        have q491:=kq hs39 sm44 98 q486
        have q493:At (Ty.lst Ty.ints gens) s55 a62 (.tmp 100):=r39
        clear r39
        refine tD (T:=(Ty.lst Ty.int many)) ok61 q491 (y_move (kq hs39 sm44 3 (kq hs38 sm43 3 (kq hs37 sm42 3 (kq hs36 sm41 3 (kq hs35 sm40 3 (kq hs34 sm39 3 (kq hs33 sm38 3 (kq hs32 sm37 3 (kq hs31 sm36 3 (D16.k (D15.k (kq hs30 sm35 3 (kq hs29 sm34 3 (kq hs28 sm33 3 (kq hs27 sm32 3 (kq hs26 sm31 3 (kq hs25 sm30 3 (D14.k (kq hs24 sm29 3 (kq hs23 sm28 3 (kq hs22 sm27 3 (kq hs21 sm26 3 (kq hs20 sm25 3 (kq hs19 sm24 3 (D13.k (kq hs18 sm23 3 (kq hs17 sm22 3 (kq hs16 sm21 3 (kq hs15 sm20 3 (kq hs14 sm19 3 (kq hs13 sm18 3 (kq hs12 sm17 3 (kq hs11 sm16 3 (kq hs10 sm15 3 (kq hs9 sm14 3 (kq hs8 sm13 3 q191))))))))))))))))))))))))))))))))))))) fun a63 s56 hs40 ok62 r40 sm45=>?_
        have q496:=kq hs40 sm45 98 q491
        have q499:At (Ty.lst Ty.int many) s56 a63 (.tmp 101):=r40
        clear r40
        refine tD (T:=(Ty.val (Value.slice none 0 0))) ok62 q496 (y_move (kq hs40 sm45 13 (kq hs39 sm44 13 (kq hs38 sm43 13 (kq hs37 sm42 13 (kq hs36 sm41 13 (kq hs35 sm40 13 (kq hs34 sm39 13 q447)))))))) fun a64 s57 hs41 ok63 r41 sm46=>?_
        have q501:=kq hs41 sm46 98 q496
        have q505:At (Ty.val (Value.slice none 0 0)) s57 a64 (.tmp 102):=r41
        clear r41
        refine tD (T:=(Ty.int e)) ok63 q501 (y_move (kq hs41 sm46 9 (kq hs40 sm45 9 (kq hs39 sm44 9 (kq hs38 sm43 9 (kq hs37 sm42 9 (kq hs36 sm41 9 (kq hs35 sm40 9 q451)))))))) fun a65 s58 hs42 ok64 r42 sm47=>?_
        have q506:=kq hs42 sm47 98 q501
        have q511:At (Ty.int e) s58 a65 (.tmp 103):=r42
        clear r42
        refine tD (T:=(Ty.bool true)) ok64 q506 (y_call _ Try.func54 rfl rfl my5 (colourWith_fn (n) (gens) (many) (([]:List (List Int))) (e) _ _ _ _ _ _ (kq hs42 sm47 99 (kq hs41 sm46 99 (kq hs40 sm45 99 (kq hs39 sm44 99 q487)))) (kq hs42 sm47 100 (kq hs41 sm46 100 (kq hs40 sm45 100 q493))) (kq hs42 sm47 101 (kq hs41 sm46 101 q499)) (nil_lst (σ:=s58) rfl (kq hs42 sm47 102 q505)) (cvi (σ:=s58) oX q511) oX)) fun a66 s59 hs43 ok65 r43 sm48=>?_
        have q513:At (Ty.bool true) s59 a66 (.tmp 104):=r43
        clear r43
        refine tL (R:=(fun v τ=>Pr.has (Ty.pr (Ty.bool true)) τ v)) ok65 (Yld.toL (y_pickT (kq hs43 sm48 98 q506) q513)) fun a67 s60 hs44 ok66 r44 sm49=>?_
        have q514:At (Ty.bool true) s60 a67 (.tmp 105):=r44
        clear r44
        refine tL ok66 (Yld.toL (y_as q514)) fun a68 s61 hs45 ok67 r45 sm50=>?_
        have q515:At (Ty.bool true) s61 a68 (.tmp 8):=r45
        clear r45;refine wpList_nil (tn (wp_ret ?_))
        exact retL1 rfl ok67 (((((((((((((((((((((((((((((((((((((((((((((((((((((F9.step0 D9.stp).step0 D10.stp).step0 D11.stp).step0 D12.stp).sl hs1).sl hs2).sl hs3).sl hs4).sl hs5).sl hs6).sl hs7).sl hs8).sl hs9).sl hs10).sl hs11).sl hs12).sl hs13).sl hs14).sl hs15).sl hs16).sl hs17).sl hs18).step0 D13.stp).sl hs19).sl hs20).sl hs21).sl hs22).sl hs23).sl hs24).step0 D14.stp).sl hs25).sl hs26).sl hs27).sl hs28).sl hs29).sl hs30).step0 D15.stp).step0 D16.stp).sl hs31).sl hs32).sl hs33).sl hs34).sl hs35).sl hs36).sl hs37).sl hs38).sl hs39).sl hs40).sl hs41).sl hs42).sl hs43).sl hs44).sl hs45) q515
     · exact absurd hne0 (of_decide_eq_false hg3)
set_option maxHeartbeats 4000000 in
set_option maxRecDepth 100000 in
theorem csB_fn (n:Nat) (gens:List (List Int)) (colours:Int) (many:List Int) (σ:GW)  (v0 v1 v2 v3:Value) (hv0:Ty.has (Ty.nat n) σ v0) (hv1:Ty.has (Ty.lst Ty.ints gens) σ v1) (hv2:Ty.has (Ty.int colours) σ v2) (hv3:Ty.has (Ty.lst Ty.int many) σ v3)  (hG0:gensMay (n:Int) gens = 0) (hP:720 < szTo n (fun y=>y ∈ gens) n∧szTo n (fun y=>y ∈ gens) n < 5041) :
    FnC Try.prog 10 #[v0,v1,v2,v3] σ (Ty.bool true):=by
 obtain ⟨hn,hGl,hG⟩:=may_nat hG0
 have hGl3:gens.length ≤ 1000:=oM
 have hsb:=szTo_bd (n:=n) (S:=fun y=>y ∈ gens) (k:=n) hn.2
 refine fn_intro0 Try.func10 rfl Try.ntmps10 (Nat.le_of_ble_eq_true rfl) (fun s0 a0 hle F0 ok0 hargs=>?_)
 have p0:=pA hle (hargs 0 _ rfl) hv0
 have p1:=pA hle (hargs 1 _ rfl) hv1
 have b1:=sl_le p1
 have p2:=pA hle (hargs 2 _ rfl) hv2
 have p3:=pA hle (hargs 3 _ rfl) hv3
 have b2:=sl_le p3
 clear hargs;refine wp_seq ?_
 refine gI a0 s0 ok0 (gC (Ty.bool false) (gE ok0 fun a1 s1 ok1 D1=>?_));have q1:=D1.k p0;have q2:=D1.k p1;refine tn (wp_seq ?_)
 refine gI a1 s1 ok1 (gM q1 (gM q2 (gS rfl (fun A B G H I d0 d1=>rP (y_call _ Try.func24 rfl rfl my2 (rGensMay_fn (((n:Nat):Int)) (gens) _ _ _ (cvi (σ:=B) oM (ef d0 rfl)) (eI d1) ))) (gB 0 (gE ok1 fun a2 s2 ok2 D2=>?_)))))
 have q10:At (Ty.int (0:Int)) s2 a2 (.tmp 9):=(cvi (by (rw [hG0])) (D2.m 3 rfl))
 refine tn (wp_seq ?_)
 refine gI a2 s2 ok2 (gC (Ty.int (0:Int)) (gE ok2 fun a3 s3 ok3 D3=>?_));refine tn (wp_seq (wp_seq ?_))
 refine gI a3 s3 ok3 (gM (D3.k q10) (gT (Ty.bool true) rfl (fun A B G H I d0=>rP ((y_eql (eI d0) rfl).mono (fun τ _ h=>cvb (σ:=τ) dE h))) (gE ok3 fun a4 s4 ok4 D4=>?_)));refine tn ?_
 refine cond_t (D4.m 1 rfl) (fun _=>?_) (fun c1=>(by cases c1))
 refine wp_seq ?_
 refine gI a4 s4 ok4 (gM (D4.k (D3.k (D2.k q1))) (gM (D4.k (D3.k (D2.k q2))) (gS rfl (fun A B G H I d0 d1=>rP (y_call _ Try.func20 rfl rfl my2 (rSizes_fn (n) (gens) _ _ _ (eI d0) (eI d1) (by first | omega | assumption | exact hst1) (by first | omega | assumption | exact hst1) (by first | omega | assumption | exact hst1)))) (gB 0 (gE ok4 fun a5 s5 ok5 D5=>?_)))));have q27:=D5.m 3 rfl;refine tn (wp_seq (wp_seq ?_))
 refine gI a5 s5 ok5 (gM q27 (gS rfl (fun A B G H I d0=>rP (y_gtr (eI d0) rfl)) (gS rfl (fun A B G H I d0=>rP (y_move (eI d0))) (gS rfl (fun A B G H I d0=>gu H (eI d0) fun hg=>y_move (kp (I 10 rfl) G q27)) (gS rfl (fun A B G H I d0 d1=>gu H (eI d1) fun hg=>y_lss ((ef d0 rfl).1 hg) rfl) (gS rfl (fun A B G H I d0 d1=>rP (y_pick_and (eI d0) (eI d1) rfl)) (gE ok5 fun a6 s6 ok6 D6=>?_)))))));refine tn ?_
 refine cond_t (D6.m 5 rfl) (fun c2=>?_) (fun c2=>?_)
 ·
  obtain ⟨d1,d2⟩:=Bool.and_eq_true_iff.mp c2
  replace d1:=of_decide_eq_true d1
  replace d2:=of_decide_eq_true d2
  refine wp_seq ?_
  refine gI a6 s6 ok6 (gC (Ty.bool true) (gE ok6 fun a7 s7 ok7 D7=>?_));refine tn (wp_ret (tr (tr ?_)))
  exact retL1 rfl ok7 (((((((F0.step0 D1.stp).step0 D2.stp).step0 D3.stp).step0 D4.stp).step0 D5.stp).step0 D6.stp).step0 D7.stp) (D7.m 0 rfl)
 ·
  exfalso
  (simp only [Bool.and_eq_false_iff,decide_eq_false_iff_not,reduceCtorEq,false_or] at c2;omega)
end Go.Proofs.Ytkjifbgofckfeaa
