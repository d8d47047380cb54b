/- The functions that the law TopBurnside reaches, each by its contract. Part 6. -/
import Derived.Test.YtkjifbgofckfeaaTopBurnsideW5
namespace Go.Proofs.Ytkjifbgofckfeaa
open Go.KL

set_option maxHeartbeats 4000000 in
set_option maxRecDepth 100000 in
theorem topBurnside_fn (raw : List Int) (n : Int) (many : Int) (σ : GW)  (v0 v1 v2 : Value) (hv0 : Ty.has (Ty.lst Ty.int raw) σ v0) (hv1 : Ty.has (Ty.int n) σ v1) (hv2 : Ty.has (Ty.int many) σ v2)  (hraw : ∀ x ∈ raw, -9223372036854775808 ≤ x ∧ x ≤ 9223372036854775807) (hn : -9223372036854775808 ≤ n ∧ n ≤ 9223372036854775807) (hmany : -9223372036854775808 ≤ many ∧ many ≤ 9223372036854775807) (hlr : raw.length ≤ 140737488355328) :
    FnC Try.prog 14 #[v0, v1, v2] σ (Ty.bool true) := by
 have hp_n := pick_lt n (n := 6) oM
 have hp_many := pick_lt many (n := 3) oM
 obtain ⟨N, hN⟩ : ∃ N, N = 1 + pick n 6 := ⟨_, rfl⟩
 have hN12 : 1 ≤ N ∧ N ≤ 12 := oM
 have hN6 : N ≤ 6 := oM
 obtain ⟨GS, hGS⟩ : ∃ GS, GS = rowsOf raw 0 N (pick many 3) := ⟨_, rfl⟩
 have hGr : ∀ x ∈ GS, RowN N x := by (rw [hGS]; exact rowsOf_row hN12)
 have hGl : GS.length ≤ 8 := by (rw [hGS, rowsOf_len]; omega)
 have hG0 : gensMay (N : Int) GS = 0 := gensMay_of hN12 hGl hGr
 have hf6 := fct_mono hN6
 have hfv : fct 6 = 720 := rfl
 obtain ⟨E, hE⟩ := elts_ex hN12 hGr
 have hEl := few_rows hE.nd (hE.rows hN12 hGr)
 have hEs := hE.len
 have hL : szTo N (fun y => y ∈ GS) N ≤ 5040 := oM
 refine fn_intro0 Try.func14 rfl Try.ntmps14 (Nat.le_of_ble_eq_true rfl) (fun s0 a0 hle F0 ok0 hargs => ?_)
 have p0 := pA hle (hargs 0 _ rfl) hv0
 have b1 := sl_le p0
 have p1 := pA hle (hargs 1 _ rfl) hv1
 have p2 := pA hle (hargs 2 _ rfl) hv2
 clear hargs; refine wp_seq ?_
 refine gI a0 s0 ok0 (gC (Ty.bool false) (gE ok0 fun a1 s1 ok1 D1 => ?_)); have q1 := D1.k p0; refine tn (wp_seq (wp_seq ?_))
 refine gI a1 s1 ok1 (gM q1 (gS rfl (fun A B G H I d0 => rP (y_len Try.underlying22 (eI d0))) (gS rfl (fun A B G H I d0 => rP (y_gtr (eI d0) rfl)) (gE ok1 fun a2 s2 ok2 D2 => ?_)))); have F2 := (F0.step0 D1.stp).step0 D2.stp; refine tn ?_
 refine cond_p (p := ((256 : Int) < (((List.length raw) : Nat) : Int))) (D2.m 2 rfl) (fun c1 => ?_) (fun c1 => ?_)
 ·
  refine wp_seq ?_
  refine gI a2 s2 ok2 (gC (Ty.bool true) (gE ok2 fun a3 s3 ok3 D3 => ?_)); refine tn (wp_ret (tr ?_))
  exact retL1 rfl ok3 (F2.step0 D3.stp) (D3.m 0 rfl)
 ·
  refine wp_skip (tn (wp_seq ?_))
  refine gI a2 s2 ok2 (gM (D2.k (D1.k p1)) (gS rfl (fun A B G H I d0 => rP (y_call #[A.eval (.tmp 22), A.eval ((Operand.const (Value.int IntKind.i64 6)))] Try.func15 rfl rfl my2 (pick_fn (n) (6) _ _ _ (cvi (σ := B) oM (ef d0 rfl)) (cvi (σ := B) oM rfl) oM oM))) (gT (Ty.nat (1 + (pick (n) (6)))) rfl (fun A B G H I d0 => rP ((y_add rfl (eI d0) wX).mono (fun τ _ h => cN (σ := τ) h))) (gB 0 (gE ok2 fun a4 s4 ok4 D4 => ?_)))))
  have q12 : At (Ty.nat N) s4 a4 (.tmp 1) := (cvi (by (rw [hN])) (D4.m 3 rfl))
  refine tn (wp_seq ?_)
  refine gI a4 s4 ok4 (gM (D4.k (D2.k q1)) (gM q12 (gM (D4.k (D2.k (D1.k p2))) (gS rfl (fun A B G H I d0 => rP (y_call #[A.eval (.tmp 27), A.eval ((Operand.const (Value.int IntKind.i64 3)))] Try.func15 rfl rfl my2 (pick_fn (many) (3) _ _ _ (cvi (σ := B) oM (ef d0 rfl)) (cvi (σ := B) oM rfl) oM oM))) (gS rfl (fun A B G H I d0 d1 d2 d3 => rP (y_call #[A.eval (.tmp 25), A.eval ((Operand.const (Value.int IntKind.i64 0))), A.eval (.tmp 26), A.eval (.tmp 28)] Try.func16 rfl rfl my4 (rRowsOf_fn (raw) (0) (N) ((pick (many) (3))) _ _ _ _ _ (eI d0) (cvi (σ := B) (by first | omega | exact wr64_bd _ | assumption) rfl) (cvi (σ := B) (by first | omega | exact wr64_bd _ | assumption) (ef d1 rfl)) (cvi (σ := B) (by first | omega | exact wr64_bd _ | assumption) (ef d2 rfl)) (by first | omega | exact wr64_bd _ | assumption) (by first | omega | exact wr64_bd _ | assumption) (by first | omega | exact wr64_bd _ | assumption)))) (gB 0 (gE ok4 fun a5 s5 ok5 D5 => ?_)))))))
  have q15 : At (Ty.lst Ty.ints GS) s5 a5 (.tmp 7) := (cvt (by (rw [hGS])) (D5.m 5 rfl))
  refine tn (wp_seq (wp_seq ?_))
  refine gI a5 s5 ok5 (gC (Ty.int (1 : Int)) (gE ok5 fun a6 s6 ok6 D6 => ?_)); refine tn (wp_block ?_)
  refine loop (fun n1 a7 w1 => ∃ (t1 : GW) (c : Nat), t1.w = w1 ∧ FromL [] s0 t1 ∧ Ok 98 [] a7 ∧ At (Ty.nat c) t1 a7 (.tmp 8) ∧ At (Ty.nat N) t1 a7 (.tmp 1) ∧ At (Ty.lst Ty.ints GS) t1 a7 (.tmp 7) ∧ (1 ≤ c ∧ c ≤ 4) ∧ n1 = 4 - c) (4 - (1)) ?_ ?_
  ·
   exact ⟨s6, 1, rfl, (((F2.step0 D4.stp).step0 D5.stp).step0 D6.stp), ok6, (cJ (D6.m 0 rfl)), (D6.k (D5.k q12)), (D6.k q15), by omega, rfl⟩
  ·
   rintro n2 a8 w2 ⟨t2, c, rfl, F7, ok7, q19, q20, q21, hc, rfl⟩
   refine wp_seq (wp_seq ?_)
   refine gI a8 t2 ok7 (gM q19 (gS rfl (fun A B G H I d0 => rP (y_lss (eI d0) rfl)) (gE ok7 fun a9 s7 ok8 D7 => ?_))); have F8 := F7.step0 D7.stp; have q22 := D7.k q19; have q23 := D7.k q20; have q24 := D7.k q21; refine tn ?_
   refine cond_p (p := (((c : Nat) : Int) < (4 : Int))) (D7.m 1 rfl) (fun c2 => ?_) (fun c2 => ?_)
   ·
    have hcp := pow_36 (c := c) (n := N) oM hN6
    refine wp_skip (tn (wp_seq (wp_block (wp_seq ?_))))
    refine gI a9 s7 ok8 (gM q23 (gM q24 (gM q22 (gE2 ok8 fun a10 s8 ok9 D8 => ?_))))
    refine tL ok9 (y_callL (L := []) [] [] _ rfl dE Try.func51 rfl rfl my3 (count_fn (((N : Nat) : Int)) (GS) (((c : Nat) : Int)) _ lW _ _ _ (uL (cvi (σ := s8) oX (D8.m 0 rfl))) (uL (D8.m 1 rfl)) (uL (cvi (σ := s8) oX (D8.m 2 rfl)))  )) fun a11 s9 hs1 ok10 r1 sm1 => ?_
    obtain ⟨t3, ⟨g1, g2, hT1, hp1⟩, B1⟩ := r1
    have q35 : At (Ty.tup2 (Ty.nat (g1)) (Ty.int (g2))) s9 a11 (.tmp 38) := Ty.up _ B1.le hT1
    refine tL ok10 (Yld.toL (y_mv q35)) fun a12 s10 hs2 ok11 r2 sm2 => ?_
    have q39 : At (Ty.tup2 (Ty.nat (g1)) (Ty.int (g2))) s10 a12 (.tmp 34) := r2
    clear r2
    refine tL (R := (fun v τ => Pr.has (Ty.pr (Ty.nat (g1))) τ v)) ok11 (Yld.toL (y_ext2_0 q39)) fun a13 s11 hs3 ok12 r3 sm3 => ?_
    have q44 : At (Ty.nat (g1)) s11 a13 (.tmp 39) := r3
    clear r3
    refine tL (R := (fun v τ => Pr.has (Ty.pr (Ty.int (g2))) τ v)) ok12 (Yld.toL (y_ext2_1 (kq hs3 sm3 34 q39))) fun a14 s12 hs4 ok13 r4 sm4 => ?_
    have q49 : At (Ty.int (g2)) s12 a14 (.tmp 40) := r4
    clear r4
    refine tL ok13 (Yld.toL (y_as (kq hs4 sm4 39 q44))) fun a15 s13 hs5 ok14 r5 sm5 => ?_
    have q54 : At (Ty.nat (g1)) s13 a15 (.tmp 9) := r5
    clear r5
    refine tL ok14 (Yld.toL (y_as (kq hs5 sm5 40 q49))) fun a16 s14 hs6 ok15 r6 sm6 => ?_
    have q55 := kq hs6 sm6 8 (kq hs5 sm5 8 (kq hs4 sm4 8 (kq hs3 sm3 8 (kq hs2 sm2 8 (kq hs1 sm1 8 (D8.k q22)))))); have q56 := kq hs6 sm6 1 (kq hs5 sm5 1 (kq hs4 sm4 1 (kq hs3 sm3 1 (kq hs2 sm2 1 (kq hs1 sm1 1 (D8.k q23)))))); have q57 := kq hs6 sm6 7 (kq hs5 sm5 7 (kq hs4 sm4 7 (kq hs3 sm3 7 (kq hs2 sm2 7 (kq hs1 sm1 7 (D8.k q24))))))
    have q59 : At (Ty.int (g2)) s14 a16 (.tmp 10) := r6
    clear r6; refine wpList_nil (tn (wp_seq ?_))
    obtain ⟨hk1, he1⟩ := hp1.one (CntP.ok (C := c) oM hG0 hL hE)
    have hkp := cnt_pos (C := c) oM hE
    refine gI a16 s14 ok15 (gM q56 (gM q57 (gM q55 (gE2 ok15 fun a17 s15 ok16 D9 => ?_))))
    refine tL ok16 (y_callL (L := []) [] [] _ rfl dE Try.func61 rfl rfl my3 (pattE_fn (N) (GS) (c) _ lW _ _ _ (uL (cvi (σ := s15) oX (D9.m 0 rfl))) (uL (D9.m 1 rfl)) (uL (cvi (σ := s15) oX (D9.m 2 rfl)))  oX oX oX oX)) fun a18 s16 hs7 ok17 r7 sm7 => ?_
    obtain ⟨t4, ⟨g3, hT2, hp2⟩, B2⟩ := r7
    have q73 : At (Ty.tup2 (Ty.lst Ty.ints (g3)) (Ty.int (0 : Int))) s16 a18 (.tmp 45) := Ty.up _ B2.le hT2
    refine tL ok17 (Yld.toL (y_mv q73)) fun a19 s17 hs8 ok18 r8 sm8 => ?_
    have q79 : At (Ty.tup2 (Ty.lst Ty.ints (g3)) (Ty.int (0 : Int))) s17 a19 (.tmp 41) := r8
    clear r8
    refine tL (R := (fun v τ => Pr.has (Ty.pr (Ty.lst Ty.ints (g3))) τ v)) ok18 (Yld.toL (y_ext2_0 q79)) fun a20 s18 hs9 ok19 r9 sm9 => ?_
    have q86 : At (Ty.lst Ty.ints (g3)) s18 a20 (.tmp 46) := r9
    clear r9
    refine tL (R := (fun v τ => Pr.has (Ty.pr (Ty.int (0 : Int))) τ v)) ok19 (Yld.toL (y_ext2_1 (kq hs9 sm9 41 q79))) fun a21 s19 hs10 ok20 r10 sm10 => ?_
    have q93 : At (Ty.int (0 : Int)) s19 a21 (.tmp 47) := r10
    clear r10
    refine tL ok20 (Yld.toL (y_as (kq hs10 sm10 46 q86))) fun a22 s20 hs11 ok21 r11 sm11 => ?_
    have q100 : At (Ty.lst Ty.ints (g3)) s20 a22 (.tmp 11) := r11
    clear r11
    refine tL ok21 (Yld.toL (y_as (kq hs11 sm11 47 q93))) fun a23 s21 hs12 ok22 r12 sm12 => ?_
    have q104 := kq hs12 sm12 9 (kq hs11 sm11 9 (kq hs10 sm10 9 (kq hs9 sm9 9 (kq hs8 sm8 9 (kq hs7 sm7 9 (D9.k (kq hs6 sm6 9 q54)))))))
    have q107 : At (Ty.int (0 : Int)) s21 a23 (.tmp 12) := r12
    clear r12; refine wpList_nil (tn (wp_seq ?_))
    obtain ⟨E2, hE2, hL2⟩ := hp2
    have hLl : g3.length = g1 := (by rw [hL2, hk1, cnt_cols hN12 hGr hE, filter_fst (fun x => (hE2.mem x).trans (hE.mem x).symm)])
    refine gI a23 s21 ok22 (gM (kq hs12 sm12 10 (kq hs11 sm11 10 (kq hs10 sm10 10 (kq hs9 sm9 10 (kq hs8 sm8 10 (kq hs7 sm7 10 (D9.k q59))))))) (gS rfl (fun A B G H I d0 => rP (y_neq (eI d0) rfl)) (gS rfl (fun A B G H I d0 => rP (y_move (eI d0))) (gS rfl (fun A B G H I d0 => gu H (eI d0) fun hg => y_move (kp (I 12 rfl) G q107)) (gT (Ty.grd ((decide ((g2) ≠ (0 : Int))) = false) (Ty.bool false)) rfl (fun A B G H I d0 d1 => guf H (eI d1) fun hg hp => (y_neq ((ef d0 rfl).1 hg) rfl).mono (fun τ _ h => cvb (σ := τ) dE h)) (gS rfl (fun A B G H I d0 d1 => rP (y_pick_or (eI d0) rfl (eI d1))) (gS rfl (fun A B G H I d0 d1 => rP (y_move (eI d0))) (gT (Ty.grd (((decide ((g2) ≠ (0 : Int))) || false) = false) (Ty.nat (g1))) rfl (by intro A B G H I d0; refine run_guard H rfl rfl dE (eI d0) (fun hg => ?_); obtain ⟨d1, d2⟩ := Bool.or_eq_false_iff.mp hg; have d1 := of_decide_eq_false d1; exact y_move (kp (I 9 rfl) G q104)) (gT (Ty.grd (((decide ((g2) ≠ (0 : Int))) || false) = false) (Ty.lst Ty.ints (g3))) rfl (by intro A B G H I d0; refine run_guard H rfl rfl dE (eI d0) (fun hg => ?_); obtain ⟨d3, d4⟩ := Bool.or_eq_false_iff.mp hg; have d3 := of_decide_eq_false d3; exact y_move (kp (I 11 rfl) G (kq hs12 sm12 11 q100))) (gT (Ty.grd (((decide ((g2) ≠ (0 : Int))) || false) = false) (Ty.nat (List.length (g3)))) rfl (by intro A B G H I d0 d1; refine run_guard H rfl rfl dE (eI d1) (fun hg => ?_); obtain ⟨d5, d6⟩ := Bool.or_eq_false_iff.mp hg; have d5 := of_decide_eq_false d5; exact y_len Try.underlying24 ((ef d0 rfl).1 hg)) ?_))))))))))
    refine gT (Ty.grd (((decide ((g2) ≠ (0 : Int))) || false) = false) (Ty.bool (decide ((((g1) : Nat) : Int) ≠ (((List.length (g3)) : Nat) : Int))))) rfl (by intro A B G H I d0 d1 d2; refine run_guard H rfl rfl dE (eI d2) (fun hg => ?_); obtain ⟨d7, d8⟩ := Bool.or_eq_false_iff.mp hg; have d7 := of_decide_eq_false d7; exact y_neq ((ef d0 rfl).1 hg) ((ef d1 rfl).1 hg)) (gS rfl (fun A B G H I d0 d1 => rP (y_pick_or (eI d0) rfl (eI d1))) (gS rfl (fun A B G H I d0 d1 => rP (y_move (eI d0))) (gT (Ty.grd ((((decide ((g2) ≠ (0 : Int))) || false) || (decide ((((g1) : Nat) : Int) ≠ (((List.length (g3)) : Nat) : Int)))) = false) (Ty.nat (g1))) rfl (by intro A B G H I d0; refine run_guard H rfl rfl dE (eI d0) (fun hg => ?_); obtain ⟨d9, d10⟩ := Bool.or_eq_false_iff.mp hg; obtain ⟨d11, d12⟩ := Bool.or_eq_false_iff.mp d9; have d11 := of_decide_eq_false d11; have d10 := of_decide_eq_false d10; exact y_move (kp (I 9 rfl) G q104)) (gT (Ty.grd ((((decide ((g2) ≠ (0 : Int))) || false) || (decide ((((g1) : Nat) : Int) ≠ (((List.length (g3)) : Nat) : Int)))) = false) (Ty.bool (decide ((((g1) : Nat) : Int) < (1 : Int))))) rfl (by intro A B G H I d0 d1; refine run_guard H rfl rfl dE (eI d1) (fun hg => ?_); obtain ⟨d13, d14⟩ := Bool.or_eq_false_iff.mp hg; obtain ⟨d15, d16⟩ := Bool.or_eq_false_iff.mp d13; have d15 := of_decide_eq_false d15; have d14 := of_decide_eq_false d14; exact y_lss ((ef d0 rfl).1 hg) rfl) (gS rfl (fun A B G H I d0 d1 => rP (y_pick_or (eI d0) rfl (eI d1))) (gE ok22 fun a24 s22 ok23 D10 => ?_)))))); refine tn ?_
    refine cond_t (D10.m 15 rfl) (fun c3 => ?_) (fun c3 => ?_)
    ·
     exfalso
     simp only [Bool.or_eq_true, decide_eq_true_eq, Bool.false_eq_true, or_false] at c3; omega
    ·
     obtain ⟨d17, d18⟩ := Bool.or_eq_false_iff.mp c3
     obtain ⟨d19, d20⟩ := Bool.or_eq_false_iff.mp d17
     obtain ⟨d21, d22⟩ := Bool.or_eq_false_iff.mp d19
     replace d21 := of_decide_eq_false d21
     replace d20 := of_decide_eq_false d20
     replace d18 := of_decide_eq_false d18
     refine wp_skip (bn (tn ?_))
     refine gI a24 s22 ok23 (gM (D10.k (kq hs12 sm12 8 (kq hs11 sm11 8 (kq hs10 sm10 8 (kq hs9 sm9 8 (kq hs8 sm8 8 (kq hs7 sm7 8 (D9.k q55)))))))) (gT (Ty.nat (c + 1)) rfl (fun A B G H I d0 => rP ((y_add (eI d0) rfl wX).mono (fun τ _ h => cN (σ := τ) h))) (gB 0 (gE ok23 fun a25 s23 ok24 D11 => ?_))))
     exact tn ⟨4 - ((c + 1)), by omega, s23, (c + 1), rfl, ((((((((((((((((F8.step0 D8.stp).sl hs1).sl hs2).sl hs3).sl hs4).sl hs5).sl hs6).step0 D9.stp).sl hs7).sl hs8).sl hs9).sl hs10).sl hs11).sl hs12).step0 D10.stp).step0 D11.stp), ok24, (cJ (D11.m 2 rfl)), (D11.k (D10.k (kq hs12 sm12 1 (kq hs11 sm11 1 (kq hs10 sm10 1 (kq hs9 sm9 1 (kq hs8 sm8 1 (kq hs7 sm7 1 (D9.k q56))))))))), (D11.k (D10.k (kq hs12 sm12 7 (kq hs11 sm11 7 (kq hs10 sm10 7 (kq hs9 sm9 7 (kq hs8 sm8 7 (kq hs7 sm7 7 (D9.k q57))))))))), by omega, rfl⟩
   ·
    refine wp_exit (tx (tx (bx (tn (wp_seq ?_)))))
    refine gI a9 s7 ok8 (gM q23 (gM q24 (gE2 ok8 fun a26 s24 ok25 D12 => ?_)))
    refine tL ok25 (y_callL (L := []) [] [] #[a26.eval (.tmp 65), a26.eval (.tmp 66), a26.eval ((Operand.const (Value.int IntKind.i64 2)))] rfl dE Try.func51 rfl rfl my3 (count_fn (((N : Nat) : Int)) (GS) ((2 : Int)) _ lW _ _ _ (uL (cvi (σ := s24) oX (D12.m 0 rfl))) (uL (D12.m 1 rfl)) (uL (cvi (σ := s24) oX rfl))  )) fun a27 s25 hs13 ok26 r13 sm13 => ?_
    obtain ⟨t5, ⟨g4, g5, hT3, hp3⟩, B3⟩ := r13
    have q121 : At (Ty.tup2 (Ty.nat (g4)) (Ty.int (g5))) s25 a27 (.tmp 67) := Ty.up _ B3.le hT3
    refine tL ok26 (Yld.toL (y_mv q121)) fun a28 s26 hs14 ok27 r14 sm14 => ?_
    have q124 : At (Ty.tup2 (Ty.nat (g4)) (Ty.int (g5))) s26 a28 (.tmp 64) := r14
    clear r14
    refine tL (R := (fun v τ => Pr.has (Ty.pr (Ty.nat (g4))) τ v)) ok27 (Yld.toL (y_ext2_0 q124)) fun a29 s27 hs15 ok28 r15 sm15 => ?_
    have q128 : At (Ty.nat (g4)) s27 a29 (.tmp 68) := r15
    clear r15
    refine tL (R := (fun v τ => Pr.has (Ty.pr (Ty.int (g5))) τ v)) ok28 (Yld.toL (y_ext2_1 (kq hs15 sm15 64 q124))) fun a30 s28 hs16 ok29 r16 sm16 => ?_
    have q132 : At (Ty.int (g5)) s28 a30 (.tmp 69) := r16
    clear r16
    refine tL ok29 (Yld.toL (y_as (kq hs16 sm16 68 q128))) fun a31 s29 hs17 ok30 r17 sm17 => ?_
    have q136 : At (Ty.nat (g4)) s29 a31 (.tmp 13) := r17
    clear r17
    refine tL ok30 (Yld.toL (y_as (kq hs17 sm17 69 q132))) fun a32 s30 hs18 ok31 r18 sm18 => ?_
    have q140 : At (Ty.int (g5)) s30 a32 (.tmp 14) := r18
    clear r18; refine wpList_nil (tn (wp_seq ?_))
    obtain ⟨hk2, he2⟩ := cnt_two hG0 hL hE hp3
    refine gI a32 s30 ok31 (gC (Ty.int (0 : Int)) (gE ok31 fun a33 s31 ok32 D13 => ?_)); refine tn (wp_seq (wp_seq ?_))
    refine gI a33 s31 ok32 (gC (Ty.int (0 : Int)) (gE ok32 fun a34 s32 ok33 D14 => ?_)); refine tn (wp_block ?_)
    refine loop (fun n3 a35 w3 => ∃ (t6 : GW) (i : Nat), t6.w = w3 ∧ FromL [] s0 t6 ∧ Ok 98 [] a35 ∧ At (Ty.nat i) t6 a35 (.tmp 16) ∧ At (Ty.nat (twoT N E i)) t6 a35 (.tmp 15) ∧ At (Ty.nat N) t6 a35 (.tmp 1) ∧ At (Ty.lst Ty.ints GS) t6 a35 (.tmp 7) ∧ At (Ty.nat (g4)) t6 a35 (.tmp 13) ∧ At (Ty.int (g5)) t6 a35 (.tmp 14) ∧ (i ≤ N + 1) ∧ n3 = N + 1 - i) (N + 1 - (0)) ?_ ?_
    ·
     exact ⟨s32, 0, rfl, (((((((((F8.step0 D12.stp).sl hs13).sl hs14).sl hs15).sl hs16).sl hs17).sl hs18).step0 D13.stp).step0 D14.stp), ok33, (cJ (D14.m 0 rfl)), (cvi (by (rw [twoT_zero]; rfl)) (D14.k (D13.m 0 rfl))), (D14.k (D13.k (kq hs18 sm18 1 (kq hs17 sm17 1 (kq hs16 sm16 1 (kq hs15 sm15 1 (kq hs14 sm14 1 (kq hs13 sm13 1 (D12.k q23))))))))), (D14.k (D13.k (kq hs18 sm18 7 (kq hs17 sm17 7 (kq hs16 sm16 7 (kq hs15 sm15 7 (kq hs14 sm14 7 (kq hs13 sm13 7 (D12.k q24))))))))), (D14.k (D13.k (kq hs18 sm18 13 q136))), (D14.k (D13.k q140)), by omega, rfl⟩
    ·
     rintro n4 a36 w4 ⟨t7, i, rfl, F34, ok34, q152, q153, q154, q155, q156, q157, hi, rfl⟩
     have htb := twoT_bd (E := E) hN6 i
     refine wp_seq (wp_seq ?_)
     refine gI a36 t7 ok34 (gM q152 (gM q154 (gS rfl (fun A B G H I d0 d1 => rP (y_leq (eI d0) (eI d1))) (gE ok34 fun a37 s33 ok35 D15 => ?_)))); have F35 := F34.step0 D15.stp; have q158 := D15.k q152; have q159 := D15.k q153; have q160 := D15.k q154; have q161 := D15.k q155; have q162 := D15.k q156; have q163 := D15.k q157; refine tn ?_
     refine cond_p (p := (((i : Nat) : Int) ≤ ((N : Nat) : Int))) (D15.m 2 rfl) (fun c4 => ?_) (fun c4 => ?_)
     ·
      have hok2 := two_ok hN12.2 (show i ≤ N by omega); have hal2 := two_alt hN12.2 (show i ≤ N by omega)
      refine wp_skip (tn (wp_seq (wp_block (wp_seq ?_))))
      refine gI a37 s33 ok35 (gM q160 (gM q161 (gM q158 (gM q160 (gM q158 (gT (Ty.int (((N : Nat) : Int) - ((i : Nat) : Int))) rfl (fun A B G H I d0 d1 => rP (y_sub (eI d0) (eI d1) wX)) (gT (Ty.lst Ty.int [((i : Nat) : Int), (((N : Nat) : Int) - ((i : Nat) : Int))]) rfl (fun A B G H I d0 d1 => rP ((y_build2 Try.underlying22 Try.inf3 rfl (one_val rfl) (one_val rfl) (eI d0) (eI d1)).mono (fun _ _ h => h))) (gE2 ok35 fun a38 s34 ok36 D16 => ?_)))))))); have q173 := D16.m 6 rfl
      have b2 := sl_le q173
      refine tL ok36 (y_callL (L := []) [] [] _ rfl dE Try.func62 rfl rfl my3 (withE_fn (N) (GS) ([((i : Nat) : Int), (((N : Nat) : Int) - ((i : Nat) : Int))]) _ lW _ _ _ (uL (cvi (σ := s34) oX (D16.m 0 rfl))) (uL (D16.m 1 rfl)) (uL q173)  oX oX oX oX)) fun a39 s35 hs19 ok37 r19 sm19 => ?_
      obtain ⟨t8, ⟨g6, hT4, hp4⟩, B4⟩ := r19
      have q180 : At (Ty.tup2 (Ty.nat (g6)) (Ty.int (0 : Int))) s35 a39 (.tmp 83) := Ty.up _ B4.le hT4
      refine tL ok37 (Yld.toL (y_mv q180)) fun a40 s36 hs20 ok38 r20 sm20 => ?_
      have q187 : At (Ty.tup2 (Ty.nat (g6)) (Ty.int (0 : Int))) s36 a40 (.tmp 75) := r20
      clear r20
      refine tL (R := (fun v τ => Pr.has (Ty.pr (Ty.nat (g6))) τ v)) ok38 (Yld.toL (y_ext2_0 q187)) fun a41 s37 hs21 ok39 r21 sm21 => ?_
      have q195 : At (Ty.nat (g6)) s37 a41 (.tmp 84) := r21
      clear r21
      refine tL (R := (fun v τ => Pr.has (Ty.pr (Ty.int (0 : Int))) τ v)) ok39 (Yld.toL (y_ext2_1 (kq hs21 sm21 75 q187))) fun a42 s38 hs22 ok40 r22 sm22 => ?_
      have q203 : At (Ty.int (0 : Int)) s38 a42 (.tmp 85) := r22
      clear r22
      refine tL ok40 (Yld.toL (y_as (kq hs22 sm22 84 q195))) fun a43 s39 hs23 ok41 r23 sm23 => ?_
      have q211 : At (Ty.nat (g6)) s39 a43 (.tmp 17) := r23
      clear r23
      refine tL ok41 (Yld.toL (y_as (kq hs23 sm23 85 q203))) fun a44 s40 hs24 ok42 r24 sm24 => ?_
      have q219 : At (Ty.int (0 : Int)) s40 a44 (.tmp 18) := r24
      clear r24; refine wpList_nil (tn (wp_seq (wp_seq ?_)))
      obtain ⟨E3, hE3, hz3⟩ := hp4
      rw [filter_fst (fun x => (hE3.mem x).trans (hE.mem x).symm)] at hz3
      have hw3 : g6 = twoL N E i := hz3
      have hwb := twoL_bd (E := E) (i := i) hN6
      refine gI a44 s40 ok42 (gM q219 (gT (Ty.bool false) rfl (fun A B G H I d0 => rP ((y_neq (eI d0) rfl).mono (fun τ _ h => cvb (σ := τ) dE h))) (gE ok42 fun a45 s41 ok43 D17 => ?_))); refine tn ?_
      refine cond_t (D17.m 1 rfl) (fun c5 => (by cases c5)) (fun _ => ?_)
      refine wp_skip (tn ?_)
      refine gI a45 s41 ok43 (gM (D17.k (kq hs24 sm24 15 (kq hs23 sm23 15 (kq hs22 sm22 15 (kq hs21 sm21 15 (kq hs20 sm20 15 (kq hs19 sm19 15 (D16.k q159)))))))) (gM (D17.k (kq hs24 sm24 17 q211)) (gT (Ty.nat ((twoT N E i) + (g6))) rfl (fun A B G H I d0 d1 => rP ((y_add (eI d0) (eI d1) wX).mono (fun τ _ h => cN (σ := τ) h))) (gB 0 (gE ok43 fun a46 s42 ok44 D18 => ?_))))); refine bn (tn ?_)
      refine gI a46 s42 ok44 (gM (D18.k (D17.k (kq hs24 sm24 16 (kq hs23 sm23 16 (kq hs22 sm22 16 (kq hs21 sm21 16 (kq hs20 sm20 16 (kq hs19 sm19 16 (D16.k q158))))))))) (gT (Ty.nat (i + 1)) rfl (fun A B G H I d0 => rP ((y_add (eI d0) rfl wX).mono (fun τ _ h => cN (σ := τ) h))) (gB 0 (gE ok44 fun a47 s43 ok45 D19 => ?_))))
      exact tn ⟨N + 1 - ((i + 1)), by omega, s43, (i + 1), rfl, ((((((((((F35.step0 D16.stp).sl hs19).sl hs20).sl hs21).sl hs22).sl hs23).sl hs24).step0 D17.stp).step0 D18.stp).step0 D19.stp), ok45, (cJ (D19.m 2 rfl)), (cvi (by (rw [twoT, ← hw3])) (D19.k (D18.m 3 rfl))), (D19.k (D18.k (D17.k (kq hs24 sm24 1 (kq hs23 sm23 1 (kq hs22 sm22 1 (kq hs21 sm21 1 (kq hs20 sm20 1 (kq hs19 sm19 1 (D16.k q160)))))))))), (D19.k (D18.k (D17.k (kq hs24 sm24 7 (kq hs23 sm23 7 (kq hs22 sm22 7 (kq hs21 sm21 7 (kq hs20 sm20 7 (kq hs19 sm19 7 (D16.k q161)))))))))), (D19.k (D18.k (D17.k (kq hs24 sm24 13 (kq hs23 sm23 13 (kq hs22 sm22 13 (kq hs21 sm21 13 (kq hs20 sm20 13 (kq hs19 sm19 13 (D16.k q162)))))))))), (D19.k (D18.k (D17.k (kq hs24 sm24 14 (kq hs23 sm23 14 (kq hs22 sm22 14 (kq hs21 sm21 14 (kq hs20 sm20 14 (kq hs19 sm19 14 (D16.k q163)))))))))), by omega, rfl⟩
     ·
      have ei : i = N + 1 := oM
      refine wp_exit (tx (tx (bx (tn (wp_seq ?_)))))
      refine gI a37 s33 ok35 (gM q163 (gS rfl (fun A B G H I d0 => rP (y_eql (eI d0) rfl)) (gS rfl (fun A B G H I d0 => rP (y_move (eI d0))) (gS rfl (fun A B G H I d0 => gu H (eI d0) fun hg => y_move (kp (I 15 rfl) G q159)) (gS rfl (fun A B G H I d0 => gu H (eI d0) fun hg => y_move (kp (I 13 rfl) G q162)) (gS rfl (fun A B G H I d0 d1 d2 => gu H (eI d2) fun hg => y_eql ((ef d0 rfl).1 hg) ((ef d1 rfl).1 hg)) (gS rfl (fun A B G H I d0 d1 => rP (y_pick_and (eI d0) (eI d1) rfl)) (gB 0 (gE ok35 fun a48 s44 ok46 D20 => ?_))))))))); refine tn (wp_ret ?_)
      exact retL1 rfl ok46 (F35.step0 D20.stp) (cvb (by ((have hf : twoT N E i = g4 := (by rw [hk2, ei]; exact two_cnt hN12 hGr hE); simp [he2, hf]))) (D20.m 7 rfl))


end Go.Proofs.Ytkjifbgofckfeaa
