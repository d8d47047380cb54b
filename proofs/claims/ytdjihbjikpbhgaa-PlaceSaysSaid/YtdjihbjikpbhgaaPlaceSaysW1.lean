/- The functions that the law PlaceSays reaches, each by its contract. Part 1. -/
import Derived.Test.YtdjihbjikpbhgaaPlaceSaysK1
import Derived.Test.YtdjihbjikpbhgaaPlaceSaysK2
import Derived.Test.YtdjihbjikpbhgaaProg
namespace Go.Proofs.Ytdjihbjikpbhgaa
open Go.KL
theorem Try.inf3 : Info Try.prog 3 (.int .i64 0) 1 8 := by unfold Info; kernel_rfl
set_option maxRecDepth 100000 in
theorem rChangeMay_fn (n : Int) (l : List Int) (σ : GW) (v0 v1 : Value) (hv0 : Ty.has (Ty.int n) σ v0) (hv1 : Ty.has (Ty.lst Ty.int l) σ v1) (hn : -9223372036854775808 ≤ n ∧ n ≤ 9223372036854775807) :
    FnC Try.prog 10 #[v0, v1] σ (Ty.int (chgMay n l)) := by
 refine fn_intro Try.func10 rfl Try.ntmps10 (Nat.le_of_ble_eq_true rfl) (fun s0 a0 hle F0 ok0 hargs => ?_)
 have p0 := pA hle (hargs 0 _ rfl) hv0
 have p1 := pA hle (hargs 1 _ rfl) hv1
 have b1 := sl_le p1
 clear hargs; refine wp_seq ?_
 refine gI a0 s0 ok0 (gC (Ty.int (0 : Int)) (gE ok0 fun a1 s1 ok1 D1 => ?_)); have q1 := D1.kt p0 rfl; refine tn (wp_seq (wp_seq ?_))
 refine gI a1 s1 ok1 (gM q1 (gS rfl (fun A B E G H d0 => rP (y_lss (ed d0 rfl rfl rfl) rfl)) (gS rfl (fun A B E G H d0 => rP (y_move (ed d0 rfl rfl rfl))) (gS rfl (fun A B E G H d0 => gu G (ed d0 rfl rfl rfl) fun hg => y_move (kp (H 0 rfl) E q1)) (gS rfl (fun A B E G H d0 d1 => gu G (ed d1 rfl rfl rfl) fun hg => y_gtr ((ed d0 rfl rfl rfl).1 hg) rfl) (gS rfl (fun A B E G H d0 d1 => rP (y_pick_or (ed d0 rfl rfl rfl) rfl (ed d1 rfl rfl rfl))) (gE ok1 fun a2 s2 ok2 D2 => ?_))))))); have F2 := (F0.step0 D1.stp).step0 D2.stp; refine tn ?_
 refine cond_t (D2.dn 5 rfl rfl) (fun c1 => ?_) (fun c1 => ?_)
 ·
  simp only [Bool.or_eq_true, decide_eq_true_eq] at c1
  refine wp_seq ?_
  refine gI a2 s2 ok2 (gC (Ty.int (1 : Int)) (gE ok2 fun a3 s3 ok3 D3 => ?_)); refine tn (wp_ret (tr ?_))
  exact ret1 rfl ok3 (F2.step0 D3.stp) (cvi (by (exact (chgMay_cnt (by omega)).symm)) (D3.dn 0 rfl rfl))
 ·
  obtain ⟨d1, d2⟩ := Bool.or_eq_false_iff.mp c1
  replace d1 := of_decide_eq_false d1
  replace d2 := of_decide_eq_false d2
  refine wp_skip (tn (wp_seq ?_))
  refine gI a2 s2 ok2 (gC (Ty.int (0 : Int)) (gE ok2 fun a4 s4 ok4 D4 => ?_)); refine tn (wp_seq (wp_seq ?_))
  refine gI a4 s4 ok4 (gC (Ty.int (0 : Int)) (gE ok4 fun a5 s5 ok5 D5 => ?_)); refine tn (wp_block ?_)
  refine loop (fun n1 a6 w1 => ∃ (t1 : GW) (k : Nat) (z : Int), t1.w = w1 ∧ From s0 t1 ∧ Ok 52 [] a6 ∧ At (Ty.nat k) t1 a6 (.tmp 6) ∧ At (Ty.int z) t1 a6 (.tmp 5) ∧ At (Ty.int n) t1 a6 (.tmp 0) ∧ At (Ty.lst Ty.int l) t1 a6 (.tmp 1) ∧ (k ≤ l.length) ∧ (scanTo n l k = some z) ∧ (0 ≤ z ∧ z ≤ n) ∧ n1 = l.length - k) (l.length - (0)) ?_ ?_
  ·
   exact ⟨s5, 0, 0, rfl, ((F2.step0 D4.stp).step0 D5.stp), ok5, (cvi (by (first | rfl | omega | (simp_all; done) | (simp_all; omega))) (D5.dn 0 rfl rfl)), (cvi (by (first | rfl | omega | (simp_all; done) | (simp_all; omega))) (D5.kt (D4.dn 0 rfl rfl) rfl)), (D5.kt (D4.kt (D2.kt q1 rfl) rfl) rfl), (D5.kt (D4.kt (D2.kt (D1.kt p1 rfl) rfl) rfl) rfl), by omega, rfl, by omega, rfl⟩
  ·
   rintro n2 a7 w2 ⟨t2, k, z, rfl, F6, ok6, q14, q15, q16, q17, hk, E, hz, rfl⟩
   refine wp_seq (wp_seq ?_)
   refine gI a7 t2 ok6 (gM q14 (gM q17 (gS rfl (fun A B E G H d0 => rP (y_len Try.underlying29 (ed d0 rfl rfl rfl))) (gS rfl (fun A B E G H d0 d1 => rP (y_lss (ed d0 rfl rfl rfl) (ed d1 rfl rfl rfl))) (gE ok6 fun a8 s6 ok7 D6 => ?_))))); have F7 := F6.step0 D6.stp; have q18 := D6.kt q14 rfl; have q19 := D6.kt q15 rfl; have q20 := D6.kt q16 rfl; have q21 := D6.kt q17 rfl; refine tn ?_
   refine cond_p (p := (((k : Nat) : Int) < (((List.length l) : Nat) : Int))) (D6.dn 3 rfl rfl) (fun c2 => ?_) (fun c2 => ?_)
   ·
    refine wp_skip (tn (wp_seq (wp_block (wp_seq (wp_seq ?_)))))
    refine gI a8 s6 ok7 (gM q21 (gM q18 (gT (Ty.ref [(Ty.int (l.getD k 0))]) rfl (fun A B E G H d0 d1 => rP (y_index1 Try.underlying29 Try.inf3 (ed d0 rfl rfl rfl) (ed d1 rfl rfl rfl) (by omega) (lst_get Ty.int l 0 k (by omega)))) (gS rfl (fun A B E G H d0 => rP (y_load Try.underlying3 rfl (ed d0 rfl rfl rfl) rfl)) (gM q19 (gS rfl (fun A B E G H d0 d1 => rP (y_leq (ed d0 rfl rfl rfl) (ed d1 rfl rfl rfl))) (gS rfl (fun A B E G H d0 => rP (y_move (ed d0 rfl rfl rfl))) (gS rfl (fun A B E G H d0 => gu G (ed d0 rfl rfl rfl) fun hg => y_move (kp (H 1 rfl) E q21)) (gS rfl (fun A B E G H d0 => gu G (ed d0 rfl rfl rfl) fun hg => y_move (kp (H 6 rfl) E q18)) (gT (Ty.grd ((decide ((l.getD k 0) ≤ z)) = false) (Ty.ref [(Ty.int (l.getD k 0))])) rfl (fun A B E G H d0 d1 d2 => guf G (ed d2 rfl rfl rfl) fun hg hp => y_index1 Try.underlying29 Try.inf3 ((ed d0 rfl rfl rfl).1 hg) ((ed d1 rfl rfl rfl).1 hg) (by omega) (lst_get Ty.int l 0 k (by omega))) (gS rfl (fun A B E G H d0 d1 => gu G (ed d1 rfl rfl rfl) fun hg => y_load Try.underlying3 rfl ((ed d0 rfl rfl rfl).1 hg) rfl) (gS rfl (fun A B E G H d0 => gu G (ed d0 rfl rfl rfl) fun hg => y_move (kp (H 0 rfl) E q20)) (gS rfl (fun A B E G H d0 d1 d2 => gu G (ed d2 rfl rfl rfl) fun hg => y_gtr ((ed d0 rfl rfl rfl).1 hg) ((ed d1 rfl rfl rfl).1 hg)) (gS rfl (fun A B E G H d0 d1 => rP (y_pick_or (ed d0 rfl rfl rfl) rfl (ed d1 rfl rfl rfl))) (gS rfl (fun A B E G H d0 d1 => rP (y_move (ed d0 rfl rfl rfl))) (gT (Ty.grd (((decide ((l.getD k 0) ≤ z)) || (decide (n < (l.getD k 0)))) = false) (Ty.lst Ty.int l)) rfl (by intro A B E G H d0; refine run_guard G rfl rfl (by decide) (ed d0 rfl rfl rfl) (fun hg => ?_); obtain ⟨d3, d4⟩ := Bool.or_eq_false_iff.mp hg; have d3 := of_decide_eq_false d3; have d4 := of_decide_eq_false d4; exact y_move (kp (H 1 rfl) E q21)) ?_))))))))))))))))
    refine gT (Ty.grd (((decide ((l.getD k 0) ≤ z)) || (decide (n < (l.getD k 0)))) = false) (Ty.nat k)) rfl (by intro A B E G H d0; refine run_guard G rfl rfl (by decide) (ed d0 rfl rfl rfl) (fun hg => ?_); obtain ⟨d5, d6⟩ := Bool.or_eq_false_iff.mp hg; have d5 := of_decide_eq_false d5; have d6 := of_decide_eq_false d6; exact y_move (kp (H 6 rfl) E q18)) (gT (Ty.grd (((decide ((l.getD k 0) ≤ z)) || (decide (n < (l.getD k 0)))) = false) (Ty.ref [(Ty.int (l.getD k 0))])) rfl (by intro A B E G H d0 d1 d2; refine run_guard G rfl rfl (by decide) (ed d2 rfl rfl rfl) (fun hg => ?_); obtain ⟨d7, d8⟩ := Bool.or_eq_false_iff.mp hg; have d7 := of_decide_eq_false d7; have d8 := of_decide_eq_false d8; exact y_index1 Try.underlying29 Try.inf3 ((ed d0 rfl rfl rfl).1 hg) ((ed d1 rfl rfl rfl).1 hg) (by omega) (lst_get Ty.int l 0 k (by omega))) (gT (Ty.grd (((decide ((l.getD k 0) ≤ z)) || (decide (n < (l.getD k 0)))) = false) (Ty.int (l.getD k 0))) rfl (by intro A B E G H d0 d1; refine run_guard G rfl rfl (by decide) (ed d1 rfl rfl rfl) (fun hg => ?_); obtain ⟨d9, d10⟩ := Bool.or_eq_false_iff.mp hg; have d9 := of_decide_eq_false d9; have d10 := of_decide_eq_false d10; exact y_load Try.underlying3 rfl ((ed d0 rfl rfl rfl).1 hg) rfl) (gT (Ty.grd (((decide ((l.getD k 0) ≤ z)) || (decide (n < (l.getD k 0)))) = false) (Ty.int z)) rfl (by intro A B E G H d0; refine run_guard G rfl rfl (by decide) (ed d0 rfl rfl rfl) (fun hg => ?_); obtain ⟨d11, d12⟩ := Bool.or_eq_false_iff.mp hg; have d11 := of_decide_eq_false d11; have d12 := of_decide_eq_false d12; exact y_move (kp (H 5 rfl) E q19)) ?_)))
    refine gT (Ty.grd (((decide ((l.getD k 0) ≤ z)) || (decide (n < (l.getD k 0)))) = false) (Ty.int ((l.getD k 0) - z))) rfl (by intro A B E G H d0 d1 d2; refine run_guard G rfl rfl (by decide) (ed d2 rfl rfl rfl) (fun hg => ?_); obtain ⟨d13, d14⟩ := Bool.or_eq_false_iff.mp hg; have d13 := of_decide_eq_false d13; have d14 := of_decide_eq_false d14; exact y_sub ((ed d0 rfl rfl rfl).1 hg) ((ed d1 rfl rfl rfl).1 hg) (w64 (by omega) (by omega))) (gT (Ty.grd (((decide ((l.getD k 0) ≤ z)) || (decide (n < (l.getD k 0)))) = false) (Ty.nat ((((l.getD k 0) - z)).toNat % 2))) rfl (by intro A B E G H d0 d1; refine run_guard G rfl rfl (by decide) (ed d1 rfl rfl rfl) (fun hg => ?_); obtain ⟨d15, d16⟩ := Bool.or_eq_false_iff.mp hg; have d15 := of_decide_eq_false d15; have d16 := of_decide_eq_false d16; exact y_remN (toN (σ := B) ((ed d0 rfl rfl rfl).1 hg) (by omega)) (toN (σ := B) rfl (by omega)) (by omega)) (gT (Ty.grd (((decide ((l.getD k 0) ≤ z)) || (decide (n < (l.getD k 0)))) = false) (Ty.bool (decide (((((((l.getD k 0) - z)).toNat % 2) : Nat) : Int) = (0 : Int))))) rfl (by intro A B E G H d0 d1; refine run_guard G rfl rfl (by decide) (ed d1 rfl rfl rfl) (fun hg => ?_); obtain ⟨d17, d18⟩ := Bool.or_eq_false_iff.mp hg; have d17 := of_decide_eq_false d17; have d18 := of_decide_eq_false d18; exact y_eql ((ed d0 rfl rfl rfl).1 hg) rfl) (gS rfl (fun A B E G H d0 d1 => rP (y_pick_or (ed d0 rfl rfl rfl) rfl (ed d1 rfl rfl rfl))) (gE ok7 fun a9 s7 ok8 D7 => ?_)))); have F8 := F7.step0 D7.stp; have q23 := D7.kt q18 rfl; have q25 := D7.kt q21 rfl; refine tn ?_
    refine cond_t (D7.dn 23 rfl rfl) (fun c3 => ?_) (fun c3 => ?_)
    ·
     simp only [Bool.or_eq_true, decide_eq_true_eq] at c3
     refine wp_seq ?_
     refine gI a9 s7 ok8 (gC (Ty.int (6 : Int)) (gE ok8 fun a10 s8 ok9 D8 => ?_)); refine tn (wp_ret (tr (br (tr (tr (br (tr ?_)))))))
     exact ret1 rfl ok9 (F8.step0 D8.stp) (cvi (by (exact (chgMay_scan (by omega) E (by omega) (by omega)).symm)) (D8.dn 0 rfl rfl))
    ·
     obtain ⟨d19, d20⟩ := Bool.or_eq_false_iff.mp c3
     obtain ⟨d21, d22⟩ := Bool.or_eq_false_iff.mp d19
     replace d21 := of_decide_eq_false d21
     replace d22 := of_decide_eq_false d22
     replace d20 := of_decide_eq_false d20
     refine wp_skip (tn ?_)
     refine gI a9 s7 ok8 (gM q25 (gM q23 (gT (Ty.ref [(Ty.int (l.getD k 0))]) rfl (fun A B E G H d0 d1 => rP (y_index1 Try.underlying29 Try.inf3 (ed d0 rfl rfl rfl) (ed d1 rfl rfl rfl) (by omega) (lst_get Ty.int l 0 k (by omega)))) (gS rfl (fun A B E G H d0 => rP (y_load Try.underlying3 rfl (ed d0 rfl rfl rfl) rfl)) (gB 0 (gE ok8 fun a11 s9 ok10 D9 => ?_)))))); refine bn (tn ?_)
     refine gI a11 s9 ok10 (gM (D9.kt q23 rfl) (gT (Ty.int (((k : Nat) : Int) + (1 : Int))) rfl (fun A B E G H d0 => rP (y_add (ed d0 rfl rfl rfl) rfl (w64 (by omega) (by omega)))) (gB 0 (gE ok10 fun a12 s10 ok11 D10 => ?_))))
     have d1_ := (of_decide_eq_false (Bool.or_eq_false_iff.1 c3).2)
     have d2_ := of_decide_eq_false (Bool.or_eq_false_iff.1 (Bool.or_eq_false_iff.1 c3).1).1
     have d3_ := of_decide_eq_false (Bool.or_eq_false_iff.1 (Bool.or_eq_false_iff.1 c3).1).2
     exact tn ⟨l.length - ((k+1)), by omega, s10, (k+1), (l.getD k 0), rfl, ((F8.step0 D9.stp).step0 D10.stp), ok11, (cvi (by (first | rfl | omega | (simp_all; done) | (simp_all; omega))) (D10.dn 2 rfl rfl)), (cvi (by (first | rfl | omega | (simp_all; done) | (simp_all; omega))) (D10.kt (D9.dn 4 rfl rfl) rfl)), (D10.kt (D9.kt (D7.kt q20 rfl) rfl) rfl), (D10.kt (D9.kt q25 rfl) rfl), by omega, scan_step E (by omega) (by omega) (by omega) d1_, by omega, rfl⟩
   ·
    have hk2 : k = l.length := (by omega)
    refine wp_exit (tx (tx (bx (tn (wp_seq (wp_seq ?_))))))
    refine gI a8 s6 ok7 (gM q20 (gM q19 (gT (Ty.int (n - z)) rfl (fun A B E G H d0 d1 => rP (y_sub (ed d0 rfl rfl rfl) (ed d1 rfl rfl rfl) (w64 (by omega) (by omega)))) (gT (Ty.nat (((n - z)).toNat % 2)) rfl (fun A B E G H d0 => rP (y_remN (toN (σ := B) (ed d0 rfl rfl rfl) (by omega)) (toN (σ := B) rfl (by omega)) (by omega))) (gS rfl (fun A B E G H d0 => rP (y_eql (ed d0 rfl rfl rfl) rfl)) (gE ok7 fun a13 s11 ok12 D11 => ?_)))))); have F12 := F7.step0 D11.stp; refine tn ?_
    refine cond_p (p := ((((((n - z)).toNat % 2) : Nat) : Int) = (1 : Int))) (D11.dn 4 rfl rfl) (fun c4 => ?_) (fun c4 => ?_)
    ·
     refine wp_seq ?_
     refine gI a13 s11 ok12 (gC (Ty.int (6 : Int)) (gE ok12 fun a14 s12 ok13 D12 => ?_)); refine tn (wp_ret (tr ?_))
     exact ret1 rfl ok13 (F12.step0 D12.stp) (cvi (by (exact (chgMay_odd (by omega) (by rw [← hk2]; exact E) (by omega)).symm)) (D12.dn 0 rfl rfl))
    ·
     refine wp_skip (tn (wp_seq ?_))
     refine gI a13 s11 ok12 (gC (Ty.int (0 : Int)) (gE ok12 fun a15 s13 ok14 D13 => ?_)); refine tn (wp_ret ?_)
     exact ret1 rfl ok14 (F12.step0 D13.stp) (cvi (by (exact (chgMay_ok (by omega) (by rw [← hk2]; exact E) (by omega)).symm)) (D13.dn 0 rfl rfl))


set_option maxRecDepth 100000 in
theorem pCheck_fn (n : Int) (l : List Int) (σ : GW) (v0 v1 : Value) (hv0 : Ty.has (Ty.int n) σ v0) (hv1 : Ty.has (Ty.lst Ty.int l) σ v1) (hn : -9223372036854775808 ≤ n ∧ n ≤ 9223372036854775807) :
    FnC Try.prog 11 #[v0, v1] σ (Ty.int (chgMay n l)) := by
 refine fn_intro Try.func11 rfl Try.ntmps11 (Nat.le_of_ble_eq_true rfl) (fun s0 a0 hle F0 ok0 hargs => ?_)
 have p0 := pA hle (hargs 0 _ rfl) hv0
 have p1 := pA hle (hargs 1 _ rfl) hv1
 have b1 := sl_le p1
 clear hargs; refine wp_seq ?_
 refine gI a0 s0 ok0 (gC (Ty.int (0 : Int)) (gE ok0 fun a1 s1 ok1 D1 => ?_)); have q1 := D1.kt p0 rfl; refine tn (wp_seq (wp_seq ?_))
 refine gI a1 s1 ok1 (gM q1 (gS rfl (fun A B E G H d0 => rP (y_lss (ed d0 rfl rfl rfl) rfl)) (gS rfl (fun A B E G H d0 => rP (y_move (ed d0 rfl rfl rfl))) (gS rfl (fun A B E G H d0 => gu G (ed d0 rfl rfl rfl) fun hg => y_move (kp (H 0 rfl) E q1)) (gS rfl (fun A B E G H d0 d1 => gu G (ed d1 rfl rfl rfl) fun hg => y_gtr ((ed d0 rfl rfl rfl).1 hg) rfl) (gS rfl (fun A B E G H d0 d1 => rP (y_pick_or (ed d0 rfl rfl rfl) rfl (ed d1 rfl rfl rfl))) (gE ok1 fun a2 s2 ok2 D2 => ?_))))))); have F2 := (F0.step0 D1.stp).step0 D2.stp; refine tn ?_
 refine cond_t (D2.dn 5 rfl rfl) (fun c1 => ?_) (fun c1 => ?_)
 ·
  simp only [Bool.or_eq_true, decide_eq_true_eq] at c1
  refine wp_seq ?_
  refine gI a2 s2 ok2 (gC (Ty.int (1 : Int)) (gE ok2 fun a3 s3 ok3 D3 => ?_)); refine tn (wp_ret (tr ?_))
  exact ret1 rfl ok3 (F2.step0 D3.stp) (cvi (by (exact (chgMay_cnt (by omega)).symm)) (D3.dn 0 rfl rfl))
 ·
  obtain ⟨d1, d2⟩ := Bool.or_eq_false_iff.mp c1
  replace d1 := of_decide_eq_false d1
  replace d2 := of_decide_eq_false d2
  refine wp_skip (tn (wp_seq ?_))
  refine gI a2 s2 ok2 (gC (Ty.int (0 : Int)) (gE ok2 fun a4 s4 ok4 D4 => ?_)); refine tn (wp_seq (wp_seq ?_))
  refine gI a4 s4 ok4 (gM (D4.kt (D2.kt (D1.kt p1 rfl) rfl) rfl) (gS rfl (fun A B E G H d0 => rP (y_len Try.underlying29 (ed d0 rfl rfl rfl))) (gT (Ty.int (0 : Int)) rfl (fun A B E G H => rP (y_move rfl)) (gE ok4 fun a5 s5 ok5 D5 => ?_)))); refine tn (wp_block ?_)
  refine loop (fun n1 a6 w1 => ∃ (t1 : GW) (k : Nat) (z : Int), t1.w = w1 ∧ From s0 t1 ∧ Ok 42 [] a6 ∧ At (Ty.nat k) t1 a6 (.tmp 16) ∧ At (Ty.int z) t1 a6 (.tmp 5) ∧ At (Ty.int n) t1 a6 (.tmp 0) ∧ At (Ty.lst Ty.int l) t1 a6 (.tmp 14) ∧ At (Ty.nat (List.length l)) t1 a6 (.tmp 15) ∧ (k ≤ l.length) ∧ (scanTo n l k = some z) ∧ (0 ≤ z ∧ z ≤ n) ∧ n1 = l.length - k) (l.length - (0)) ?_ ?_
  ·
   exact ⟨s5, 0, 0, rfl, ((F2.step0 D4.stp).step0 D5.stp), ok5, (cvi (by (first | rfl | omega | (simp_all; done) | (simp_all; omega))) (D5.dn 2 rfl rfl)), (cvi (by (first | rfl | omega | (simp_all; done) | (simp_all; omega))) (D5.kt (D4.dn 0 rfl rfl) rfl)), (D5.kt (D4.kt (D2.kt q1 rfl) rfl) rfl), (D5.dn 0 rfl rfl), (D5.dn 1 rfl rfl), by omega, rfl, by omega, rfl⟩
  ·
   rintro n2 a7 w2 ⟨t2, k, z, rfl, F6, ok6, q15, q16, q17, q18, q19, hk, E, hz, rfl⟩
   refine wp_seq ?_
   refine gI a7 t2 ok6 (gS rfl (fun A B E G H => rP (y_lss (kp (H 16 rfl) E q15) (kp (H 15 rfl) E q19))) (gE ok6 fun a8 s6 ok7 D6 => ?_)); have F7 := F6.step0 D6.stp; have q20 := D6.kt q15 rfl; have q21 := D6.kt q16 rfl; have q22 := D6.kt q17 rfl; have q23 := D6.kt q18 rfl; refine tn (wp_seq ?_)
   refine cond_p (p := (((k : Nat) : Int) < (((List.length l) : Nat) : Int))) (D6.dn 0 rfl rfl) (fun c2 => ?_) (fun c2 => ?_)
   ·
    refine wp_skip (tn (wp_seq (wp_block (wp_seq ?_))))
    refine gI a8 s6 ok7 (gT (Ty.ref [(Ty.int (l.getD k 0))]) rfl (fun A B E G H => rP (y_index1 Try.underlying29 Try.inf3 (kp (H 14 rfl) E q23) (kp (H 16 rfl) E q20) (by omega) (lst_get Ty.int l 0 k (by omega)))) (gS rfl (fun A B E G H d0 => rP (y_load Try.underlying3 rfl (ed d0 rfl rfl rfl) rfl)) (gB 0 (gE ok7 fun a9 s7 ok8 D7 => ?_)))); have q27 := D7.kt q21 rfl; have q28 := D7.kt q22 rfl; have q31 := D7.dn 2 rfl rfl; refine tn (wp_seq (wp_seq ?_))
    refine gI a9 s7 ok8 (gM q31 (gM q27 (gS rfl (fun A B E G H d0 d1 => rP (y_leq (ed d0 rfl rfl rfl) (ed d1 rfl rfl rfl))) (gS rfl (fun A B E G H d0 => rP (y_move (ed d0 rfl rfl rfl))) (gS rfl (fun A B E G H d0 => gu G (ed d0 rfl rfl rfl) fun hg => y_move (kp (H 7 rfl) E q31)) (gS rfl (fun A B E G H d0 => gu G (ed d0 rfl rfl rfl) fun hg => y_move (kp (H 0 rfl) E q28)) (gS rfl (fun A B E G H d0 d1 d2 => gu G (ed d2 rfl rfl rfl) fun hg => y_gtr ((ed d0 rfl rfl rfl).1 hg) ((ed d1 rfl rfl rfl).1 hg)) (gS rfl (fun A B E G H d0 d1 => rP (y_pick_or (ed d0 rfl rfl rfl) rfl (ed d1 rfl rfl rfl))) (gS rfl (fun A B E G H d0 d1 => rP (y_move (ed d0 rfl rfl rfl))) (gT (Ty.grd (((decide ((l.getD k 0) ≤ z)) || (decide (n < (l.getD k 0)))) = false) (Ty.int (l.getD k 0))) rfl (by intro A B E G H d0; refine run_guard G rfl rfl (by decide) (ed d0 rfl rfl rfl) (fun hg => ?_); obtain ⟨d3, d4⟩ := Bool.or_eq_false_iff.mp hg; have d3 := of_decide_eq_false d3; have d4 := of_decide_eq_false d4; exact y_move (kp (H 7 rfl) E q31)) (gT (Ty.grd (((decide ((l.getD k 0) ≤ z)) || (decide (n < (l.getD k 0)))) = false) (Ty.int z)) rfl (by intro A B E G H d0; refine run_guard G rfl rfl (by decide) (ed d0 rfl rfl rfl) (fun hg => ?_); obtain ⟨d5, d6⟩ := Bool.or_eq_false_iff.mp hg; have d5 := of_decide_eq_false d5; have d6 := of_decide_eq_false d6; exact y_move (kp (H 5 rfl) E q27)) (gT (Ty.grd (((decide ((l.getD k 0) ≤ z)) || (decide (n < (l.getD k 0)))) = false) (Ty.int ((l.getD k 0) - z))) rfl (by intro A B E G H d0 d1 d2; refine run_guard G rfl rfl (by decide) (ed d2 rfl rfl rfl) (fun hg => ?_); obtain ⟨d7, d8⟩ := Bool.or_eq_false_iff.mp hg; have d7 := of_decide_eq_false d7; have d8 := of_decide_eq_false d8; exact y_sub ((ed d0 rfl rfl rfl).1 hg) ((ed d1 rfl rfl rfl).1 hg) (w64 (by omega) (by omega))) ?_))))))))))))
    refine gT (Ty.grd (((decide ((l.getD k 0) ≤ z)) || (decide (n < (l.getD k 0)))) = false) (Ty.nat ((((l.getD k 0) - z)).toNat % 2))) rfl (by intro A B E G H d0 d1; refine run_guard G rfl rfl (by decide) (ed d1 rfl rfl rfl) (fun hg => ?_); obtain ⟨d9, d10⟩ := Bool.or_eq_false_iff.mp hg; have d9 := of_decide_eq_false d9; have d10 := of_decide_eq_false d10; exact y_remN (toN (σ := B) ((ed d0 rfl rfl rfl).1 hg) (by omega)) (toN (σ := B) rfl (by omega)) (by omega)) (gT (Ty.grd (((decide ((l.getD k 0) ≤ z)) || (decide (n < (l.getD k 0)))) = false) (Ty.bool (decide (((((((l.getD k 0) - z)).toNat % 2) : Nat) : Int) = (0 : Int))))) rfl (by intro A B E G H d0 d1; refine run_guard G rfl rfl (by decide) (ed d1 rfl rfl rfl) (fun hg => ?_); obtain ⟨d11, d12⟩ := Bool.or_eq_false_iff.mp hg; have d11 := of_decide_eq_false d11; have d12 := of_decide_eq_false d12; exact y_eql ((ed d0 rfl rfl rfl).1 hg) rfl) (gS rfl (fun A B E G H d0 d1 => rP (y_pick_or (ed d0 rfl rfl rfl) rfl (ed d1 rfl rfl rfl))) (gE ok8 fun a10 s8 ok9 D8 => ?_))); have F9 := (F7.step0 D7.stp).step0 D8.stp; refine tn ?_
    refine cond_t (D8.dn 14 rfl rfl) (fun c3 => ?_) (fun c3 => ?_)
    ·
     simp only [Bool.or_eq_true, decide_eq_true_eq] at c3
     refine wp_seq ?_
     refine gI a10 s8 ok9 (gC (Ty.int (6 : Int)) (gE ok9 fun a11 s9 ok10 D9 => ?_)); refine tn (wp_ret (tr (br (tr (tr (br (tr ?_)))))))
     exact ret1 rfl ok10 (F9.step0 D9.stp) (cvi (by (exact (chgMay_scan (by omega) E (by omega) (by omega)).symm)) (D9.dn 0 rfl rfl))
    ·
     obtain ⟨d13, d14⟩ := Bool.or_eq_false_iff.mp c3
     obtain ⟨d15, d16⟩ := Bool.or_eq_false_iff.mp d13
     replace d15 := of_decide_eq_false d15
     replace d16 := of_decide_eq_false d16
     replace d14 := of_decide_eq_false d14
     refine wp_skip (tn ?_)
     refine gI a10 s8 ok9 (gM (D8.kt q31 rfl) (gB 0 (gE ok9 fun a12 s10 ok11 D10 => ?_))); refine bn (tn ?_)
     refine gI a12 s10 ok11 (gT (Ty.int (((k : Nat) : Int) + (1 : Int))) rfl (fun A B E G H => rP (y_add (kp (H 16 rfl) E (D10.kt (D8.kt (D7.kt q20 rfl) rfl) rfl)) rfl (w64 (by omega) (by omega)))) (gS rfl (fun A B E G H d0 => rP (y_move (ed d0 rfl rfl rfl))) (gE ok11 fun a13 s11 ok12 D11 => ?_)))
     have d1_ := (of_decide_eq_false (Bool.or_eq_false_iff.1 c3).2)
     have d2_ := of_decide_eq_false (Bool.or_eq_false_iff.1 (Bool.or_eq_false_iff.1 c3).1).1
     have d3_ := of_decide_eq_false (Bool.or_eq_false_iff.1 (Bool.or_eq_false_iff.1 c3).1).2
     exact tn ⟨l.length - ((k+1)), by omega, s11, (k+1), (l.getD k 0), rfl, ((F9.step0 D10.stp).step0 D11.stp), ok12, (cvi (by (first | rfl | omega | (simp_all; done) | (simp_all; omega))) (D11.dn 1 rfl rfl)), (cvi (by (first | rfl | omega | (simp_all; done) | (simp_all; omega))) (D11.kt (D10.dn 1 rfl rfl) rfl)), (D11.kt (D10.kt (D8.kt q28 rfl) rfl) rfl), (D11.kt (D10.kt (D8.kt (D7.kt q23 rfl) rfl) rfl) rfl), (D11.kt (D10.kt (D8.kt (D7.kt (D6.kt q19 rfl) rfl) rfl) rfl) rfl), by omega, scan_step E (by omega) (by omega) (by omega) d1_, by omega, rfl⟩
   ·
    have hk2 : k = l.length := (by omega)
    refine wp_exit (tx (tx (bx (tn (wp_seq (wp_seq ?_))))))
    refine gI a8 s6 ok7 (gM q22 (gM q21 (gT (Ty.int (n - z)) rfl (fun A B E G H d0 d1 => rP (y_sub (ed d0 rfl rfl rfl) (ed d1 rfl rfl rfl) (w64 (by omega) (by omega)))) (gT (Ty.nat (((n - z)).toNat % 2)) rfl (fun A B E G H d0 => rP (y_remN (toN (σ := B) (ed d0 rfl rfl rfl) (by omega)) (toN (σ := B) rfl (by omega)) (by omega))) (gS rfl (fun A B E G H d0 => rP (y_eql (ed d0 rfl rfl rfl) rfl)) (gE ok7 fun a14 s12 ok13 D12 => ?_)))))); have F13 := F7.step0 D12.stp; refine tn ?_
    refine cond_p (p := ((((((n - z)).toNat % 2) : Nat) : Int) = (1 : Int))) (D12.dn 4 rfl rfl) (fun c4 => ?_) (fun c4 => ?_)
    ·
     refine wp_seq ?_
     refine gI a14 s12 ok13 (gC (Ty.int (6 : Int)) (gE ok13 fun a15 s13 ok14 D13 => ?_)); refine tn (wp_ret (tr ?_))
     exact ret1 rfl ok14 (F13.step0 D13.stp) (cvi (by (exact (chgMay_odd (by omega) (by rw [← hk2]; exact E) (by omega)).symm)) (D13.dn 0 rfl rfl))
    ·
     refine wp_skip (tn (wp_seq ?_))
     refine gI a14 s12 ok13 (gC (Ty.int (0 : Int)) (gE ok13 fun a16 s14 ok15 D14 => ?_)); refine tn (wp_ret ?_)
     exact ret1 rfl ok15 (F13.step0 D14.stp) (cvi (by (exact (chgMay_ok (by omega) (by rw [← hk2]; exact E) (by omega)).symm)) (D14.dn 0 rfl rfl))


set_option maxRecDepth 100000 in
theorem index_fn (xs : List Int) (x : Int) (σ : GW) (v0 v1 : Value) (hv0 : Ty.has (Ty.lst Ty.int xs) σ v0) (hv1 : Ty.has (Ty.int x) σ v1)  :
    FnC Try.prog 71 #[v0, v1] σ (Ty.int (indexL xs x)) := by
 refine fn_intro Try.func71 rfl Try.ntmps71 (Nat.le_of_ble_eq_true rfl) (fun s0 a0 hle F0 ok0 hargs => ?_)
 have p0 := pA hle (hargs 0 _ rfl) hv0
 have b1 := sl_le p0
 have p1 := pA hle (hargs 1 _ rfl) hv1
 clear hargs; refine wp_seq ?_
 refine gI a0 s0 ok0 (gC (Ty.int (0 : Int)) (gE ok0 fun a1 s1 ok1 D1 => ?_)); have q1 := D1.kt p0 rfl; refine tn (wp_seq (wp_seq ?_))
 refine gI a1 s1 ok1 (gM q1 (gS rfl (fun A B E G H d0 => rP (y_len Try.underlying29 (ed d0 rfl rfl rfl))) (gT (Ty.int (0 : Int)) rfl (fun A B E G H => rP (y_move rfl)) (gE ok1 fun a2 s2 ok2 D2 => ?_)))); refine tn (wp_block ?_)
 refine loop (fun n1 a3 w1 => ∃ (t1 : GW) (k : Nat), t1.w = w1 ∧ From s0 t1 ∧ Ok 19 [] a3 ∧ At (Ty.nat k) t1 a3 (.tmp 8) ∧ At (Ty.lst Ty.int xs) t1 a3 (.tmp 0) ∧ At (Ty.int x) t1 a3 (.tmp 1) ∧ At (Ty.nat (List.length xs)) t1 a3 (.tmp 7) ∧ (k ≤ xs.length) ∧ (∀ j, j < k → xs.getD j 0 ≠ x) ∧ n1 = xs.length - k) (xs.length - (0)) ?_ ?_
 ·
  exact ⟨s2, 0, rfl, ((F0.step0 D1.stp).step0 D2.stp), ok2, (cvi (by (first | rfl | omega | (simp_all; done) | (simp_all; omega))) (D2.dn 2 rfl rfl)), (D2.kt q1 rfl), (D2.kt (D1.kt p1 rfl) rfl), (D2.dn 1 rfl rfl), by omega, fun j hj => absurd hj (Nat.not_lt_zero j), rfl⟩
 ·
  rintro n2 a4 w2 ⟨t2, k, rfl, F3, ok3, q7, q8, q9, q10, hk, hno, rfl⟩
  refine wp_seq ?_
  refine gI a4 t2 ok3 (gS rfl (fun A B E G H => rP (y_lss (kp (H 8 rfl) E q7) (kp (H 7 rfl) E q10))) (gE ok3 fun a5 s3 ok4 D3 => ?_)); have F4 := F3.step0 D3.stp; have q11 := D3.kt q7 rfl; refine tn (wp_seq ?_)
  refine cond_p (p := (((k : Nat) : Int) < (((List.length xs) : Nat) : Int))) (D3.dn 0 rfl rfl) (fun c1 => ?_) (fun c1 => ?_)
  ·
   refine wp_skip (tn (wp_seq (wp_block (wp_seq ?_))))
   refine gI a5 s3 ok4 (gM q11 (gB 0 (gE ok4 fun a6 s4 ok5 D4 => ?_))); have q17 := D4.kt (D3.kt q8 rfl) rfl; have q18 := D4.kt (D3.kt q9 rfl) rfl; have q20 := D4.dn 1 rfl rfl; refine tn (wp_seq ?_)
   refine gI a6 s4 ok5 (gM q18 (gM q17 (gM q20 (gT (Ty.ref [(Ty.int (xs.getD k 0))]) rfl (fun A B E G H d0 d1 => rP (y_index1 Try.underlying29 Try.inf3 (ed d0 rfl rfl rfl) (ed d1 rfl rfl rfl) (by omega) (lst_get Ty.int xs 0 k (by omega)))) (gS rfl (fun A B E G H d0 => rP (y_load Try.underlying3 rfl (ed d0 rfl rfl rfl) rfl)) (gS rfl (fun A B E G H d0 d1 => rP (y_eql (ed d0 rfl rfl rfl) (ed d1 rfl rfl rfl))) (gE ok5 fun a7 s5 ok6 D5 => ?_))))))); have F6 := (F4.step0 D4.stp).step0 D5.stp; refine tn ?_
   refine cond_p (p := (x = (xs.getD k 0))) (D5.dn 5 rfl rfl) (fun c2 => ?_) (fun c2 => ?_)
   ·
    refine wp_seq ?_
    refine gI a7 s5 ok6 (gM (D5.kt q20 rfl) (gB 0 (gE ok6 fun a8 s6 ok7 D6 => ?_))); refine tn (wp_ret (br (tr (tr (br (tr ?_))))))
    exact ret1 rfl ok7 (F6.step0 D6.stp) (cvi (by (exact (indexL_yes (by omega) (by assumption) hno).symm)) (D6.dn 1 rfl rfl))
   ·
    refine wp_skip (bn (tn ?_))
    refine gI a7 s5 ok6 (gT (Ty.int (((k : Nat) : Int) + (1 : Int))) rfl (fun A B E G H => rP (y_add (kp (H 8 rfl) E (D5.kt (D4.kt q11 rfl) rfl)) rfl (w64 (by omega) (by omega)))) (gS rfl (fun A B E G H d0 => rP (y_move (ed d0 rfl rfl rfl))) (gE ok6 fun a9 s7 ok8 D7 => ?_)))
    exact tn ⟨xs.length - ((k+1)), by omega, s7, (k+1), rfl, (F6.step0 D7.stp), ok8, (cvi (by (first | rfl | omega | (simp_all; done) | (simp_all; omega))) (D7.dn 1 rfl rfl)), (D7.kt (D5.kt q17 rfl) rfl), (D7.kt (D5.kt q18 rfl) rfl), (D7.kt (D5.kt (D4.kt (D3.kt q10 rfl) rfl) rfl) rfl), by omega, fun j hj => by (by_cases e : j = k; subst e; exact fun h => c2 h.symm; exact hno j (by omega)), rfl⟩
  ·
   refine wp_exit (tx (tx (bx (tn (wp_seq ?_)))))
   refine gI a5 s3 ok4 (gC (Ty.int (-1 : Int)) (gE ok4 fun a10 s8 ok9 D8 => ?_)); refine tn (wp_ret ?_)
   exact ret1 rfl ok9 (F4.step0 D8.stp) (cvi (by (exact (indexL_no (fun j hj => hno j (by omega))).symm)) (D8.dn 0 rfl rfl))


set_option maxRecDepth 100000 in
theorem contains_fn (xs : List Int) (x : Int) (σ : GW) (v0 v1 : Value) (hv0 : Ty.has (Ty.lst Ty.int xs) σ v0) (hv1 : Ty.has (Ty.int x) σ v1)  :
    FnC Try.prog 58 #[v0, v1] σ (Ty.bool (decide (x ∈ xs))) := by
 refine fn_intro Try.func58 rfl Try.ntmps58 (Nat.le_of_ble_eq_true rfl) (fun s0 a0 hle F0 ok0 hargs => ?_)
 have p0 := pA hle (hargs 0 _ rfl) hv0
 have b1 := sl_le p0
 have p1 := pA hle (hargs 1 _ rfl) hv1
 clear hargs; refine wp_seq ?_
 refine gI a0 s0 ok0 (gC (Ty.bool false) (gE ok0 fun a1 s1 ok1 D1 => ?_)); refine tn (wp_seq ?_)
 refine gI a1 s1 ok1 (gM (D1.kt p0 rfl) (gM (D1.kt p1 rfl) (gS rfl (fun A B E G H d0 d1 => rP (y_call _ Try.func71 rfl rfl my2 (index_fn (xs) (x) _ _ _ (ed d0 rfl rfl rfl) (ed d1 rfl rfl rfl) ))) (gS rfl (fun A B E G H d0 => rP (y_geq (ed d0 rfl rfl rfl) rfl)) (gB 0 (gE ok1 fun a2 s2 ok2 D2 => ?_)))))); refine tn (wp_ret ?_)
 exact ret1 rfl ok2 ((F0.step0 D1.stp).step0 D2.stp) (cvb (by (rw [decide_eq_decide]; exact indexL_iff)) (D2.dn 4 rfl rfl))


set_option maxRecDepth 100000 in
theorem pChange_fn (n : Nat) (l : List Int) (σ : GW) (v0 v1 : Value) (hv0 : Ty.has (Ty.nat n) σ v0) (hv1 : Ty.has (Ty.lst Ty.int l) σ v1) (hn : n ≤ 12) (ho : okL 0 l n) :
    FnC Try.prog 35 #[v0, v1] σ (Ty.lst Ty.int (chgRow n l)) := by
 refine fn_intro Try.func35 rfl Try.ntmps35 (Nat.le_of_ble_eq_true rfl) (fun s0 a0 hle F0 ok0 hargs => ?_)
 have p0 := pA hle (hargs 0 _ rfl) hv0
 have p1 := pA hle (hargs 1 _ rfl) hv1
 have b1 := sl_le p1
 clear hargs; refine wp_seq ?_
 refine gI a0 s0 ok0 (gC (Ty.val (Value.slice none 0 0)) (gE ok0 fun a1 s1 ok1 D1 => ?_)); have q1 := D1.kt p0 rfl; refine tn (wp_seq ?_)
 refine gI a1 s1 ok1 (gM q1 (gR (Pr.own 11 3 1 n (List.map Ty.int (List.replicate n 0))) rfl (by intro A B E G H d0 d1; have e0 := ed d0 rfl rfl rfl; exact rP ((y_make (k := 11) (T := Ty.int 0) (n := n) Try.underlying29 Try.inf3 rfl (fun _ => rfl) e0 e0 (by omega) (by omega)).mono (fun _ _ h => cvo (by simp) (by simp) h))) (gR (Pr.own 11 3 1 n (List.map Ty.int (List.replicate n 0))) rfl (by intro A B E G H d0 d1 d2; have e1 : (Pr.own 11 3 1 n (List.map Ty.int (List.replicate n 0))).has B (A.eval (.tmp 8)) := d0 rfl; exact rP (y_assign e1)) (gE ok1 fun a2 s2 ok2 D2 => ?_))))
 have q5 : (Pr.own 11 3 1 n (List.map Ty.int (List.replicate n 0))).has s2 (a2.eval (.tmp 5)) := D2.done 2
 refine tn (wp_seq (wp_seq ?_))
 refine gI a2 s2 ok2 (gC (Ty.int (0 : Int)) (gE ok2 fun a3 s3 ok3 D3 => ?_))
 have q8 : (Pr.own 11 3 1 n (List.map Ty.int (List.replicate n 0))).has s3 (a3.eval (.tmp 5)) := D3.ko q5 rfl
 refine tn (wp_block ?_)
 refine loop (fun n1 a4 w1 => ∃ (t1 : GW) (xs : List Int) (f : Nat), t1.w = w1 ∧ From s0 t1 ∧ Ok 35 [] a4 ∧ (Pr.own 11 3 1 (List.length (padTo n xs)) (List.map Ty.int (padTo n xs))).has t1 (a4.eval (.tmp 5)) ∧ At (Ty.nat xs.length) t1 a4 (.tmp 6) ∧ At (Ty.nat n) t1 a4 (.tmp 0) ∧ At (Ty.lst Ty.int l) t1 a4 (.tmp 1) ∧ (AtC n l xs.length) ∧ (n ≤ f + xs.length) ∧ (xs ++ rowF l n f xs.length = chgRow n l) ∧ n1 = n + 1 - xs.length) (n + 1 - (([] : List Int)).length) ?_ ?_
 ·
  exact ⟨s3, ([] : List Int), n, rfl, (((F0.step0 D1.stp).step0 D2.stp).step0 D3.stp), ok3, (cvo (by (simp [padTo_nil])) (by (simp [padTo_nil])) q8), (cvi (by (first | rfl | omega | (simp_all; done) | (simp_all; omega))) (D3.dn 0 rfl rfl)), (D3.kt (D2.kt q1 rfl) rfl), (D3.kt (D2.kt (D1.kt p1 rfl) rfl) rfl), AtC.zero ho, by simp, rfl, rfl⟩
 ·
  rintro n2 a5 w2 ⟨t2, xs, f, rfl, F4, ok4, q10, q11, q12, q13, ha, hf, heq, rfl⟩
  have hal := ha.le
  have hpl := padTo_len hal
  refine wp_seq (wp_seq ?_)
  refine gI a5 t2 ok4 (gM q11 (gM q12 (gS rfl (fun A B E G H d0 d1 => rP (y_lss (ed d0 rfl rfl rfl) (ed d1 rfl rfl rfl))) (gE ok4 fun a6 s4 ok5 D4 => ?_)))); have F5 := F4.step0 D4.stp
  have q14 : (Pr.own 11 3 1 (List.length (padTo n xs)) (List.map Ty.int (padTo n xs))).has s4 (a6.eval (.tmp 5)) := D4.ko q10 rfl
  have q15 := D4.kt q11 rfl; have q17 := D4.kt q13 rfl; refine tn ?_
  refine cond_p (p := (((xs.length : Nat) : Int) < ((n : Nat) : Int))) (D4.dn 2 rfl rfl) (fun c1 => ?_) (fun c1 => ?_)
  ·
   refine wp_skip (tn (wp_seq (wp_block (wp_seq (wp_seq ?_)))))
   refine gI a6 s4 ok5 (gM q17 (gM q15 (gT (Ty.int (((xs.length : Nat) : Int) + (1 : Int))) rfl (fun A B E G H d0 => rP (y_add (ed d0 rfl rfl rfl) rfl (w64 (by omega) (by omega)))) (gS rfl (fun A B E G H d0 d1 => rP (y_call _ Try.func58 rfl rfl my2 (contains_fn (l) ((((xs.length : Nat) : Int) + (1 : Int))) _ _ _ (ed d0 rfl rfl rfl) (ed d1 rfl rfl rfl) ))) (gE ok5 fun a7 s5 ok6 D5 => ?_))))); have F6 := F5.step0 D5.stp
   have q19 : (Pr.own 11 3 1 (List.length (padTo n xs)) (List.map Ty.int (padTo n xs))).has s5 (a7.eval (.tmp 5)) := D5.ko q14 rfl
   have q20 := D5.kt q15 rfl; have q21 := D5.kt (D4.kt q12 rfl) rfl; have q22 := D5.kt q17 rfl; refine tn ?_
   refine cond_t (D5.dn 3 rfl rfl) (fun c2 => ?_) (fun c2 => ?_)
   ·
    have c2 := of_decide_eq_true c2
    refine wp_seq ?_
    refine gI a7 s5 ok6 (gT (Ty.val (a7.eval (.tmp 5))) rfl (fun A B E G H => rP (y_move (H 5 rfl))) (gM q20 (gM q20 (gT (Ty.val (cellPtr (a7.eval (.tmp 5)) xs.length)) rfl (fun A B E G H d0 d1 d2 d3 d4 => rP (own_index1 (i := ((xs.length : Nat) : Int)) Try.underlying29 Try.inf3 ((Pr.own 11 3 1 (List.length (padTo n xs)) (List.map Ty.int (padTo n xs))).up E q19) (ed d0 rfl rfl rfl) (ed d1 rfl rfl rfl) (by omega) (by omega))) (gE2 ok6 fun a8 s6 ok7 D6 => ?_))))); have q24 := (Pr.own 11 3 1 (List.length (padTo n xs)) (List.map Ty.int (padTo n xs))).up D6.stp q19
    have q25 : a8.eval (.tmp 5) = a7.eval (.tmp 5) := D6.same 5 rfl
    have q29 := D6.dn 2 (by decide) rfl rfl
    refine tail_step0 (m := 11) (R := (fun _ τ => Own τ 11 3 1 (a7.eval (.tmp 5)) (List.length (padTo n xs)) ((List.map Ty.int (padTo n xs)).set xs.length (Ty.nat xs.length)))) rfl rfl (m_store Try.inf3 (by decide) q24 (D6.dn 3 (by decide) rfl rfl) (by simp only [List.length_map, List.length_set]; omega) q29 (one_val rfl)) (fun v1 s7 hs1 r1 => ?_)
    have F8 := (F6.step0 D6.stp).step hs1 (by decide)
    have q31 : At (Ty.nat xs.length) s7 a8 (.tmp 6) := kpm hs1 (by decide) rfl (D6.kt q20 rfl)
    have q32 : At (Ty.nat n) s7 a8 (.tmp 0) := kpm hs1 (by decide) rfl (D6.kt q21 rfl)
    have q33 : At (Ty.lst Ty.int l) s7 a8 (.tmp 1) := kpm hs1 (by decide) rfl (D6.kt q22 rfl)
    have q34 : At (Ty.nat xs.length) s7 a8 (.tmp 20) := kpm hs1 (by decide) rfl q29
    have q35 : (Pr.own 11 3 1 (List.length ((padTo n xs).set xs.length ((xs.length : Nat) : Int))) (List.map Ty.int ((padTo n xs).set xs.length ((xs.length : Nat) : Int)))).has s7 (a7.eval (.tmp 5)) := (cvo (by simp) (by simp) r1)
    refine wpList_nil ?_
    have q36 : (Pr.own 11 3 1 (List.length ((padTo n xs).set xs.length ((xs.length : Nat) : Int))) (List.map Ty.int ((padTo n xs).set xs.length ((xs.length : Nat) : Int)))).has s7 (a8.eval (.tmp 5)) := al q25 q35
    refine tn (wp_exit (tx (bx (tn ?_))))
    refine gI a8 s7 ok7 (gM q31 (gT (Ty.int (((xs.length : Nat) : Int) + (1 : Int))) rfl (fun A B E G H d0 => rP (y_add (ed d0 rfl rfl rfl) rfl (w64 (by omega) (by omega)))) (gB 0 (gE ok7 fun a10 s8 ok9 D7 => ?_))))
    have q37 : (Pr.own 11 3 1 (List.length ((padTo n xs).set xs.length ((xs.length : Nat) : Int))) (List.map Ty.int ((padTo n xs).set xs.length ((xs.length : Nat) : Int)))).has s8 (a10.eval (.tmp 5)) := D7.ko q36 rfl
    exact tn ⟨n + 1 - ((xs ++ [((xs.length : Nat) : Int)])).length, by simp; omega, s8, (xs ++ [((xs.length : Nat) : Int)]), (f-1), rfl, (F8.step0 D7.stp), ok9, (cvo (by (rw [padTo_set (by omega) _ (by first | rfl | omega)])) (by (rw [padTo_set (by omega) _ (by first | rfl | omega)])) q37), (cvi (by (simp)) (D7.dn 2 rfl rfl)), (D7.kt q32 rfl), (D7.kt q33 rfl), by rw [List.length_append]; exact ha.yes c2, by simp; omega, by rw [List.length_append]; exact rowF_yes heq (by omega) hf c2, rfl⟩
   ·
    have c2 := of_decide_eq_false c2; have han := ha.no (by omega) c2
    refine wp_skip (tn (wp_seq ?_))
    refine gI a7 s5 ok6 (gT (Ty.val (a7.eval (.tmp 5))) rfl (fun A B E G H => rP (y_move (H 5 rfl))) (gM q20 (gT (Ty.val (a7.eval (.tmp 5))) rfl (fun A B E G H d0 => rP (y_move (H 5 rfl))) (gM q20 (gT (Ty.int (((xs.length : Nat) : Int) + (1 : Int))) rfl (fun A B E G H d0 d1 => rP (y_add (ed d0 rfl rfl rfl) rfl (w64 (by omega) (by omega)))) (gM q20 (gT (Ty.int (((xs.length : Nat) : Int) + (1 : Int))) rfl (fun A B E G H d0 => rP (y_add (ed d0 rfl rfl rfl) rfl (w64 (by omega) (by omega)))) (gM q20 (gT (Ty.val (cellPtr (a7.eval (.tmp 5)) xs.length)) rfl (fun A B E G H d0 d1 d2 d3 d4 d5 d6 d7 d8 d9 => rP (own_index1 (i := ((xs.length : Nat) : Int)) Try.underlying29 Try.inf3 ((Pr.own 11 3 1 (List.length (padTo n xs)) (List.map Ty.int (padTo n xs))).up E q19) (ed d0 rfl rfl rfl) (ed d1 rfl rfl rfl) (by omega) (by omega))) (gE2 ok6 fun a11 s9 ok10 D8 => ?_)))))))))); have q41 := (Pr.own 11 3 1 (List.length (padTo n xs)) (List.map Ty.int (padTo n xs))).up D8.stp q19
    have q42 : a11.eval (.tmp 5) = a7.eval (.tmp 5) := D8.same 5 rfl
    have q46 := D8.dn 2 (by decide) rfl rfl; have q48 := D8.dn 6 (by decide) rfl rfl; have q50 := D8.dn 8 (by decide) rfl rfl
    refine tail_step0 (m := 11) (R := (fun _ τ => Own τ 11 3 1 (a7.eval (.tmp 5)) (List.length (padTo n xs)) ((List.map Ty.int (padTo n xs)).set xs.length (Ty.int (((xs.length : Nat) : Int) + (1 : Int)))))) rfl rfl (m_store Try.inf3 (by decide) q41 q50 (by simp only [List.length_map, List.length_set]; omega) q48 (one_val rfl)) (fun v2 s10 hs2 r2 => ?_)
    have F11 := (F6.step0 D8.stp).step hs2 (by decide)
    have q51 : At (Ty.nat xs.length) s10 a11 (.tmp 6) := kpm hs2 (by decide) rfl (D8.kt q20 rfl)
    have q52 : At (Ty.nat n) s10 a11 (.tmp 0) := kpm hs2 (by decide) rfl (D8.kt q21 rfl)
    have q53 : At (Ty.lst Ty.int l) s10 a11 (.tmp 1) := kpm hs2 (by decide) rfl (D8.kt q22 rfl)
    have q54 : At (Ty.int (((xs.length : Nat) : Int) + (1 : Int))) s10 a11 (.tmp 26) := kpm hs2 (by decide) rfl (D8.dn 4 (by decide) rfl rfl)
    have q55 : At (Ty.int (((xs.length : Nat) : Int) + (1 : Int))) s10 a11 (.tmp 28) := kpm hs2 (by decide) rfl q48
    have q56 : At (Ty.nat xs.length) s10 a11 (.tmp 29) := kpm hs2 (by decide) rfl (D8.dn 7 (by decide) rfl rfl)
    have q57 : (Pr.own 11 3 1 (List.length ((padTo n xs).set xs.length (((xs.length : Nat) : Int) + (1 : Int)))) (List.map Ty.int ((padTo n xs).set xs.length (((xs.length : Nat) : Int) + (1 : Int))))).has s10 (a7.eval (.tmp 5)) := (cvo (by simp) (by simp) r2)
    refine tail_step (m := 0) (R := (fun v τ => Pr.has (Ty.pr (Ty.val (cellPtr (a7.eval (.tmp 5)) ((((xs.length : Nat) : Int) + (1 : Int))).toNat))) τ v)) rfl rfl (by decide) ok10 (Yld.toM (own_index1 (i := (((xs.length : Nat) : Int) + (1 : Int))) Try.underlying29 Try.inf3 q57 q46 q54 (by omega) (by simp only [List.length_set]; omega))) (fun a13 s11 hs3 ok12 r3 sm3 => ?_)
    have F12 := F11.step hs3 (by decide); have q58 := Own.keep q57 hs3 (by decide) (.inl rfl); have q59 := (sm3 5 (by decide)).trans q42
    have q60 : At (Ty.nat xs.length) s11 a13 (.tmp 6) := kpm hs3 (by decide) (sm3 6 (by decide)) q51
    have q61 : At (Ty.nat n) s11 a13 (.tmp 0) := kpm hs3 (by decide) (sm3 0 (by decide)) q52
    have q62 : At (Ty.lst Ty.int l) s11 a13 (.tmp 1) := kpm hs3 (by decide) (sm3 1 (by decide)) q53
    have q63 := (sm3 24 (by decide)).trans q46
    have q64 : At (Ty.int (((xs.length : Nat) : Int) + (1 : Int))) s11 a13 (.tmp 26) := kpm hs3 (by decide) (sm3 26 (by decide)) q54
    have q65 : At (Ty.int (((xs.length : Nat) : Int) + (1 : Int))) s11 a13 (.tmp 28) := kpm hs3 (by decide) (sm3 28 (by decide)) q55
    have q66 : At (Ty.nat xs.length) s11 a13 (.tmp 29) := kpm hs3 (by decide) (sm3 29 (by decide)) q56
    have q67 := (sm3 30 (by decide)).trans q50
    have q68 : At (Ty.val (cellPtr (a7.eval (.tmp 5)) ((((xs.length : Nat) : Int) + (1 : Int))).toNat)) s11 a13 (.tmp 31) := r3
    refine tail_step0 (m := 11) (R := (fun _ τ => Own τ 11 3 1 (a7.eval (.tmp 5)) (List.length ((padTo n xs).set xs.length (((xs.length : Nat) : Int) + (1 : Int)))) ((List.map Ty.int ((padTo n xs).set xs.length (((xs.length : Nat) : Int) + (1 : Int)))).set ((((xs.length : Nat) : Int) + (1 : Int))).toNat (Ty.nat xs.length)))) rfl rfl (m_store Try.inf3 (by decide) q58 q68 (by simp only [List.length_map, List.length_set]; omega) q66 (one_val rfl)) (fun v3 s12 hs4 r4 => ?_)
    have F13 := F12.step hs4 (by decide)
    have q69 : At (Ty.nat xs.length) s12 a13 (.tmp 6) := kpm hs4 (by decide) rfl q60
    have q70 : At (Ty.nat n) s12 a13 (.tmp 0) := kpm hs4 (by decide) rfl q61
    have q71 : At (Ty.lst Ty.int l) s12 a13 (.tmp 1) := kpm hs4 (by decide) rfl q62
    have q72 : At (Ty.int (((xs.length : Nat) : Int) + (1 : Int))) s12 a13 (.tmp 26) := kpm hs4 (by decide) rfl q64
    have q73 : At (Ty.int (((xs.length : Nat) : Int) + (1 : Int))) s12 a13 (.tmp 28) := kpm hs4 (by decide) rfl q65
    have q74 : At (Ty.nat xs.length) s12 a13 (.tmp 29) := kpm hs4 (by decide) rfl q66
    have q75 : (Pr.own 11 3 1 (List.length (((padTo n xs).set xs.length (((xs.length : Nat) : Int) + (1 : Int))).set ((((xs.length : Nat) : Int) + (1 : Int))).toNat ((xs.length : Nat) : Int))) (List.map Ty.int (((padTo n xs).set xs.length (((xs.length : Nat) : Int) + (1 : Int))).set ((((xs.length : Nat) : Int) + (1 : Int))).toNat ((xs.length : Nat) : Int)))).has s12 (a7.eval (.tmp 5)) := (cvo (by simp) (by simp) r4)
    refine wpList_nil ?_
    have q76 : (Pr.own 11 3 1 (List.length (((padTo n xs).set xs.length (((xs.length : Nat) : Int) + (1 : Int))).set ((((xs.length : Nat) : Int) + (1 : Int))).toNat ((xs.length : Nat) : Int))) (List.map Ty.int (((padTo n xs).set xs.length (((xs.length : Nat) : Int) + (1 : Int))).set ((((xs.length : Nat) : Int) + (1 : Int))).toNat ((xs.length : Nat) : Int)))).has s12 (a13.eval (.tmp 5)) := al q59 q75
    refine tn ?_
    refine gI a13 s12 ok12 (gM q69 (gT (Ty.int (((xs.length : Nat) : Int) + (1 : Int))) rfl (fun A B E G H d0 => rP (y_add (ed d0 rfl rfl rfl) rfl (w64 (by omega) (by omega)))) (gB 0 (gE ok12 fun a15 s13 ok14 D9 => ?_))))
    have q77 : (Pr.own 11 3 1 (List.length (((padTo n xs).set xs.length (((xs.length : Nat) : Int) + (1 : Int))).set ((((xs.length : Nat) : Int) + (1 : Int))).toNat ((xs.length : Nat) : Int))) (List.map Ty.int (((padTo n xs).set xs.length (((xs.length : Nat) : Int) + (1 : Int))).set ((((xs.length : Nat) : Int) + (1 : Int))).toNat ((xs.length : Nat) : Int)))).has s13 (a15.eval (.tmp 5)) := D9.ko q76 rfl
    refine bn (tn ?_)
    refine gI a15 s13 ok14 (gM (D9.dn 2 rfl rfl) (gT (Ty.int ((((xs.length : Nat) : Int) + (1 : Int)) + (1 : Int))) rfl (fun A B E G H d0 => rP (y_add (ed d0 rfl rfl rfl) rfl (w64 (by omega) (by omega)))) (gB 0 (gE ok14 fun a16 s14 ok15 D10 => ?_))))
    have q81 : (Pr.own 11 3 1 (List.length (((padTo n xs).set xs.length (((xs.length : Nat) : Int) + (1 : Int))).set ((((xs.length : Nat) : Int) + (1 : Int))).toNat ((xs.length : Nat) : Int))) (List.map Ty.int (((padTo n xs).set xs.length (((xs.length : Nat) : Int) + (1 : Int))).set ((((xs.length : Nat) : Int) + (1 : Int))).toNat ((xs.length : Nat) : Int)))).has s14 (a16.eval (.tmp 5)) := D10.ko q77 rfl
    exact tn ⟨n + 1 - ((xs ++ [((xs.length : Nat) : Int) + 1, ((xs.length : Nat) : Int)])).length, by simp; omega, s14, (xs ++ [((xs.length : Nat) : Int) + 1, ((xs.length : Nat) : Int)]), (f-1), rfl, ((F13.step0 D9.stp).step0 D10.stp), ok15, (cvo (by (rw [padTo_set (by omega) _ (by omega), padTo_set (by simp; omega) _ (by simp)]; simp)) (by (rw [padTo_set (by omega) _ (by omega), padTo_set (by simp; omega) _ (by simp)]; simp)) q81), (cvi (by (simp; omega)) (D10.dn 2 rfl rfl)), (D10.kt (D9.kt q70 rfl) rfl), (D10.kt (D9.kt q71 rfl) rfl), by rw [List.length_append]; exact han.2, by simp; omega, by rw [List.length_append]; exact rowF_no heq (by omega) hf c2, rfl⟩
  ·
   refine wp_exit (tx (tx (bx (tn (wp_seq ?_)))))
   refine gI a6 s4 ok5 (gT (Ty.val (a6.eval (.tmp 5))) rfl (fun A B E G H => rP (y_move (H 5 rfl))) (gB 0 (gE ok5 fun a17 s15 ok16 D11 => ?_)))
   have q85 : (Pr.own 11 3 1 (List.length (padTo n xs)) (List.map Ty.int (padTo n xs))).has s15 (a17.eval (.tmp 4)) := al (show _ = _ from D11.done 1) ((Pr.own 11 3 1 (List.length (padTo n xs)) (List.map Ty.int (padTo n xs))).up D11.stp q14)
   refine tn (wp_ret ?_)
   obtain ⟨t3, e1, h1, q86⟩ := Own.seal q85 (by decide)
   rw [← e1]
   have F17 := (F5.step0 D11.stp).step h1 (by decide)
   exact ret1 rfl ok16 F17 (cvt (by (rw [rowF_end (by omega), List.append_nil] at heq; rw [heq, padTo_full (chgRow_len ho)])) q86)


set_option maxRecDepth 100000 in
theorem pRow_fn (n : Nat) (l : List Int) (σ : GW) (v0 v1 : Value) (hv0 : Ty.has (Ty.nat n) σ v0) (hv1 : Ty.has (Ty.lst Ty.int l) σ v1) (hn : n ≤ 100) :
    FnC Try.prog 12 #[v0, v1] σ (Ty.tup2 (Ty.lst Ty.int (if chgMay ((n : Nat) : Int) l = 0 then chgRow n l else [])) (Ty.int (chgMay ((n : Nat) : Int) l))) := by
 refine fn_intro Try.func12 rfl Try.ntmps12 (Nat.le_of_ble_eq_true rfl) (fun s0 a0 hle F0 ok0 hargs => ?_)
 have p0 := pA hle (hargs 0 _ rfl) hv0
 have p1 := pA hle (hargs 1 _ rfl) hv1
 have b1 := sl_le p1
 clear hargs; refine wp_seq ?_
 refine gI a0 s0 ok0 (gC (Ty.val (Value.slice none 0 0)) (gC (Ty.int (0 : Int)) (gE ok0 fun a1 s1 ok1 D1 => ?_))); have q1 := D1.kt p0 rfl; have q2 := D1.kt p1 rfl; refine tn (wp_seq (wp_seq ?_))
 refine gI a1 s1 ok1 (gM q1 (gM q2 (gS rfl (fun A B E G H d0 d1 => rP (y_call _ Try.func11 rfl rfl my2 (pCheck_fn (((n : Nat) : Int)) (l) _ _ _ (ed d0 rfl rfl rfl) (ed d1 rfl rfl rfl) (by omega)))) (gB 0 (gE ok1 fun a2 s2 ok2 D2 => ?_))))); have q5 := D2.dn 3 rfl rfl; refine tn (wp_seq ?_)
 refine gI a2 s2 ok2 (gM q5 (gS rfl (fun A B E G H d0 => rP (y_neq (ed d0 rfl rfl rfl) rfl)) (gE ok2 fun a3 s3 ok3 D3 => ?_))); have F3 := ((F0.step0 D1.stp).step0 D2.stp).step0 D3.stp; refine tn ?_
 refine cond_p (p := ((chgMay (((n : Nat) : Int)) l) ≠ (0 : Int))) (D3.dn 1 rfl rfl) (fun c1 => ?_) (fun c1 => ?_)
 ·
  refine wp_seq ?_
  refine gI a3 s3 ok3 (gM (D3.kt q5 rfl) (gC (Ty.val (Value.slice none 0 0)) (gB 0 (gE ok3 fun a4 s4 ok4 D4 => ?_)))); refine tn (wp_ret (tr ?_))
  exact ret2 rfl ok4 (F3.step0 D4.stp) (nil_lst (by (rw [if_neg c1])) (D4.dn 1 rfl rfl)) (cvi (by (first | rfl | omega | (simp_all; done) | (simp_all; omega))) (D4.dn 2 rfl rfl))
 ·
  have h0 := Classical.not_not.1 c1; have ho := okL_of_chgMay h0; have hn2 := chgMay_n h0
  refine wp_skip (tn (wp_seq ?_))
  refine gI a3 s3 ok3 (gM (D3.kt (D2.kt q1 rfl) rfl) (gM (D3.kt (D2.kt q2 rfl) rfl) (gS rfl (fun A B E G H d0 d1 => rP (y_call _ Try.func35 rfl rfl my2 (pChange_fn (n) (l) _ _ _ (ed d0 rfl rfl rfl) (ed d1 rfl rfl rfl) (by first | omega | assumption) (by first | omega | assumption)))) (gB 0 (gC (Ty.int (0 : Int)) (gE ok3 fun a5 s5 ok5 D5 => ?_)))))); refine tn (wp_ret ?_)
  exact ret2 rfl ok5 (F3.step0 D5.stp) (cvt (by (rw [if_pos h0])) (D5.dn 3 rfl rfl)) (cvi (by (exact h0.symm)) (D5.dn 4 rfl rfl))

set_option maxRecDepth 100000 in
theorem pRowB_fn (n : Int) (l : List Int) (σ : GW) (v0 v1 : Value) (hv0 : Ty.has (Ty.int n) σ v0) (hv1 : Ty.has (Ty.lst Ty.int l) σ v1) (hn : -9223372036854775808 ≤ n ∧ n ≤ 9223372036854775807) (hb : n < 1 ∨ 12 < n) :
    FnC Try.prog 12 #[v0, v1] σ (Ty.tup2 (Ty.lst Ty.int (if chgMay n l = 0 then chgRow n.toNat l else [])) (Ty.int (chgMay n l))) := by
 refine fn_intro Try.func12 rfl Try.ntmps12 (Nat.le_of_ble_eq_true rfl) (fun s0 a0 hle F0 ok0 hargs => ?_)
 have p0 := pA hle (hargs 0 _ rfl) hv0
 have p1 := pA hle (hargs 1 _ rfl) hv1
 have b1 := sl_le p1
 clear hargs; refine wp_seq ?_
 refine gI a0 s0 ok0 (gC (Ty.val (Value.slice none 0 0)) (gC (Ty.int (0 : Int)) (gE ok0 fun a1 s1 ok1 D1 => ?_))); refine tn (wp_seq (wp_seq ?_))
 refine gI a1 s1 ok1 (gM (D1.kt p0 rfl) (gM (D1.kt p1 rfl) (gS rfl (fun A B E G H d0 d1 => rP (y_call _ Try.func11 rfl rfl my2 (pCheck_fn (n) (l) _ _ _ (ed d0 rfl rfl rfl) (ed d1 rfl rfl rfl) (by omega)))) (gB 0 (gE ok1 fun a2 s2 ok2 D2 => ?_))))); have q5 := D2.dn 3 rfl rfl; refine tn (wp_seq ?_)
 refine gI a2 s2 ok2 (gM q5 (gS rfl (fun A B E G H d0 => rP (y_neq (ed d0 rfl rfl rfl) rfl)) (gE ok2 fun a3 s3 ok3 D3 => ?_))); refine tn ?_
 refine cond_p (p := ((chgMay n l) ≠ (0 : Int))) (D3.dn 1 rfl rfl) (fun c1 => ?_) (fun c1 => ?_)
 ·
  refine wp_seq ?_
  refine gI a3 s3 ok3 (gM (D3.kt q5 rfl) (gC (Ty.val (Value.slice none 0 0)) (gB 0 (gE ok3 fun a4 s4 ok4 D4 => ?_)))); refine tn (wp_ret (tr ?_))
  exact ret2 rfl ok4 ((((F0.step0 D1.stp).step0 D2.stp).step0 D3.stp).step0 D4.stp) (nil_lst (by (rw [if_neg c1])) (D4.dn 1 rfl rfl)) (D4.dn 2 rfl rfl)
 ·
  exfalso
  exact c1 (by rw [chgMay_cnt hb]; decide)

theorem pRowI_fn (n : Int) (l : List Int) (σ : GW) (v0 v1 : Value) (hv0 : Ty.has (Ty.int n) σ v0) (hv1 : Ty.has (Ty.lst Ty.int l) σ v1) (hn : -9223372036854775808 ≤ n ∧ n ≤ 9223372036854775807) : FnC Try.prog 12 #[v0, v1] σ (Ty.tup2 (Ty.lst Ty.int (if chgMay n l = 0 then chgRow n.toNat l else [])) (Ty.int (chgMay n l))) := by
  by_cases h : 0 ≤ n ∧ n ≤ 100
  · obtain ⟨m, rfl⟩ : ∃ m : Nat, n = m := ⟨n.toNat, by omega⟩
    exact pRow_fn m l σ v0 v1 hv0 hv1 (by omega)
  · exact pRowB_fn n l σ v0 v1 hv0 hv1 hn (by omega)


set_option maxRecDepth 100000 in
theorem rIsIn_fn (xs : List Int) (x : Int) (σ : GW) (v0 v1 : Value) (hv0 : Ty.has (Ty.lst Ty.int xs) σ v0) (hv1 : Ty.has (Ty.int x) σ v1)  :
    FnC Try.prog 36 #[v0, v1] σ (Ty.bool (decide (x ∈ xs))) := by
 refine fn_intro Try.func36 rfl Try.ntmps36 (Nat.le_of_ble_eq_true rfl) (fun s0 a0 hle F0 ok0 hargs => ?_)
 have p0 := pA hle (hargs 0 _ rfl) hv0
 have b1 := sl_le p0
 have p1 := pA hle (hargs 1 _ rfl) hv1
 clear hargs; refine wp_seq ?_
 refine gI a0 s0 ok0 (gC (Ty.bool false) (gE ok0 fun a1 s1 ok1 D1 => ?_)); refine tn (wp_seq (wp_seq ?_))
 refine gI a1 s1 ok1 (gC (Ty.int (0 : Int)) (gE ok1 fun a2 s2 ok2 D2 => ?_)); refine tn (wp_block ?_)
 refine loop (fun n1 a3 w1 => ∃ (t1 : GW) (k : Nat), t1.w = w1 ∧ From s0 t1 ∧ Ok 18 [] a3 ∧ At (Ty.nat k) t1 a3 (.tmp 5) ∧ At (Ty.lst Ty.int xs) t1 a3 (.tmp 0) ∧ At (Ty.int x) t1 a3 (.tmp 1) ∧ (k ≤ xs.length) ∧ (∀ j, j < k → xs.getD j 0 ≠ x) ∧ n1 = xs.length - k) (xs.length - (0)) ?_ ?_
 ·
  exact ⟨s2, 0, rfl, ((F0.step0 D1.stp).step0 D2.stp), ok2, (cvi (by (first | rfl | omega | (simp_all; done) | (simp_all; omega))) (D2.dn 0 rfl rfl)), (D2.kt (D1.kt p0 rfl) rfl), (D2.kt (D1.kt p1 rfl) rfl), by omega, fun j hj => absurd hj (Nat.not_lt_zero j), rfl⟩
 ·
  rintro n2 a4 w2 ⟨t2, k, rfl, F3, ok3, q6, q7, q8, hk, hno, rfl⟩
  refine wp_seq (wp_seq ?_)
  refine gI a4 t2 ok3 (gM q6 (gM q7 (gS rfl (fun A B E G H d0 => rP (y_len Try.underlying29 (ed d0 rfl rfl rfl))) (gS rfl (fun A B E G H d0 d1 => rP (y_lss (ed d0 rfl rfl rfl) (ed d1 rfl rfl rfl))) (gE ok3 fun a5 s3 ok4 D3 => ?_))))); have F4 := F3.step0 D3.stp; have q9 := D3.kt q6 rfl; have q10 := D3.kt q7 rfl; have q11 := D3.kt q8 rfl; refine tn ?_
  refine cond_p (p := (((k : Nat) : Int) < (((List.length xs) : Nat) : Int))) (D3.dn 3 rfl rfl) (fun c1 => ?_) (fun c1 => ?_)
  ·
   refine wp_skip (tn (wp_seq (wp_block (wp_seq ?_))))
   refine gI a5 s3 ok4 (gM q10 (gM q9 (gT (Ty.ref [(Ty.int (xs.getD k 0))]) rfl (fun A B E G H d0 d1 => rP (y_index1 Try.underlying29 Try.inf3 (ed d0 rfl rfl rfl) (ed d1 rfl rfl rfl) (by omega) (lst_get Ty.int xs 0 k (by omega)))) (gS rfl (fun A B E G H d0 => rP (y_load Try.underlying3 rfl (ed d0 rfl rfl rfl) rfl)) (gM q11 (gS rfl (fun A B E G H d0 d1 => rP (y_eql (ed d0 rfl rfl rfl) (ed d1 rfl rfl rfl))) (gE ok4 fun a6 s4 ok5 D4 => ?_))))))); have F5 := F4.step0 D4.stp; refine tn ?_
   refine cond_p (p := ((xs.getD k 0) = x)) (D4.dn 5 rfl rfl) (fun c2 => ?_) (fun c2 => ?_)
   ·
    refine wp_seq ?_
    refine gI a6 s4 ok5 (gC (Ty.bool true) (gE ok5 fun a7 s5 ok6 D5 => ?_)); refine tn (wp_ret (br (tr (tr (br (tr ?_))))))
    exact ret1 rfl ok6 (F5.step0 D5.stp) (cvb (by (exact (decide_eq_true (mem_at (by omega) c2)).symm)) (D5.dn 0 rfl rfl))
   ·
    refine wp_skip (bn (tn ?_))
    refine gI a6 s4 ok5 (gM (D4.kt q9 rfl) (gT (Ty.int (((k : Nat) : Int) + (1 : Int))) rfl (fun A B E G H d0 => rP (y_add (ed d0 rfl rfl rfl) rfl (w64 (by omega) (by omega)))) (gB 0 (gE ok5 fun a8 s6 ok7 D6 => ?_))))
    exact tn ⟨xs.length - ((k+1)), by omega, s6, (k+1), rfl, (F5.step0 D6.stp), ok7, (cvi (by (first | rfl | omega | (simp_all; done) | (simp_all; omega))) (D6.dn 2 rfl rfl)), (D6.kt (D4.kt q10 rfl) rfl), (D6.kt (D4.kt q11 rfl) rfl), by omega, fun j hj => by (by_cases e : j = k; subst e; exact c2; exact hno j (by omega)), rfl⟩
  ·
   refine wp_exit (tx (tx (bx (tn (wp_seq ?_)))))
   refine gI a5 s3 ok4 (gC (Ty.bool false) (gE ok4 fun a9 s7 ok8 D7 => ?_)); refine tn (wp_ret ?_)
   exact ret1 rfl ok8 (F4.step0 D7.stp) (cvb (by (exact (decide_eq_false (not_mem_all (fun j hj => hno j (by omega)))).symm)) (D7.dn 0 rfl rfl))


set_option maxRecDepth 100000 in
theorem rChangeRow_fn (n : Nat) (l : List Int) (σ : GW) (v0 v1 : Value) (hv0 : Ty.has (Ty.nat n) σ v0) (hv1 : Ty.has (Ty.lst Ty.int l) σ v1) (hn : n ≤ 100) :
    FnC Try.prog 14 #[v0, v1] σ (Ty.lst Ty.int (chgRow n l)) := by
 refine fn_intro Try.func14 rfl Try.ntmps14 (Nat.le_of_ble_eq_true rfl) (fun s0 a0 hle F0 ok0 hargs => ?_)
 have p0 := pA hle (hargs 0 _ rfl) hv0
 have p1 := pA hle (hargs 1 _ rfl) hv1
 have b1 := sl_le p1
 clear hargs; refine wp_seq ?_
 refine gI a0 s0 ok0 (gC (Ty.val (Value.slice none 0 0)) (gE ok0 fun a1 s1 ok1 D1 => ?_)); refine tn (wp_seq ?_)
 refine gI a1 s1 ok1 (gC (Ty.val (Value.slice none 0 0)) (gE ok1 fun a2 s2 ok2 D2 => ?_)); refine tn (wp_seq (wp_block ?_))
 refine loop (fun n1 a3 w1 => ∃ (t1 : GW) (xs : List Int) (f : Nat), t1.w = w1 ∧ From s0 t1 ∧ Ok 30 [] a3 ∧ (Pr.own 2 3 1 (List.length xs) (List.map Ty.int xs)).has t1 (a3.eval (.tmp 5)) ∧ At (Ty.nat n) t1 a3 (.tmp 0) ∧ At (Ty.lst Ty.int l) t1 a3 (.tmp 1) ∧ (n ≤ f + xs.length) ∧ (xs.length ≤ n + 1) ∧ (xs ++ rowF l n f xs.length = chgRow n l) ∧ n1 = n + 2 - xs.length) (n + 2 - (([] : List Int)).length) ?_ ?_
 ·
  exact ⟨s2, ([] : List Int), n, rfl, ((F0.step0 D1.stp).step0 D2.stp), ok2, (by have e : a2.eval (.tmp 5) = _ := (D2.dn 0 rfl rfl); rw [e]; exact Own.nil _ _ _ _), (D2.kt (D1.kt p0 rfl) rfl), (D2.kt (D1.kt p1 rfl) rfl), by simp, by simp, rfl, rfl⟩
 ·
  rintro n2 a4 w2 ⟨t2, xs, f, rfl, F3, ok3, q6, q7, q8, hf, hx, heq, rfl⟩
  refine wp_seq (wp_seq ?_)
  refine gI a4 t2 ok3 (gT (Ty.val (a4.eval (.tmp 5))) rfl (fun A B E G H => rP (y_move (H 5 rfl))) (gT (Ty.nat (List.length xs)) rfl (fun A B E G H d0 => rP (own_len Try.underlying29 (al (ed d0 rfl rfl rfl) ((Pr.own 2 3 1 (List.length xs) (List.map Ty.int xs)).up E q6)))) (gM q7 (gS rfl (fun A B E G H d0 d1 => rP (y_lss (ed d0 rfl rfl rfl) (ed d1 rfl rfl rfl))) (gE ok3 fun a5 s3 ok4 D3 => ?_))))); have F4 := F3.step0 D3.stp
  have q9 : (Pr.own 2 3 1 (List.length xs) (List.map Ty.int xs)).has s3 (a5.eval (.tmp 5)) := D3.ko q6 rfl
  refine tn ?_
  refine cond_p (p := ((((List.length xs) : Nat) : Int) < ((n : Nat) : Int))) (D3.dn 3 rfl rfl) (fun c1 => ?_) (fun c1 => ?_)
  ·
   refine wp_skip (tn (wp_block (wp_seq ?_)))
   refine gI a5 s3 ok4 (gT (Ty.val (a5.eval (.tmp 5))) rfl (fun A B E G H => rP (y_move (H 5 rfl))) (gT (Ty.nat (List.length xs)) rfl (fun A B E G H d0 => rP (own_len Try.underlying29 (al (ed d0 rfl rfl rfl) ((Pr.own 2 3 1 (List.length xs) (List.map Ty.int xs)).up E q9)))) (gB 0 (gE ok4 fun a6 s4 ok5 D4 => ?_))))
   have q13 : (Pr.own 2 3 1 (List.length xs) (List.map Ty.int xs)).has s4 (a6.eval (.tmp 5)) := D4.ko q9 rfl
   have q15 := D4.kt (D3.kt q8 rfl) rfl; have q16 := D4.dn 2 rfl rfl; refine tn (wp_seq ?_)
   refine gI a6 s4 ok5 (gM q15 (gM q16 (gT (Ty.int ((((List.length xs) : Nat) : Int) + (1 : Int))) rfl (fun A B E G H d0 => rP (y_add (ed d0 rfl rfl rfl) rfl (w64 (by omega) (by omega)))) (gS rfl (fun A B E G H d0 d1 => rP (y_call _ Try.func36 rfl rfl my2 (rIsIn_fn (l) (((((List.length xs) : Nat) : Int) + (1 : Int))) _ _ _ (ed d0 rfl rfl rfl) (ed d1 rfl rfl rfl) ))) (gB 0 (gE ok5 fun a7 s5 ok6 D5 => ?_))))))
   have q17 : (Pr.own 2 3 1 (List.length xs) (List.map Ty.int xs)).has s5 (a7.eval (.tmp 5)) := D5.ko q13 rfl
   refine tn (wp_seq ?_)
   refine gI a7 s5 ok6 (gM (D5.dn 4 rfl rfl) (gE ok6 fun a8 s6 ok7 D6 => ?_)); have F7 := ((F4.step0 D4.stp).step0 D5.stp).step0 D6.stp
   have q22 : (Pr.own 2 3 1 (List.length xs) (List.map Ty.int xs)).has s6 (a8.eval (.tmp 5)) := D6.ko q17 rfl
   have q23 := D6.kt (D5.kt (D4.kt (D3.kt q7 rfl) rfl) rfl) rfl; have q24 := D6.kt (D5.kt q15 rfl) rfl; have q25 := D6.kt (D5.kt q16 rfl) rfl; refine tn ?_
   refine cond_t (D6.dn 0 rfl rfl) (fun c2 => ?_) (fun c2 => ?_)
   ·
    have c2 := of_decide_eq_true c2
    refine gI a8 s6 ok7 (gT (Ty.val (a8.eval (.tmp 5))) rfl (fun A B E G H => rP (y_move (H 5 rfl))) (gM q25 (gT (Ty.sl 1 1 [(Ty.nat (List.length xs))]) rfl (fun A B E G H d0 => rP (y_build1o Try.underlying29 Try.inf3 rfl (one_val rfl) (ed d0 rfl rfl rfl))) (gE2 ok7 fun a9 s7 ok8 D7 => ?_)))); have q27 := (Pr.own 2 3 1 (List.length xs) (List.map Ty.int xs)).up D7.stp q22
    have q28 : a9.eval (.tmp 5) = a8.eval (.tmp 5) := D7.same 5 rfl
    have q32 := D7.dn 2 (by decide) rfl rfl
    refine tail_step (m := 2) (R := (fun v τ => Own τ 2 3 1 v ((List.length xs) + 1) ((List.map Ty.int xs) ++ [(Ty.nat (List.length xs))]))) rfl rfl (by decide) ok8 (m_append Try.underlying29 Try.inf3 (by decide) rfl (by decide) (al (D7.dn 0 (by decide) rfl rfl) q27) q32 (by intro U hU; simp at hU;  subst hU; exact one_val rfl) (by omega) (by omega)) (fun a10 s8 hs1 ok9 r1 sm1 => ?_)
    have F9 := (F7.step0 D7.stp).step hs1 (by decide)
    have q33 : At (Ty.nat n) s8 a10 (.tmp 0) := kpm hs1 (by decide) (sm1 0 (by decide)) (D7.kt q23 rfl)
    have q34 : At (Ty.lst Ty.int l) s8 a10 (.tmp 1) := kpm hs1 (by decide) (sm1 1 (by decide)) (D7.kt q24 rfl)
    have q35 : At (Ty.sl 1 1 [(Ty.nat (List.length xs))]) s8 a10 (.tmp 21) := kpm hs1 (by decide) (sm1 21 (by decide)) q32
    have q36 : (Pr.own 2 3 1 (List.length (xs ++ [(((List.length xs) : Nat) : Int)])) (List.map Ty.int (xs ++ [(((List.length xs) : Nat) : Int)]))).has s8 (a10.eval (.tmp 22)) := (cvo (by simp) (by first | (rw [List.map_append]; rfl) | simp) r1)
    refine tail_step (m := 0) (R := (fun v τ => Pr.has (Pr.own 2 3 1 (List.length (xs ++ [(((List.length xs) : Nat) : Int)])) (List.map Ty.int (xs ++ [(((List.length xs) : Nat) : Int)]))) τ v)) rfl rfl (by decide) ok9 (Yld.toM (y_assign q36)) (fun a11 s9 hs2 ok10 r2 sm2 => ?_)
    have F10 := F9.step hs2 (by decide)
    have q37 : At (Ty.nat n) s9 a11 (.tmp 0) := kpm hs2 (by decide) (sm2 0 (by decide)) q33
    have q38 : At (Ty.lst Ty.int l) s9 a11 (.tmp 1) := kpm hs2 (by decide) (sm2 1 (by decide)) q34
    have q39 : At (Ty.sl 1 1 [(Ty.nat (List.length xs))]) s9 a11 (.tmp 21) := kpm hs2 (by decide) (sm2 21 (by decide)) q35
    have q40 : (Pr.own 2 3 1 (List.length (xs ++ [(((List.length xs) : Nat) : Int)])) (List.map Ty.int (xs ++ [(((List.length xs) : Nat) : Int)]))).has s9 (a11.eval (.tmp 22)) := kpmo hs2 (by decide) (.inl rfl) (sm2 22 (by decide)) q36
    have q41 : (Pr.own 2 3 1 (List.length (xs ++ [(((List.length xs) : Nat) : Int)])) (List.map Ty.int (xs ++ [(((List.length xs) : Nat) : Int)]))).has s9 (a11.eval (.tmp 5)) := r2
    refine wpList_nil (bn ?_)
    exact tn ⟨n + 2 - ((xs ++ [((xs.length : Nat) : Int)])).length, by simp; omega, s9, (xs ++ [((xs.length : Nat) : Int)]), (f-1), rfl, F10, ok10, (cvo (by (simp)) (by (simp)) q41), q37, q38, by simp; omega, by simp; omega, by rw [List.length_append]; exact rowF_yes heq (by omega) hf c2, rfl⟩
   ·
    have c2 := of_decide_eq_false c2
    refine gI a8 s6 ok7 (gT (Ty.val (a8.eval (.tmp 5))) rfl (fun A B E G H => rP (y_move (H 5 rfl))) (gM q25 (gT (Ty.int ((((List.length xs) : Nat) : Int) + (1 : Int))) rfl (fun A B E G H d0 => rP (y_add (ed d0 rfl rfl rfl) rfl (w64 (by omega) (by omega)))) (gM q25 (gT (Ty.sl 1 2 [(Ty.int ((((List.length xs) : Nat) : Int) + (1 : Int))), (Ty.nat (List.length xs))]) rfl (fun A B E G H d0 d1 => rP (y_build2 Try.underlying29 Try.inf3 rfl (one_val rfl) (one_val rfl) (ed d0 rfl rfl rfl) (ed d1 rfl rfl rfl))) (gE2 ok7 fun a12 s10 ok11 D8 => ?_)))))); have q42 := (Pr.own 2 3 1 (List.length xs) (List.map Ty.int xs)).up D8.stp q22
    have q43 : a12.eval (.tmp 5) = a8.eval (.tmp 5) := D8.same 5 rfl
    have q47 := D8.dn 4 (by decide) rfl rfl
    refine tail_step (m := 2) (R := (fun v τ => Own τ 2 3 1 v ((List.length xs) + 2) ((List.map Ty.int xs) ++ [(Ty.int ((((List.length xs) : Nat) : Int) + (1 : Int))), (Ty.nat (List.length xs))]))) rfl rfl (by decide) ok11 (m_append Try.underlying29 Try.inf3 (by decide) rfl (by decide) (al (D8.dn 0 (by decide) rfl rfl) q42) q47 (by intro U hU; simp at hU;  rcases hU with rfl | rfl <;> exact one_val rfl) (by omega) (by omega)) (fun a13 s11 hs3 ok12 r3 sm3 => ?_)
    have F12 := (F7.step0 D8.stp).step hs3 (by decide)
    have q48 : At (Ty.nat n) s11 a13 (.tmp 0) := kpm hs3 (by decide) (sm3 0 (by decide)) (D8.kt q23 rfl)
    have q49 : At (Ty.lst Ty.int l) s11 a13 (.tmp 1) := kpm hs3 (by decide) (sm3 1 (by decide)) (D8.kt q24 rfl)
    have q50 : At (Ty.sl 1 2 [(Ty.int ((((List.length xs) : Nat) : Int) + (1 : Int))), (Ty.nat (List.length xs))]) s11 a13 (.tmp 27) := kpm hs3 (by decide) (sm3 27 (by decide)) q47
    have q51 : (Pr.own 2 3 1 (List.length (xs ++ [((((List.length xs) : Nat) : Int) + (1 : Int)), (((List.length xs) : Nat) : Int)])) (List.map Ty.int (xs ++ [((((List.length xs) : Nat) : Int) + (1 : Int)), (((List.length xs) : Nat) : Int)]))).has s11 (a13.eval (.tmp 28)) := (cvo (by simp) (by first | (rw [List.map_append]; rfl) | simp) r3)
    refine tail_step (m := 0) (R := (fun v τ => Pr.has (Pr.own 2 3 1 (List.length (xs ++ [((((List.length xs) : Nat) : Int) + (1 : Int)), (((List.length xs) : Nat) : Int)])) (List.map Ty.int (xs ++ [((((List.length xs) : Nat) : Int) + (1 : Int)), (((List.length xs) : Nat) : Int)]))) τ v)) rfl rfl (by decide) ok12 (Yld.toM (y_assign q51)) (fun a14 s12 hs4 ok13 r4 sm4 => ?_)
    have F13 := F12.step hs4 (by decide)
    have q52 : At (Ty.nat n) s12 a14 (.tmp 0) := kpm hs4 (by decide) (sm4 0 (by decide)) q48
    have q53 : At (Ty.lst Ty.int l) s12 a14 (.tmp 1) := kpm hs4 (by decide) (sm4 1 (by decide)) q49
    have q54 : At (Ty.sl 1 2 [(Ty.int ((((List.length xs) : Nat) : Int) + (1 : Int))), (Ty.nat (List.length xs))]) s12 a14 (.tmp 27) := kpm hs4 (by decide) (sm4 27 (by decide)) q50
    have q55 : (Pr.own 2 3 1 (List.length (xs ++ [((((List.length xs) : Nat) : Int) + (1 : Int)), (((List.length xs) : Nat) : Int)])) (List.map Ty.int (xs ++ [((((List.length xs) : Nat) : Int) + (1 : Int)), (((List.length xs) : Nat) : Int)]))).has s12 (a14.eval (.tmp 28)) := kpmo hs4 (by decide) (.inl rfl) (sm4 28 (by decide)) q51
    have q56 : (Pr.own 2 3 1 (List.length (xs ++ [((((List.length xs) : Nat) : Int) + (1 : Int)), (((List.length xs) : Nat) : Int)])) (List.map Ty.int (xs ++ [((((List.length xs) : Nat) : Int) + (1 : Int)), (((List.length xs) : Nat) : Int)]))).has s12 (a14.eval (.tmp 5)) := r4
    refine wpList_nil (bn ?_)
    exact tn ⟨n + 2 - ((xs ++ [((xs.length : Nat) : Int) + 1, ((xs.length : Nat) : Int)])).length, by simp; omega, s12, (xs ++ [((xs.length : Nat) : Int) + 1, ((xs.length : Nat) : Int)]), (f-1), rfl, F13, ok13, (cvo (by (simp)) (by (simp)) q56), q52, q53, by simp; omega, by simp; omega, by rw [List.length_append]; exact rowF_no heq (by omega) hf c2, rfl⟩
  ·
   refine wp_exit (tx (tx (bx (tn (wp_seq ?_)))))
   refine gI a5 s3 ok4 (gT (Ty.val (a5.eval (.tmp 5))) rfl (fun A B E G H => rP (y_move (H 5 rfl))) (gB 0 (gE ok4 fun a15 s13 ok14 D9 => ?_)))
   have q57 : (Pr.own 2 3 1 (List.length xs) (List.map Ty.int xs)).has s13 (a15.eval (.tmp 4)) := al (show _ = _ from D9.done 1) ((Pr.own 2 3 1 (List.length xs) (List.map Ty.int xs)).up D9.stp q9)
   refine tn (wp_ret ?_)
   obtain ⟨t3, e1, h1, q58⟩ := Own.seal q57 (by decide)
   rw [← e1]
   have F15 := (F4.step0 D9.stp).step h1 (by decide)
   exact ret1 rfl ok14 F15 (cvt (by (rw [rowF_end (by omega), List.append_nil] at heq; rw [heq])) q58)

theorem rChangeRowI_fn (n : Int) (l : List Int) (σ : GW) (v0 v1 : Value) (hv0 : Ty.has (Ty.int n) σ v0) (hv1 : Ty.has (Ty.lst Ty.int l) σ v1) (hn : 1 ≤ n ∧ n ≤ 12) : FnC Try.prog 14 #[v0, v1] σ (Ty.lst Ty.int (chgRow n.toNat l)) := by
  obtain ⟨m, rfl⟩ : ∃ m : Nat, n = m := ⟨n.toNat, by omega⟩
  exact rChangeRow_fn m l σ v0 v1 hv0 hv1 (by omega)


set_option maxRecDepth 100000 in
theorem rsame_fn (xs : List Int) (ys : List Int) (σ : GW) (v0 v1 : Value) (hv0 : Ty.has (Ty.lst Ty.int xs) σ v0) (hv1 : Ty.has (Ty.lst Ty.int ys) σ v1)  :
    FnC Try.prog 13 #[v0, v1] σ (Ty.bool (decide (xs = ys))) := by
 refine fn_intro Try.func13 rfl Try.ntmps13 (Nat.le_of_ble_eq_true rfl) (fun s0 a0 hle F0 ok0 hargs => ?_)
 have p0 := pA hle (hargs 0 _ rfl) hv0
 have b1 := sl_le p0
 have p1 := pA hle (hargs 1 _ rfl) hv1
 have b2 := sl_le p1
 clear hargs; refine wp_seq ?_
 refine gI a0 s0 ok0 (gC (Ty.bool false) (gE ok0 fun a1 s1 ok1 D1 => ?_)); have q1 := D1.kt p0 rfl; have q2 := D1.kt p1 rfl; refine tn (wp_seq (wp_seq ?_))
 refine gI a1 s1 ok1 (gM q1 (gS rfl (fun A B E G H d0 => rP (y_len Try.underlying29 (ed d0 rfl rfl rfl))) (gM q2 (gS rfl (fun A B E G H d0 => rP (y_len Try.underlying29 (ed d0 rfl rfl rfl))) (gS rfl (fun A B E G H d0 d1 => rP (y_neq (ed d0 rfl rfl rfl) (ed d1 rfl rfl rfl))) (gE ok1 fun a2 s2 ok2 D2 => ?_)))))); have F2 := (F0.step0 D1.stp).step0 D2.stp; refine tn ?_
 refine cond_p (p := ((((List.length xs) : Nat) : Int) ≠ (((List.length ys) : Nat) : Int))) (D2.dn 4 rfl rfl) (fun c1 => ?_) (fun c1 => ?_)
 ·
  refine wp_seq ?_
  refine gI a2 s2 ok2 (gC (Ty.bool false) (gE ok2 fun a3 s3 ok3 D3 => ?_)); refine tn (wp_ret (tr ?_))
  exact ret1 rfl ok3 (F2.step0 D3.stp) (cvb (by (rw [decide_eq_false]; intro e; subst e; omega)) (D3.dn 0 rfl rfl))
 ·
  refine wp_skip (tn (wp_seq (wp_seq ?_)))
  refine gI a2 s2 ok2 (gC (Ty.int (0 : Int)) (gE ok2 fun a4 s4 ok4 D4 => ?_)); refine tn (wp_block ?_)
  refine loop (fun n1 a5 w1 => ∃ (t1 : GW) (k : Nat), t1.w = w1 ∧ From s0 t1 ∧ Ok 26 [] a5 ∧ At (Ty.nat k) t1 a5 (.tmp 5) ∧ At (Ty.lst Ty.int xs) t1 a5 (.tmp 0) ∧ At (Ty.lst Ty.int ys) t1 a5 (.tmp 1) ∧ (k ≤ xs.length) ∧ (xs.length = ys.length) ∧ (∀ j, j < k → xs.getD j 0 = ys.getD j 0) ∧ n1 = xs.length - k) (xs.length - (0)) ?_ ?_
  ·
   exact ⟨s4, 0, rfl, (F2.step0 D4.stp), ok4, (cvi (by (first | rfl | omega | (simp_all; done) | (simp_all; omega))) (D4.dn 0 rfl rfl)), (D4.kt (D2.kt q1 rfl) rfl), (D4.kt (D2.kt q2 rfl) rfl), by omega, by omega, fun j hj => absurd hj (Nat.not_lt_zero j), rfl⟩
  ·
   rintro n2 a6 w2 ⟨t2, k, rfl, F5, ok5, q10, q11, q12, hk, hl, heq, rfl⟩
   refine wp_seq (wp_seq ?_)
   refine gI a6 t2 ok5 (gM q10 (gM q11 (gS rfl (fun A B E G H d0 => rP (y_len Try.underlying29 (ed d0 rfl rfl rfl))) (gS rfl (fun A B E G H d0 d1 => rP (y_lss (ed d0 rfl rfl rfl) (ed d1 rfl rfl rfl))) (gE ok5 fun a7 s5 ok6 D5 => ?_))))); have F6 := F5.step0 D5.stp; have q13 := D5.kt q10 rfl; have q14 := D5.kt q11 rfl; have q15 := D5.kt q12 rfl; refine tn ?_
   refine cond_p (p := (((k : Nat) : Int) < (((List.length xs) : Nat) : Int))) (D5.dn 3 rfl rfl) (fun c2 => ?_) (fun c2 => ?_)
   ·
    refine wp_skip (tn (wp_seq (wp_block (wp_seq ?_))))
    refine gI a7 s5 ok6 (gM q14 (gM q13 (gT (Ty.ref [(Ty.int (xs.getD k 0))]) rfl (fun A B E G H d0 d1 => rP (y_index1 Try.underlying29 Try.inf3 (ed d0 rfl rfl rfl) (ed d1 rfl rfl rfl) (by omega) (lst_get Ty.int xs 0 k (by omega)))) (gS rfl (fun A B E G H d0 => rP (y_load Try.underlying3 rfl (ed d0 rfl rfl rfl) rfl)) (gM q15 (gM q13 (gT (Ty.ref [(Ty.int (ys.getD k 0))]) rfl (fun A B E G H d0 d1 => rP (y_index1 Try.underlying29 Try.inf3 (ed d0 rfl rfl rfl) (ed d1 rfl rfl rfl) (by omega) (lst_get Ty.int ys 0 k (by omega)))) (gS rfl (fun A B E G H d0 => rP (y_load Try.underlying3 rfl (ed d0 rfl rfl rfl) rfl)) (gS rfl (fun A B E G H d0 d1 => rP (y_neq (ed d0 rfl rfl rfl) (ed d1 rfl rfl rfl))) (gE ok6 fun a8 s6 ok7 D6 => ?_)))))))))); have F7 := F6.step0 D6.stp; refine tn ?_
    refine cond_p (p := ((xs.getD k 0) ≠ (ys.getD k 0))) (D6.dn 8 rfl rfl) (fun c3 => ?_) (fun c3 => ?_)
    ·
     refine wp_seq ?_
     refine gI a8 s6 ok7 (gC (Ty.bool false) (gE ok7 fun a9 s7 ok8 D7 => ?_)); refine tn (wp_ret (br (tr (tr (br (tr ?_))))))
     exact ret1 rfl ok8 (F7.step0 D7.stp) (cvb (by (exact (decide_eq_false (fun e => by subst e; simp_all)).symm)) (D7.dn 0 rfl rfl))
    ·
     refine wp_skip (bn (tn ?_))
     refine gI a8 s6 ok7 (gM (D6.kt q13 rfl) (gT (Ty.int (((k : Nat) : Int) + (1 : Int))) rfl (fun A B E G H d0 => rP (y_add (ed d0 rfl rfl rfl) rfl (w64 (by omega) (by omega)))) (gB 0 (gE ok7 fun a10 s8 ok9 D8 => ?_))))
     exact tn ⟨xs.length - ((k+1)), by omega, s8, (k+1), rfl, (F7.step0 D8.stp), ok9, (cvi (by (first | rfl | omega | (simp_all; done) | (simp_all; omega))) (D8.dn 2 rfl rfl)), (D8.kt (D6.kt q14 rfl) rfl), (D8.kt (D6.kt q15 rfl) rfl), by omega, by omega, all_snoc heq (by assumption), rfl⟩
   ·
    refine wp_exit (tx (tx (bx (tn (wp_seq ?_)))))
    refine gI a7 s5 ok6 (gC (Ty.bool true) (gE ok6 fun a11 s9 ok10 D9 => ?_)); refine tn (wp_ret ?_)
    exact ret1 rfl ok10 (F6.step0 D9.stp) (cvb (by (exact (decide_eq_true (list_ext (by omega) (fun j hj => heq j (by omega)))).symm)) (D9.dn 0 rfl rfl))

theorem Try.inf78 : Info Try.prog 78 (.pointer none) 1 8 := by unfold Info; kernel_rfl
theorem Try.inf80 : Info Try.prog 80 (.agg #[.pointer none, .slice none 0 0]) 2 32 := by unfold Info; kernel_rfl
theorem Try.fld80_0 : fieldOf Try.prog 80 0 = some (78, 0) := by kernel_rfl
set_option maxHeartbeats 4000000 in
set_option maxRecDepth 100000 in
theorem copyCheck_fn (b buf : Value) (nb : Bool) (σ : GW) (hlow : Low [40] σ) (v0 : Value) (hv0 : Ty.has (Ty.val b) σ v0) (ho_b : OwnPT 80 σ 40 b [(Ty.val (bAddr nb b)), (Ty.val buf)])  :
    FnL Try.prog 64 #[v0] σ [40] (fun v τ => True ∧ (OwnPT 80 τ 40 b [(Ty.val (bAddr false b)), (Ty.val buf)])) := by
 refine fn_introL hlow Try.func64 rfl Try.ntmps64 (Nat.le_of_ble_eq_true rfl) (fun a0 F0 ok0 hargs => ?_)
 have p0 := pB (hargs 0 _ rfl) hv0
 clear hargs; refine wp_seq ?_
 refine gI a0 σ ok0 (gM p0 (gT (Ty.val b) rfl (fun A B E G H d0 => rP (y_nilp (OwnPT.toP (OwnPT.k0 ho_b E)) (ed d0 rfl rfl rfl))) (gT (Ty.val (ptrAt b 0)) rfl (fun A B E G H d0 => rP (ownp_field Try.fld80_0 Try.inf78 (by decide) (OwnPT.toP (OwnPT.k0 ho_b E)) (ed d0 rfl rfl rfl))) (gS rfl (fun A B E G H d0 => rP (ownp_load Try.underlying78 rfl (OwnPT.toP (OwnPT.k0 ho_b E)) (ed d0 rfl rfl rfl) rfl)) (gT (Ty.bool nb) rfl (fun A B E G H d0 => rP (y_bnil Try.underlying78 Try.inf80 (OwnPT.k0 ho_b E) (ed d0 rfl rfl rfl) rfl)) (gE ok0 fun a1 s1 ok1 D1 => ?_)))))); have F1 := F0.step0 D1.stp; have q1 := D1.kt p0 rfl; have o1 := OwnPT.k0 ho_b D1.stp; refine tn ?_
 refine cond_t (D1.dn 4 rfl rfl) (fun c1 => ?_) (fun c1 => ?_)
 ·
  refine gI a1 s1 ok1 (gM q1 (gM q1 (gT (Ty.val b) rfl (fun A B E G H d0 => rP (y_tounsafe Try.underlying78 Try.underlying125 Try.inf80 (by decide) (OwnPT.k0 o1 E) (Nat.le_of_ble_eq_true rfl) (ed d0 rfl rfl rfl))) (gT (Ty.val b) rfl (fun A B E G H d0 => rP (y_extern (R := (Ty.val b)) #[b] (by simp only [List.map_toArray, List.map_cons, List.map_nil, (show A.eval (.tmp 9) = _ from (ed d0 rfl rfl rfl))]) (by rw [run_callFunc_extern Try.func84 (by kernel_rfl) (by kernel_rfl) (by kernel_rfl) (e := Extern.AbiNoEscape.same) (by kernel_rfl), Lib.run_noEscape]; rfl) rfl)) (gT (Ty.val b) rfl (fun A B E G H d0 => rP (y_fromunsafe Try.underlying125 Try.underlying78 Try.inf80 (OwnPT.k0 o1 E) (ed d0 rfl rfl rfl) (by kernel_rfl))) (gT (Ty.val b) rfl (fun A B E G H d0 d1 d2 d3 d4 d5 => rP (y_nilp (OwnPT.toP (OwnPT.k0 o1 E)) (ed d0 rfl rfl rfl))) (gT (Ty.val (ptrAt b 0)) rfl (fun A B E G H d0 d1 d2 d3 d4 d5 => rP (ownp_field Try.fld80_0 Try.inf78 (by decide) (OwnPT.toP (OwnPT.k0 o1 E)) (ed d0 rfl rfl rfl))) (gE2 ok1 fun a2 s2 ok2 D2 => ?_)))))))); have o2 := OwnPT.k0 o1 D2.stp
  refine tailL0 (L := [40]) (R := (fun _ τ => OwnPT 80 τ 40 b ([(Ty.val (bAddr nb b)), (Ty.val buf)].set 0 (Ty.val b)))) rfl rfl (YldM.toL (m_storept Try.inf78 (by decide) o2 (D2.dn 6 (by decide) rfl rfl) (Nat.le_of_ble_eq_true rfl) (D2.dn 4 (by decide) rfl rfl) (one_val (OwnPT.one o2)))) (fun v1 s3 hs1 r1 => ?_)
  have F3 := (F1.step0 D2.stp).stepL hs1 (by decide)
  have o3 : OwnPT 80 s3 40 b [(Ty.val b), (Ty.val buf)] := r1
  clear r1; refine wpList_nil ?_
  exact nL0 rfl ok2 F3 ⟨trivial, (ownpt_cell 0 (Ty.val (bAddr false b)) o3 rfl (fun _ _ h => (cvt (by (first | rfl | omega | (simp_all; done) | (simp_all; omega))) h)))⟩
 ·
  refine wp_seq ?_
  refine gI a1 s1 ok1 (gM q1 (gT (Ty.val b) rfl (fun A B E G H d0 => rP (y_nilp (OwnPT.toP (OwnPT.k0 o1 E)) (ed d0 rfl rfl rfl))) (gT (Ty.val (ptrAt b 0)) rfl (fun A B E G H d0 => rP (ownp_field Try.fld80_0 Try.inf78 (by decide) (OwnPT.toP (OwnPT.k0 o1 E)) (ed d0 rfl rfl rfl))) (gS rfl (fun A B E G H d0 => rP (ownp_load Try.underlying78 rfl (OwnPT.toP (OwnPT.k0 o1 E)) (ed d0 rfl rfl rfl) rfl)) (gM q1 (gT (Ty.bool false) rfl (fun A B E G H d0 d1 => rP (y_bself Try.underlying78 Try.inf80 (OwnPT.k0 o1 E) (bAddr_f (by assumption) (ed d0 rfl rfl rfl)) (ed d1 rfl rfl rfl))) (gE ok1 fun a3 s4 ok3 D3 => ?_))))))); have o4 := OwnPT.k0 o1 D3.stp; refine tn ?_
  refine cond_t (D3.dn 5 rfl rfl) (fun c2 => (by cases c2)) (fun _ => ?_)
  refine wp_skip ?_
  exact nL0 rfl ok3 (F1.step0 D3.stp) ⟨trivial, (ownpt_cell 0 (Ty.val (bAddr false b)) o4 rfl (fun _ _ h => (cvt (by (rw [c1])) h)))⟩

theorem Try.inf5 : Info Try.prog 5 (.int .u8 0) 1 1 := by unfold Info; kernel_rfl
theorem Try.inf51 : Info Try.prog 51 (.slice none 0 0) 1 24 := by unfold Info; kernel_rfl
theorem Try.fld80_1 : fieldOf Try.prog 80 1 = some (51, 1) := by kernel_rfl
set_option maxHeartbeats 4000000 in
set_option maxRecDepth 100000 in
theorem writeByte_fn (b buf : Value) (nb : Bool) (l : List UInt8) (c : UInt8) (σ : GW) (hlow : Low [40, 41] σ) (v0 v1 : Value) (hv0 : Ty.has (Ty.val b) σ v0) (hv1 : Ty.has (Ty.byte c) σ v1) (ho_b : OwnPT 80 σ 40 b [(Ty.val (bAddr nb b)), (Ty.val buf)]) (ho_buf : Own σ 41 5 1 buf (List.length l) (List.map Ty.byte l)) (hl : l.length ≤ 1000000000) :
    FnL Try.prog 59 #[v0, v1] σ [40, 41] (fun v τ => ∃ (bz : Value), (Ty.has (Ty.val Value.nilIface) τ v) ∧ (OwnPT 80 τ 40 b [(Ty.val (bAddr false b)), (Ty.val bz)]) ∧ (Own τ 41 5 1 bz (List.length (l ++ [c])) (List.map Ty.byte (l ++ [c])))) := by
 refine fn_introL hlow Try.func59 rfl Try.ntmps59 (Nat.le_of_ble_eq_true rfl) (fun a0 F0 ok0 hargs => ?_)
 have p0 := pB (hargs 0 _ rfl) hv0
 have p1 := pB (hargs 1 _ rfl) hv1
 clear hargs; refine wp_seq ?_
 refine gI a0 σ ok0 (gC (Ty.val Value.nilIface) (gE ok0 fun a1 s1 ok1 D1 => ?_)); have q1 := D1.kt p0 rfl; have o1 := OwnPT.k0 ho_b D1.stp; have o2 := Own.k0 ho_buf D1.stp; refine tn (wp_seq ?_)
 refine gI a1 s1 ok1 (gM q1 (gE2 ok1 fun a2 s2 ok2 D2 => ?_)); have o3 := OwnPT.k0 o1 D2.stp; have o4 := Own.k0 o2 D2.stp
 refine tL ok2 (y_callL (L := [40]) [(40, 40)] [(40, 40)] #[a2.eval (.tmp 5)] rfl (by decide) Try.func64 rfl rfl my1 (copyCheck_fn (b) (buf) (nb) _ (GW.low_lend _ (by decide)) _ (Ty.up _ (GW.le_lend _ _) (D2.dn 0 (by decide) rfl rfl)) (OwnPT.ren o3 (GW.ren_lend _ _ (by decide) rfl)) )) fun a3 s3 hs1 ok3 r1 sm1 => ?_
 have F3 := ((F0.step0 D1.stp).step0 D2.stp).stepL hs1 (by decide); have q6 := kpL hs1 (by decide) (sm1 0 (by decide)) (D2.kt q1 rfl); have q7 := kpL hs1 (by decide) (sm1 1 (by decide)) (D2.kt (D1.kt p1 rfl) rfl); have o7 := Own.keepL o4 hs1 (by decide) (by decide)
 obtain ⟨t1, ⟨hT1, o5⟩, B1⟩ := r1
 have o6 : OwnPT 80 s3 40 b [(Ty.val (bAddr false b)), (Ty.val buf)] := OwnPT.ren o5 (B1.ren (by decide) rfl)
 refine wpList_nil (tn (wp_seq ?_))
 refine gI a3 s3 ok3 (gM q6 (gM q6 (gT (Ty.val b) rfl (fun A B E G H d0 => rP (y_nilp (OwnPT.toP (OwnPT.k0 o6 E)) (ed d0 rfl rfl rfl))) (gT (Ty.val (ptrAt b 1)) rfl (fun A B E G H d0 => rP (ownp_field Try.fld80_1 Try.inf51 (by decide) (OwnPT.toP (OwnPT.k0 o6 E)) (ed d0 rfl rfl rfl))) (gS rfl (fun A B E G H d0 => rP (ownp_load Try.underlying51 rfl (OwnPT.toP (OwnPT.k0 o6 E)) (ed d0 rfl rfl rfl) rfl)) (gM q7 (gT (Ty.sl 1 1 [(Ty.byte c)]) rfl (fun A B E G H d0 => rP (y_build1o Try.underlying51 Try.inf5 rfl (one_val rfl) (ed d0 rfl rfl rfl))) (gE2 ok3 fun a4 s4 ok4 D3 => ?_)))))))); have o8 := Own.k0 o7 D3.stp; have o9 := OwnPT.k0 o6 D3.stp; have q11 := D3.dn 6 (by decide) rfl rfl
 have b1 := sl_le q11
 refine tL ok4 (YldM.toL (m_append Try.underlying51 Try.inf5 (by decide) rfl (by decide) (al (R := (Pr.own 41 5 1 (List.length l) (List.map Ty.byte l))) (D3.dn 4 (by decide) rfl rfl) o8) q11 (by intro U hU; simp at hU; subst hU; exact one_val rfl) (by omega) (by omega))) fun a5 s5 hs2 ok5 r2 sm2 => ?_
 have F5 := (F3.step0 D3.stp).stepL hs2 (by decide); have q12 := kpL hs2 (by decide) (sm2 7 (by decide)) (D3.dn 0 (by decide) rfl rfl); have o11 := OwnPT.keepL o9 hs2 (by decide) (by decide)
 obtain ⟨x1, hx1⟩ : ∃ x, a5.eval (.tmp 14) = x := ⟨_, rfl⟩
 have q13 : At (Ty.val x1) s5 a5 (.tmp 14) := hx1
 have o10 := al2 (R := (Pr.own 41 5 1 (List.length (l ++ [c])) (List.map Ty.byte (l ++ [c])))) hx1 (cvo (by simp) (by first | (rw [List.map_append]; rfl) | simp) r2)
 clear r2
 refine tL (R := (fun v τ => Pr.has (Ty.pr (Ty.val b)) τ v)) ok5 (Yld.toL (y_nilp (OwnPT.toP o11) q12)) fun a6 s6 hs3 ok6 r3 sm3 => ?_
 have F6 := F5.stepL hs3 (by decide); have q14 := kpL hs3 (by decide) (sm3 14 (by decide)) q13; have o12 := OwnPT.keepL o11 hs3 (by decide) (by decide); have o13 := Own.keepL o10 hs3 (by decide) (by decide)
 have q15 : At (Ty.val b) s6 a6 (.tmp 15) := r3
 clear r3
 refine tL (R := (fun v τ => Pr.has (Ty.pr (Ty.val (ptrAt b 1))) τ v)) ok6 (Yld.toL (ownp_field Try.fld80_1 Try.inf51 (by decide) (OwnPT.toP o12) q15)) fun a7 s7 hs4 ok7 r4 sm4 => ?_
 have F7 := F6.stepL hs4 (by decide); have q16 := kpL hs4 (by decide) (sm4 14 (by decide)) q14; have o14 := OwnPT.keepL o12 hs4 (by decide) (by decide); have o15 := Own.keepL o13 hs4 (by decide) (by decide)
 have q17 : At (Ty.val (ptrAt b 1)) s7 a7 (.tmp 16) := r4
 clear r4
 refine tailL0 (L := [40]) (R := (fun _ τ => OwnPT 80 τ 40 b ([(Ty.val (bAddr false b)), (Ty.val buf)].set 1 (Ty.val x1)))) rfl rfl (YldM.toL (m_storept Try.inf51 (by decide) o14 q17 (Nat.le_of_ble_eq_true rfl) q16 (one_val (Own.one o15)))) (fun v1 s8 hs5 r5 => ?_)
 have F8 := F7.stepL hs5 (by decide); have o17 := Own.keepL o15 hs5 (by decide) (by decide)
 have o16 : OwnPT 80 s8 40 b [(Ty.val (bAddr false b)), (Ty.val x1)] := r5
 clear r5; refine wpList_nil (tn (wp_seq ?_))
 refine gI a7 s8 ok7 (gC (Ty.val Value.nilIface) (gE ok7 fun a8 s9 ok8 D4 => ?_)); have o18 := Own.k0 o17 D4.stp; have o19 := OwnPT.k0 o16 D4.stp; refine tn (wp_ret ?_)
 exact retL1 rfl ok8 (F8.step0 D4.stp) ⟨x1, (D4.dn 0 rfl rfl), o19, o18⟩


set_option maxHeartbeats 4000000 in
set_option maxRecDepth 100000 in
theorem bString_fn (b buf : Value) (nb : Bool) (l : List UInt8) (σ : GW) (hlow : Low [40, 41] σ) (v0 : Value) (hv0 : Ty.has (Ty.val b) σ v0) (ho_b : OwnPT 80 σ 40 b [(Ty.val (bAddr nb b)), (Ty.val buf)]) (ho_buf : Own σ 41 5 1 buf (List.length l) (List.map Ty.byte l))  :
    FnL Try.prog 46 #[v0] σ [40, 41] (fun v τ => (Ty.has (Ty.val (Value.string (bsL l))) τ v)) := by
 refine fn_introL hlow Try.func46 rfl Try.ntmps46 (Nat.le_of_ble_eq_true rfl) (fun a0 F0 ok0 hargs => ?_)
 have p0 := pB (hargs 0 _ rfl) hv0
 clear hargs; refine wp_seq ?_
 refine gI a0 σ ok0 (gC (Ty.val (Value.string (ByteArray.mk #[]))) (gE ok0 fun a1 s1 ok1 D1 => ?_)); have q1 := D1.kt p0 rfl; have o1 := OwnPT.k0 ho_b D1.stp; have o2 := Own.k0 ho_buf D1.stp; refine tn (wp_seq ?_)
 refine gI a1 s1 ok1 (gM q1 (gT (Ty.val b) rfl (fun A B E G H d0 => rP (y_nilp (OwnPT.toP (OwnPT.k0 o1 E)) (ed d0 rfl rfl rfl))) (gT (Ty.val (ptrAt b 1)) rfl (fun A B E G H d0 => rP (ownp_field Try.fld80_1 Try.inf51 (by decide) (OwnPT.toP (OwnPT.k0 o1 E)) (ed d0 rfl rfl rfl))) (gS rfl (fun A B E G H d0 => rP (ownp_load Try.underlying51 rfl (OwnPT.toP (OwnPT.k0 o1 E)) (ed d0 rfl rfl rfl) rfl)) (gT (Ty.dptr buf (List.length l)) rfl (fun A B E G H d0 => rP (y_sdata Try.underlying105 (Own.k0 o2 E) (ed d0 rfl rfl rfl))) (gM q1 (gT (Ty.val b) rfl (fun A B E G H d0 => rP (y_nilp (OwnPT.toP (OwnPT.k0 o1 E)) (ed d0 rfl rfl rfl))) (gT (Ty.val (ptrAt b 1)) rfl (fun A B E G H d0 => rP (ownp_field Try.fld80_1 Try.inf51 (by decide) (OwnPT.toP (OwnPT.k0 o1 E)) (ed d0 rfl rfl rfl))) (gS rfl (fun A B E G H d0 => rP (ownp_load Try.underlying51 rfl (OwnPT.toP (OwnPT.k0 o1 E)) (ed d0 rfl rfl rfl) rfl)) (gT (Ty.nat (List.length l)) rfl (fun A B E G H d0 => rP (own_len Try.underlying51 (al (R := (Pr.own 41 5 1 (List.length l) (List.map Ty.byte l))) (ed d0 rfl rfl rfl) (Own.k0 o2 E)))) (gE2 ok1 fun a2 s2 ok2 D2 => ?_))))))))))); have o3 := OwnPT.k0 o1 D2.stp; have o4 := Own.k0 o2 D2.stp
 refine tL (R := (fun v τ => (Ty.val (Value.string (bsL l))).has τ v)) ok2 (YldM.toL (m_sstr (by decide) Try.underlying105 (by kernel_rfl) o4 (D2.dn 4 (by decide) rfl rfl) (D2.dn 9 (by decide) rfl rfl))) fun a3 s3 hs1 ok3 r1 sm1 => ?_
 have F3 := ((F0.step0 D1.stp).step0 D2.stp).stepL hs1 (by decide); have o5 := OwnPT.keepL o3 hs1 (by decide) (by decide)
 have q4 : At (Ty.val (Value.string (bsL l))) s3 a3 (.tmp 13) := r1
 clear r1
 refine tL ok3 (Yld.toL (y_as q4)) fun a4 s4 hs2 ok4 r2 sm2 => ?_
 have F4 := F3.stepL hs2 (by decide); have o6 := OwnPT.keepL o5 hs2 (by decide) (by decide)
 have q5 : At (Ty.val (Value.string (bsL l))) s4 a4 (.tmp 2) := r2
 clear r2; refine wpList_nil (tn (wp_ret ?_))
 exact retL1 rfl ok4 F4 q5


set_option maxHeartbeats 4000000 in
set_option maxRecDepth 100000 in
theorem signs1_fn (r : List Int) (σ : GW)  (v0 : Value) (hv0 : Ty.has (Ty.lst Ty.int r) σ v0)  (hr : ∀ i, i < r.length → 0 ≤ r.getD i 0 ∧ r.getD i 0 < 12) (hl : r.length ≤ 1000000) :
    FnC Try.prog 60 #[v0] σ (Ty.val (Value.string (bsL (signsB r)))) := by
 have hsz := signs_size
 refine fn_intro0 Try.func60 rfl Try.ntmps60 (Nat.le_of_ble_eq_true rfl) (fun s0 a0 hle F0 ok0 hargs => ?_)
 have p0 := pA hle (hargs 0 _ rfl) hv0
 have b1 := sl_le p0
 clear hargs; refine wp_seq ?_
 refine gI a0 s0 ok0 (gC (Ty.val (Value.string (ByteArray.mk #[]))) (gE ok0 fun a1 s1 ok1 D1 => ?_)); refine tn (wp_seq ?_)
 refine gI a1 s1 ok1 (gR (Pr.ownpt 80 5 [(Ty.val (Value.pointer none)), (Ty.val (Value.slice none 0 0))]) rfl (by intro A B E G H; exact rP (y_alloct Try.inf80 rfl (alloc_vals (vs := [.pointer none, .slice none 0 0]) rfl))) (gE ok1 fun a2 s2 ok2 D2 => ?_))
 obtain ⟨x1, hx1⟩ : ∃ x, a2.eval (.tmp 3) = x := ⟨_, rfl⟩
 have q3 : At (Ty.val x1) s2 a2 (.tmp 3) := hx1
 have o1 := al2 (R := (Pr.ownpt 80 5 [(Ty.val (Value.pointer none)), (Ty.val (Value.slice none 0 0))])) hx1 (D2.done 0)
 refine tn (wp_seq (wp_seq ?_))
 refine gI a2 s2 ok2 (gM (D2.kt (D1.kt p0 rfl) rfl) (gS rfl (fun A B E G H d0 => rP (y_len Try.underlying29 (ed d0 rfl rfl rfl))) (gT (Ty.int (0 : Int)) rfl (fun A B E G H => rP (y_move rfl)) (gE ok2 fun a3 s3 ok3 D3 => ?_)))); have o2 := OwnPT.k0 o1 D3.stp; refine tn (wp_block ?_)
 have o3 : Own s3 6 5 1 (Value.slice none 0 0) 0 (List.map Ty.byte ([] : List UInt8)) := Own.nil _ _ _ _
 refine loop (fun n1 a4 w1 => ∃ (t1 : GW) (k : Nat) (nz : Bool) (bf : Value), t1.w = w1 ∧ FromL [] s0 t1 ∧ Ok 17 [] a4 ∧ At (Ty.nat k) t1 a4 (.tmp 8) ∧ At (Ty.val x1) t1 a4 (.tmp 3) ∧ At (Ty.lst Ty.int r) t1 a4 (.tmp 6) ∧ At (Ty.nat (List.length r)) t1 a4 (.tmp 7) ∧ OwnPT 80 t1 5 x1 [(Ty.val (bAddr nz x1)), (Ty.val bf)] ∧ Own t1 6 5 1 bf (List.length (signsB (r.take k))) (List.map Ty.byte (signsB (r.take k))) ∧ (k ≤ r.length) ∧ n1 = r.length - k) (r.length - (0)) ?_ ?_
 ·
  exact ⟨s3, 0, true, (Value.slice none 0 0), rfl, (((F0.step0 D1.stp).step0 D2.stp).step0 D3.stp), ok3, (cvi (by (first | rfl | omega | (simp_all; done) | (simp_all; omega))) (D3.dn 2 rfl rfl)), (D3.kt q3 rfl), (D3.dn 0 rfl rfl), (D3.dn 1 rfl rfl), (ownpt_cell 0 (Ty.val (bAddr (true) x1)) o2 rfl (fun _ _ h => (cvt (by (first | rfl | omega | (simp_all; done) | (simp_all; omega))) h))), (cvo (by (simp [signsB])) (by (simp [signsB])) o3), by omega, rfl⟩
 ·
  rintro n2 a5 w2 ⟨t2, k, nz, bf, rfl, F4, ok4, q8, q9, q10, q11, o4, o5, hk, rfl⟩
  have hsl := signsB_len (r.take k)
  have htl := List.length_take_le k r
  refine wp_seq ?_
  refine gI a5 t2 ok4 (gS rfl (fun A B E G H => rP (y_lss (kp (H 8 rfl) E q8) (kp (H 7 rfl) E q11))) (gE ok4 fun a6 s4 ok5 D4 => ?_)); have F5 := F4.step0 D4.stp; have q12 := D4.kt q8 rfl; have q13 := D4.kt q9 rfl; have q14 := D4.kt q10 rfl; have o6 := OwnPT.k0 o4 D4.stp; have o7 := Own.k0 o5 D4.stp; refine tn (wp_seq ?_)
  refine cond_p (p := (((k : Nat) : Int) < (((List.length r) : Nat) : Int))) (D4.dn 0 rfl rfl) (fun c1 => ?_) (fun c1 => ?_)
  ·
   have hrk := hr k (by omega)
   refine wp_skip (tn (wp_seq (wp_block (wp_seq ?_))))
   refine gI a6 s4 ok5 (gT (Ty.ref [(Ty.int (r.getD k 0))]) rfl (fun A B E G H => rP (y_index1 Try.underlying29 Try.inf3 (kp (H 6 rfl) E q14) (kp (H 8 rfl) E q12) (by omega) (lst_get Ty.int r 0 k (by omega)))) (gS rfl (fun A B E G H d0 => rP (y_load Try.underlying3 rfl (ed d0 rfl rfl rfl) rfl)) (gB 0 (gE ok5 fun a7 s5 ok6 D5 => ?_)))); have o8 := OwnPT.k0 o6 D5.stp; have o9 := Own.k0 o7 D5.stp; refine tn ?_
   refine gI a7 s5 ok6 (gM (D5.dn 2 rfl rfl) (gT (Ty.val (Value.int .u8 (((SIGNS.get! ((r.getD k 0)).toNat).toNat : Nat) : Int))) rfl (fun A B E G H d0 => rP (y_sindex Try.underlying9 rfl (ed d0 rfl rfl rfl) (by omega) (by omega))) (gE2 ok6 fun a8 s6 ok7 D6 => ?_))); have q23 := D6.kt (D5.kt q13 rfl) rfl; have o10 := OwnPT.k0 o8 D6.stp; have o11 := Own.k0 o9 D6.stp
   refine tL ok7 (y_callL (L := [40, 41]) [(5, 40), (6, 41)] [(40, 5), (41, 6)] #[a8.eval (.tmp 3), a8.eval (.tmp 13)] rfl (by decide) Try.func59 rfl rfl my2 (writeByte_fn (x1) (bf) (nz) ((signsB (r.take k))) ((SIGNS.get! ((r.getD k 0)).toNat)) _ (GW.low_lend _ (by decide)) _ _ (Ty.up _ (GW.le_lend _ _) q23) (Ty.up _ (GW.le_lend _ _) (D6.dn 1 (by decide) rfl rfl)) (OwnPT.ren (ownpt_cell 0 (Ty.val (bAddr (nz) (x1))) o10 rfl (fun _ _ h => (cvt (by (first | rfl | omega | (simp_all; done) | (simp_all; omega))) h))) (GW.ren_lend _ _ (by decide) rfl)) (Own.ren (cvo (by (simp)) (by (simp)) o11) (GW.ren_lend _ _ (by decide) rfl)) (by omega))) fun a9 s7 hs1 ok8 r1 sm1 => ?_
   have F8 := ((F5.step0 D5.stp).step0 D6.stp).stepL hs1 (by decide); have q27 := kpL hs1 (by decide) (sm1 8 (by decide)) (D6.kt (D5.kt q12 rfl) rfl); have q28 := kpL hs1 (by decide) (sm1 3 (by decide)) q23; have q29 := kpL hs1 (by decide) (sm1 6 (by decide)) (D6.kt (D5.kt q14 rfl) rfl); have q30 := kpL hs1 (by decide) (sm1 7 (by decide)) (D6.kt (D5.kt (D4.kt q11 rfl) rfl) rfl)
   obtain ⟨t3, ⟨x2, hT1, o12, o13⟩, B1⟩ := r1
   have q31 : At (Ty.val Value.nilIface) s7 a9 (.tmp 14) := Ty.up _ B1.le hT1
   have o14 : OwnPT 80 s7 5 x1 [(Ty.val (bAddr false (x1))), (Ty.val x2)] := OwnPT.ren o12 (B1.ren (by decide) rfl)
   have o15 : Own s7 6 5 1 x2 (List.length (((signsB (r.take k))) ++ [((SIGNS.get! ((r.getD k 0)).toNat))])) (List.map Ty.byte (((signsB (r.take k))) ++ [((SIGNS.get! ((r.getD k 0)).toNat))])) := Own.ren o13 (B1.ren (by decide) rfl)
   refine wpList_nil (bn (tn ?_))
   refine gI a9 s7 ok8 (gT (Ty.int (((k : Nat) : Int) + (1 : Int))) rfl (fun A B E G H => rP (y_add (kp (H 8 rfl) E q27) rfl (w64 (by omega) (by omega)))) (gS rfl (fun A B E G H d0 => rP (y_move (ed d0 rfl rfl rfl))) (gE ok8 fun a10 s8 ok9 D7 => ?_))); have o16 := OwnPT.k0 o14 D7.stp; have o17 := Own.k0 o15 D7.stp
   exact tn ⟨r.length - ((k+1)), by omega, s8, (k+1), false, x2, rfl, (F8.step0 D7.stp), ok9, (cvi (by (first | rfl | omega | (simp_all; done) | (simp_all; omega))) (D7.dn 1 rfl rfl)), (D7.kt q28 rfl), (D7.kt q29 rfl), (D7.kt q30 rfl), (ownpt_cell 0 (Ty.val (bAddr (false) x1)) o16 rfl (fun _ _ h => (cvt (by (first | rfl | omega | (simp_all; done) | (simp_all; omega))) h))), (cvo (by (rw [signsB_take r k (by omega)])) (by (rw [signsB_take r k (by omega)])) o17), by omega, rfl⟩
  ·
   refine wp_exit (tx (tx (bx (tn (wp_seq ?_)))))
   refine gI a6 s4 ok5 (gE2 ok5 fun a11 s9 ok10 D8 => ?_); have o18 := OwnPT.k0 o6 D8.stp; have o19 := Own.k0 o7 D8.stp
   refine tL ok10 (y_callL (L := [40, 41]) [(5, 40), (6, 41)] [(40, 5), (41, 6)] #[a11.eval (.tmp 3)] rfl (by decide) Try.func46 rfl rfl my1 (bString_fn (x1) (bf) (nz) ((signsB (r.take k))) _ (GW.low_lend _ (by decide)) _ (Ty.up _ (GW.le_lend _ _) (D8.kt q13 rfl)) (OwnPT.ren (ownpt_cell 0 (Ty.val (bAddr (nz) (x1))) o18 rfl (fun _ _ h => (cvt (by (first | rfl | omega | (simp_all; done) | (simp_all; omega))) h))) (GW.ren_lend _ _ (by decide) rfl)) (Own.ren (cvo (by (simp)) (by (simp)) o19) (GW.ren_lend _ _ (by decide) rfl)) )) fun a12 s10 hs2 ok11 r2 sm2 => ?_
   have F11 := (F5.step0 D8.stp).stepL hs2 (by decide)
   obtain ⟨t4, hT2, B2⟩ := r2
   have q37 : At (Ty.val (Value.string (bsL ((signsB (r.take k)))))) s10 a12 (.tmp 16) := Ty.up _ B2.le hT2
   refine tL ok11 (Yld.toL (y_as q37)) fun a13 s11 hs3 ok12 r3 sm3 => ?_
   have F12 := F11.stepL hs3 (by decide)
   have q38 : At (Ty.val (Value.string (bsL ((signsB (r.take k)))))) s11 a13 (.tmp 2) := r3
   clear r3; refine wpList_nil (tn (wp_ret ?_))
   exact retL1 rfl ok12 F12 (cvt (by (obtain rfl : k = r.length := (by omega); rw [List.take_length])) q38)


set_option maxHeartbeats 4000000 in
set_option maxRecDepth 100000 in
theorem writeString_fn (b buf : Value) (nb : Bool) (l : List UInt8) (s : ByteArray) (σ : GW) (hlow : Low [40, 41] σ) (v0 v1 : Value) (hv0 : Ty.has (Ty.val b) σ v0) (hv1 : Ty.has (Ty.val (Value.string s)) σ v1) (ho_b : OwnPT 80 σ 40 b [(Ty.val (bAddr nb b)), (Ty.val buf)]) (ho_buf : Own σ 41 5 1 buf (List.length l) (List.map Ty.byte l)) (hl : l.length ≤ 1000000000) (E : s.size ≤ 1000000000) :
    FnL Try.prog 45 #[v0, v1] σ [40, 41] (fun v τ => ∃ (bz : Value), (Ty.has (Ty.tup2 (Ty.nat (ByteArray.size s)) (Ty.val Value.nilIface)) τ v) ∧ (OwnPT 80 τ 40 b [(Ty.val (bAddr false b)), (Ty.val bz)]) ∧ (Own τ 41 5 1 bz (List.length (l ++ (ByteArray.data s).toList)) (List.map Ty.byte (l ++ (ByteArray.data s).toList)))) := by
 refine fn_introL hlow Try.func45 rfl Try.ntmps45 (Nat.le_of_ble_eq_true rfl) (fun a0 F0 ok0 hargs => ?_)
 have p0 := pB (hargs 0 _ rfl) hv0
 have p1 := pB (hargs 1 _ rfl) hv1
 clear hargs; refine wp_seq ?_
 refine gI a0 σ ok0 (gC (Ty.int (0 : Int)) (gC (Ty.val Value.nilIface) (gE ok0 fun a1 s1 ok1 D1 => ?_))); have q1 := D1.kt p0 rfl; have o1 := OwnPT.k0 ho_b D1.stp; have o2 := Own.k0 ho_buf D1.stp; refine tn (wp_seq ?_)
 refine gI a1 s1 ok1 (gM q1 (gE2 ok1 fun a2 s2 ok2 D2 => ?_)); have o3 := OwnPT.k0 o1 D2.stp; have o4 := Own.k0 o2 D2.stp
 refine tL ok2 (y_callL (L := [40]) [(40, 40)] [(40, 40)] #[a2.eval (.tmp 6)] rfl (by decide) Try.func64 rfl rfl my1 (copyCheck_fn (b) (buf) (nb) _ (GW.low_lend _ (by decide)) _ (Ty.up _ (GW.le_lend _ _) (D2.dn 0 (by decide) rfl rfl)) (OwnPT.ren o3 (GW.ren_lend _ _ (by decide) rfl)) )) fun a3 s3 hs1 ok3 r1 sm1 => ?_
 have F3 := ((F0.step0 D1.stp).step0 D2.stp).stepL hs1 (by decide); have q6 := kpL hs1 (by decide) (sm1 0 (by decide)) (D2.kt q1 rfl); have q7 := kpL hs1 (by decide) (sm1 1 (by decide)) (D2.kt (D1.kt p1 rfl) rfl); have o7 := Own.keepL o4 hs1 (by decide) (by decide)
 obtain ⟨t1, ⟨hT1, o5⟩, B1⟩ := r1
 have o6 : OwnPT 80 s3 40 b [(Ty.val (bAddr false b)), (Ty.val buf)] := OwnPT.ren o5 (B1.ren (by decide) rfl)
 refine wpList_nil (tn (wp_seq ?_))
 refine gI a3 s3 ok3 (gM q6 (gM q6 (gT (Ty.val b) rfl (fun A B E G H d0 => rP (y_nilp (OwnPT.toP (OwnPT.k0 o6 E)) (ed d0 rfl rfl rfl))) (gT (Ty.val (ptrAt b 1)) rfl (fun A B E G H d0 => rP (ownp_field Try.fld80_1 Try.inf51 (by decide) (OwnPT.toP (OwnPT.k0 o6 E)) (ed d0 rfl rfl rfl))) (gS rfl (fun A B E G H d0 => rP (ownp_load Try.underlying51 rfl (OwnPT.toP (OwnPT.k0 o6 E)) (ed d0 rfl rfl rfl) rfl)) (gM q7 (gE2 ok3 fun a4 s4 ok4 D3 => ?_))))))); have o8 := Own.k0 o7 D3.stp; have o9 := OwnPT.k0 o6 D3.stp
 refine tL (R := (fun v τ => Own τ 41 5 1 v ((List.length l) + ByteArray.size s) ((List.map Ty.byte l) ++ (ByteArray.data s).toList.map Ty.byte))) ok4 (YldM.toL (m_appendS Try.underlying51 Try.underlying9 Try.inf5 (by decide) (al (R := (Pr.own 41 5 1 (List.length l) (List.map Ty.byte l))) (D3.dn 4 (by decide) rfl rfl) o8) (D3.dn 5 (by decide) rfl rfl) (by omega))) fun a5 s5 hs2 ok5 r2 sm2 => ?_
 have F5 := (F3.step0 D3.stp).stepL hs2 (by decide); have q13 := kpL hs2 (by decide) (sm2 1 (by decide)) (D3.kt q7 rfl); have q14 := kpL hs2 (by decide) (sm2 8 (by decide)) (D3.dn 0 (by decide) rfl rfl); have o11 := OwnPT.keepL o9 hs2 (by decide) (by decide)
 obtain ⟨x1, hx1⟩ : ∃ x, a5.eval (.tmp 14) = x := ⟨_, rfl⟩
 have q15 : At (Ty.val x1) s5 a5 (.tmp 14) := hx1
 have o10 := al2 (R := (Pr.own 41 5 1 (List.length (l ++ (ByteArray.data s).toList)) (List.map Ty.byte (l ++ (ByteArray.data s).toList)))) hx1 (cvo (by simp) (by rw [List.map_append]) r2)
 clear r2
 refine tL (R := (fun v τ => Pr.has (Ty.pr (Ty.val b)) τ v)) ok5 (Yld.toL (y_nilp (OwnPT.toP o11) q14)) fun a6 s6 hs3 ok6 r3 sm3 => ?_
 have F6 := F5.stepL hs3 (by decide); have q16 := kpL hs3 (by decide) (sm3 1 (by decide)) q13; have q17 := kpL hs3 (by decide) (sm3 14 (by decide)) q15; have o12 := OwnPT.keepL o11 hs3 (by decide) (by decide); have o13 := Own.keepL o10 hs3 (by decide) (by decide)
 have q18 : At (Ty.val b) s6 a6 (.tmp 15) := r3
 clear r3
 refine tL (R := (fun v τ => Pr.has (Ty.pr (Ty.val (ptrAt b 1))) τ v)) ok6 (Yld.toL (ownp_field Try.fld80_1 Try.inf51 (by decide) (OwnPT.toP o12) q18)) fun a7 s7 hs4 ok7 r4 sm4 => ?_
 have F7 := F6.stepL hs4 (by decide); have q19 := kpL hs4 (by decide) (sm4 1 (by decide)) q16; have q20 := kpL hs4 (by decide) (sm4 14 (by decide)) q17; have o14 := OwnPT.keepL o12 hs4 (by decide) (by decide); have o15 := Own.keepL o13 hs4 (by decide) (by decide)
 have q21 : At (Ty.val (ptrAt b 1)) s7 a7 (.tmp 16) := r4
 clear r4
 refine tailL0 (L := [40]) (R := (fun _ τ => OwnPT 80 τ 40 b ([(Ty.val (bAddr false b)), (Ty.val buf)].set 1 (Ty.val x1)))) rfl rfl (YldM.toL (m_storept Try.inf51 (by decide) o14 q21 (Nat.le_of_ble_eq_true rfl) q20 (one_val (Own.one o15)))) (fun v1 s8 hs5 r5 => ?_)
 have F8 := F7.stepL hs5 (by decide); have q22 := kpL hs5 (by decide) rfl q19; have o17 := Own.keepL o15 hs5 (by decide) (by decide)
 have o16 : OwnPT 80 s8 40 b [(Ty.val (bAddr false b)), (Ty.val x1)] := r5
 clear r5; refine wpList_nil (tn (wp_seq ?_))
 refine gI a7 s8 ok7 (gM q22 (gT (Ty.nat (ByteArray.size s)) rfl (fun A B E G H d0 => rP (y_len_str Try.underlying9 (ed d0 rfl rfl rfl))) (gB 0 (gC (Ty.val Value.nilIface) (gE ok7 fun a8 s9 ok8 D4 => ?_))))); have o18 := Own.k0 o17 D4.stp; have o19 := OwnPT.k0 o16 D4.stp; refine tn (wp_ret ?_)
 exact retL2 rfl ok8 (F8.step0 D4.stp) ⟨x1, (hasT2 (D4.dn 2 rfl rfl) (D4.dn 3 rfl rfl)), o19, o18⟩


end Go.Proofs.Ytdjihbjikpbhgaa
