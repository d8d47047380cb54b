/- The functions that the law StrikeJudges reaches, each by its contract. Part 3. -/
import Derived.Test.YtmeijdkjccfpmaaStrikeJudgesW2
namespace Go.Proofs.Ytmeijdkjccfpmaa
open Go.KL

set_option maxHeartbeats 4000000 in
set_option maxRecDepth 100000 in
theorem rBlowsMay_fn (n : Int) (l : List BBlow) (σ : GW)  (v0 v1 : Value) (hv0 : Ty.has (Ty.int n) σ v0) (hv1 : Ty.has (Ty.lstc 2 blowC l) σ v1)   :
    FnC Try.prog 10 #[v0, v1] σ (Ty.int (blowsE n l)) := by
 refine fn_intro0 Try.func10 rfl Try.ntmps10 (Nat.le_of_ble_eq_true rfl) (fun s0 a0 hle F0 ok0 hargs => ?_)
 have p0 := pA hle (hargs 0 _ rfl) hv0
 have p1 := pA hle (hargs 1 _ rfl) hv1
 have b1 := sl_le p1
 clear hargs; refine wp_seq ?_
 refine gI a0 s0 ok0 (gC (Ty.int (0 : Int)) (gE ok0 fun a1 s1 ok1 D1 => ?_)); have q1 := D1.kt p0 rfl; have q2 := D1.kt p1 rfl; refine tn (wp_seq (wp_seq ?_))
 refine gI a1 s1 ok1 (gM q1 (gS rfl (fun A B E G H d0 => rP (y_lss (ed d0 rfl rfl rfl) rfl)) (gS rfl (fun A B E G H d0 => rP (y_move (ed d0 rfl rfl rfl))) (gS rfl (fun A B E G H d0 => gu G (ed d0 rfl rfl rfl) fun hg => y_move (kp (H 0 rfl) E q1)) (gS rfl (fun A B E G H d0 d1 => gu G (ed d1 rfl rfl rfl) fun hg => y_gtr ((ed d0 rfl rfl rfl).1 hg) rfl) (gS rfl (fun A B E G H d0 d1 => rP (y_pick_or (ed d0 rfl rfl rfl) rfl (ed d1 rfl rfl rfl))) (gS rfl (fun A B E G H d0 d1 => rP (y_move (ed d0 rfl rfl rfl))) (gT (Ty.grd (((decide (n < (1 : Int))) || (decide ((12 : Int) < n))) = false) (Ty.lstc 2 blowC l)) rfl (by intro A B E G H d0; refine run_guard G rfl rfl (by decide) (ed d0 rfl rfl rfl) (fun hg => ?_); obtain ⟨d1, d2⟩ := Bool.or_eq_false_iff.mp hg; have d1 := of_decide_eq_false d1; have d2 := of_decide_eq_false d2; exact y_move (kp (H 1 rfl) E q2)) (gT (Ty.grd (((decide (n < (1 : Int))) || (decide ((12 : Int) < n))) = false) (Ty.nat (List.length l))) rfl (by intro A B E G H d0 d1; refine run_guard G rfl rfl (by decide) (ed d1 rfl rfl rfl) (fun hg => ?_); obtain ⟨d3, d4⟩ := Bool.or_eq_false_iff.mp hg; have d3 := of_decide_eq_false d3; have d4 := of_decide_eq_false d4; exact y_len Try.underlying22 ((ed d0 rfl rfl rfl).1 hg)) (gT (Ty.grd (((decide (n < (1 : Int))) || (decide ((12 : Int) < n))) = false) (Ty.bool (decide ((((List.length l) : Nat) : Int) < (2 : Int))))) rfl (by intro A B E G H d0 d1; refine run_guard G rfl rfl (by decide) (ed d1 rfl rfl rfl) (fun hg => ?_); obtain ⟨d5, d6⟩ := Bool.or_eq_false_iff.mp hg; have d5 := of_decide_eq_false d5; have d6 := of_decide_eq_false d6; exact y_lss ((ed d0 rfl rfl rfl).1 hg) rfl) (gS rfl (fun A B E G H d0 d1 => rP (y_pick_or (ed d0 rfl rfl rfl) rfl (ed d1 rfl rfl rfl))) (gE ok1 fun a2 s2 ok2 D2 => ?_)))))))))))); have F2 := (F0.step0 D1.stp).step0 D2.stp; have q4 := D2.kt q2 rfl; refine tn ?_
 refine cond_t (D2.dn 10 rfl rfl) (fun c1 => ?_) (fun c1 => ?_)
 ·
  have h1 : n < 1 ∨ 12 < n ∨ l.length < 2 := (by simp only [Bool.or_eq_true, decide_eq_true_eq] at c1; omega)
  refine wp_seq ?_
  refine gI a2 s2 ok2 (gC (Ty.int (1 : Int)) (gE ok2 fun a3 s3 ok3 D3 => ?_)); refine tn (wp_ret (tr ?_))
  exact retL1 rfl ok3 (F2.step0 D3.stp) (cvi (by (exact (blows_1 h1).symm)) (D3.dn 0 rfl rfl))
 ·
  obtain ⟨d7, d8⟩ := Bool.or_eq_false_iff.mp c1
  obtain ⟨d9, d10⟩ := Bool.or_eq_false_iff.mp d7
  replace d9 := of_decide_eq_false d9
  replace d10 := of_decide_eq_false d10
  replace d8 := of_decide_eq_false d8
  have h1 : ¬ (n < 1 ∨ 12 < n ∨ l.length < 2) := (by simp only [Bool.or_eq_false_iff, decide_eq_false_iff_not] at c1; omega)
  refine wp_skip (tn (wp_seq (wp_seq ?_)))
  refine gI a2 s2 ok2 (gM q4 (gS rfl (fun A B E G H d0 => rP (y_len Try.underlying22 (ed d0 rfl rfl rfl))) (gS rfl (fun A B E G H d0 => rP (y_gtr (ed d0 rfl rfl rfl) rfl)) (gE ok2 fun a4 s4 ok4 D4 => ?_)))); have F4 := F2.step0 D4.stp; refine tn ?_
  refine cond_p (p := ((5000 : Int) < (((List.length l) : Nat) : Int))) (D4.dn 2 rfl rfl) (fun c2 => ?_) (fun c2 => ?_)
  ·
   have h2 : 5000 < l.length := (by omega)
   refine wp_seq ?_
   refine gI a4 s4 ok4 (gC (Ty.int (3 : Int)) (gE ok4 fun a5 s5 ok5 D5 => ?_)); refine tn (wp_ret (tr ?_))
   exact retL1 rfl ok5 (F4.step0 D5.stp) (cvi (by (exact (blows_3 h1 h2).symm)) (D5.dn 0 rfl rfl))
  ·
   have h2 : ¬ 5000 < l.length := (by omega)
   refine wp_skip (tn (wp_seq (wp_seq ?_)))
   refine gI a4 s4 ok4 (gC (Ty.int (0 : Int)) (gE ok4 fun a6 s6 ok6 D6 => ?_)); refine tn (wp_block ?_)
   refine loop (fun n1 a7 w1 => ∃ (t1 : GW) (k : Nat), t1.w = w1 ∧ FromL [] s0 t1 ∧ Ok 70 [] a7 ∧ At (Ty.nat k) t1 a7 (.tmp 5) ∧ At (Ty.int n) t1 a7 (.tmp 0) ∧ At (Ty.lstc 2 blowC l) t1 a7 (.tmp 1) ∧ (k ≤ l.length) ∧ (∀ j, j < k → blowBad n l j = false) ∧ n1 = l.length - k) (l.length - (0)) ?_ ?_
   ·
    exact ⟨s6, 0, rfl, (F4.step0 D6.stp), ok6, (cvi (by (first | rfl | omega | (simp_all; done) | (simp_all; omega))) (D6.dn 0 rfl rfl)), (D6.kt (D4.kt (D2.kt q1 rfl) rfl) rfl), (D6.kt (D4.kt q4 rfl) rfl), by omega, fun j hj => absurd hj (Nat.not_lt_zero j), rfl⟩
   ·
    rintro n2 a8 w2 ⟨t2, k, rfl, F7, ok7, q14, q15, q16, hk, hno, rfl⟩
    refine wp_seq (wp_seq ?_)
    refine gI a8 t2 ok7 (gM q14 (gM q16 (gS rfl (fun A B E G H d0 => rP (y_len Try.underlying22 (ed d0 rfl rfl rfl))) (gS rfl (fun A B E G H d0 d1 => rP (y_lss (ed d0 rfl rfl rfl) (ed d1 rfl rfl rfl))) (gE ok7 fun a9 s7 ok8 D7 => ?_))))); have F8 := F7.step0 D7.stp; have q17 := D7.kt q14 rfl; have q19 := D7.kt q16 rfl; refine tn ?_
    refine cond_p (p := (((k : Nat) : Int) < (((List.length l) : Nat) : Int))) (D7.dn 3 rfl rfl) (fun c3 => ?_) (fun c3 => ?_)
    ·
     refine wp_skip (tn (wp_seq (wp_block (wp_seq ?_))))
     refine gI a9 s7 ok8 (gM q19 (gM q17 (gT (Ty.ref [(Ty.int ((l.getD k B0)).1), (Ty.flt ((l.getD k B0)).2)]) rfl (fun A B E G H d0 d1 => rP (y_indexc (i := ((k : Nat) : Int)) B0 Try.underlying22 Try.inf45 (ed d0 rfl rfl rfl) (ed d1 rfl rfl rfl) (by omega) (by omega) (by decide) (fun _ => rfl))) (gS rfl (fun A B E G H d0 => rP (y_field Try.fld45_1 Try.inf23 (by decide) (ed d0 rfl rfl rfl) rfl)) (gS rfl (fun A B E G H d0 => rP (y_load Try.underlying23 rfl (ed d0 rfl rfl rfl) rfl)) (gS rfl (fun A B E G H d0 => rP (y_call _ Try.func25 rfl rfl my1 (near_fn (((l.getD k B0)).2) _ _ (ed d0 rfl rfl rfl) ))) (gB 0 (gE ok8 fun a10 s8 ok9 D8 => ?_)))))))); have q21 := D8.kt q17 rfl; have q22 := D8.kt (D7.kt q15 rfl) rfl; have q23 := D8.kt q19 rfl; refine tn (wp_seq ?_)
     refine gI a10 s8 ok9 (gM q23 (gM q21 (gT (Ty.ref [(Ty.int ((l.getD k B0)).1), (Ty.flt ((l.getD k B0)).2)]) rfl (fun A B E G H d0 d1 => rP (y_indexc (i := ((k : Nat) : Int)) B0 Try.underlying22 Try.inf45 (ed d0 rfl rfl rfl) (ed d1 rfl rfl rfl) (by omega) (by omega) (by decide) (fun _ => rfl))) (gS rfl (fun A B E G H d0 => rP (y_field Try.fld45_0 Try.inf3 (by decide) (ed d0 rfl rfl rfl) rfl)) (gS rfl (fun A B E G H d0 => rP (y_load Try.underlying3 rfl (ed d0 rfl rfl rfl) rfl)) (gS rfl (fun A B E G H d0 => rP (y_lss (ed d0 rfl rfl rfl) rfl)) (gS rfl (fun A B E G H d0 => rP (y_move (ed d0 rfl rfl rfl))) (gS rfl (fun A B E G H d0 => gu G (ed d0 rfl rfl rfl) fun hg => y_move (kp (H 1 rfl) E q23)) (gS rfl (fun A B E G H d0 => gu G (ed d0 rfl rfl rfl) fun hg => y_move (kp (H 5 rfl) E q21)) (gT (Ty.grd ((decide (((l.getD k B0)).1 < (0 : Int))) = false) (Ty.ref [(Ty.int ((l.getD k B0)).1), (Ty.flt ((l.getD k B0)).2)])) rfl (fun A B E G H d0 d1 d2 => guf G (ed d2 rfl rfl rfl) fun hg hp => y_indexc (i := ((k : Nat) : Int)) B0 Try.underlying22 Try.inf45 ((ed d0 rfl rfl rfl).1 hg) ((ed d1 rfl rfl rfl).1 hg) (by omega) (by omega) (by decide) (fun _ => rfl)) (gS rfl (fun A B E G H d0 d1 => guf G (ed d1 rfl rfl rfl) fun hg hp => y_field Try.fld45_0 Try.inf3 (by decide) ((ed d0 rfl rfl rfl).1 hg) rfl) (gS rfl (fun A B E G H d0 d1 => gu G (ed d1 rfl rfl rfl) fun hg => y_load Try.underlying3 rfl ((ed d0 rfl rfl rfl).1 hg) rfl) (gS rfl (fun A B E G H d0 => gu G (ed d0 rfl rfl rfl) fun hg => y_move (kp (H 0 rfl) E q22)) (gS rfl (fun A B E G H d0 d1 d2 => gu G (ed d2 rfl rfl rfl) fun hg => y_geq ((ed d0 rfl rfl rfl).1 hg) ((ed d1 rfl rfl rfl).1 hg)) (gS rfl (fun A B E G H d0 d1 => rP (y_pick_or (ed d0 rfl rfl rfl) rfl (ed d1 rfl rfl rfl))) (gS rfl (fun A B E G H d0 d1 => rP (y_move (ed d0 rfl rfl rfl))) ?_))))))))))))))))
     refine gT (Ty.grd (((decide (((l.getD k B0)).1 < (0 : Int))) || (decide (n ≤ ((l.getD k B0)).1))) = false) (Ty.bool (fGe (((l.getD k B0)).2) (some 13965043853221167104) && fLe (((l.getD k B0)).2) (some 4741671816366391296)))) rfl (by intro A B E G H d0; refine run_guard G rfl rfl (by decide) (ed d0 rfl rfl rfl) (fun hg => ?_); obtain ⟨d11, d12⟩ := Bool.or_eq_false_iff.mp hg; have d11 := of_decide_eq_false d11; have d12 := of_decide_eq_false d12; exact y_move (kp (H 6 rfl) E (D8.dn 6 rfl rfl))) (gT (Ty.grd (((decide (((l.getD k B0)).1 < (0 : Int))) || (decide (n ≤ ((l.getD k B0)).1))) = false) (Ty.bool (!(fGe (((l.getD k B0)).2) (some 13965043853221167104) && fLe (((l.getD k B0)).2) (some 4741671816366391296))))) rfl (by intro A B E G H d0 d1; refine run_guard G rfl rfl (by decide) (ed d1 rfl rfl rfl) (fun hg => ?_); obtain ⟨d13, d14⟩ := Bool.or_eq_false_iff.mp hg; have d13 := of_decide_eq_false d13; have d14 := of_decide_eq_false d14; exact y_not ((ed d0 rfl rfl rfl).1 hg)) (gS rfl (fun A B E G H d0 d1 => rP (y_pick_or (ed d0 rfl rfl rfl) rfl (ed d1 rfl rfl rfl))) (gS rfl (fun A B E G H d0 d1 => rP (y_move (ed d0 rfl rfl rfl))) (gT (Ty.grd ((((decide (((l.getD k B0)).1 < (0 : Int))) || (decide (n ≤ ((l.getD k B0)).1))) || (!(fGe (((l.getD k B0)).2) (some 13965043853221167104) && fLe (((l.getD k B0)).2) (some 4741671816366391296)))) = false) (Ty.nat k)) rfl (by intro A B E G H d0; refine run_guard G rfl rfl (by decide) (ed d0 rfl rfl rfl) (fun hg => ?_); obtain ⟨d15, d16⟩ := Bool.or_eq_false_iff.mp hg; obtain ⟨d17, d18⟩ := Bool.or_eq_false_iff.mp d15; have d17 := of_decide_eq_false d17; have d18 := of_decide_eq_false d18; exact y_move (kp (H 5 rfl) E q21)) ?_))))
     refine gT (Ty.grd ((((decide (((l.getD k B0)).1 < (0 : Int))) || (decide (n ≤ ((l.getD k B0)).1))) || (!(fGe (((l.getD k B0)).2) (some 13965043853221167104) && fLe (((l.getD k B0)).2) (some 4741671816366391296)))) = false) (Ty.bool (decide ((0 : Int) < ((k : Nat) : Int))))) rfl (by intro A B E G H d0 d1; refine run_guard G rfl rfl (by decide) (ed d1 rfl rfl rfl) (fun hg => ?_); obtain ⟨d19, d20⟩ := Bool.or_eq_false_iff.mp hg; obtain ⟨d21, d22⟩ := Bool.or_eq_false_iff.mp d19; have d21 := of_decide_eq_false d21; have d22 := of_decide_eq_false d22; exact y_gtr ((ed d0 rfl rfl rfl).1 hg) rfl) (gT (Ty.grd ((((decide (((l.getD k B0)).1 < (0 : Int))) || (decide (n ≤ ((l.getD k B0)).1))) || (!(fGe (((l.getD k B0)).2) (some 13965043853221167104) && fLe (((l.getD k B0)).2) (some 4741671816366391296)))) = false) (Ty.bool (decide ((0 : Int) < ((k : Nat) : Int))))) rfl (by intro A B E G H d0 d1 d2; refine run_guard G rfl rfl (by decide) (ed d1 rfl rfl rfl) (fun hg => ?_); obtain ⟨d23, d24⟩ := Bool.or_eq_false_iff.mp hg; obtain ⟨d25, d26⟩ := Bool.or_eq_false_iff.mp d23; have d25 := of_decide_eq_false d25; have d26 := of_decide_eq_false d26; exact y_move ((ed d0 rfl rfl rfl).1 hg)) (gS rfl (fun A B E G H d0 => gu2 G (ed d0 rfl rfl rfl) fun hg => y_move (kp (H 1 rfl) E q23)) (gS rfl (fun A B E G H d0 => gu2 G (ed d0 rfl rfl rfl) fun hg => y_move (kp (H 5 rfl) E q21)) ?_)))
     refine gT (Ty.grd (((((decide (((l.getD k B0)).1 < (0 : Int))) || (decide (n ≤ ((l.getD k B0)).1))) || (!(fGe (((l.getD k B0)).2) (some 13965043853221167104) && fLe (((l.getD k B0)).2) (some 4741671816366391296)))) = false) ∧ (decide ((0 : Int) < ((k : Nat) : Int))) = true) (Ty.ref [(Ty.int ((l.getD k B0)).1), (Ty.flt ((l.getD k B0)).2)])) rfl (by intro A B E G H d0 d1 d2; refine run_guard2 G rfl rfl (by decide) (ed d2 rfl rfl rfl) (fun hg => ?_); have hp := of_decide_eq_true hg.2; exact y_indexc (i := ((k : Nat) : Int)) B0 Try.underlying22 Try.inf45 ((ed d0 rfl rfl rfl).1 hg) ((ed d1 rfl rfl rfl).1 hg) (by omega) (by omega) (by decide) (fun _ => rfl)) (gT (Ty.grd (((((decide (((l.getD k B0)).1 < (0 : Int))) || (decide (n ≤ ((l.getD k B0)).1))) || (!(fGe (((l.getD k B0)).2) (some 13965043853221167104) && fLe (((l.getD k B0)).2) (some 4741671816366391296)))) = false) ∧ (decide ((0 : Int) < ((k : Nat) : Int))) = true) (Ty.ref [(Ty.flt ((l.getD k B0)).2)])) rfl (by intro A B E G H d0 d1; refine run_guard2 G rfl rfl (by decide) (ed d1 rfl rfl rfl) (fun hg => ?_); have hp := of_decide_eq_true hg.2; exact y_field Try.fld45_1 Try.inf23 (by decide) ((ed d0 rfl rfl rfl).1 hg) rfl) (gS rfl (fun A B E G H d0 d1 => gu2 G (ed d1 rfl rfl rfl) fun hg => y_load Try.underlying23 rfl ((ed d0 rfl rfl rfl).1 hg) rfl) (gS rfl (fun A B E G H d0 => gu2 G (ed d0 rfl rfl rfl) fun hg => y_move (kp (H 1 rfl) E q23)) (gS rfl (fun A B E G H d0 => gu2 G (ed d0 rfl rfl rfl) fun hg => y_move (kp (H 5 rfl) E q21)) ?_))))
     refine gT (Ty.grd (((((decide (((l.getD k B0)).1 < (0 : Int))) || (decide (n ≤ ((l.getD k B0)).1))) || (!(fGe (((l.getD k B0)).2) (some 13965043853221167104) && fLe (((l.getD k B0)).2) (some 4741671816366391296)))) = false) ∧ (decide ((0 : Int) < ((k : Nat) : Int))) = true) (Ty.int (((k : Nat) : Int) - (1 : Int)))) rfl (by intro A B E G H d0 d1; refine run_guard2 G rfl rfl (by decide) (ed d1 rfl rfl rfl) (fun hg => ?_); have hp := of_decide_eq_true hg.2; exact y_sub ((ed d0 rfl rfl rfl).1 hg) rfl (w64 (by omega) (by omega))) (gT (Ty.grd (((((decide (((l.getD k B0)).1 < (0 : Int))) || (decide (n ≤ ((l.getD k B0)).1))) || (!(fGe (((l.getD k B0)).2) (some 13965043853221167104) && fLe (((l.getD k B0)).2) (some 4741671816366391296)))) = false) ∧ (decide ((0 : Int) < ((k : Nat) : Int))) = true) (Ty.ref [(Ty.int ((l.getD ((((k : Nat) : Int) - (1 : Int))).toNat B0)).1), (Ty.flt ((l.getD ((((k : Nat) : Int) - (1 : Int))).toNat B0)).2)])) rfl (by intro A B E G H d0 d1 d2; refine run_guard2 G rfl rfl (by decide) (ed d2 rfl rfl rfl) (fun hg => ?_); have hp := of_decide_eq_true hg.2; exact y_indexc (i := (((k : Nat) : Int) - (1 : Int))) B0 Try.underlying22 Try.inf45 ((ed d0 rfl rfl rfl).1 hg) ((ed d1 rfl rfl rfl).1 hg) (by omega) (by omega) (by decide) (fun _ => rfl)) (gT (Ty.grd (((((decide (((l.getD k B0)).1 < (0 : Int))) || (decide (n ≤ ((l.getD k B0)).1))) || (!(fGe (((l.getD k B0)).2) (some 13965043853221167104) && fLe (((l.getD k B0)).2) (some 4741671816366391296)))) = false) ∧ (decide ((0 : Int) < ((k : Nat) : Int))) = true) (Ty.ref [(Ty.flt ((l.getD ((((k : Nat) : Int) - (1 : Int))).toNat B0)).2)])) rfl (by intro A B E G H d0 d1; refine run_guard2 G rfl rfl (by decide) (ed d1 rfl rfl rfl) (fun hg => ?_); have hp := of_decide_eq_true hg.2; exact y_field Try.fld45_1 Try.inf23 (by decide) ((ed d0 rfl rfl rfl).1 hg) rfl) ?_))
     refine gS rfl (fun A B E G H d0 d1 => gu2 G (ed d1 rfl rfl rfl) fun hg => y_load Try.underlying23 rfl ((ed d0 rfl rfl rfl).1 hg) rfl) (gT (Ty.grd (((((decide (((l.getD k B0)).1 < (0 : Int))) || (decide (n ≤ ((l.getD k B0)).1))) || (!(fGe (((l.getD k B0)).2) (some 13965043853221167104) && fLe (((l.getD k B0)).2) (some 4741671816366391296)))) = false) ∧ (decide ((0 : Int) < ((k : Nat) : Int))) = true) (Ty.bool (fLt ((l.getD k B0)).2 ((l.getD ((((k : Nat) : Int) - (1 : Int))).toNat B0)).2))) rfl (fun A B E G H d0 d1 d2 => gu2 G (ed d2 rfl rfl rfl) fun hg => y_flss ((ed d0 rfl rfl rfl).1 hg) ((ed d1 rfl rfl rfl).1 hg)) (gT (Ty.grd ((((decide (((l.getD k B0)).1 < (0 : Int))) || (decide (n ≤ ((l.getD k B0)).1))) || (!(fGe (((l.getD k B0)).2) (some 13965043853221167104) && fLe (((l.getD k B0)).2) (some 4741671816366391296)))) = false) (Ty.bool ((decide ((0 : Int) < ((k : Nat) : Int))) && (fLt ((l.getD k B0)).2 ((l.getD ((((k : Nat) : Int) - (1 : Int))).toNat B0)).2)))) rfl (by intro A B E G H d0 d1 d2; refine run_guard G rfl rfl (by decide) (ed d2 rfl rfl rfl) (fun hg => ?_); obtain ⟨d27, d28⟩ := Bool.or_eq_false_iff.mp hg; obtain ⟨d29, d30⟩ := Bool.or_eq_false_iff.mp d27; have d29 := of_decide_eq_false d29; have d30 := of_decide_eq_false d30; exact y_pick_and ((ed d0 rfl rfl rfl).1 hg) (grd_part hg (ed d1 rfl rfl rfl)) rfl) (gS rfl (fun A B E G H d0 d1 => rP (y_pick_or (ed d0 rfl rfl rfl) rfl (ed d1 rfl rfl rfl))) (gE ok9 fun a11 s9 ok10 D9 => ?_)))); have F10 := (F8.step0 D8.stp).step0 D9.stp; refine tn ?_
     refine cond_t (D9.dn 36 rfl rfl) (fun c4 => ?_) (fun c4 => ?_)
     ·
      have hb : blowBad n l k = true := c4
      refine wp_seq ?_
      refine gI a11 s9 ok10 (gC (Ty.int (12 : Int)) (gE ok10 fun a12 s10 ok11 D10 => ?_)); refine tn (wp_ret (br (tr (tr (br (tr ?_))))))
      exact retL1 rfl ok11 (F10.step0 D10.stp) (cvi (by (exact (blows_12 h1 h2 (by omega) hb).symm)) (D10.dn 0 rfl rfl))
     ·
      obtain ⟨d31, d32⟩ := Bool.or_eq_false_iff.mp c4
      obtain ⟨d33, d34⟩ := Bool.or_eq_false_iff.mp d31
      obtain ⟨d35, d36⟩ := Bool.or_eq_false_iff.mp d33
      replace d35 := of_decide_eq_false d35
      replace d36 := of_decide_eq_false d36
      have hb : blowBad n l k = false := c4
      refine wp_skip (bn (tn ?_))
      refine gI a11 s9 ok10 (gM (D9.kt q21 rfl) (gT (Ty.int (((k : Nat) : Int) + (1 : Int))) rfl (fun A B E G H d0 => rP (y_add (ed d0 rfl rfl rfl) rfl (w64 (by omega) (by omega)))) (gB 0 (gE ok10 fun a13 s11 ok12 D11 => ?_))))
      exact tn ⟨l.length - ((k+1)), by omega, s11, (k+1), rfl, (F10.step0 D11.stp), ok12, (cvi (by (first | rfl | omega | (simp_all; done) | (simp_all; omega))) (D11.dn 2 rfl rfl)), (D11.kt (D9.kt q22 rfl) rfl), (D11.kt (D9.kt q23 rfl) rfl), by omega, fun j hj => by (by_cases e : j = k; subst e; exact hb; exact hno j (by omega)), rfl⟩
    ·
     refine wp_exit (tx (tx (bx (tn (wp_seq ?_)))))
     refine gI a9 s7 ok8 (gC (Ty.int (0 : Int)) (gE ok8 fun a14 s12 ok13 D12 => ?_)); refine tn (wp_ret ?_)
     exact retL1 rfl ok13 (F8.step0 D12.stp) (cvi (by (exact (blows_0 h1 h2 (fun j hj => hno j (by omega))).symm)) (D12.dn 0 rfl rfl))


set_option maxHeartbeats 4000000 in
set_option maxRecDepth 100000 in
theorem rAdded_fn (xs : List FV) (σ : GW)  (v0 : Value) (hv0 : Ty.has (Ty.lst Ty.flt xs) σ v0)   :
    FnC Try.prog 22 #[v0] σ (Ty.flt (added xs)) := by
 refine fn_intro0 Try.func22 rfl Try.ntmps22 (Nat.le_of_ble_eq_true rfl) (fun s0 a0 hle F0 ok0 hargs => ?_)
 have p0 := pA hle (hargs 0 _ rfl) hv0
 have b1 := sl_le p0
 clear hargs; refine wp_seq ?_
 refine gI a0 s0 ok0 (gC (Ty.val (Value.float FloatKind.f64 0)) (gE ok0 fun a1 s1 ok1 D1 => ?_)); refine tn (wp_seq ?_)
 refine gI a1 s1 ok1 (gC (Ty.val (Value.float FloatKind.f64 0)) (gE ok1 fun a2 s2 ok2 D2 => ?_)); refine tn (wp_seq ?_)
 refine gI a2 s2 ok2 (gC (Ty.val (Value.float FloatKind.f64 0)) (gE ok2 fun a3 s3 ok3 D3 => ?_)); refine tn (wp_seq (wp_seq ?_))
 refine gI a3 s3 ok3 (gC (Ty.int (0 : Int)) (gE ok3 fun a4 s4 ok4 D4 => ?_)); refine tn (wp_block ?_)
 refine loop (fun n1 a5 w1 => ∃ (t1 : GW) (k : Nat), t1.w = w1 ∧ FromL [] s0 t1 ∧ Ok 50 [] a5 ∧ At (Ty.nat k) t1 a5 (.tmp 5) ∧ At (Ty.flt ((xs.take k).foldl addS S0).1) t1 a5 (.tmp 3) ∧ At (Ty.flt ((xs.take k).foldl addS S0).2) t1 a5 (.tmp 4) ∧ At (Ty.lst Ty.flt xs) t1 a5 (.tmp 0) ∧ (k ≤ xs.length) ∧ n1 = xs.length - k) (xs.length - (0)) ?_ ?_
 ·
  exact ⟨s4, 0, rfl, ((((F0.step0 D1.stp).step0 D2.stp).step0 D3.stp).step0 D4.stp), ok4, (cvi (by (first | rfl | omega | (simp_all; done) | (simp_all; omega))) (D4.dn 0 rfl rfl)), (cvf (by (rfl)) (flt_of (b := 0) (Nat.le_of_ble_eq_true rfl) (Nat.le_of_ble_eq_true rfl) (D4.kt (D3.kt (D2.dn 0 rfl rfl) rfl) rfl))), (cvf (by (rfl)) (flt_of (b := 0) (Nat.le_of_ble_eq_true rfl) (Nat.le_of_ble_eq_true rfl) (D4.kt (D3.dn 0 rfl rfl) rfl))), (D4.kt (D3.kt (D2.kt (D1.kt p0 rfl) rfl) rfl) rfl), by omega, rfl⟩
 ·
  rintro n2 a6 w2 ⟨t2, k, rfl, F5, ok5, q11, q12, q13, q14, hk, rfl⟩
  refine wp_seq (wp_seq ?_)
  refine gI a6 t2 ok5 (gM q11 (gM q14 (gS rfl (fun A B E G H d0 => rP (y_len Try.underlying24 (ed d0 rfl rfl rfl))) (gS rfl (fun A B E G H d0 d1 => rP (y_lss (ed d0 rfl rfl rfl) (ed d1 rfl rfl rfl))) (gE ok5 fun a7 s5 ok6 D5 => ?_))))); have F6 := F5.step0 D5.stp; have q15 := D5.kt q11 rfl; have q16 := D5.kt q12 rfl; have q17 := D5.kt q13 rfl; have q18 := D5.kt q14 rfl; refine tn ?_
  refine cond_p (p := (((k : Nat) : Int) < (((List.length xs) : Nat) : Int))) (D5.dn 3 rfl rfl) (fun c1 => ?_) (fun c1 => ?_)
  ·
   have hk2 : k < xs.length := (by omega)
   refine wp_skip (tn (wp_seq (wp_block (wp_seq ?_))))
   refine gI a7 s5 ok6 (gM q18 (gM q15 (gT (Ty.ref [(Ty.flt (xs.getD k (some 0)))]) rfl (fun A B E G H d0 d1 => rP (y_index1 Try.underlying24 Try.inf23 (ed d0 rfl rfl rfl) (ed d1 rfl rfl rfl) (by omega) (lst_get Ty.flt xs (some 0) k (by omega)))) (gS rfl (fun A B E G H d0 => rP (y_load Try.underlying23 rfl (ed d0 rfl rfl rfl) rfl)) (gB 0 (gE ok6 fun a8 s6 ok7 D6 => ?_)))))); have q21 := D6.kt q16 rfl; have q24 := D6.dn 4 rfl rfl; refine tn (wp_seq ?_)
   refine gI a8 s6 ok7 (gM q21 (gM q24 (gT (Ty.flt (fadd ((xs.take k).foldl addS S0).1 (xs.getD k (some 0)))) rfl (fun A B E G H d0 d1 => rP (y_fadd (ed d0 rfl rfl rfl) (ed d1 rfl rfl rfl))) (gB 0 (gE ok7 fun a9 s7 ok8 D7 => ?_))))); have q26 := D7.kt q21 rfl; have q29 := D7.kt q24 rfl; refine tn (wp_seq (wp_seq ?_))
   refine gI a9 s7 ok8 (gM q26 (gS rfl (fun A B E G H d0 => rP (y_call _ Try.func20 rfl rfl my1 (mAbs_fn (((xs.take k).foldl addS S0).1) _ _ (ed d0 rfl rfl rfl) ))) (gM q29 (gS rfl (fun A B E G H d0 d1 => rP (y_call _ Try.func20 rfl rfl my1 (mAbs_fn ((xs.getD k (some 0))) _ _ (ed d0 rfl rfl rfl) ))) (gT (Ty.bool (fGe (fabs (((xs.take k).foldl addS S0).1)) (fabs ((xs.getD k (some 0)))))) rfl (fun A B E G H d0 d1 => rP (y_fgeq (ed d0 rfl rfl rfl) (ed d1 rfl rfl rfl))) (gE ok8 fun a10 s8 ok9 D8 => ?_)))))); have F9 := ((F6.step0 D6.stp).step0 D7.stp).step0 D8.stp; have q31 := D8.kt (D7.kt (D6.kt q15 rfl) rfl) rfl; have q32 := D8.kt q26 rfl; have q33 := D8.kt (D7.kt (D6.kt q17 rfl) rfl) rfl; have q34 := D8.kt (D7.kt (D6.kt q18 rfl) rfl) rfl; have q35 := D8.kt q29 rfl; have q36 := D8.kt (D7.dn 3 rfl rfl) rfl; refine tn ?_
   refine cond_t (D8.dn 4 rfl rfl) (fun c2 => ?_) (fun c2 => ?_)
   ·
    have hc : fGe (fabs ((xs.take k).foldl addS S0).1) (fabs (xs.getD k (some 0))) = true := c2
    refine wp_seq ?_
    refine gI a10 s8 ok9 (gM q32 (gM q36 (gT (Ty.flt (fsub ((xs.take k).foldl addS S0).1 (fadd ((xs.take k).foldl addS S0).1 (xs.getD k (some 0))))) rfl (fun A B E G H d0 d1 => rP (y_fsub (ed d0 rfl rfl rfl) (ed d1 rfl rfl rfl))) (gB 0 (gE ok9 fun a11 s9 ok10 D9 => ?_))))); refine tn (wp_seq ?_)
    refine gI a11 s9 ok10 (gM (D9.dn 3 rfl rfl) (gM (D9.kt q35 rfl) (gT (Ty.flt (fadd (fsub ((xs.take k).foldl addS S0).1 (fadd ((xs.take k).foldl addS S0).1 (xs.getD k (some 0)))) (xs.getD k (some 0)))) rfl (fun A B E G H d0 d1 => rP (y_fadd (ed d0 rfl rfl rfl) (ed d1 rfl rfl rfl))) (gB 0 (gE ok10 fun a12 s10 ok11 D10 => ?_))))); refine tn ?_
    refine gI a12 s10 ok11 (gM (D10.kt (D9.kt q33 rfl) rfl) (gM (D10.dn 3 rfl rfl) (gT (Ty.flt (fadd ((xs.take k).foldl addS S0).2 (fadd (fsub ((xs.take k).foldl addS S0).1 (fadd ((xs.take k).foldl addS S0).1 (xs.getD k (some 0)))) (xs.getD k (some 0))))) rfl (fun A B E G H d0 d1 => rP (y_fadd (ed d0 rfl rfl rfl) (ed d1 rfl rfl rfl))) (gB 0 (gE ok11 fun a13 s11 ok12 D11 => ?_))))); refine tn ?_
    refine gI a13 s11 ok12 (gM (D11.kt (D10.kt (D9.kt q36 rfl) rfl) rfl) (gB 0 (gE ok12 fun a14 s12 ok13 D12 => ?_))); refine bn (tn ?_)
    refine gI a14 s12 ok13 (gM (D12.kt (D11.kt (D10.kt (D9.kt q31 rfl) rfl) rfl) rfl) (gT (Ty.int (((k : Nat) : Int) + (1 : Int))) rfl (fun A B E G H d0 => rP (y_add (ed d0 rfl rfl rfl) rfl (w64 (by omega) (by omega)))) (gB 0 (gE ok13 fun a15 s13 ok14 D13 => ?_))))
    exact tn ⟨xs.length - ((k+1)), by omega, s13, (k+1), rfl, (((((F9.step0 D9.stp).step0 D10.stp).step0 D11.stp).step0 D12.stp).step0 D13.stp), ok14, (cvi (by (first | rfl | omega | (simp_all; done) | (simp_all; omega))) (D13.dn 2 rfl rfl)), (cvf (by (rw [add_yes hk2 hc])) (D13.kt (D12.dn 1 rfl rfl) rfl)), (cvf (by (rw [add_yes hk2 hc])) (D13.kt (D12.kt (D11.dn 3 rfl rfl) rfl) rfl)), (D13.kt (D12.kt (D11.kt (D10.kt (D9.kt q34 rfl) rfl) rfl) rfl) rfl), by omega, rfl⟩
   ·
    have hc : fGe (fabs ((xs.take k).foldl addS S0).1) (fabs (xs.getD k (some 0))) = false := c2
    refine wp_seq ?_
    refine gI a10 s8 ok9 (gM q35 (gM q36 (gT (Ty.flt (fsub (xs.getD k (some 0)) (fadd ((xs.take k).foldl addS S0).1 (xs.getD k (some 0))))) rfl (fun A B E G H d0 d1 => rP (y_fsub (ed d0 rfl rfl rfl) (ed d1 rfl rfl rfl))) (gB 0 (gE ok9 fun a16 s14 ok15 D14 => ?_))))); refine tn (wp_seq ?_)
    refine gI a16 s14 ok15 (gM (D14.dn 3 rfl rfl) (gM (D14.kt q32 rfl) (gT (Ty.flt (fadd (fsub (xs.getD k (some 0)) (fadd ((xs.take k).foldl addS S0).1 (xs.getD k (some 0)))) ((xs.take k).foldl addS S0).1)) rfl (fun A B E G H d0 d1 => rP (y_fadd (ed d0 rfl rfl rfl) (ed d1 rfl rfl rfl))) (gB 0 (gE ok15 fun a17 s15 ok16 D15 => ?_))))); refine tn ?_
    refine gI a17 s15 ok16 (gM (D15.kt (D14.kt q33 rfl) rfl) (gM (D15.dn 3 rfl rfl) (gT (Ty.flt (fadd ((xs.take k).foldl addS S0).2 (fadd (fsub (xs.getD k (some 0)) (fadd ((xs.take k).foldl addS S0).1 (xs.getD k (some 0)))) ((xs.take k).foldl addS S0).1))) rfl (fun A B E G H d0 d1 => rP (y_fadd (ed d0 rfl rfl rfl) (ed d1 rfl rfl rfl))) (gB 0 (gE ok16 fun a18 s16 ok17 D16 => ?_))))); refine tn ?_
    refine gI a18 s16 ok17 (gM (D16.kt (D15.kt (D14.kt q36 rfl) rfl) rfl) (gB 0 (gE ok17 fun a19 s17 ok18 D17 => ?_))); refine bn (tn ?_)
    refine gI a19 s17 ok18 (gM (D17.kt (D16.kt (D15.kt (D14.kt q31 rfl) rfl) rfl) rfl) (gT (Ty.int (((k : Nat) : Int) + (1 : Int))) rfl (fun A B E G H d0 => rP (y_add (ed d0 rfl rfl rfl) rfl (w64 (by omega) (by omega)))) (gB 0 (gE ok18 fun a20 s18 ok19 D18 => ?_))))
    exact tn ⟨xs.length - ((k+1)), by omega, s18, (k+1), rfl, (((((F9.step0 D14.stp).step0 D15.stp).step0 D16.stp).step0 D17.stp).step0 D18.stp), ok19, (cvi (by (first | rfl | omega | (simp_all; done) | (simp_all; omega))) (D18.dn 2 rfl rfl)), (cvf (by (rw [add_no hk2 hc])) (D18.kt (D17.dn 1 rfl rfl) rfl)), (cvf (by (rw [add_no hk2 hc])) (D18.kt (D17.kt (D16.dn 3 rfl rfl) rfl) rfl)), (D18.kt (D17.kt (D16.kt (D15.kt (D14.kt q34 rfl) rfl) rfl) rfl) rfl), by omega, rfl⟩
  ·
   refine wp_exit (tx (tx (bx (tn (wp_seq ?_)))))
   refine gI a7 s5 ok6 (gM q16 (gM q17 (gT (Ty.flt (fadd ((xs.take k).foldl addS S0).1 ((xs.take k).foldl addS S0).2)) rfl (fun A B E G H d0 d1 => rP (y_fadd (ed d0 rfl rfl rfl) (ed d1 rfl rfl rfl))) (gB 0 (gE ok6 fun a21 s19 ok20 D19 => ?_))))); refine tn (wp_ret ?_)
   exact retL1 rfl ok20 (F6.step0 D19.stp) (cvf (by (rw [show k = xs.length by omega, List.take_length]; rfl)) (D19.dn 3 rfl rfl))


set_option maxHeartbeats 4000000 in
set_option maxRecDepth 100000 in
theorem pz_fn (x : FV) (σ : GW)  (v0 : Value) (hv0 : Ty.has (Ty.flt x) σ v0)   :
    FnC Try.prog 23 #[v0] σ (Ty.flt (pzF x)) := by
 refine fn_intro0 Try.func23 rfl Try.ntmps23 (Nat.le_of_ble_eq_true rfl) (fun s0 a0 hle F0 ok0 hargs => ?_)
 have p0 := pA hle (hargs 0 _ rfl) hv0
 clear hargs; refine wp_seq ?_
 refine gI a0 s0 ok0 (gC (Ty.val (Value.float FloatKind.f64 0)) (gE ok0 fun a1 s1 ok1 D1 => ?_)); have q1 := D1.kt p0 rfl; refine tn (wp_seq (wp_seq ?_))
 refine gI a1 s1 ok1 (gM q1 (gT (Ty.bool (fEq x (some 0))) rfl (fun A B E G H d0 => rP (y_feql (ed d0 rfl rfl rfl) (flt_of (b := 0) (Nat.le_of_ble_eq_true rfl) (Nat.le_of_ble_eq_true rfl) rfl))) (gE ok1 fun a2 s2 ok2 D2 => ?_))); have F2 := (F0.step0 D1.stp).step0 D2.stp; refine tn ?_
 refine cond_t (D2.dn 1 rfl rfl) (fun c1 => ?_) (fun c1 => ?_)
 ·
  have hc : fEq x (some 0) = true := c1
  refine wp_seq ?_
  refine gI a2 s2 ok2 (gC (Ty.val (Value.float FloatKind.f64 0)) (gE ok2 fun a3 s3 ok3 D3 => ?_)); refine tn (wp_ret (tr ?_))
  exact retL1 rfl ok3 (F2.step0 D3.stp) (cvf (by (unfold pzF; rw [if_pos hc])) (flt_of (b := 0) (Nat.le_of_ble_eq_true rfl) (Nat.le_of_ble_eq_true rfl) (D3.dn 0 rfl rfl)))
 ·
  have hc : fEq x (some 0) = false := c1
  refine wp_skip (tn (wp_seq ?_))
  refine gI a2 s2 ok2 (gM (D2.kt q1 rfl) (gB 0 (gE ok2 fun a4 s4 ok4 D4 => ?_))); refine tn (wp_ret ?_)
  exact retL1 rfl ok4 (F2.step0 D4.stp) (cvf (by (unfold pzF; rw [if_neg (by rw [hc]; decide)])) (D4.dn 1 rfl rfl))


end Go.Proofs.Ytmeijdkjccfpmaa
