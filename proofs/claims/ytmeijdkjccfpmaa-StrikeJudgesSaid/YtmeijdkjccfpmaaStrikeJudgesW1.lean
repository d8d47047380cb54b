/- The functions that the law StrikeJudges reaches, each by its contract. Part 1. -/
import Derived.Test.YtmeijdkjccfpmaaStrikeJudgesK1
import Derived.Test.YtmeijdkjccfpmaaStrikeJudgesK2
import Derived.Test.YtmeijdkjccfpmaaProg
namespace Go.Proofs.Ytmeijdkjccfpmaa
open Go.KL

set_option maxHeartbeats 4000000 in
set_option maxRecDepth 100000 in
theorem fine_fn (x : FV) (σ : GW)  (v0 : Value) (hv0 : Ty.has (Ty.flt x) σ v0)   :
    FnC Try.prog 24 #[v0] σ (Ty.bool (fGe x (some 13965043853221167104) && fLe x (some 4741671816366391296))) := by
 refine fn_intro0 Try.func24 rfl Try.ntmps24 (Nat.le_of_ble_eq_true rfl) (fun s0 a0 hle F0 ok0 hargs => ?_)
 have p0 := pA hle (hargs 0 _ rfl) hv0
 clear hargs; refine wp_seq ?_
 refine gI a0 s0 ok0 (gC (Ty.bool false) (gE ok0 fun a1 s1 ok1 D1 => ?_)); have q1 := D1.kt p0 rfl; refine tn (wp_seq ?_)
 refine gI a1 s1 ok1 (gM q1 (gT (Ty.bool (fGe x (some 13965043853221167104))) rfl (fun A B E G H d0 => rP (y_fgeq (ed d0 rfl rfl rfl) (flt_of (b := 13965043853221167104) (Nat.le_of_ble_eq_true rfl) (Nat.le_of_ble_eq_true rfl) rfl))) (gS rfl (fun A B E G H d0 => rP (y_move (ed d0 rfl rfl rfl))) (gS rfl (fun A B E G H d0 => gu G (ed d0 rfl rfl rfl) fun hg => y_move (kp (H 0 rfl) E q1)) (gT (Ty.grd ((fGe x (some 13965043853221167104)) = true) (Ty.bool (fLe x (some 4741671816366391296)))) rfl (fun A B E G H d0 d1 => gu G (ed d1 rfl rfl rfl) fun hg => y_fleq ((ed d0 rfl rfl rfl).1 hg) (flt_of (b := 4741671816366391296) (Nat.le_of_ble_eq_true rfl) (Nat.le_of_ble_eq_true rfl) rfl)) (gS rfl (fun A B E G H d0 d1 => rP (y_pick_and (ed d0 rfl rfl rfl) (ed d1 rfl rfl rfl) rfl)) (gB 0 (gE ok1 fun a2 s2 ok2 D2 => ?_)))))))); refine tn (wp_ret ?_)
 exact retL1 rfl ok2 ((F0.step0 D1.stp).step0 D2.stp) (cvb (by (first | rfl | omega | (simp_all; done) | (simp_all; omega))) (D2.dn 6 rfl rfl))

theorem Try.inf3 : Info Try.prog 3 (.int .i64 0) 1 8 := by unfold Info; kernel_rfl
theorem Try.inf23 : Info Try.prog 23 (.float .f64 0) 1 8 := by unfold Info; kernel_rfl
theorem Try.inf45 : Info Try.prog 45 (.agg #[.int .i64 0, .float .f64 0]) 2 16 := by unfold Info; kernel_rfl
theorem Try.fld45_0 : fieldOf Try.prog 45 0 = some (3, 0) := by kernel_rfl
theorem Try.fld45_1 : fieldOf Try.prog 45 1 = some (23, 1) := by kernel_rfl
set_option maxHeartbeats 4000000 in
set_option maxRecDepth 100000 in
theorem skCheck_fn (n : Int) (l : List BBlow) (σ : GW)  (v0 v1 : Value) (hv0 : Ty.has (Ty.int n) σ v0) (hv1 : Ty.has (Ty.lstc 2 blowC l) σ v1)   :
    FnC Try.prog 9 #[v0, v1] σ (Ty.int (blowsE n l)) := by
 refine fn_intro0 Try.func9 rfl Try.ntmps9 (Nat.le_of_ble_eq_true rfl) (fun s0 a0 hle F0 ok0 hargs => ?_)
 have p0 := pA hle (hargs 0 _ rfl) hv0
 have p1 := pA hle (hargs 1 _ rfl) hv1
 have b1 := sl_le p1
 clear hargs; refine wp_seq ?_
 refine gI a0 s0 ok0 (gC (Ty.int (0 : Int)) (gE ok0 fun a1 s1 ok1 D1 => ?_)); have q1 := D1.kt p0 rfl; have q2 := D1.kt p1 rfl; refine tn (wp_seq (wp_block (wp_seq ?_)))
 refine gI a1 s1 ok1 (gM q1 (gS rfl (fun A B E G H d0 => rP (y_lss (ed d0 rfl rfl rfl) rfl)) (gS rfl (fun A B E G H d0 => rP (y_move (ed d0 rfl rfl rfl))) (gS rfl (fun A B E G H d0 => gu G (ed d0 rfl rfl rfl) fun hg => y_move (kp (H 0 rfl) E q1)) (gS rfl (fun A B E G H d0 d1 => gu G (ed d1 rfl rfl rfl) fun hg => y_gtr ((ed d0 rfl rfl rfl).1 hg) rfl) (gS rfl (fun A B E G H d0 d1 => rP (y_pick_or (ed d0 rfl rfl rfl) rfl (ed d1 rfl rfl rfl))) (gS rfl (fun A B E G H d0 d1 => rP (y_move (ed d0 rfl rfl rfl))) (gT (Ty.grd (((decide (n < (1 : Int))) || (decide ((12 : Int) < n))) = false) (Ty.lstc 2 blowC l)) rfl (by intro A B E G H d0; refine run_guard G rfl rfl (by decide) (ed d0 rfl rfl rfl) (fun hg => ?_); obtain ⟨d1, d2⟩ := Bool.or_eq_false_iff.mp hg; have d1 := of_decide_eq_false d1; have d2 := of_decide_eq_false d2; exact y_move (kp (H 1 rfl) E q2)) (gT (Ty.grd (((decide (n < (1 : Int))) || (decide ((12 : Int) < n))) = false) (Ty.nat (List.length l))) rfl (by intro A B E G H d0 d1; refine run_guard G rfl rfl (by decide) (ed d1 rfl rfl rfl) (fun hg => ?_); obtain ⟨d3, d4⟩ := Bool.or_eq_false_iff.mp hg; have d3 := of_decide_eq_false d3; have d4 := of_decide_eq_false d4; exact y_len Try.underlying22 ((ed d0 rfl rfl rfl).1 hg)) (gT (Ty.grd (((decide (n < (1 : Int))) || (decide ((12 : Int) < n))) = false) (Ty.bool (decide ((((List.length l) : Nat) : Int) < (2 : Int))))) rfl (by intro A B E G H d0 d1; refine run_guard G rfl rfl (by decide) (ed d1 rfl rfl rfl) (fun hg => ?_); obtain ⟨d5, d6⟩ := Bool.or_eq_false_iff.mp hg; have d5 := of_decide_eq_false d5; have d6 := of_decide_eq_false d6; exact y_lss ((ed d0 rfl rfl rfl).1 hg) rfl) (gS rfl (fun A B E G H d0 d1 => rP (y_pick_or (ed d0 rfl rfl rfl) rfl (ed d1 rfl rfl rfl))) (gB 0 (gE ok1 fun a2 s2 ok2 D2 => ?_))))))))))))); have F2 := (F0.step0 D1.stp).step0 D2.stp; have q4 := D2.kt q2 rfl; refine tn ?_
 refine cond_t (D2.dn 11 rfl rfl) (fun c1 => ?_) (fun c1 => ?_)
 ·
  have h1 : n < 1 ∨ 12 < n ∨ l.length < 2 := (by simp only [Bool.or_eq_true, decide_eq_true_eq] at c1; omega)
  refine wp_seq ?_
  refine gI a2 s2 ok2 (gC (Ty.int (1 : Int)) (gE ok2 fun a3 s3 ok3 D3 => ?_)); refine tn (wp_ret (br (tr ?_)))
  exact retL1 rfl ok3 (F2.step0 D3.stp) (cvi (by (exact (blows_1 h1).symm)) (D3.dn 0 rfl rfl))
 ·
  obtain ⟨d7, d8⟩ := Bool.or_eq_false_iff.mp c1
  obtain ⟨d9, d10⟩ := Bool.or_eq_false_iff.mp d7
  replace d9 := of_decide_eq_false d9
  replace d10 := of_decide_eq_false d10
  replace d8 := of_decide_eq_false d8
  have h1 : ¬ (n < 1 ∨ 12 < n ∨ l.length < 2) := (by simp only [Bool.or_eq_false_iff, decide_eq_false_iff_not] at c1; omega)
  refine wp_seq ?_
  refine gI a2 s2 ok2 (gM q4 (gS rfl (fun A B E G H d0 => rP (y_len Try.underlying22 (ed d0 rfl rfl rfl))) (gS rfl (fun A B E G H d0 => rP (y_gtr (ed d0 rfl rfl rfl) rfl)) (gB 0 (gE ok2 fun a4 s4 ok4 D4 => ?_))))); have F4 := F2.step0 D4.stp; have q8 := D4.kt q4 rfl; refine tn ?_
  refine cond_p (p := ((5000 : Int) < (((List.length l) : Nat) : Int))) (D4.dn 3 rfl rfl) (fun c2 => ?_) (fun c2 => ?_)
  ·
   have h2 : 5000 < l.length := (by omega)
   refine wp_seq ?_
   refine gI a4 s4 ok4 (gC (Ty.int (3 : Int)) (gE ok4 fun a5 s5 ok5 D5 => ?_)); refine tn (wp_ret (br (tr ?_)))
   exact retL1 rfl ok5 (F4.step0 D5.stp) (cvi (by (exact (blows_3 h1 h2).symm)) (D5.dn 0 rfl rfl))
  ·
   have h2 : ¬ 5000 < l.length := (by omega)
   refine wp_skip (bn (tn (wp_seq (wp_seq ?_))))
   refine gI a4 s4 ok4 (gM q8 (gS rfl (fun A B E G H d0 => rP (y_len Try.underlying22 (ed d0 rfl rfl rfl))) (gT (Ty.int (0 : Int)) rfl (fun A B E G H => rP (y_move rfl)) (gE ok4 fun a6 s6 ok6 D6 => ?_)))); refine tn (wp_block ?_)
   refine loop (fun n1 a7 w1 => ∃ (t1 : GW) (k : Nat), t1.w = w1 ∧ FromL [] s0 t1 ∧ Ok 61 [] a7 ∧ At (Ty.nat k) t1 a7 (.tmp 25) ∧ At (Ty.int n) t1 a7 (.tmp 0) ∧ At (Ty.lstc 2 blowC l) t1 a7 (.tmp 1) ∧ At (Ty.lstc 2 blowC l) t1 a7 (.tmp 23) ∧ At (Ty.nat (List.length l)) t1 a7 (.tmp 24) ∧ (k ≤ l.length) ∧ (∀ j, j < k → blowBad n l j = false) ∧ n1 = l.length - k) (l.length - (0)) ?_ ?_
   ·
    exact ⟨s6, 0, rfl, (F4.step0 D6.stp), ok6, (cvi (by (first | rfl | omega | (simp_all; done) | (simp_all; omega))) (D6.dn 2 rfl rfl)), (D6.kt (D4.kt (D2.kt q1 rfl) rfl) rfl), (D6.kt q8 rfl), (D6.dn 0 rfl rfl), (D6.dn 1 rfl rfl), by omega, fun j hj => absurd hj (Nat.not_lt_zero j), rfl⟩
   ·
    rintro n2 a8 w2 ⟨t2, k, rfl, F7, ok7, q16, q17, q18, q19, q20, hk, hno, rfl⟩
    refine wp_seq ?_
    refine gI a8 t2 ok7 (gS rfl (fun A B E G H => rP (y_lss (kp (H 25 rfl) E q16) (kp (H 24 rfl) E q20))) (gE ok7 fun a9 s7 ok8 D7 => ?_)); have F8 := F7.step0 D7.stp; have q21 := D7.kt q16 rfl; have q24 := D7.kt q19 rfl; refine tn (wp_seq ?_)
    refine cond_p (p := (((k : Nat) : Int) < (((List.length l) : Nat) : Int))) (D7.dn 0 rfl rfl) (fun c3 => ?_) (fun c3 => ?_)
    ·
     refine wp_skip (tn (wp_seq (wp_block (wp_seq ?_))))
     refine gI a9 s7 ok8 (gM q21 (gT (Ty.ref [(Ty.int ((l.getD k B0)).1), (Ty.flt ((l.getD k B0)).2)]) rfl (fun A B E G H => rP (y_indexc (i := ((k : Nat) : Int)) B0 Try.underlying22 Try.inf45 (kp (H 23 rfl) E q24) (kp (H 25 rfl) E q21) (by omega) (by omega) (by decide) (fun _ => rfl))) (gS rfl (fun A B E G H d0 => rP (y_loadagg Try.underlying45 Try.inf45 (ed d0 rfl rfl rfl))) (gR (Pr.ownp 61 [(Ty.int (0 : Int)), (Ty.val (Value.float .f64 0))]) rfl (by intro A B E G H; exact rP (y_alloc Try.inf45 rfl (alloc_vals (vs := [.int .i64 0, .float .f64 0]) rfl))) (gB 0 (gE2 ok8 fun a10 s8 ok9 D8 => ?_))))))
     obtain ⟨x1, hx1⟩ : ∃ x, a10.eval (.tmp 6) = x := ⟨_, rfl⟩
     have q33 : At (Ty.val x1) s8 a10 (.tmp 6) := hx1
     have o1 := al2 (R := (Pr.ownp 61 [(Ty.int (0 : Int)), (Ty.val (Value.float .f64 0))])) hx1 (D8.done 3 (by decide))
     refine tailL0 (L := [61]) (R := (fun _ τ => OwnP τ 61 x1 [(Ty.int ((l.getD k B0)).1), (Ty.flt ((l.getD k B0)).2)])) rfl rfl (YldM.toL (m_storeagg Try.inf45 (by decide) o1 q33 rfl (D8.dn 2 (by decide) rfl rfl) (by intro U hU; simp only [List.mem_cons, List.not_mem_nil, or_false] at hU; rcases hU with rfl | rfl <;> first | exact one_val rfl | exact one_sl | exact one_flt | exact one_ref))) (fun v1 s9 hs1 r1 => ?_)
     have F10 := (F8.step0 D8.stp).stepL hs1 (by decide); have q35 := kpL hs1 (by decide) rfl (D8.kt q21 rfl); have q36 := kpL hs1 (by decide) rfl (D8.kt (D7.kt q17 rfl) rfl); have q37 := kpL hs1 (by decide) rfl (D8.kt (D7.kt q18 rfl) rfl); have q38 := kpL hs1 (by decide) rfl (D8.kt q24 rfl); have q39 := kpL hs1 (by decide) rfl (D8.kt (D7.kt q20 rfl) rfl); have q40 := kpL hs1 (by decide) rfl q33; have q41 := kpL hs1 (by decide) rfl (D8.dn 4 (by decide) rfl rfl)
     have o2 : OwnP s9 61 x1 [(Ty.int ((l.getD k B0)).1), (Ty.flt ((l.getD k B0)).2)] := r1
     clear r1; refine wpList_nil (tn (wp_seq ?_))
     refine gI a10 s9 ok9 (gT (Ty.val (ptrAt x1 0)) rfl (fun A B E G H => rP (ownp_field Try.fld45_0 Try.inf3 (by decide) (OwnP.k0 o2 E) (kp (H 6 rfl) E q40))) (gS rfl (fun A B E G H d0 => rP (ownp_load Try.underlying3 rfl (OwnP.k0 o2 E) (ed d0 rfl rfl rfl) rfl)) (gS rfl (fun A B E G H d0 => rP (y_lss (ed d0 rfl rfl rfl) rfl)) (gS rfl (fun A B E G H d0 => rP (y_move (ed d0 rfl rfl rfl))) (gT (Ty.grd ((decide (((l.getD k B0)).1 < (0 : Int))) = false) (Ty.val (ptrAt x1 0))) rfl (fun A B E G H d0 => guf G (ed d0 rfl rfl rfl) fun hg hp => ownp_field Try.fld45_0 Try.inf3 (by decide) (OwnP.k0 o2 E) (kp (H 6 rfl) E q40)) (gS rfl (fun A B E G H d0 d1 => gu G (ed d1 rfl rfl rfl) fun hg => ownp_load Try.underlying3 rfl (OwnP.k0 o2 E) ((ed d0 rfl rfl rfl).1 hg) rfl) (gS rfl (fun A B E G H d0 => gu G (ed d0 rfl rfl rfl) fun hg => y_move (kp (H 0 rfl) E q36)) (gS rfl (fun A B E G H d0 d1 d2 => gu G (ed d2 rfl rfl rfl) fun hg => y_geq ((ed d0 rfl rfl rfl).1 hg) ((ed d1 rfl rfl rfl).1 hg)) (gS rfl (fun A B E G H d0 d1 => rP (y_pick_or (ed d0 rfl rfl rfl) rfl (ed d1 rfl rfl rfl))) (gS rfl (fun A B E G H d0 d1 => rP (y_move (ed d0 rfl rfl rfl))) (gT (Ty.grd (((decide (((l.getD k B0)).1 < (0 : Int))) || (decide (n ≤ ((l.getD k B0)).1))) = false) (Ty.val (ptrAt x1 1))) rfl (by intro A B E G H d0; refine run_guard G rfl rfl (by decide) (ed d0 rfl rfl rfl) (fun hg => ?_); obtain ⟨d11, d12⟩ := Bool.or_eq_false_iff.mp hg; have d11 := of_decide_eq_false d11; have d12 := of_decide_eq_false d12; exact ownp_field Try.fld45_1 Try.inf23 (by decide) (OwnP.k0 o2 E) (kp (H 6 rfl) E q40)) ?_)))))))))))
     refine gT (Ty.grd (((decide (((l.getD k B0)).1 < (0 : Int))) || (decide (n ≤ ((l.getD k B0)).1))) = false) (Ty.flt ((l.getD k B0)).2)) rfl (by intro A B E G H d0 d1; refine run_guard G rfl rfl (by decide) (ed d1 rfl rfl rfl) (fun hg => ?_); obtain ⟨d13, d14⟩ := Bool.or_eq_false_iff.mp hg; have d13 := of_decide_eq_false d13; have d14 := of_decide_eq_false d14; exact ownp_load Try.underlying23 rfl (OwnP.k0 o2 E) ((ed d0 rfl rfl rfl).1 hg) rfl) (gT (Ty.grd (((decide (((l.getD k B0)).1 < (0 : Int))) || (decide (n ≤ ((l.getD k B0)).1))) = false) (Ty.bool (fGe (((l.getD k B0)).2) (some 13965043853221167104) && fLe (((l.getD k B0)).2) (some 4741671816366391296)))) rfl (by intro A B E G H d0 d1 d2; refine run_guard G rfl rfl (by decide) (ed d1 rfl rfl rfl) (fun hg => ?_); obtain ⟨d15, d16⟩ := Bool.or_eq_false_iff.mp hg; have d15 := of_decide_eq_false d15; have d16 := of_decide_eq_false d16; exact y_call _ Try.func24 rfl rfl my1 (fine_fn (((l.getD k B0)).2) _ _ ((ed d0 rfl rfl rfl).1 hg) )) (gT (Ty.grd (((decide (((l.getD k B0)).1 < (0 : Int))) || (decide (n ≤ ((l.getD k B0)).1))) = false) (Ty.bool (!(fGe (((l.getD k B0)).2) (some 13965043853221167104) && fLe (((l.getD k B0)).2) (some 4741671816366391296))))) rfl (by intro A B E G H d0 d1; refine run_guard G rfl rfl (by decide) (ed d1 rfl rfl rfl) (fun hg => ?_); obtain ⟨d17, d18⟩ := Bool.or_eq_false_iff.mp hg; have d17 := of_decide_eq_false d17; have d18 := of_decide_eq_false d18; exact y_not ((ed d0 rfl rfl rfl).1 hg)) (gS rfl (fun A B E G H d0 d1 => rP (y_pick_or (ed d0 rfl rfl rfl) rfl (ed d1 rfl rfl rfl))) (gS rfl (fun A B E G H d0 d1 => rP (y_move (ed d0 rfl rfl rfl))) ?_))))
     refine gT (Ty.grd ((((decide (((l.getD k B0)).1 < (0 : Int))) || (decide (n ≤ ((l.getD k B0)).1))) || (!(fGe (((l.getD k B0)).2) (some 13965043853221167104) && fLe (((l.getD k B0)).2) (some 4741671816366391296)))) = false) (Ty.nat k)) rfl (by intro A B E G H d0; refine run_guard G rfl rfl (by decide) (ed d0 rfl rfl rfl) (fun hg => ?_); obtain ⟨d19, d20⟩ := Bool.or_eq_false_iff.mp hg; obtain ⟨d21, d22⟩ := Bool.or_eq_false_iff.mp d19; have d21 := of_decide_eq_false d21; have d22 := of_decide_eq_false d22; exact y_move (kp (H 5 rfl) E q41)) (gT (Ty.grd ((((decide (((l.getD k B0)).1 < (0 : Int))) || (decide (n ≤ ((l.getD k B0)).1))) || (!(fGe (((l.getD k B0)).2) (some 13965043853221167104) && fLe (((l.getD k B0)).2) (some 4741671816366391296)))) = false) (Ty.bool (decide ((0 : Int) < ((k : Nat) : Int))))) rfl (by intro A B E G H d0 d1; refine run_guard G rfl rfl (by decide) (ed d1 rfl rfl rfl) (fun hg => ?_); obtain ⟨d23, d24⟩ := Bool.or_eq_false_iff.mp hg; obtain ⟨d25, d26⟩ := Bool.or_eq_false_iff.mp d23; have d25 := of_decide_eq_false d25; have d26 := of_decide_eq_false d26; exact y_gtr ((ed d0 rfl rfl rfl).1 hg) rfl) (gT (Ty.grd ((((decide (((l.getD k B0)).1 < (0 : Int))) || (decide (n ≤ ((l.getD k B0)).1))) || (!(fGe (((l.getD k B0)).2) (some 13965043853221167104) && fLe (((l.getD k B0)).2) (some 4741671816366391296)))) = false) (Ty.bool (decide ((0 : Int) < ((k : Nat) : Int))))) rfl (by intro A B E G H d0 d1 d2; refine run_guard G rfl rfl (by decide) (ed d1 rfl rfl rfl) (fun hg => ?_); obtain ⟨d27, d28⟩ := Bool.or_eq_false_iff.mp hg; obtain ⟨d29, d30⟩ := Bool.or_eq_false_iff.mp d27; have d29 := of_decide_eq_false d29; have d30 := of_decide_eq_false d30; exact y_move ((ed d0 rfl rfl rfl).1 hg)) ?_))
     refine gT (Ty.grd (((((decide (((l.getD k B0)).1 < (0 : Int))) || (decide (n ≤ ((l.getD k B0)).1))) || (!(fGe (((l.getD k B0)).2) (some 13965043853221167104) && fLe (((l.getD k B0)).2) (some 4741671816366391296)))) = false) ∧ (decide ((0 : Int) < ((k : Nat) : Int))) = true) (Ty.val (ptrAt x1 1))) rfl (by intro A B E G H d0; refine run_guard2 G rfl rfl (by decide) (ed d0 rfl rfl rfl) (fun hg => ?_); have hp := of_decide_eq_true hg.2; exact ownp_field Try.fld45_1 Try.inf23 (by decide) (OwnP.k0 o2 E) (kp (H 6 rfl) E q40)) (gS rfl (fun A B E G H d0 d1 => gu2 G (ed d1 rfl rfl rfl) fun hg => ownp_load Try.underlying23 rfl (OwnP.k0 o2 E) ((ed d0 rfl rfl rfl).1 hg) rfl) (gS rfl (fun A B E G H d0 => gu2 G (ed d0 rfl rfl rfl) fun hg => y_move (kp (H 1 rfl) E q37)) (gS rfl (fun A B E G H d0 => gu2 G (ed d0 rfl rfl rfl) fun hg => y_move (kp (H 5 rfl) E q41)) (gT (Ty.grd (((((decide (((l.getD k B0)).1 < (0 : Int))) || (decide (n ≤ ((l.getD k B0)).1))) || (!(fGe (((l.getD k B0)).2) (some 13965043853221167104) && fLe (((l.getD k B0)).2) (some 4741671816366391296)))) = false) ∧ (decide ((0 : Int) < ((k : Nat) : Int))) = true) (Ty.int (((k : Nat) : Int) - (1 : Int)))) rfl (by intro A B E G H d0 d1; refine run_guard2 G rfl rfl (by decide) (ed d1 rfl rfl rfl) (fun hg => ?_); have hp := of_decide_eq_true hg.2; exact y_sub ((ed d0 rfl rfl rfl).1 hg) rfl (w64 (by omega) (by omega))) ?_))))
     refine gT (Ty.grd (((((decide (((l.getD k B0)).1 < (0 : Int))) || (decide (n ≤ ((l.getD k B0)).1))) || (!(fGe (((l.getD k B0)).2) (some 13965043853221167104) && fLe (((l.getD k B0)).2) (some 4741671816366391296)))) = false) ∧ (decide ((0 : Int) < ((k : Nat) : Int))) = true) (Ty.ref [(Ty.int ((l.getD ((((k : Nat) : Int) - (1 : Int))).toNat B0)).1), (Ty.flt ((l.getD ((((k : Nat) : Int) - (1 : Int))).toNat B0)).2)])) rfl (by intro A B E G H d0 d1 d2; refine run_guard2 G rfl rfl (by decide) (ed d2 rfl rfl rfl) (fun hg => ?_); have hp := of_decide_eq_true hg.2; exact y_indexc (i := (((k : Nat) : Int) - (1 : Int))) B0 Try.underlying22 Try.inf45 ((ed d0 rfl rfl rfl).1 hg) ((ed d1 rfl rfl rfl).1 hg) (by omega) (by omega) (by decide) (fun _ => rfl)) (gT (Ty.grd (((((decide (((l.getD k B0)).1 < (0 : Int))) || (decide (n ≤ ((l.getD k B0)).1))) || (!(fGe (((l.getD k B0)).2) (some 13965043853221167104) && fLe (((l.getD k B0)).2) (some 4741671816366391296)))) = false) ∧ (decide ((0 : Int) < ((k : Nat) : Int))) = true) (Ty.ref [(Ty.flt ((l.getD ((((k : Nat) : Int) - (1 : Int))).toNat B0)).2)])) rfl (by intro A B E G H d0 d1; refine run_guard2 G rfl rfl (by decide) (ed d1 rfl rfl rfl) (fun hg => ?_); have hp := of_decide_eq_true hg.2; exact y_field Try.fld45_1 Try.inf23 (by decide) ((ed d0 rfl rfl rfl).1 hg) rfl) (gS rfl (fun A B E G H d0 d1 => gu2 G (ed d1 rfl rfl rfl) fun hg => y_load Try.underlying23 rfl ((ed d0 rfl rfl rfl).1 hg) rfl) (gT (Ty.grd (((((decide (((l.getD k B0)).1 < (0 : Int))) || (decide (n ≤ ((l.getD k B0)).1))) || (!(fGe (((l.getD k B0)).2) (some 13965043853221167104) && fLe (((l.getD k B0)).2) (some 4741671816366391296)))) = false) ∧ (decide ((0 : Int) < ((k : Nat) : Int))) = true) (Ty.bool (fLt ((l.getD k B0)).2 ((l.getD ((((k : Nat) : Int) - (1 : Int))).toNat B0)).2))) rfl (fun A B E G H d0 d1 d2 => gu2 G (ed d2 rfl rfl rfl) fun hg => y_flss ((ed d0 rfl rfl rfl).1 hg) ((ed d1 rfl rfl rfl).1 hg)) ?_)))
     refine gT (Ty.grd ((((decide (((l.getD k B0)).1 < (0 : Int))) || (decide (n ≤ ((l.getD k B0)).1))) || (!(fGe (((l.getD k B0)).2) (some 13965043853221167104) && fLe (((l.getD k B0)).2) (some 4741671816366391296)))) = false) (Ty.bool ((decide ((0 : Int) < ((k : Nat) : Int))) && (fLt ((l.getD k B0)).2 ((l.getD ((((k : Nat) : Int) - (1 : Int))).toNat B0)).2)))) rfl (by intro A B E G H d0 d1 d2; refine run_guard G rfl rfl (by decide) (ed d2 rfl rfl rfl) (fun hg => ?_); obtain ⟨d31, d32⟩ := Bool.or_eq_false_iff.mp hg; obtain ⟨d33, d34⟩ := Bool.or_eq_false_iff.mp d31; have d33 := of_decide_eq_false d33; have d34 := of_decide_eq_false d34; exact y_pick_and ((ed d0 rfl rfl rfl).1 hg) (grd_part hg (ed d1 rfl rfl rfl)) rfl) (gS rfl (fun A B E G H d0 d1 => rP (y_pick_or (ed d0 rfl rfl rfl) rfl (ed d1 rfl rfl rfl))) (gE ok9 fun a11 s10 ok10 D9 => ?_)); have F11 := F10.step0 D9.stp; have o3 := OwnP.k0 o2 D9.stp; refine tn ?_
     refine cond_t (D9.dn 29 rfl rfl) (fun c4 => ?_) (fun c4 => ?_)
     ·
      have hb : blowBad n l k = true := c4
      refine wp_seq ?_
      refine gI a11 s10 ok10 (gC (Ty.int (12 : Int)) (gE ok10 fun a12 s11 ok11 D10 => ?_)); refine tn (wp_ret (br (tr (tr (br (tr ?_))))))
      exact retL1 rfl ok11 (F11.step0 D10.stp) (cvi (by (exact (blows_12 h1 h2 (by omega) hb).symm)) (D10.dn 0 rfl rfl))
     ·
      obtain ⟨d35, d36⟩ := Bool.or_eq_false_iff.mp c4
      obtain ⟨d37, d38⟩ := Bool.or_eq_false_iff.mp d35
      obtain ⟨d39, d40⟩ := Bool.or_eq_false_iff.mp d37
      replace d39 := of_decide_eq_false d39
      replace d40 := of_decide_eq_false d40
      have hb : blowBad n l k = false := c4
      refine wp_skip (bn (tn ?_))
      refine gI a11 s10 ok10 (gT (Ty.int (((k : Nat) : Int) + (1 : Int))) rfl (fun A B E G H => rP (y_add (kp (H 25 rfl) E (D9.kt q35 rfl)) rfl (w64 (by omega) (by omega)))) (gS rfl (fun A B E G H d0 => rP (y_move (ed d0 rfl rfl rfl))) (gE ok10 fun a13 s12 ok12 D11 => ?_)))
      exact tn ⟨l.length - ((k+1)), by omega, s12, (k+1), rfl, (F11.step0 D11.stp), ok12, (cvi (by (first | rfl | omega | (simp_all; done) | (simp_all; omega))) (D11.dn 1 rfl rfl)), (D11.kt (D9.kt q36 rfl) rfl), (D11.kt (D9.kt q37 rfl) rfl), (D11.kt (D9.kt q38 rfl) rfl), (D11.kt (D9.kt q39 rfl) rfl), by omega, fun j hj => by (by_cases e : j = k; subst e; exact hb; exact hno j (by omega)), rfl⟩
    ·
     refine wp_exit (tx (tx (bx (tn (wp_seq ?_)))))
     refine gI a9 s7 ok8 (gC (Ty.int (0 : Int)) (gE ok8 fun a14 s13 ok13 D12 => ?_)); refine tn (wp_ret ?_)
     exact retL1 rfl ok13 (F8.step0 D12.stp) (cvi (by (exact (blows_0 h1 h2 (fun j hj => hno j (by omega))).symm)) (D12.dn 0 rfl rfl))


set_option maxHeartbeats 4000000 in
set_option maxRecDepth 100000 in
theorem beat_fn (k : Nat) (n : Nat) (σ : GW)  (v0 v1 : Value) (hv0 : Ty.has (Ty.nat k) σ v0) (hv1 : Ty.has (Ty.nat n) σ v1)  (hk : k ≤ 1000000) (hn : 1 ≤ n ∧ n ≤ 100) :
    FnC Try.prog 17 #[v0, v1] σ (Ty.nat (beatN k n)) := by
 have hdv := Nat.div_le_self k (2 * n)
 have hd0 : (0 : Int) ≤ ((k / (2 * n) : Nat) : Int) := Int.natCast_nonneg _
 have hd1 : ((k / (2 * n) : Nat) : Int) ≤ ((k : Nat) : Int) := Int.ofNat_le.2 hdv
 refine fn_intro0 Try.func17 rfl Try.ntmps17 (Nat.le_of_ble_eq_true rfl) (fun s0 a0 hle F0 ok0 hargs => ?_)
 have p0 := pA hle (hargs 0 _ rfl) hv0
 have p1 := pA hle (hargs 1 _ rfl) hv1
 clear hargs; refine wp_seq ?_
 refine gI a0 s0 ok0 (gC (Ty.int (0 : Int)) (gE ok0 fun a1 s1 ok1 D1 => ?_)); have q1 := D1.kt p0 rfl; refine tn (wp_seq ?_)
 refine gI a1 s1 ok1 (gM q1 (gM q1 (gM (D1.kt p1 rfl) (gT (Ty.nat (2 * n)) rfl (fun A B E G H d0 => rP ((y_mul rfl (ed d0 rfl rfl rfl) (w64 (by omega) (by omega))).mono (fun τ _ h => cvi (σ := τ) (by first | omega | exact (Int.natCast_mul _ _).symm) h))) (gT (Ty.nat (k / (2 * n))) rfl (fun A B E G H d0 d1 => rP (y_quoN (ed d0 rfl rfl rfl) (ed d1 rfl rfl rfl) (by omega) (by omega))) (gT (Ty.nat (k + (k / (2 * n)))) rfl (fun A B E G H d0 d1 => rP ((y_add (ed d0 rfl rfl rfl) (ed d1 rfl rfl rfl) (w64 (by omega) (by omega))).mono (fun τ _ h => cvi (σ := τ) (by first | omega | exact (Int.natCast_mul _ _).symm) h))) (gB 0 (gE ok1 fun a2 s2 ok2 D2 => ?_)))))))); refine tn (wp_ret ?_)
 exact retL1 rfl ok2 ((F0.step0 D1.stp).step0 D2.stp) (cvi (by (rfl)) (D2.dn 6 rfl rfl))


set_option maxHeartbeats 4000000 in
set_option maxRecDepth 100000 in
theorem mAbs_fn (x : FV) (σ : GW)  (v0 : Value) (hv0 : Ty.has (Ty.flt x) σ v0)   :
    FnC Try.prog 20 #[v0] σ (Ty.flt (fabs x)) := by
 refine fn_intro0 Try.func20 rfl Try.ntmps20 (Nat.le_of_ble_eq_true rfl) (fun s0 a0 hle F0 ok0 hargs => ?_)
 have p0 := pA hle (hargs 0 _ rfl) hv0
 clear hargs; refine wp_seq ?_
 refine gI a0 s0 ok0 (gC (Ty.val (Value.float FloatKind.f64 0)) (gE ok0 fun a1 s1 ok1 D1 => ?_)); refine tn (wp_seq ?_)
 refine gI a1 s1 ok1 (gM (D1.kt p0 rfl) (gT (Ty.fbits x) rfl (fun A B E G H d0 => rP (y_fbits (fun args_ w_ => run_callFunc_extern Try.func28 (by kernel_rfl) (by kernel_rfl) (by kernel_rfl) (e := Extern.MathFloatBits.float64bits) (by kernel_rfl) args_ w_) (ed d0 rfl rfl rfl))) (gT (Ty.fbits (fabs x)) rfl (fun A B E G H d0 => rP (y_fnosign (ed d0 rfl rfl rfl) rfl)) (gT (Ty.flt (fabs x)) rfl (fun A B E G H d0 d1 => rP (y_fofbits (fun args_ w_ => run_callFunc_extern Try.func27 (by kernel_rfl) (by kernel_rfl) (by kernel_rfl) (e := Extern.MathFloatBits.float64frombits) (by kernel_rfl) args_ w_) (ed d0 rfl rfl rfl))) (gB 0 (gE ok1 fun a2 s2 ok2 D2 => ?_)))))); refine tn (wp_ret ?_)
 exact retL1 rfl ok2 ((F0.step0 D1.stp).step0 D2.stp) (D2.dn 4 rfl rfl)


theorem Try.fld50_0 : fieldOf Try.prog 50 0 = some (23, 0) := by kernel_rfl
theorem Try.fld50_1 : fieldOf Try.prog 50 1 = some (23, 1) := by kernel_rfl
set_option maxHeartbeats 4000000 in
set_option maxRecDepth 100000 in
theorem sumAdd_fn (p : Value) (z : SFV) (x : FV) (σ : GW) (hlow : Low [41] σ) (v0 v1 : Value) (hv0 : Ty.has (Ty.val p) σ v0) (hv1 : Ty.has (Ty.flt x) σ v1) (ho_p : OwnP σ 41 p [(Ty.flt z.1), (Ty.flt z.2)])  :
    FnL Try.prog 18 #[v0, v1] σ [41] (fun v τ => True ∧ (OwnP τ 41 p [(Ty.flt (addS z x).1), (Ty.flt (addS z x).2)])) := by
 refine fn_introL hlow Try.func18 rfl Try.ntmps18 (Nat.le_of_ble_eq_true rfl) (fun a0 F0 ok0 hargs => ?_)
 have p0 := pB (hargs 0 _ rfl) hv0
 have p1 := pB (hargs 1 _ rfl) hv1
 clear hargs; refine wp_seq ?_
 refine gI a0 σ ok0 (gM p0 (gT (Ty.val p) rfl (fun A B E G H d0 => rP (y_nilp (OwnP.k0 ho_p E) (ed d0 rfl rfl rfl))) (gT (Ty.val (ptrAt p 0)) rfl (fun A B E G H d0 => rP (ownp_field Try.fld50_0 Try.inf23 (by decide) (OwnP.k0 ho_p E) (ed d0 rfl rfl rfl))) (gS rfl (fun A B E G H d0 => rP (ownp_load Try.underlying23 rfl (OwnP.k0 ho_p E) (ed d0 rfl rfl rfl) rfl)) (gM p1 (gT (Ty.flt (fadd z.1 x)) rfl (fun A B E G H d0 d1 => rP (y_fadd (ed d0 rfl rfl rfl) (ed d1 rfl rfl rfl))) (gB 0 (gE ok0 fun a1 s1 ok1 D1 => ?_)))))))); have q1 := D1.kt p0 rfl; have q2 := D1.kt p1 rfl; have o1 := OwnP.k0 ho_p D1.stp; refine tn (wp_seq (wp_seq ?_))
 refine gI a1 s1 ok1 (gM q1 (gT (Ty.val p) rfl (fun A B E G H d0 => rP (y_nilp (OwnP.k0 o1 E) (ed d0 rfl rfl rfl))) (gT (Ty.val (ptrAt p 0)) rfl (fun A B E G H d0 => rP (ownp_field Try.fld50_0 Try.inf23 (by decide) (OwnP.k0 o1 E) (ed d0 rfl rfl rfl))) (gS rfl (fun A B E G H d0 => rP (ownp_load Try.underlying23 rfl (OwnP.k0 o1 E) (ed d0 rfl rfl rfl) rfl)) (gS rfl (fun A B E G H d0 => rP (y_call _ Try.func20 rfl rfl my1 (mAbs_fn (z.1) _ _ (ed d0 rfl rfl rfl) ))) (gM q2 (gS rfl (fun A B E G H d0 d1 => rP (y_call _ Try.func20 rfl rfl my1 (mAbs_fn (x) _ _ (ed d0 rfl rfl rfl) ))) (gT (Ty.bool (fGe (fabs (z.1)) (fabs x))) rfl (fun A B E G H d0 d1 => rP (y_fgeq (ed d0 rfl rfl rfl) (ed d1 rfl rfl rfl))) (gE ok1 fun a2 s2 ok2 D2 => ?_))))))))); have F2 := (F0.step0 D1.stp).step0 D2.stp; have q4 := D2.kt q1 rfl; have q5 := D2.kt q2 rfl; have q6 := D2.kt (D1.dn 6 rfl rfl) rfl; have o2 := OwnP.k0 o1 D2.stp; refine tn ?_
 refine cond_t (D2.dn 7 rfl rfl) (fun c1 => ?_) (fun c1 => ?_)
 ·
  refine gI a2 s2 ok2 (gM q4 (gT (Ty.val p) rfl (fun A B E G H d0 => rP (y_nilp (OwnP.k0 o2 E) (ed d0 rfl rfl rfl))) (gT (Ty.val (ptrAt p 1)) rfl (fun A B E G H d0 => rP (ownp_field Try.fld50_1 Try.inf23 (by decide) (OwnP.k0 o2 E) (ed d0 rfl rfl rfl))) (gS rfl (fun A B E G H d0 => rP (ownp_load Try.underlying23 rfl (OwnP.k0 o2 E) (ed d0 rfl rfl rfl) rfl)) (gM q4 (gT (Ty.val p) rfl (fun A B E G H d0 => rP (y_nilp (OwnP.k0 o2 E) (ed d0 rfl rfl rfl))) (gT (Ty.val (ptrAt p 0)) rfl (fun A B E G H d0 => rP (ownp_field Try.fld50_0 Try.inf23 (by decide) (OwnP.k0 o2 E) (ed d0 rfl rfl rfl))) (gS rfl (fun A B E G H d0 => rP (ownp_load Try.underlying23 rfl (OwnP.k0 o2 E) (ed d0 rfl rfl rfl) rfl)) (gM q6 (gT (Ty.flt (fsub z.1 (fadd z.1 x))) rfl (fun A B E G H d0 d1 => rP (y_fsub (ed d0 rfl rfl rfl) (ed d1 rfl rfl rfl))) (gM q5 (gT (Ty.flt (fadd (fsub z.1 (fadd z.1 x)) x)) rfl (fun A B E G H d0 d1 => rP (y_fadd (ed d0 rfl rfl rfl) (ed d1 rfl rfl rfl))) (gT (Ty.flt (fadd z.2 (fadd (fsub z.1 (fadd z.1 x)) x))) rfl (fun A B E G H d0 d1 => rP (y_fadd (ed d0 rfl rfl rfl) (ed d1 rfl rfl rfl))) (gT (Ty.val p) rfl (fun A B E G H d0 d1 d2 d3 d4 d5 d6 d7 d8 d9 d10 d11 d12 d13 => rP (y_nilp (OwnP.k0 o2 E) (ed d0 rfl rfl rfl))) (gT (Ty.val (ptrAt p 1)) rfl (fun A B E G H d0 d1 d2 d3 d4 d5 d6 d7 d8 d9 d10 d11 d12 d13 => rP (ownp_field Try.fld50_1 Try.inf23 (by decide) (OwnP.k0 o2 E) (ed d0 rfl rfl rfl))) (gE2 ok2 fun a3 s3 ok3 D3 => ?_)))))))))))))))); have o3 := OwnP.k0 o2 D3.stp
  refine tailL0 (L := [41]) (R := (fun _ τ => OwnP τ 41 p ([(Ty.flt z.1), (Ty.flt z.2)].set 1 (Ty.flt (fadd z.2 (fadd (fsub z.1 (fadd z.1 x)) x)))))) rfl rfl (YldM.toL (m_storep Try.inf23 (by decide) o3 (D3.dn 14 (by decide) rfl rfl) (Nat.le_of_ble_eq_true rfl) (D3.dn 12 (by decide) rfl rfl) (one_flt))) (fun v1 s4 hs1 r1 => ?_)
  have F4 := (F2.step0 D3.stp).stepL hs1 (by decide); have q12 := kpL hs1 (by decide) rfl (D3.kt q4 rfl); have q13 := kpL hs1 (by decide) rfl (D3.kt q6 rfl)
  have o4 : OwnP s4 41 p [(Ty.flt z.1), (Ty.flt (fadd z.2 (fadd (fsub z.1 (fadd z.1 x)) x)))] := r1
  clear r1; refine wpList_nil (tn ?_)
  refine gI a3 s4 ok3 (gM q12 (gM q13 (gT (Ty.val p) rfl (fun A B E G H d0 d1 d2 => rP (y_nilp (OwnP.k0 o4 E) (ed d0 rfl rfl rfl))) (gT (Ty.val (ptrAt p 0)) rfl (fun A B E G H d0 d1 d2 => rP (ownp_field Try.fld50_0 Try.inf23 (by decide) (OwnP.k0 o4 E) (ed d0 rfl rfl rfl))) (gE2 ok3 fun a4 s5 ok4 D4 => ?_))))); have o5 := OwnP.k0 o4 D4.stp
  refine tailL0 (L := [41]) (R := (fun _ τ => OwnP τ 41 p ([(Ty.flt z.1), (Ty.flt (fadd z.2 (fadd (fsub z.1 (fadd z.1 x)) x)))].set 0 (Ty.flt (fadd z.1 x))))) rfl rfl (YldM.toL (m_storep Try.inf23 (by decide) o5 (D4.dn 3 (by decide) rfl rfl) (Nat.le_of_ble_eq_true rfl) (D4.dn 1 (by decide) rfl rfl) (one_flt))) (fun v2 s6 hs2 r2 => ?_)
  have F6 := (F4.step0 D4.stp).stepL hs2 (by decide)
  have o6 : OwnP s6 41 p [(Ty.flt (fadd z.1 x)), (Ty.flt (fadd z.2 (fadd (fsub z.1 (fadd z.1 x)) x)))] := r2
  clear r2; refine wpList_nil ?_
  exact nL0 rfl ok4 F6 ⟨trivial, (ownp_cell 1 (Ty.flt (addS z x).2) (ownp_cell 0 (Ty.flt (addS z x).1) o6 rfl (fun _ _ h => (cvf (by (rfl)) h))) rfl (fun _ _ h => (cvf (by (simp only [addS, c1, if_true])) h)))⟩
 ·
  refine gI a2 s2 ok2 (gM q4 (gT (Ty.val p) rfl (fun A B E G H d0 => rP (y_nilp (OwnP.k0 o2 E) (ed d0 rfl rfl rfl))) (gT (Ty.val (ptrAt p 1)) rfl (fun A B E G H d0 => rP (ownp_field Try.fld50_1 Try.inf23 (by decide) (OwnP.k0 o2 E) (ed d0 rfl rfl rfl))) (gS rfl (fun A B E G H d0 => rP (ownp_load Try.underlying23 rfl (OwnP.k0 o2 E) (ed d0 rfl rfl rfl) rfl)) (gM q5 (gM q6 (gT (Ty.flt (fsub x (fadd z.1 x))) rfl (fun A B E G H d0 d1 => rP (y_fsub (ed d0 rfl rfl rfl) (ed d1 rfl rfl rfl))) (gM q4 (gT (Ty.val p) rfl (fun A B E G H d0 => rP (y_nilp (OwnP.k0 o2 E) (ed d0 rfl rfl rfl))) (gT (Ty.val (ptrAt p 0)) rfl (fun A B E G H d0 => rP (ownp_field Try.fld50_0 Try.inf23 (by decide) (OwnP.k0 o2 E) (ed d0 rfl rfl rfl))) (gS rfl (fun A B E G H d0 => rP (ownp_load Try.underlying23 rfl (OwnP.k0 o2 E) (ed d0 rfl rfl rfl) rfl)) (gT (Ty.flt (fadd (fsub x (fadd z.1 x)) z.1)) rfl (fun A B E G H d0 d1 => rP (y_fadd (ed d0 rfl rfl rfl) (ed d1 rfl rfl rfl))) (gT (Ty.flt (fadd z.2 (fadd (fsub x (fadd z.1 x)) z.1))) rfl (fun A B E G H d0 d1 => rP (y_fadd (ed d0 rfl rfl rfl) (ed d1 rfl rfl rfl))) (gT (Ty.val p) rfl (fun A B E G H d0 d1 d2 d3 d4 d5 d6 d7 d8 d9 d10 d11 d12 d13 => rP (y_nilp (OwnP.k0 o2 E) (ed d0 rfl rfl rfl))) (gT (Ty.val (ptrAt p 1)) rfl (fun A B E G H d0 d1 d2 d3 d4 d5 d6 d7 d8 d9 d10 d11 d12 d13 => rP (ownp_field Try.fld50_1 Try.inf23 (by decide) (OwnP.k0 o2 E) (ed d0 rfl rfl rfl))) (gE2 ok2 fun a5 s7 ok5 D5 => ?_)))))))))))))))); have o7 := OwnP.k0 o2 D5.stp
  refine tailL0 (L := [41]) (R := (fun _ τ => OwnP τ 41 p ([(Ty.flt z.1), (Ty.flt z.2)].set 1 (Ty.flt (fadd z.2 (fadd (fsub x (fadd z.1 x)) z.1)))))) rfl rfl (YldM.toL (m_storep Try.inf23 (by decide) o7 (D5.dn 14 (by decide) rfl rfl) (Nat.le_of_ble_eq_true rfl) (D5.dn 12 (by decide) rfl rfl) (one_flt))) (fun v3 s8 hs3 r3 => ?_)
  have F8 := (F2.step0 D5.stp).stepL hs3 (by decide); have q22 := kpL hs3 (by decide) rfl (D5.kt q4 rfl); have q23 := kpL hs3 (by decide) rfl (D5.kt q6 rfl)
  have o8 : OwnP s8 41 p [(Ty.flt z.1), (Ty.flt (fadd z.2 (fadd (fsub x (fadd z.1 x)) z.1)))] := r3
  clear r3; refine wpList_nil (tn ?_)
  refine gI a5 s8 ok5 (gM q22 (gM q23 (gT (Ty.val p) rfl (fun A B E G H d0 d1 d2 => rP (y_nilp (OwnP.k0 o8 E) (ed d0 rfl rfl rfl))) (gT (Ty.val (ptrAt p 0)) rfl (fun A B E G H d0 d1 d2 => rP (ownp_field Try.fld50_0 Try.inf23 (by decide) (OwnP.k0 o8 E) (ed d0 rfl rfl rfl))) (gE2 ok5 fun a6 s9 ok6 D6 => ?_))))); have o9 := OwnP.k0 o8 D6.stp
  refine tailL0 (L := [41]) (R := (fun _ τ => OwnP τ 41 p ([(Ty.flt z.1), (Ty.flt (fadd z.2 (fadd (fsub x (fadd z.1 x)) z.1)))].set 0 (Ty.flt (fadd z.1 x))))) rfl rfl (YldM.toL (m_storep Try.inf23 (by decide) o9 (D6.dn 3 (by decide) rfl rfl) (Nat.le_of_ble_eq_true rfl) (D6.dn 1 (by decide) rfl rfl) (one_flt))) (fun v4 s10 hs4 r4 => ?_)
  have F10 := (F8.step0 D6.stp).stepL hs4 (by decide)
  have o10 : OwnP s10 41 p [(Ty.flt (fadd z.1 x)), (Ty.flt (fadd z.2 (fadd (fsub x (fadd z.1 x)) z.1)))] := r4
  clear r4; refine wpList_nil ?_
  exact nL0 rfl ok6 F10 ⟨trivial, (ownp_cell 1 (Ty.flt (addS z x).2) (ownp_cell 0 (Ty.flt (addS z x).1) o10 rfl (fun _ _ h => (cvf (by (rfl)) h))) rfl (fun _ _ h => (cvf (by (simp only [addS, c1, Bool.false_eq_true, if_false])) h)))⟩


set_option maxHeartbeats 4000000 in
set_option maxRecDepth 100000 in
theorem sumValF_fn (z : SFV) (σ : GW)  (v0 : Value) (hv0 : Ty.has (Ty.ref [(Ty.flt z.1), (Ty.flt z.2)]) σ v0)   :
    FnC Try.prog 19 #[v0] σ (Ty.flt (valS z)) := by
 refine fn_intro0 Try.func19 rfl Try.ntmps19 (Nat.le_of_ble_eq_true rfl) (fun s0 a0 hle F0 ok0 hargs => ?_)
 have p0 := pA hle (hargs 0 _ rfl) hv0
 clear hargs; refine wp_seq ?_
 refine gI a0 s0 ok0 (gC (Ty.val (Value.float FloatKind.f64 0)) (gE ok0 fun a1 s1 ok1 D1 => ?_)); have q1 := D1.kt p0 rfl; refine tn (wp_seq ?_)
 refine gI a1 s1 ok1 (gM q1 (gS rfl (fun A B E G H d0 => rP (y_nilr (ed d0 rfl rfl rfl))) (gS rfl (fun A B E G H d0 => rP (y_field Try.fld50_0 Try.inf23 (by decide) (ed d0 rfl rfl rfl) rfl)) (gS rfl (fun A B E G H d0 => rP (y_load Try.underlying23 rfl (ed d0 rfl rfl rfl) rfl)) (gM q1 (gS rfl (fun A B E G H d0 => rP (y_nilr (ed d0 rfl rfl rfl))) (gS rfl (fun A B E G H d0 => rP (y_field Try.fld50_1 Try.inf23 (by decide) (ed d0 rfl rfl rfl) rfl)) (gS rfl (fun A B E G H d0 => rP (y_load Try.underlying23 rfl (ed d0 rfl rfl rfl) rfl)) (gT (Ty.flt (fadd z.1 z.2)) rfl (fun A B E G H d0 d1 => rP (y_fadd (ed d0 rfl rfl rfl) (ed d1 rfl rfl rfl))) (gB 0 (gE ok1 fun a2 s2 ok2 D2 => ?_))))))))))); refine tn (wp_ret ?_)
 exact retL1 rfl ok2 ((F0.step0 D1.stp).step0 D2.stp) (cvf (by (rfl)) (D2.dn 9 rfl rfl))


set_option maxHeartbeats 4000000 in
set_option maxRecDepth 100000 in
theorem mSqrt_fn (x : FV) (σ : GW)  (v0 : Value) (hv0 : Ty.has (Ty.flt x) σ v0)   :
    FnC Try.prog 21 #[v0] σ (Ty.flt (fsqrt x)) := by
 refine fn_intro0 Try.func21 rfl Try.ntmps21 (Nat.le_of_ble_eq_true rfl) (fun s0 a0 hle F0 ok0 hargs => ?_)
 have p0 := pA hle (hargs 0 _ rfl) hv0
 clear hargs; refine wp_seq ?_
 refine gI a0 s0 ok0 (gC (Ty.val (Value.float FloatKind.f64 0)) (gE ok0 fun a1 s1 ok1 D1 => ?_)); refine tn (wp_seq ?_)
 refine gI a1 s1 ok1 (gM (D1.kt p0 rfl) (gT (Ty.flt (fsqrt x)) rfl (fun A B E G H d0 => rP (y_fsqrt (fun args_ w_ => run_callFunc_extern Try.func29 (by kernel_rfl) (by kernel_rfl) (by kernel_rfl) (e := Extern.MathSqrt.sqrt) (by kernel_rfl) args_ w_) (ed d0 rfl rfl rfl))) (gB 0 (gE ok1 fun a2 s2 ok2 D2 => ?_)))); refine tn (wp_ret ?_)
 exact retL1 rfl ok2 ((F0.step0 D1.stp).step0 D2.stp) (D2.dn 2 rfl rfl)


set_option maxHeartbeats 4000000 in
set_option maxRecDepth 100000 in
theorem sumAddR_fn (rv : Value) (rn : Nat) (xs : List SFV) (ix : Nat) (x : FV) (σ : GW) (hlow : Low [41] σ) (v0 v1 : Value) (hv0 : Ty.has (Ty.val (cellPtr rv (ix * 2))) σ v0) (hv1 : Ty.has (Ty.flt x) σ v1) (ho_rv : Own σ 41 50 2 rv rn (List.flatMap sumC xs)) (hrn : xs.length = rn) (hix : ix < xs.length) :
    FnL Try.prog 18 #[v0, v1] σ [41] (fun v τ => True ∧ (Own τ 41 50 2 rv rn (List.flatMap sumC (xs.set ix (addS (xs.getD ix S0) x))))) := by
 refine fn_introL hlow Try.func18 rfl Try.ntmps18 (Nat.le_of_ble_eq_true rfl) (fun a0 F0 ok0 hargs => ?_)
 have p0 := pB (hargs 0 _ rfl) hv0
 have p1 := pB (hargs 1 _ rfl) hv1
 clear hargs; refine wp_seq ?_
 refine gI a0 σ ok0 (gM p0 (gT (Ty.val (cellPtr rv (ix * 2))) rfl (fun A B E G H d0 => rP (y_nilc (Own.k0 ho_rv E) (by omega) (ed d0 rfl rfl rfl))) (gT (Ty.val (cellPtr rv (ix * 2 + 0))) rfl (fun A B E G H d0 => rP (y_fieldc Try.fld50_0 Try.inf23 (by decide) (Own.k0 ho_rv E) (by omega) (ed d0 rfl rfl rfl))) (gS rfl (fun A B E G H d0 => rP (own_load Try.underlying23 rfl (Own.k0 ho_rv E) (ed d0 rfl rfl rfl) (sums_get0 (by omega)))) (gM p1 (gT (Ty.flt (fadd (xs.getD ix S0).1 x)) rfl (fun A B E G H d0 d1 => rP (y_fadd (ed d0 rfl rfl rfl) (ed d1 rfl rfl rfl))) (gB 0 (gE ok0 fun a1 s1 ok1 D1 => ?_)))))))); have q1 := D1.kt p0 rfl; have q2 := D1.kt p1 rfl; have o1 := Own.k0 ho_rv D1.stp; refine tn (wp_seq (wp_seq ?_))
 refine gI a1 s1 ok1 (gM q1 (gT (Ty.val (cellPtr rv (ix * 2))) rfl (fun A B E G H d0 => rP (y_nilc (Own.k0 o1 E) (by omega) (ed d0 rfl rfl rfl))) (gT (Ty.val (cellPtr rv (ix * 2 + 0))) rfl (fun A B E G H d0 => rP (y_fieldc Try.fld50_0 Try.inf23 (by decide) (Own.k0 o1 E) (by omega) (ed d0 rfl rfl rfl))) (gS rfl (fun A B E G H d0 => rP (own_load Try.underlying23 rfl (Own.k0 o1 E) (ed d0 rfl rfl rfl) (sums_get0 (by omega)))) (gS rfl (fun A B E G H d0 => rP (y_call _ Try.func20 rfl rfl my1 (mAbs_fn ((xs.getD ix S0).1) _ _ (ed d0 rfl rfl rfl) ))) (gM q2 (gS rfl (fun A B E G H d0 d1 => rP (y_call _ Try.func20 rfl rfl my1 (mAbs_fn (x) _ _ (ed d0 rfl rfl rfl) ))) (gT (Ty.bool (fGe (fabs ((xs.getD ix S0).1)) (fabs x))) rfl (fun A B E G H d0 d1 => rP (y_fgeq (ed d0 rfl rfl rfl) (ed d1 rfl rfl rfl))) (gE ok1 fun a2 s2 ok2 D2 => ?_))))))))); have F2 := (F0.step0 D1.stp).step0 D2.stp; have q4 := D2.kt q1 rfl; have q5 := D2.kt q2 rfl; have q6 := D2.kt (D1.dn 6 rfl rfl) rfl; have o2 := Own.k0 o1 D2.stp; refine tn ?_
 refine cond_t (D2.dn 7 rfl rfl) (fun c1 => ?_) (fun c1 => ?_)
 ·
  refine gI a2 s2 ok2 (gM q4 (gT (Ty.val (cellPtr rv (ix * 2))) rfl (fun A B E G H d0 => rP (y_nilc (Own.k0 o2 E) (by omega) (ed d0 rfl rfl rfl))) (gT (Ty.val (cellPtr rv (ix * 2 + 1))) rfl (fun A B E G H d0 => rP (y_fieldc Try.fld50_1 Try.inf23 (by decide) (Own.k0 o2 E) (by omega) (ed d0 rfl rfl rfl))) (gS rfl (fun A B E G H d0 => rP (own_load Try.underlying23 rfl (Own.k0 o2 E) (ed d0 rfl rfl rfl) (sums_get1 (by omega)))) (gM q4 (gT (Ty.val (cellPtr rv (ix * 2))) rfl (fun A B E G H d0 => rP (y_nilc (Own.k0 o2 E) (by omega) (ed d0 rfl rfl rfl))) (gT (Ty.val (cellPtr rv (ix * 2 + 0))) rfl (fun A B E G H d0 => rP (y_fieldc Try.fld50_0 Try.inf23 (by decide) (Own.k0 o2 E) (by omega) (ed d0 rfl rfl rfl))) (gS rfl (fun A B E G H d0 => rP (own_load Try.underlying23 rfl (Own.k0 o2 E) (ed d0 rfl rfl rfl) (sums_get0 (by omega)))) (gM q6 (gT (Ty.flt (fsub (xs.getD ix S0).1 (fadd (xs.getD ix S0).1 x))) rfl (fun A B E G H d0 d1 => rP (y_fsub (ed d0 rfl rfl rfl) (ed d1 rfl rfl rfl))) (gM q5 (gT (Ty.flt (fadd (fsub (xs.getD ix S0).1 (fadd (xs.getD ix S0).1 x)) x)) rfl (fun A B E G H d0 d1 => rP (y_fadd (ed d0 rfl rfl rfl) (ed d1 rfl rfl rfl))) (gT (Ty.flt (fadd (xs.getD ix S0).2 (fadd (fsub (xs.getD ix S0).1 (fadd (xs.getD ix S0).1 x)) x))) rfl (fun A B E G H d0 d1 => rP (y_fadd (ed d0 rfl rfl rfl) (ed d1 rfl rfl rfl))) (gT (Ty.val (cellPtr rv (ix * 2))) rfl (fun A B E G H d0 d1 d2 d3 d4 d5 d6 d7 d8 d9 d10 d11 d12 d13 => rP (y_nilc (Own.k0 o2 E) (by omega) (ed d0 rfl rfl rfl))) (gT (Ty.val (cellPtr rv (ix * 2 + 1))) rfl (fun A B E G H d0 d1 d2 d3 d4 d5 d6 d7 d8 d9 d10 d11 d12 d13 => rP (y_fieldc Try.fld50_1 Try.inf23 (by decide) (Own.k0 o2 E) (by omega) (ed d0 rfl rfl rfl))) (gE2 ok2 fun a3 s3 ok3 D3 => ?_)))))))))))))))); have o3 := Own.k0 o2 D3.stp
  refine tailL0 (L := [41]) (R := (fun _ τ => Own τ 41 50 2 rv rn ((List.flatMap sumC xs).set (ix * 2 + 1) (Ty.flt (fadd (xs.getD ix S0).2 (fadd (fsub (xs.getD ix S0).1 (fadd (xs.getD ix S0).1 x)) x)))))) rfl rfl (YldM.toL (m_store Try.inf23 (by decide) o3 (D3.dn 14 (by decide) rfl rfl) (by rw [sums_len]; omega) (D3.dn 12 (by decide) rfl rfl) one_flt)) (fun v1 s4 hs1 r1 => ?_)
  have F4 := (F2.step0 D3.stp).stepL hs1 (by decide); have q12 := kpL hs1 (by decide) rfl (D3.kt q4 rfl); have q13 := kpL hs1 (by decide) rfl (D3.kt q6 rfl)
  have o4 : Own s4 41 50 2 rv rn (List.flatMap sumC (xs.set ix ((xs.getD ix S0).1, (fadd (xs.getD ix S0).2 (fadd (fsub (xs.getD ix S0).1 (fadd (xs.getD ix S0).1 x)) x))))) := (cvo rfl (sums_set1 (by omega)) r1)
  clear r1; refine wpList_nil (tn ?_)
  refine gI a3 s4 ok3 (gM q12 (gM q13 (gT (Ty.val (cellPtr rv (ix * 2))) rfl (fun A B E G H d0 d1 d2 => rP (y_nilc (Own.k0 o4 E) (by omega) (ed d0 rfl rfl rfl))) (gT (Ty.val (cellPtr rv (ix * 2 + 0))) rfl (fun A B E G H d0 d1 d2 => rP (y_fieldc Try.fld50_0 Try.inf23 (by decide) (Own.k0 o4 E) (by omega) (ed d0 rfl rfl rfl))) (gE2 ok3 fun a4 s5 ok4 D4 => ?_))))); have o5 := Own.k0 o4 D4.stp
  refine tailL0 (L := [41]) (R := (fun _ τ => Own τ 41 50 2 rv rn ((List.flatMap sumC (xs.set ix ((xs.getD ix S0).1, (fadd (xs.getD ix S0).2 (fadd (fsub (xs.getD ix S0).1 (fadd (xs.getD ix S0).1 x)) x))))).set (ix * 2 + 0) (Ty.flt (fadd (xs.getD ix S0).1 x))))) rfl rfl (YldM.toL (m_store Try.inf23 (by decide) o5 (D4.dn 3 (by decide) rfl rfl) (by rw [sums_len]; simp only [List.length_set]; omega) (D4.dn 1 (by decide) rfl rfl) one_flt)) (fun v2 s6 hs2 r2 => ?_)
  have F6 := (F4.step0 D4.stp).stepL hs2 (by decide)
  have o6 : Own s6 41 50 2 rv rn (List.flatMap sumC ((xs.set ix ((xs.getD ix S0).1, (fadd (xs.getD ix S0).2 (fadd (fsub (xs.getD ix S0).1 (fadd (xs.getD ix S0).1 x)) x)))).set ix ((fadd (xs.getD ix S0).1 x), ((xs.set ix ((xs.getD ix S0).1, (fadd (xs.getD ix S0).2 (fadd (fsub (xs.getD ix S0).1 (fadd (xs.getD ix S0).1 x)) x)))).getD ix S0).2))) := (cvo rfl (sums_set0 (by simp only [List.length_set]; omega)) r2)
  clear r2; refine wpList_nil ?_
  exact nL0 rfl ok4 F6 ⟨trivial, (cvo (by (first | (simp only [List.length_set]; done) | (rw [getD_set_self S0 hix, set_setS]; simp only [addS, c1, if_true]))) (by (first | (simp only [List.length_set]; done) | (rw [getD_set_self S0 hix, set_setS]; simp only [addS, c1, if_true]))) o6)⟩
 ·
  refine gI a2 s2 ok2 (gM q4 (gT (Ty.val (cellPtr rv (ix * 2))) rfl (fun A B E G H d0 => rP (y_nilc (Own.k0 o2 E) (by omega) (ed d0 rfl rfl rfl))) (gT (Ty.val (cellPtr rv (ix * 2 + 1))) rfl (fun A B E G H d0 => rP (y_fieldc Try.fld50_1 Try.inf23 (by decide) (Own.k0 o2 E) (by omega) (ed d0 rfl rfl rfl))) (gS rfl (fun A B E G H d0 => rP (own_load Try.underlying23 rfl (Own.k0 o2 E) (ed d0 rfl rfl rfl) (sums_get1 (by omega)))) (gM q5 (gM q6 (gT (Ty.flt (fsub x (fadd (xs.getD ix S0).1 x))) rfl (fun A B E G H d0 d1 => rP (y_fsub (ed d0 rfl rfl rfl) (ed d1 rfl rfl rfl))) (gM q4 (gT (Ty.val (cellPtr rv (ix * 2))) rfl (fun A B E G H d0 => rP (y_nilc (Own.k0 o2 E) (by omega) (ed d0 rfl rfl rfl))) (gT (Ty.val (cellPtr rv (ix * 2 + 0))) rfl (fun A B E G H d0 => rP (y_fieldc Try.fld50_0 Try.inf23 (by decide) (Own.k0 o2 E) (by omega) (ed d0 rfl rfl rfl))) (gS rfl (fun A B E G H d0 => rP (own_load Try.underlying23 rfl (Own.k0 o2 E) (ed d0 rfl rfl rfl) (sums_get0 (by omega)))) (gT (Ty.flt (fadd (fsub x (fadd (xs.getD ix S0).1 x)) (xs.getD ix S0).1)) rfl (fun A B E G H d0 d1 => rP (y_fadd (ed d0 rfl rfl rfl) (ed d1 rfl rfl rfl))) (gT (Ty.flt (fadd (xs.getD ix S0).2 (fadd (fsub x (fadd (xs.getD ix S0).1 x)) (xs.getD ix S0).1))) rfl (fun A B E G H d0 d1 => rP (y_fadd (ed d0 rfl rfl rfl) (ed d1 rfl rfl rfl))) (gT (Ty.val (cellPtr rv (ix * 2))) rfl (fun A B E G H d0 d1 d2 d3 d4 d5 d6 d7 d8 d9 d10 d11 d12 d13 => rP (y_nilc (Own.k0 o2 E) (by omega) (ed d0 rfl rfl rfl))) (gT (Ty.val (cellPtr rv (ix * 2 + 1))) rfl (fun A B E G H d0 d1 d2 d3 d4 d5 d6 d7 d8 d9 d10 d11 d12 d13 => rP (y_fieldc Try.fld50_1 Try.inf23 (by decide) (Own.k0 o2 E) (by omega) (ed d0 rfl rfl rfl))) (gE2 ok2 fun a5 s7 ok5 D5 => ?_)))))))))))))))); have o7 := Own.k0 o2 D5.stp
  refine tailL0 (L := [41]) (R := (fun _ τ => Own τ 41 50 2 rv rn ((List.flatMap sumC xs).set (ix * 2 + 1) (Ty.flt (fadd (xs.getD ix S0).2 (fadd (fsub x (fadd (xs.getD ix S0).1 x)) (xs.getD ix S0).1)))))) rfl rfl (YldM.toL (m_store Try.inf23 (by decide) o7 (D5.dn 14 (by decide) rfl rfl) (by rw [sums_len]; omega) (D5.dn 12 (by decide) rfl rfl) one_flt)) (fun v3 s8 hs3 r3 => ?_)
  have F8 := (F2.step0 D5.stp).stepL hs3 (by decide); have q22 := kpL hs3 (by decide) rfl (D5.kt q4 rfl); have q23 := kpL hs3 (by decide) rfl (D5.kt q6 rfl)
  have o8 : Own s8 41 50 2 rv rn (List.flatMap sumC (xs.set ix ((xs.getD ix S0).1, (fadd (xs.getD ix S0).2 (fadd (fsub x (fadd (xs.getD ix S0).1 x)) (xs.getD ix S0).1))))) := (cvo rfl (sums_set1 (by omega)) r3)
  clear r3; refine wpList_nil (tn ?_)
  refine gI a5 s8 ok5 (gM q22 (gM q23 (gT (Ty.val (cellPtr rv (ix * 2))) rfl (fun A B E G H d0 d1 d2 => rP (y_nilc (Own.k0 o8 E) (by omega) (ed d0 rfl rfl rfl))) (gT (Ty.val (cellPtr rv (ix * 2 + 0))) rfl (fun A B E G H d0 d1 d2 => rP (y_fieldc Try.fld50_0 Try.inf23 (by decide) (Own.k0 o8 E) (by omega) (ed d0 rfl rfl rfl))) (gE2 ok5 fun a6 s9 ok6 D6 => ?_))))); have o9 := Own.k0 o8 D6.stp
  refine tailL0 (L := [41]) (R := (fun _ τ => Own τ 41 50 2 rv rn ((List.flatMap sumC (xs.set ix ((xs.getD ix S0).1, (fadd (xs.getD ix S0).2 (fadd (fsub x (fadd (xs.getD ix S0).1 x)) (xs.getD ix S0).1))))).set (ix * 2 + 0) (Ty.flt (fadd (xs.getD ix S0).1 x))))) rfl rfl (YldM.toL (m_store Try.inf23 (by decide) o9 (D6.dn 3 (by decide) rfl rfl) (by rw [sums_len]; simp only [List.length_set]; omega) (D6.dn 1 (by decide) rfl rfl) one_flt)) (fun v4 s10 hs4 r4 => ?_)
  have F10 := (F8.step0 D6.stp).stepL hs4 (by decide)
  have o10 : Own s10 41 50 2 rv rn (List.flatMap sumC ((xs.set ix ((xs.getD ix S0).1, (fadd (xs.getD ix S0).2 (fadd (fsub x (fadd (xs.getD ix S0).1 x)) (xs.getD ix S0).1)))).set ix ((fadd (xs.getD ix S0).1 x), ((xs.set ix ((xs.getD ix S0).1, (fadd (xs.getD ix S0).2 (fadd (fsub x (fadd (xs.getD ix S0).1 x)) (xs.getD ix S0).1)))).getD ix S0).2))) := (cvo rfl (sums_set0 (by simp only [List.length_set]; omega)) r4)
  clear r4; refine wpList_nil ?_
  exact nL0 rfl ok6 F10 ⟨trivial, (cvo (by (first | (simp only [List.length_set]; done) | (rw [getD_set_self S0 hix, set_setS]; simp only [addS, c1, Bool.false_eq_true, if_false]))) (by (first | (simp only [List.length_set]; done) | (rw [getD_set_self S0 hix, set_setS]; simp only [addS, c1, Bool.false_eq_true, if_false]))) o10)⟩


end Go.Proofs.Ytmeijdkjccfpmaa
