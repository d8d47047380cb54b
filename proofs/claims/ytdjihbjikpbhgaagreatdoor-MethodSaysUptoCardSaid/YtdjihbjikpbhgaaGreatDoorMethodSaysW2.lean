/- The functions that the law MethodSays reaches, each by its contract. Part 2. -/
import Derived.Test.YtdjihbjikpbhgaaGreatDoorMethodSaysW1
namespace Go.Proofs.YtdjihbjikpbhgaaGreatDoor
open Go.KL

set_option maxHeartbeats 4000000 in
set_option maxRecDepth 100000 in
theorem rIsName_fn (s : ByteArray) (σ : GW)  (v0 : Value) (hv0 : Ty.has (Ty.val (Value.string s)) σ v0)  (E : s.size ≤ 17592186044416) :
    FnC Tryz.prog 6 #[v0] σ (Ty.bool (nameL s)) := by
 obtain ⟨L, hL⟩ : ∃ L, L = runsL s := ⟨_, rfl⟩
 have hne : nameI L = nameL s := by rw [hL, name_eq]
 refine fn_intro0 Tryz.func6 rfl Tryz.ntmps6 (Nat.le_of_ble_eq_true rfl) (fun s0 a0 hle F0 ok0 hargs => ?_)
 have p0 := pA hle (hargs 0 _ rfl) hv0
 clear hargs; refine wp_seq ?_
 refine gI a0 s0 ok0 (gC (Ty.bool false) (gE ok0 fun a1 s1 ok1 D1 => ?_)); refine tn (wp_seq ?_)
 refine gI a1 s1 ok1 (gM (D1.kt p0 rfl) (gT (Ty.lst Ty.int L) rfl (fun A B E G H d0 => rP ((y_call _ Tryz.func28 rfl rfl my1 (rRunes_fn (s) _ _ (ed d0 rfl rfl rfl) (by omega))).mono (fun τ _ h => cvt (σ := τ) (T := (Ty.lst Ty.int (runsL s))) (U := (Ty.lst Ty.int L)) (by rw [hL]) h))) (gB 0 (gE ok1 fun a2 s2 ok2 D2 => ?_)))); have q2 := D2.dn 2 rfl rfl; refine tn (wp_seq (wp_seq ?_))
 refine gI a2 s2 ok2 (gM q2 (gS rfl (fun A B E G H d0 => rP (y_len Tryz.underlying30 (ed d0 rfl rfl rfl))) (gS rfl (fun A B E G H d0 => rP (y_lss (ed d0 rfl rfl rfl) rfl)) (gS rfl (fun A B E G H d0 => rP (y_move (ed d0 rfl rfl rfl))) (gS rfl (fun A B E G H d0 => gu G (ed d0 rfl rfl rfl) fun hg => y_move (kp (H 3 rfl) E q2)) (gS rfl (fun A B E G H d0 d1 => gu G (ed d1 rfl rfl rfl) fun hg => y_len Tryz.underlying30 ((ed d0 rfl rfl rfl).1 hg)) (gS rfl (fun A B E G H d0 d1 => gu G (ed d1 rfl rfl rfl) fun hg => y_gtr ((ed d0 rfl rfl rfl).1 hg) rfl) (gS rfl (fun A B E G H d0 d1 => rP (y_pick_or (ed d0 rfl rfl rfl) rfl (ed d1 rfl rfl rfl))) (gS rfl (fun A B E G H d0 d1 => rP (y_move (ed d0 rfl rfl rfl))) (gT (Ty.grd (((decide ((((List.length L) : Nat) : Int) < (1 : Int))) || (decide ((20 : Int) < (((List.length L) : Nat) : Int)))) = false) (Ty.lst Ty.int L)) rfl (by intro A B E G H d0; refine run_guard G rfl rfl (by decide) (ed d0 rfl rfl rfl) (fun hg => ?_); obtain ⟨d1, d2⟩ := Bool.or_eq_false_iff.mp hg; have d1 := of_decide_eq_false d1; have d2 := of_decide_eq_false d2; exact y_move (kp (H 3 rfl) E q2)) (gT (Ty.grd (((decide ((((List.length L) : Nat) : Int) < (1 : Int))) || (decide ((20 : Int) < (((List.length L) : Nat) : Int)))) = false) (Ty.ref [(Ty.int (L.getD ((0 : Int)).toNat 0))])) rfl (by intro A B E G H d0 d1; refine run_guard G rfl rfl (by decide) (ed d1 rfl rfl rfl) (fun hg => ?_); obtain ⟨d3, d4⟩ := Bool.or_eq_false_iff.mp hg; have d3 := of_decide_eq_false d3; have d4 := of_decide_eq_false d4; exact y_index1 Tryz.underlying30 Tryz.inf3 ((ed d0 rfl rfl rfl).1 hg) rfl (by omega) (lst_get Ty.int L 0 ((0 : Int)).toNat (by omega))) ?_)))))))))))
 refine gT (Ty.grd (((decide ((((List.length L) : Nat) : Int) < (1 : Int))) || (decide ((20 : Int) < (((List.length L) : Nat) : Int)))) = false) (Ty.int (L.getD ((0 : Int)).toNat 0))) rfl (by intro A B E G H d0 d1; refine run_guard G rfl rfl (by decide) (ed d1 rfl rfl rfl) (fun hg => ?_); obtain ⟨d5, d6⟩ := Bool.or_eq_false_iff.mp hg; have d5 := of_decide_eq_false d5; have d6 := of_decide_eq_false d6; exact y_load Tryz.underlying3 rfl ((ed d0 rfl rfl rfl).1 hg) rfl) (gT (Ty.grd (((decide ((((List.length L) : Nat) : Int) < (1 : Int))) || (decide ((20 : Int) < (((List.length L) : Nat) : Int)))) = false) (Ty.bool (decide ((L.getD ((0 : Int)).toNat 0) = (32 : Int))))) rfl (by intro A B E G H d0 d1; refine run_guard G rfl rfl (by decide) (ed d1 rfl rfl rfl) (fun hg => ?_); obtain ⟨d7, d8⟩ := Bool.or_eq_false_iff.mp hg; have d7 := of_decide_eq_false d7; have d8 := of_decide_eq_false d8; exact y_eql ((ed d0 rfl rfl rfl).1 hg) rfl) (gS rfl (fun A B E G H d0 d1 => rP (y_pick_or (ed d0 rfl rfl rfl) rfl (ed d1 rfl rfl rfl))) (gS rfl (fun A B E G H d0 d1 => rP (y_move (ed d0 rfl rfl rfl))) (gT (Ty.grd ((((decide ((((List.length L) : Nat) : Int) < (1 : Int))) || (decide ((20 : Int) < (((List.length L) : Nat) : Int)))) || (decide ((L.getD ((0 : Int)).toNat 0) = (32 : Int)))) = false) (Ty.lst Ty.int L)) rfl (by intro A B E G H d0; refine run_guard G rfl rfl (by decide) (ed d0 rfl rfl rfl) (fun hg => ?_); obtain ⟨d9, d10⟩ := Bool.or_eq_false_iff.mp hg; obtain ⟨d11, d12⟩ := Bool.or_eq_false_iff.mp d9; have d11 := of_decide_eq_false d11; have d12 := of_decide_eq_false d12; have d10 := of_decide_eq_false d10; exact y_move (kp (H 3 rfl) E q2)) ?_))))
 refine gT (Ty.grd ((((decide ((((List.length L) : Nat) : Int) < (1 : Int))) || (decide ((20 : Int) < (((List.length L) : Nat) : Int)))) || (decide ((L.getD ((0 : Int)).toNat 0) = (32 : Int)))) = false) (Ty.lst Ty.int L)) rfl (by intro A B E G H d0; refine run_guard G rfl rfl (by decide) (ed d0 rfl rfl rfl) (fun hg => ?_); obtain ⟨d13, d14⟩ := Bool.or_eq_false_iff.mp hg; obtain ⟨d15, d16⟩ := Bool.or_eq_false_iff.mp d13; have d15 := of_decide_eq_false d15; have d16 := of_decide_eq_false d16; have d14 := of_decide_eq_false d14; exact y_move (kp (H 3 rfl) E q2)) (gT (Ty.grd ((((decide ((((List.length L) : Nat) : Int) < (1 : Int))) || (decide ((20 : Int) < (((List.length L) : Nat) : Int)))) || (decide ((L.getD ((0 : Int)).toNat 0) = (32 : Int)))) = false) (Ty.nat (List.length L))) rfl (by intro A B E G H d0 d1; refine run_guard G rfl rfl (by decide) (ed d1 rfl rfl rfl) (fun hg => ?_); obtain ⟨d17, d18⟩ := Bool.or_eq_false_iff.mp hg; obtain ⟨d19, d20⟩ := Bool.or_eq_false_iff.mp d17; have d19 := of_decide_eq_false d19; have d20 := of_decide_eq_false d20; have d18 := of_decide_eq_false d18; exact y_len Tryz.underlying30 ((ed d0 rfl rfl rfl).1 hg)) (gT (Ty.grd ((((decide ((((List.length L) : Nat) : Int) < (1 : Int))) || (decide ((20 : Int) < (((List.length L) : Nat) : Int)))) || (decide ((L.getD ((0 : Int)).toNat 0) = (32 : Int)))) = false) (Ty.nat ((List.length L) - 1))) rfl (by intro A B E G H d0 d1; refine run_guard G rfl rfl (by decide) (ed d1 rfl rfl rfl) (fun hg => ?_); obtain ⟨d21, d22⟩ := Bool.or_eq_false_iff.mp hg; obtain ⟨d23, d24⟩ := Bool.or_eq_false_iff.mp d21; have d23 := of_decide_eq_false d23; have d24 := of_decide_eq_false d24; have d22 := of_decide_eq_false d22; exact (y_sub ((ed d0 rfl rfl rfl).1 hg) rfl (w64 (by omega) (by omega))).mono (fun τ _ h => cvi (σ := τ) (by omega) h)) ?_))
 refine gT (Ty.grd ((((decide ((((List.length L) : Nat) : Int) < (1 : Int))) || (decide ((20 : Int) < (((List.length L) : Nat) : Int)))) || (decide ((L.getD ((0 : Int)).toNat 0) = (32 : Int)))) = false) (Ty.ref [(Ty.int (L.getD ((List.length L) - 1) 0))])) rfl (by intro A B E G H d0 d1 d2; refine run_guard G rfl rfl (by decide) (ed d2 rfl rfl rfl) (fun hg => ?_); obtain ⟨d25, d26⟩ := Bool.or_eq_false_iff.mp hg; obtain ⟨d27, d28⟩ := Bool.or_eq_false_iff.mp d25; have d27 := of_decide_eq_false d27; have d28 := of_decide_eq_false d28; have d26 := of_decide_eq_false d26; exact y_index1 Tryz.underlying30 Tryz.inf3 ((ed d0 rfl rfl rfl).1 hg) ((ed d1 rfl rfl rfl).1 hg) (by omega) (lst_get Ty.int L 0 ((List.length L) - 1) (by omega))) (gT (Ty.grd ((((decide ((((List.length L) : Nat) : Int) < (1 : Int))) || (decide ((20 : Int) < (((List.length L) : Nat) : Int)))) || (decide ((L.getD ((0 : Int)).toNat 0) = (32 : Int)))) = false) (Ty.int (L.getD ((List.length L) - 1) 0))) rfl (by intro A B E G H d0 d1; refine run_guard G rfl rfl (by decide) (ed d1 rfl rfl rfl) (fun hg => ?_); obtain ⟨d29, d30⟩ := Bool.or_eq_false_iff.mp hg; obtain ⟨d31, d32⟩ := Bool.or_eq_false_iff.mp d29; have d31 := of_decide_eq_false d31; have d32 := of_decide_eq_false d32; have d30 := of_decide_eq_false d30; exact y_load Tryz.underlying3 rfl ((ed d0 rfl rfl rfl).1 hg) rfl) (gT (Ty.grd ((((decide ((((List.length L) : Nat) : Int) < (1 : Int))) || (decide ((20 : Int) < (((List.length L) : Nat) : Int)))) || (decide ((L.getD ((0 : Int)).toNat 0) = (32 : Int)))) = false) (Ty.bool (decide ((L.getD ((List.length L) - 1) 0) = (32 : Int))))) rfl (by intro A B E G H d0 d1; refine run_guard G rfl rfl (by decide) (ed d1 rfl rfl rfl) (fun hg => ?_); obtain ⟨d33, d34⟩ := Bool.or_eq_false_iff.mp hg; obtain ⟨d35, d36⟩ := Bool.or_eq_false_iff.mp d33; have d35 := of_decide_eq_false d35; have d36 := of_decide_eq_false d36; have d34 := of_decide_eq_false d34; exact y_eql ((ed d0 rfl rfl rfl).1 hg) rfl) ?_))
 refine gS rfl (fun A B E G H d0 d1 => rP (y_pick_or (ed d0 rfl rfl rfl) rfl (ed d1 rfl rfl rfl))) (gE ok2 fun a3 s3 ok3 D3 => ?_); have F3 := ((F0.step0 D1.stp).step0 D2.stp).step0 D3.stp; refine tn ?_
 refine cond_t (D3.dn 22 rfl rfl) (fun c1 => ?_) (fun c1 => ?_)
 ·
  simp only [Bool.or_eq_true, decide_eq_true_eq, Int.toNat_zero] at c1; have hb := name_bad (l := L) (by omega)
  refine wp_seq ?_
  refine gI a3 s3 ok3 (gC (Ty.bool false) (gE ok3 fun a4 s4 ok4 D4 => ?_)); refine tn (wp_ret (tr ?_))
  exact retL1 rfl ok4 (F3.step0 D4.stp) (cvb (by (rw [← hne, hb])) (D4.dn 0 rfl rfl))
 ·
  obtain ⟨d37, d38⟩ := Bool.or_eq_false_iff.mp c1
  obtain ⟨d39, d40⟩ := Bool.or_eq_false_iff.mp d37
  obtain ⟨d41, d42⟩ := Bool.or_eq_false_iff.mp d39
  replace d41 := of_decide_eq_false d41
  replace d42 := of_decide_eq_false d42
  replace d40 := of_decide_eq_false d40
  replace d38 := of_decide_eq_false d38
  have hx1 : ¬ (L.length < 1 ∨ 20 < L.length ∨ L.getD 0 0 = 32 ∨ L.getD (L.length - 1) 0 = 32) := (by simp only [Bool.or_eq_false_iff, decide_eq_false_iff_not, Int.toNat_zero] at c1; omega)
  refine wp_skip (tn (wp_seq (wp_seq ?_)))
  refine gI a3 s3 ok3 (gC (Ty.int (0 : Int)) (gE ok3 fun a5 s5 ok5 D5 => ?_)); refine tn (wp_block ?_)
  refine loop (fun n1 a6 w1 => ∃ (t1 : GW) (i : Nat), t1.w = w1 ∧ FromL [] s0 t1 ∧ Ok 86 [] a6 ∧ At (Ty.nat i) t1 a6 (.tmp 4) ∧ At (Ty.lst Ty.int L) t1 a6 (.tmp 3) ∧ (i ≤ L.length) ∧ (∀ j, j < i → letterB (L.getD j 0) = true) ∧ n1 = L.length - i) (L.length - (0)) ?_ ?_
  ·
   exact ⟨s5, 0, rfl, (F3.step0 D5.stp), ok5, (cvi (by (first | rfl | omega | (simp_all; done) | (simp_all; omega))) (D5.dn 0 rfl rfl)), (D5.kt (D3.kt q2 rfl) rfl), by omega, fun j hj => absurd hj (Nat.not_lt_zero j), rfl⟩
  ·
   rintro n2 a7 w2 ⟨t2, i, rfl, F6, ok6, q8, q9, hi, hal, rfl⟩
   refine wp_seq (wp_seq ?_)
   refine gI a7 t2 ok6 (gM q8 (gM q9 (gS rfl (fun A B E G H d0 => rP (y_len Tryz.underlying30 (ed d0 rfl rfl rfl))) (gS rfl (fun A B E G H d0 d1 => rP (y_lss (ed d0 rfl rfl rfl) (ed d1 rfl rfl rfl))) (gE ok6 fun a8 s6 ok7 D6 => ?_))))); have F7 := F6.step0 D6.stp; have q10 := D6.kt q8 rfl; have q11 := D6.kt q9 rfl; refine tn ?_
   refine cond_p (p := (((i : Nat) : Int) < (((List.length L) : Nat) : Int))) (D6.dn 3 rfl rfl) (fun c2 => ?_) (fun c2 => ?_)
   ·
    refine wp_skip (tn (wp_seq (wp_block (wp_seq ?_))))
    refine gI a8 s6 ok7 (gM q11 (gM q10 (gT (Ty.ref [(Ty.int (L.getD i 0))]) rfl (fun A B E G H d0 d1 => rP (y_index1 Tryz.underlying30 Tryz.inf3 (ed d0 rfl rfl rfl) (ed d1 rfl rfl rfl) (by omega) (lst_get Ty.int L 0 i (by omega)))) (gS rfl (fun A B E G H d0 => rP (y_load Tryz.underlying3 rfl (ed d0 rfl rfl rfl) rfl)) (gB 0 (gE ok7 fun a9 s7 ok8 D7 => ?_)))))); have q15 := D7.dn 4 rfl rfl; refine tn (wp_seq ?_)
    refine gI a9 s7 ok8 (gM q15 (gS rfl (fun A B E G H d0 => rP (y_geq (ed d0 rfl rfl rfl) rfl)) (gS rfl (fun A B E G H d0 => rP (y_move (ed d0 rfl rfl rfl))) (gS rfl (fun A B E G H d0 => gu G (ed d0 rfl rfl rfl) fun hg => y_move (kp (H 5 rfl) E q15)) (gS rfl (fun A B E G H d0 d1 => gu G (ed d1 rfl rfl rfl) fun hg => y_leq ((ed d0 rfl rfl rfl).1 hg) rfl) (gS rfl (fun A B E G H d0 d1 => rP (y_pick_and (ed d0 rfl rfl rfl) (ed d1 rfl rfl rfl) rfl)) (gS rfl (fun A B E G H d0 d1 => rP (y_move (ed d0 rfl rfl rfl))) (gS rfl (fun A B E G H d0 => gu G (ed d0 rfl rfl rfl) fun hg => y_move (kp (H 5 rfl) E q15)) (gS rfl (fun A B E G H d0 d1 => gu G (ed d1 rfl rfl rfl) fun hg => y_geq ((ed d0 rfl rfl rfl).1 hg) rfl) (gS rfl (fun A B E G H d0 d1 d2 => gu G (ed d1 rfl rfl rfl) fun hg => y_mv ((ed d0 rfl rfl rfl).1 hg)) (gS rfl (fun A B E G H d0 => gu2 G (ed d0 rfl rfl rfl) fun hg => y_move (kp (H 5 rfl) E q15)) (gS rfl (fun A B E G H d0 d1 => gu2 G (ed d1 rfl rfl rfl) fun hg => y_leq ((ed d0 rfl rfl rfl).1 hg) rfl) (gS rfl (fun A B E G H d0 d1 d2 => gu G (ed d2 rfl rfl rfl) fun hg => y_pick_and ((ed d0 rfl rfl rfl).1 hg) (grd_part hg (ed d1 rfl rfl rfl)) rfl) (gS rfl (fun A B E G H d0 d1 => rP (y_pick_or (ed d0 rfl rfl rfl) rfl (ed d1 rfl rfl rfl))) (gS rfl (fun A B E G H d0 d1 => rP (y_move (ed d0 rfl rfl rfl))) (gT (Ty.grd ((((decide ((65 : Int) ≤ (L.getD i 0))) && (decide ((L.getD i 0) ≤ (90 : Int)))) || ((decide ((97 : Int) ≤ (L.getD i 0))) && (decide ((L.getD i 0) ≤ (122 : Int))))) = false) (Ty.int (L.getD i 0))) rfl (by intro A B E G H d0; refine run_guard G rfl rfl (by decide) (ed d0 rfl rfl rfl) (fun hg => ?_); obtain ⟨d43, d44⟩ := Bool.or_eq_false_iff.mp hg; exact y_move (kp (H 5 rfl) E q15)) ?_))))))))))))))))
    refine gT (Ty.grd ((((decide ((65 : Int) ≤ (L.getD i 0))) && (decide ((L.getD i 0) ≤ (90 : Int)))) || ((decide ((97 : Int) ≤ (L.getD i 0))) && (decide ((L.getD i 0) ≤ (122 : Int))))) = false) (Ty.bool (decide ((48 : Int) ≤ (L.getD i 0))))) rfl (by intro A B E G H d0 d1; refine run_guard G rfl rfl (by decide) (ed d1 rfl rfl rfl) (fun hg => ?_); obtain ⟨d45, d46⟩ := Bool.or_eq_false_iff.mp hg; exact y_geq ((ed d0 rfl rfl rfl).1 hg) rfl) (gT (Ty.grd ((((decide ((65 : Int) ≤ (L.getD i 0))) && (decide ((L.getD i 0) ≤ (90 : Int)))) || ((decide ((97 : Int) ≤ (L.getD i 0))) && (decide ((L.getD i 0) ≤ (122 : Int))))) = false) (Ty.bool (decide ((48 : Int) ≤ (L.getD i 0))))) rfl (by intro A B E G H d0 d1 d2; refine run_guard G rfl rfl (by decide) (ed d1 rfl rfl rfl) (fun hg => ?_); obtain ⟨d47, d48⟩ := Bool.or_eq_false_iff.mp hg; exact y_move ((ed d0 rfl rfl rfl).1 hg)) (gS rfl (fun A B E G H d0 => gu2 G (ed d0 rfl rfl rfl) fun hg => y_move (kp (H 5 rfl) E q15)) (gS rfl (fun A B E G H d0 d1 => gu2 G (ed d1 rfl rfl rfl) fun hg => y_leq ((ed d0 rfl rfl rfl).1 hg) rfl) (gT (Ty.grd ((((decide ((65 : Int) ≤ (L.getD i 0))) && (decide ((L.getD i 0) ≤ (90 : Int)))) || ((decide ((97 : Int) ≤ (L.getD i 0))) && (decide ((L.getD i 0) ≤ (122 : Int))))) = false) (Ty.bool ((decide ((48 : Int) ≤ (L.getD i 0))) && (decide ((L.getD i 0) ≤ (57 : Int)))))) rfl (by intro A B E G H d0 d1 d2; refine run_guard G rfl rfl (by decide) (ed d2 rfl rfl rfl) (fun hg => ?_); obtain ⟨d49, d50⟩ := Bool.or_eq_false_iff.mp hg; exact y_pick_and ((ed d0 rfl rfl rfl).1 hg) (grd_part hg (ed d1 rfl rfl rfl)) rfl) (gS rfl (fun A B E G H d0 d1 => rP (y_pick_or (ed d0 rfl rfl rfl) rfl (ed d1 rfl rfl rfl))) (gS rfl (fun A B E G H d0 d1 => rP (y_move (ed d0 rfl rfl rfl))) ?_))))))
    refine gT (Ty.grd (((((decide ((65 : Int) ≤ (L.getD i 0))) && (decide ((L.getD i 0) ≤ (90 : Int)))) || ((decide ((97 : Int) ≤ (L.getD i 0))) && (decide ((L.getD i 0) ≤ (122 : Int))))) || ((decide ((48 : Int) ≤ (L.getD i 0))) && (decide ((L.getD i 0) ≤ (57 : Int))))) = false) (Ty.int (L.getD i 0))) rfl (by intro A B E G H d0; refine run_guard G rfl rfl (by decide) (ed d0 rfl rfl rfl) (fun hg => ?_); obtain ⟨d51, d52⟩ := Bool.or_eq_false_iff.mp hg; obtain ⟨d53, d54⟩ := Bool.or_eq_false_iff.mp d51; exact y_move (kp (H 5 rfl) E q15)) (gT (Ty.grd (((((decide ((65 : Int) ≤ (L.getD i 0))) && (decide ((L.getD i 0) ≤ (90 : Int)))) || ((decide ((97 : Int) ≤ (L.getD i 0))) && (decide ((L.getD i 0) ≤ (122 : Int))))) || ((decide ((48 : Int) ≤ (L.getD i 0))) && (decide ((L.getD i 0) ≤ (57 : Int))))) = false) (Ty.bool (decide ((L.getD i 0) = (32 : Int))))) rfl (by intro A B E G H d0 d1; refine run_guard G rfl rfl (by decide) (ed d1 rfl rfl rfl) (fun hg => ?_); obtain ⟨d55, d56⟩ := Bool.or_eq_false_iff.mp hg; obtain ⟨d57, d58⟩ := Bool.or_eq_false_iff.mp d55; exact y_eql ((ed d0 rfl rfl rfl).1 hg) rfl) (gS rfl (fun A B E G H d0 d1 => rP (y_pick_or (ed d0 rfl rfl rfl) rfl (ed d1 rfl rfl rfl))) (gB 0 (gE ok8 fun a10 s8 ok9 D8 => ?_)))); have q18 := D8.kt q15 rfl; refine tn (wp_seq ?_)
    refine gI a10 s8 ok9 (gM (D8.dn 26 rfl rfl) (gS rfl (fun A B E G H d0 => rP (y_not (ed d0 rfl rfl rfl))) (gS rfl (fun A B E G H d0 => rP (y_move (ed d0 rfl rfl rfl))) (gS rfl (fun A B E G H d0 => gu G (ed d0 rfl rfl rfl) fun hg => y_move (kp (H 5 rfl) E q18)) (gS rfl (fun A B E G H d0 d1 => gu G (ed d1 rfl rfl rfl) fun hg => y_lss ((ed d0 rfl rfl rfl).1 hg) rfl) (gS rfl (fun A B E G H d0 d1 d2 => gu G (ed d1 rfl rfl rfl) fun hg => y_mv ((ed d0 rfl rfl rfl).1 hg)) (gS rfl (fun A B E G H d0 => gu2 G (ed d0 rfl rfl rfl) fun hg => y_move (kp (H 5 rfl) E q18)) (gS rfl (fun A B E G H d0 d1 => gu2 G (ed d1 rfl rfl rfl) fun hg => y_gtr ((ed d0 rfl rfl rfl).1 hg) rfl) (gS rfl (fun A B E G H d0 d1 d2 => gu G (ed d2 rfl rfl rfl) fun hg => y_pick_or ((ed d0 rfl rfl rfl).1 hg) rfl (grd_part hg (ed d1 rfl rfl rfl))) (gS rfl (fun A B E G H d0 d1 d2 => gu G (ed d2 rfl rfl rfl) fun hg => y_mv ((ed d0 rfl rfl rfl).1 hg)) (gT (Ty.grd (((!(((((decide ((65 : Int) ≤ (L.getD i 0))) && (decide ((L.getD i 0) ≤ (90 : Int)))) || ((decide ((97 : Int) ≤ (L.getD i 0))) && (decide ((L.getD i 0) ≤ (122 : Int))))) || ((decide ((48 : Int) ≤ (L.getD i 0))) && (decide ((L.getD i 0) ≤ (57 : Int))))) || (decide ((L.getD i 0) = (32 : Int))))) = true) ∧ ((decide ((L.getD i 0) < (192 : Int))) || (decide ((382 : Int) < (L.getD i 0)))) = false) (Ty.int (L.getD i 0))) rfl (by intro A B E G H d0; refine run_guard2 G rfl rfl (by decide) (ed d0 rfl rfl rfl) (fun hg => ?_); obtain ⟨d59, d60⟩ := Bool.or_eq_false_iff.mp hg.2; have d59 := of_decide_eq_false d59; have d60 := of_decide_eq_false d60; exact y_move (kp (H 5 rfl) E q18)) ?_)))))))))))
    refine gT (Ty.grd (((!(((((decide ((65 : Int) ≤ (L.getD i 0))) && (decide ((L.getD i 0) ≤ (90 : Int)))) || ((decide ((97 : Int) ≤ (L.getD i 0))) && (decide ((L.getD i 0) ≤ (122 : Int))))) || ((decide ((48 : Int) ≤ (L.getD i 0))) && (decide ((L.getD i 0) ≤ (57 : Int))))) || (decide ((L.getD i 0) = (32 : Int))))) = true) ∧ ((decide ((L.getD i 0) < (192 : Int))) || (decide ((382 : Int) < (L.getD i 0)))) = false) (Ty.bool (decide ((L.getD i 0) = (215 : Int))))) rfl (by intro A B E G H d0 d1; refine run_guard2 G rfl rfl (by decide) (ed d1 rfl rfl rfl) (fun hg => ?_); obtain ⟨d61, d62⟩ := Bool.or_eq_false_iff.mp hg.2; have d61 := of_decide_eq_false d61; have d62 := of_decide_eq_false d62; exact y_eql ((ed d0 rfl rfl rfl).1 hg) rfl) (gS rfl (fun A B E G H d0 d1 d2 => gu G (ed d2 rfl rfl rfl) fun hg => y_pick_or ((ed d0 rfl rfl rfl).1 hg) rfl (grd_part hg (ed d1 rfl rfl rfl))) (gS rfl (fun A B E G H d0 d1 d2 => gu G (ed d2 rfl rfl rfl) fun hg => y_mv ((ed d0 rfl rfl rfl).1 hg)) (gT (Ty.grd (((!(((((decide ((65 : Int) ≤ (L.getD i 0))) && (decide ((L.getD i 0) ≤ (90 : Int)))) || ((decide ((97 : Int) ≤ (L.getD i 0))) && (decide ((L.getD i 0) ≤ (122 : Int))))) || ((decide ((48 : Int) ≤ (L.getD i 0))) && (decide ((L.getD i 0) ≤ (57 : Int))))) || (decide ((L.getD i 0) = (32 : Int))))) = true) ∧ (((decide ((L.getD i 0) < (192 : Int))) || (decide ((382 : Int) < (L.getD i 0)))) || (decide ((L.getD i 0) = (215 : Int)))) = false) (Ty.int (L.getD i 0))) rfl (by intro A B E G H d0; refine run_guard2 G rfl rfl (by decide) (ed d0 rfl rfl rfl) (fun hg => ?_); obtain ⟨d63, d64⟩ := Bool.or_eq_false_iff.mp hg.2; obtain ⟨d65, d66⟩ := Bool.or_eq_false_iff.mp d63; have d65 := of_decide_eq_false d65; have d66 := of_decide_eq_false d66; have d64 := of_decide_eq_false d64; exact y_move (kp (H 5 rfl) E q18)) ?_)))
    refine gT (Ty.grd (((!(((((decide ((65 : Int) ≤ (L.getD i 0))) && (decide ((L.getD i 0) ≤ (90 : Int)))) || ((decide ((97 : Int) ≤ (L.getD i 0))) && (decide ((L.getD i 0) ≤ (122 : Int))))) || ((decide ((48 : Int) ≤ (L.getD i 0))) && (decide ((L.getD i 0) ≤ (57 : Int))))) || (decide ((L.getD i 0) = (32 : Int))))) = true) ∧ (((decide ((L.getD i 0) < (192 : Int))) || (decide ((382 : Int) < (L.getD i 0)))) || (decide ((L.getD i 0) = (215 : Int)))) = false) (Ty.bool (decide ((L.getD i 0) = (247 : Int))))) rfl (by intro A B E G H d0 d1; refine run_guard2 G rfl rfl (by decide) (ed d1 rfl rfl rfl) (fun hg => ?_); obtain ⟨d67, d68⟩ := Bool.or_eq_false_iff.mp hg.2; obtain ⟨d69, d70⟩ := Bool.or_eq_false_iff.mp d67; have d69 := of_decide_eq_false d69; have d70 := of_decide_eq_false d70; have d68 := of_decide_eq_false d68; exact y_eql ((ed d0 rfl rfl rfl).1 hg) rfl) (gS rfl (fun A B E G H d0 d1 d2 => gu G (ed d2 rfl rfl rfl) fun hg => y_pick_or ((ed d0 rfl rfl rfl).1 hg) rfl (grd_part hg (ed d1 rfl rfl rfl))) (gS rfl (fun A B E G H d0 d1 => rP (y_pick_and (ed d0 rfl rfl rfl) (ed d1 rfl rfl rfl) rfl)) (gE ok9 fun a11 s9 ok10 D9 => ?_))); have F10 := ((F7.step0 D7.stp).step0 D8.stp).step0 D9.stp; refine tn ?_
    refine cond_t (D9.dn 17 rfl rfl) (fun c3 => ?_) (fun c3 => ?_)
    ·
     obtain ⟨d71, d72⟩ := Bool.and_eq_true_iff.mp c3
     have hlb : letterB (L.getD i 0) = false := (by rw [Bool.eq_false_iff]; intro h_; simp only [letterB, Bool.or_eq_true, Bool.and_eq_true, Bool.not_eq_true, Bool.or_eq_false_iff, Bool.and_eq_false_iff, Bool.not_eq_true', decide_eq_true_eq, decide_eq_false_iff_not] at h_ c3; omega); have hb := name_let (l := L) (by omega) hlb
     refine wp_seq ?_
     refine gI a11 s9 ok10 (gC (Ty.bool false) (gE ok10 fun a12 s10 ok11 D10 => ?_)); refine tn (wp_ret (br (tr (tr (br (tr ?_))))))
     exact retL1 rfl ok11 (F10.step0 D10.stp) (cvb (by (rw [← hne, hb])) (D10.dn 0 rfl rfl))
    ·
     have hlb : letterB (L.getD i 0) = true := (by simp only [letterB, Bool.or_eq_true, Bool.and_eq_true, Bool.not_eq_false', Bool.or_eq_false_iff, Bool.and_eq_false_iff, decide_eq_true_eq, decide_eq_false_iff_not] at c3 ⊢; omega)
     refine wp_skip (bn (tn ?_))
     refine gI a11 s9 ok10 (gM (D9.kt (D8.kt (D7.kt q10 rfl) rfl) rfl) (gT (Ty.nat (i + 1)) rfl (fun A B E G H d0 => rP ((y_add (ed d0 rfl rfl rfl) rfl (w64 (by omega) (by omega))).mono (fun τ _ h => cvi (σ := τ) (by first | omega | exact (Int.natCast_mul _ _).symm) h))) (gB 0 (gE ok10 fun a13 s11 ok12 D11 => ?_))))
     exact tn ⟨L.length - ((i+1)), by omega, s11, (i+1), rfl, (F10.step0 D11.stp), ok12, (cvi (by (first | rfl | omega | (simp_all; done) | (simp_all; omega))) (D11.dn 2 rfl rfl)), (D11.kt (D9.kt (D8.kt (D7.kt q11 rfl) rfl) rfl) rfl), by omega, fun j hj => by (by_cases e : j = i; subst e; exact hlb; exact hal j (by omega)), rfl⟩
   ·
    refine wp_exit (tx (tx (bx (tn (wp_seq ?_)))))
    refine gI a8 s6 ok7 (gC (Ty.bool true) (gE ok7 fun a14 s12 ok13 D12 => ?_)); refine tn (wp_ret ?_)
    exact retL1 rfl ok13 (F7.step0 D12.stp) (cvb (by (rw [← hne]; exact (name_good hx1 (fun j hj => hal j (by omega))).symm)) (D12.dn 0 rfl rfl))


set_option maxRecDepth 100000 in
theorem rChangeMay_fn (n : Int) (l : List Int) (σ : GW) (v0 v1 : Value) (hv0 : Ty.has (Ty.int n) σ v0) (hv1 : Ty.has (Ty.lst Ty.int l) σ v1) (hn : -9223372036854775808 ≤ n ∧ n ≤ 9223372036854775807) :
    FnC Tryz.prog 29 #[v0, v1] σ (Ty.int (chgMay n l)) := by
 refine fn_intro Tryz.func29 rfl Tryz.ntmps29 (Nat.le_of_ble_eq_true rfl) (fun s0 a0 hle F0 ok0 hargs => ?_)
 have p0 := pA hle (hargs 0 _ rfl) hv0
 have p1 := pA hle (hargs 1 _ rfl) hv1
 have b1 := sl_le p1
 clear hargs; refine wp_seq ?_
 refine gI a0 s0 ok0 (gC (Ty.int (0 : Int)) (gE ok0 fun a1 s1 ok1 D1 => ?_)); have q1 := D1.kt p0 rfl; refine tn (wp_seq (wp_seq ?_))
 refine gI a1 s1 ok1 (gM q1 (gS rfl (fun A B E G H d0 => rP (y_lss (ed d0 rfl rfl rfl) rfl)) (gS rfl (fun A B E G H d0 => rP (y_move (ed d0 rfl rfl rfl))) (gS rfl (fun A B E G H d0 => gu G (ed d0 rfl rfl rfl) fun hg => y_move (kp (H 0 rfl) E q1)) (gS rfl (fun A B E G H d0 d1 => gu G (ed d1 rfl rfl rfl) fun hg => y_gtr ((ed d0 rfl rfl rfl).1 hg) rfl) (gS rfl (fun A B E G H d0 d1 => rP (y_pick_or (ed d0 rfl rfl rfl) rfl (ed d1 rfl rfl rfl))) (gE ok1 fun a2 s2 ok2 D2 => ?_))))))); have F2 := (F0.step0 D1.stp).step0 D2.stp; refine tn ?_
 refine cond_t (D2.dn 5 rfl rfl) (fun c1 => ?_) (fun c1 => ?_)
 ·
  simp only [Bool.or_eq_true, decide_eq_true_eq] at c1
  refine wp_seq ?_
  refine gI a2 s2 ok2 (gC (Ty.int (1 : Int)) (gE ok2 fun a3 s3 ok3 D3 => ?_)); refine tn (wp_ret (tr ?_))
  exact ret1 rfl ok3 (F2.step0 D3.stp) (cvi (by (exact (chgMay_cnt (by omega)).symm)) (D3.dn 0 rfl rfl))
 ·
  obtain ⟨d1, d2⟩ := Bool.or_eq_false_iff.mp c1
  replace d1 := of_decide_eq_false d1
  replace d2 := of_decide_eq_false d2
  refine wp_skip (tn (wp_seq ?_))
  refine gI a2 s2 ok2 (gC (Ty.int (0 : Int)) (gE ok2 fun a4 s4 ok4 D4 => ?_)); refine tn (wp_seq (wp_seq ?_))
  refine gI a4 s4 ok4 (gC (Ty.int (0 : Int)) (gE ok4 fun a5 s5 ok5 D5 => ?_)); refine tn (wp_block ?_)
  refine loop (fun n1 a6 w1 => ∃ (t1 : GW) (k : Nat) (z : Int), t1.w = w1 ∧ From s0 t1 ∧ Ok 52 [] a6 ∧ At (Ty.nat k) t1 a6 (.tmp 6) ∧ At (Ty.int z) t1 a6 (.tmp 5) ∧ At (Ty.int n) t1 a6 (.tmp 0) ∧ At (Ty.lst Ty.int l) t1 a6 (.tmp 1) ∧ (k ≤ l.length) ∧ (scanTo n l k = some z) ∧ (0 ≤ z ∧ z ≤ n) ∧ n1 = l.length - k) (l.length - (0)) ?_ ?_
  ·
   exact ⟨s5, 0, 0, rfl, ((F2.step0 D4.stp).step0 D5.stp), ok5, (cvi (by (first | rfl | omega | (simp_all; done) | (simp_all; omega))) (D5.dn 0 rfl rfl)), (cvi (by (first | rfl | omega | (simp_all; done) | (simp_all; omega))) (D5.kt (D4.dn 0 rfl rfl) rfl)), (D5.kt (D4.kt (D2.kt q1 rfl) rfl) rfl), (D5.kt (D4.kt (D2.kt (D1.kt p1 rfl) rfl) rfl) rfl), by omega, rfl, by omega, rfl⟩
  ·
   rintro n2 a7 w2 ⟨t2, k, z, rfl, F6, ok6, q14, q15, q16, q17, hk, E, hz, rfl⟩
   refine wp_seq (wp_seq ?_)
   refine gI a7 t2 ok6 (gM q14 (gM q17 (gS rfl (fun A B E G H d0 => rP (y_len Tryz.underlying30 (ed d0 rfl rfl rfl))) (gS rfl (fun A B E G H d0 d1 => rP (y_lss (ed d0 rfl rfl rfl) (ed d1 rfl rfl rfl))) (gE ok6 fun a8 s6 ok7 D6 => ?_))))); have F7 := F6.step0 D6.stp; have q18 := D6.kt q14 rfl; have q19 := D6.kt q15 rfl; have q20 := D6.kt q16 rfl; have q21 := D6.kt q17 rfl; refine tn ?_
   refine cond_p (p := (((k : Nat) : Int) < (((List.length l) : Nat) : Int))) (D6.dn 3 rfl rfl) (fun c2 => ?_) (fun c2 => ?_)
   ·
    refine wp_skip (tn (wp_seq (wp_block (wp_seq (wp_seq ?_)))))
    refine gI a8 s6 ok7 (gM q21 (gM q18 (gT (Ty.ref [(Ty.int (l.getD k 0))]) rfl (fun A B E G H d0 d1 => rP (y_index1 Tryz.underlying30 Tryz.inf3 (ed d0 rfl rfl rfl) (ed d1 rfl rfl rfl) (by omega) (lst_get Ty.int l 0 k (by omega)))) (gS rfl (fun A B E G H d0 => rP (y_load Tryz.underlying3 rfl (ed d0 rfl rfl rfl) rfl)) (gM q19 (gS rfl (fun A B E G H d0 d1 => rP (y_leq (ed d0 rfl rfl rfl) (ed d1 rfl rfl rfl))) (gS rfl (fun A B E G H d0 => rP (y_move (ed d0 rfl rfl rfl))) (gS rfl (fun A B E G H d0 => gu G (ed d0 rfl rfl rfl) fun hg => y_move (kp (H 1 rfl) E q21)) (gS rfl (fun A B E G H d0 => gu G (ed d0 rfl rfl rfl) fun hg => y_move (kp (H 6 rfl) E q18)) (gT (Ty.grd ((decide ((l.getD k 0) ≤ z)) = false) (Ty.ref [(Ty.int (l.getD k 0))])) rfl (fun A B E G H d0 d1 d2 => guf G (ed d2 rfl rfl rfl) fun hg hp => y_index1 Tryz.underlying30 Tryz.inf3 ((ed d0 rfl rfl rfl).1 hg) ((ed d1 rfl rfl rfl).1 hg) (by omega) (lst_get Ty.int l 0 k (by omega))) (gS rfl (fun A B E G H d0 d1 => gu G (ed d1 rfl rfl rfl) fun hg => y_load Tryz.underlying3 rfl ((ed d0 rfl rfl rfl).1 hg) rfl) (gS rfl (fun A B E G H d0 => gu G (ed d0 rfl rfl rfl) fun hg => y_move (kp (H 0 rfl) E q20)) (gS rfl (fun A B E G H d0 d1 d2 => gu G (ed d2 rfl rfl rfl) fun hg => y_gtr ((ed d0 rfl rfl rfl).1 hg) ((ed d1 rfl rfl rfl).1 hg)) (gS rfl (fun A B E G H d0 d1 => rP (y_pick_or (ed d0 rfl rfl rfl) rfl (ed d1 rfl rfl rfl))) (gS rfl (fun A B E G H d0 d1 => rP (y_move (ed d0 rfl rfl rfl))) (gT (Ty.grd (((decide ((l.getD k 0) ≤ z)) || (decide (n < (l.getD k 0)))) = false) (Ty.lst Ty.int l)) rfl (by intro A B E G H d0; refine run_guard G rfl rfl (by decide) (ed d0 rfl rfl rfl) (fun hg => ?_); obtain ⟨d3, d4⟩ := Bool.or_eq_false_iff.mp hg; have d3 := of_decide_eq_false d3; have d4 := of_decide_eq_false d4; exact y_move (kp (H 1 rfl) E q21)) ?_))))))))))))))))
    refine gT (Ty.grd (((decide ((l.getD k 0) ≤ z)) || (decide (n < (l.getD k 0)))) = false) (Ty.nat k)) rfl (by intro A B E G H d0; refine run_guard G rfl rfl (by decide) (ed d0 rfl rfl rfl) (fun hg => ?_); obtain ⟨d5, d6⟩ := Bool.or_eq_false_iff.mp hg; have d5 := of_decide_eq_false d5; have d6 := of_decide_eq_false d6; exact y_move (kp (H 6 rfl) E q18)) (gT (Ty.grd (((decide ((l.getD k 0) ≤ z)) || (decide (n < (l.getD k 0)))) = false) (Ty.ref [(Ty.int (l.getD k 0))])) rfl (by intro A B E G H d0 d1 d2; refine run_guard G rfl rfl (by decide) (ed d2 rfl rfl rfl) (fun hg => ?_); obtain ⟨d7, d8⟩ := Bool.or_eq_false_iff.mp hg; have d7 := of_decide_eq_false d7; have d8 := of_decide_eq_false d8; exact y_index1 Tryz.underlying30 Tryz.inf3 ((ed d0 rfl rfl rfl).1 hg) ((ed d1 rfl rfl rfl).1 hg) (by omega) (lst_get Ty.int l 0 k (by omega))) (gT (Ty.grd (((decide ((l.getD k 0) ≤ z)) || (decide (n < (l.getD k 0)))) = false) (Ty.int (l.getD k 0))) rfl (by intro A B E G H d0 d1; refine run_guard G rfl rfl (by decide) (ed d1 rfl rfl rfl) (fun hg => ?_); obtain ⟨d9, d10⟩ := Bool.or_eq_false_iff.mp hg; have d9 := of_decide_eq_false d9; have d10 := of_decide_eq_false d10; exact y_load Tryz.underlying3 rfl ((ed d0 rfl rfl rfl).1 hg) rfl) (gT (Ty.grd (((decide ((l.getD k 0) ≤ z)) || (decide (n < (l.getD k 0)))) = false) (Ty.int z)) rfl (by intro A B E G H d0; refine run_guard G rfl rfl (by decide) (ed d0 rfl rfl rfl) (fun hg => ?_); obtain ⟨d11, d12⟩ := Bool.or_eq_false_iff.mp hg; have d11 := of_decide_eq_false d11; have d12 := of_decide_eq_false d12; exact y_move (kp (H 5 rfl) E q19)) ?_)))
    refine gT (Ty.grd (((decide ((l.getD k 0) ≤ z)) || (decide (n < (l.getD k 0)))) = false) (Ty.int ((l.getD k 0) - z))) rfl (by intro A B E G H d0 d1 d2; refine run_guard G rfl rfl (by decide) (ed d2 rfl rfl rfl) (fun hg => ?_); obtain ⟨d13, d14⟩ := Bool.or_eq_false_iff.mp hg; have d13 := of_decide_eq_false d13; have d14 := of_decide_eq_false d14; exact y_sub ((ed d0 rfl rfl rfl).1 hg) ((ed d1 rfl rfl rfl).1 hg) (w64 (by omega) (by omega))) (gT (Ty.grd (((decide ((l.getD k 0) ≤ z)) || (decide (n < (l.getD k 0)))) = false) (Ty.nat ((((l.getD k 0) - z)).toNat % 2))) rfl (by intro A B E G H d0 d1; refine run_guard G rfl rfl (by decide) (ed d1 rfl rfl rfl) (fun hg => ?_); obtain ⟨d15, d16⟩ := Bool.or_eq_false_iff.mp hg; have d15 := of_decide_eq_false d15; have d16 := of_decide_eq_false d16; exact y_remN (toN (σ := B) ((ed d0 rfl rfl rfl).1 hg) (by omega)) (toN (σ := B) rfl (by omega)) (by omega)) (gT (Ty.grd (((decide ((l.getD k 0) ≤ z)) || (decide (n < (l.getD k 0)))) = false) (Ty.bool (decide (((((((l.getD k 0) - z)).toNat % 2) : Nat) : Int) = (0 : Int))))) rfl (by intro A B E G H d0 d1; refine run_guard G rfl rfl (by decide) (ed d1 rfl rfl rfl) (fun hg => ?_); obtain ⟨d17, d18⟩ := Bool.or_eq_false_iff.mp hg; have d17 := of_decide_eq_false d17; have d18 := of_decide_eq_false d18; exact y_eql ((ed d0 rfl rfl rfl).1 hg) rfl) (gS rfl (fun A B E G H d0 d1 => rP (y_pick_or (ed d0 rfl rfl rfl) rfl (ed d1 rfl rfl rfl))) (gE ok7 fun a9 s7 ok8 D7 => ?_)))); have F8 := F7.step0 D7.stp; have q23 := D7.kt q18 rfl; have q25 := D7.kt q21 rfl; refine tn ?_
    refine cond_t (D7.dn 23 rfl rfl) (fun c3 => ?_) (fun c3 => ?_)
    ·
     simp only [Bool.or_eq_true, decide_eq_true_eq] at c3
     refine wp_seq ?_
     refine gI a9 s7 ok8 (gC (Ty.int (6 : Int)) (gE ok8 fun a10 s8 ok9 D8 => ?_)); refine tn (wp_ret (tr (br (tr (tr (br (tr ?_)))))))
     exact ret1 rfl ok9 (F8.step0 D8.stp) (cvi (by (exact (chgMay_scan (by omega) E (by omega) (by omega)).symm)) (D8.dn 0 rfl rfl))
    ·
     obtain ⟨d19, d20⟩ := Bool.or_eq_false_iff.mp c3
     obtain ⟨d21, d22⟩ := Bool.or_eq_false_iff.mp d19
     replace d21 := of_decide_eq_false d21
     replace d22 := of_decide_eq_false d22
     replace d20 := of_decide_eq_false d20
     refine wp_skip (tn ?_)
     refine gI a9 s7 ok8 (gM q25 (gM q23 (gT (Ty.ref [(Ty.int (l.getD k 0))]) rfl (fun A B E G H d0 d1 => rP (y_index1 Tryz.underlying30 Tryz.inf3 (ed d0 rfl rfl rfl) (ed d1 rfl rfl rfl) (by omega) (lst_get Ty.int l 0 k (by omega)))) (gS rfl (fun A B E G H d0 => rP (y_load Tryz.underlying3 rfl (ed d0 rfl rfl rfl) rfl)) (gB 0 (gE ok8 fun a11 s9 ok10 D9 => ?_)))))); refine bn (tn ?_)
     refine gI a11 s9 ok10 (gM (D9.kt q23 rfl) (gT (Ty.int (((k : Nat) : Int) + (1 : Int))) rfl (fun A B E G H d0 => rP (y_add (ed d0 rfl rfl rfl) rfl (w64 (by omega) (by omega)))) (gB 0 (gE ok10 fun a12 s10 ok11 D10 => ?_))))
     have d1_ := (of_decide_eq_false (Bool.or_eq_false_iff.1 c3).2)
     have d2_ := of_decide_eq_false (Bool.or_eq_false_iff.1 (Bool.or_eq_false_iff.1 c3).1).1
     have d3_ := of_decide_eq_false (Bool.or_eq_false_iff.1 (Bool.or_eq_false_iff.1 c3).1).2
     exact tn ⟨l.length - ((k+1)), by omega, s10, (k+1), (l.getD k 0), rfl, ((F8.step0 D9.stp).step0 D10.stp), ok11, (cvi (by (first | rfl | omega | (simp_all; done) | (simp_all; omega))) (D10.dn 2 rfl rfl)), (cvi (by (first | rfl | omega | (simp_all; done) | (simp_all; omega))) (D10.kt (D9.dn 4 rfl rfl) rfl)), (D10.kt (D9.kt (D7.kt q20 rfl) rfl) rfl), (D10.kt (D9.kt q25 rfl) rfl), by omega, scan_step E (by omega) (by omega) (by omega) d1_, by omega, rfl⟩
   ·
    have hk2 : k = l.length := (by omega)
    refine wp_exit (tx (tx (bx (tn (wp_seq (wp_seq ?_))))))
    refine gI a8 s6 ok7 (gM q20 (gM q19 (gT (Ty.int (n - z)) rfl (fun A B E G H d0 d1 => rP (y_sub (ed d0 rfl rfl rfl) (ed d1 rfl rfl rfl) (w64 (by omega) (by omega)))) (gT (Ty.nat (((n - z)).toNat % 2)) rfl (fun A B E G H d0 => rP (y_remN (toN (σ := B) (ed d0 rfl rfl rfl) (by omega)) (toN (σ := B) rfl (by omega)) (by omega))) (gS rfl (fun A B E G H d0 => rP (y_eql (ed d0 rfl rfl rfl) rfl)) (gE ok7 fun a13 s11 ok12 D11 => ?_)))))); have F12 := F7.step0 D11.stp; refine tn ?_
    refine cond_p (p := ((((((n - z)).toNat % 2) : Nat) : Int) = (1 : Int))) (D11.dn 4 rfl rfl) (fun c4 => ?_) (fun c4 => ?_)
    ·
     refine wp_seq ?_
     refine gI a13 s11 ok12 (gC (Ty.int (6 : Int)) (gE ok12 fun a14 s12 ok13 D12 => ?_)); refine tn (wp_ret (tr ?_))
     exact ret1 rfl ok13 (F12.step0 D12.stp) (cvi (by (exact (chgMay_odd (by omega) (by rw [← hk2]; exact E) (by omega)).symm)) (D12.dn 0 rfl rfl))
    ·
     refine wp_skip (tn (wp_seq ?_))
     refine gI a13 s11 ok12 (gC (Ty.int (0 : Int)) (gE ok12 fun a15 s13 ok14 D13 => ?_)); refine tn (wp_ret ?_)
     exact ret1 rfl ok14 (F12.step0 D13.stp) (cvi (by (exact (chgMay_ok (by omega) (by rw [← hk2]; exact E) (by omega)).symm)) (D13.dn 0 rfl rfl))

theorem Tryz.inf9 : Info Tryz.prog 9 (.string ByteArray.empty) 1 16 := by unfold Info; kernel_rfl
theorem Tryz.inf22 : Info Tryz.prog 22 (.slice none 0 0) 1 24 := by unfold Info; kernel_rfl
theorem Tryz.inf30 : Info Tryz.prog 30 (.slice none 0 0) 1 24 := by unfold Info; kernel_rfl
theorem Tryz.fld24_0 : fieldOf Tryz.prog 24 0 = some (9, 0) := by kernel_rfl
theorem Tryz.fld24_1 : fieldOf Tryz.prog 24 1 = some (3, 1) := by kernel_rfl
theorem Tryz.fld24_2 : fieldOf Tryz.prog 24 2 = some (22, 2) := by kernel_rfl
set_option maxHeartbeats 4000000 in
set_option maxRecDepth 100000 in
theorem rMethodMay_fn (nm : ByteArray) (n : Int) (l : List (List Int)) (σ : GW)  (v0 : Value) (hv0 : Ty.has (Ty.agg [(Ty.val (Value.string nm)), (Ty.int n), (Ty.lst Ty.ints l)]) σ v0)  (hnm : nm.size ≤ 1099511627776) (hn : -9223372036854775808 ≤ n ∧ n ≤ 9223372036854775807) :
    FnC Tryz.prog 7 #[v0] σ (Ty.int (methMay nm n l)) := by
 refine fn_intro0 Tryz.func7 rfl Tryz.ntmps7 (Nat.le_of_ble_eq_true rfl) (fun s0 a0 hle F0 ok0 hargs => ?_)
 have p0 := pA hle (hargs 0 _ rfl) hv0
 clear hargs; refine wp_seq ?_
 refine gI a0 s0 ok0 (gS rfl (fun A B E G H => rP (y_boxagg (kp (H 0 rfl) E p0))) (gC (Ty.int (0 : Int)) (gE ok0 fun a1 s1 ok1 D1 => ?_))); have q1 := D1.dn 0 rfl rfl; refine tn (wp_seq ?_)
 refine gI a1 s1 ok1 (gS rfl (fun A B E G H => rP (y_field Tryz.fld24_0 Tryz.inf9 (by decide) (kp (H 1 rfl) E q1) rfl)) (gS rfl (fun A B E G H d0 => rP (y_load Tryz.underlying9 rfl (ed d0 rfl rfl rfl) rfl)) (gS rfl (fun A B E G H d0 => rP (y_call _ Tryz.func6 rfl rfl my1 (rIsName_fn (nm) _ _ (ed d0 rfl rfl rfl) (by omega)))) (gB 0 (gE ok1 fun a2 s2 ok2 D2 => ?_))))); refine tn (wp_seq (wp_seq ?_))
 refine gI a2 s2 ok2 (gM (D2.dn 3 rfl rfl) (gS rfl (fun A B E G H d0 => rP (y_not (ed d0 rfl rfl rfl))) (gE ok2 fun a3 s3 ok3 D3 => ?_))); have F3 := ((F0.step0 D1.stp).step0 D2.stp).step0 D3.stp; have q4 := D3.kt (D2.kt q1 rfl) rfl; refine tn ?_
 refine cond_t (D3.dn 1 rfl rfl) (fun c1 => ?_) (fun c1 => ?_)
 ·
  have hnn : nameL nm = false := (by simpa using c1)
  refine wp_seq ?_
  refine gI a3 s3 ok3 (gC (Ty.int (7 : Int)) (gE ok3 fun a4 s4 ok4 D4 => ?_)); refine tn (wp_ret (tr ?_))
  exact retL1 rfl ok4 (F3.step0 D4.stp) (cvi (by (unfold methMay; rw [if_pos hnn])) (D4.dn 0 rfl rfl))
 ·
  have hnn : ¬ nameL nm = false := (by simpa using c1)
  refine wp_skip (tn (wp_seq (wp_seq ?_)))
  refine gI a3 s3 ok3 (gS rfl (fun A B E G H => rP (y_field Tryz.fld24_1 Tryz.inf3 (by decide) (kp (H 1 rfl) E q4) rfl)) (gS rfl (fun A B E G H d0 => rP (y_load Tryz.underlying3 rfl (ed d0 rfl rfl rfl) rfl)) (gS rfl (fun A B E G H d0 => rP (y_lss (ed d0 rfl rfl rfl) rfl)) (gS rfl (fun A B E G H d0 => rP (y_move (ed d0 rfl rfl rfl))) (gS rfl (fun A B E G H d0 => guf G (ed d0 rfl rfl rfl) fun hg hp => y_field Tryz.fld24_1 Tryz.inf3 (by decide) (kp (H 1 rfl) E q4) rfl) (gS rfl (fun A B E G H d0 d1 => gu G (ed d1 rfl rfl rfl) fun hg => y_load Tryz.underlying3 rfl ((ed d0 rfl rfl rfl).1 hg) rfl) (gS rfl (fun A B E G H d0 d1 => gu G (ed d1 rfl rfl rfl) fun hg => y_gtr ((ed d0 rfl rfl rfl).1 hg) rfl) (gS rfl (fun A B E G H d0 d1 => rP (y_pick_or (ed d0 rfl rfl rfl) rfl (ed d1 rfl rfl rfl))) (gS rfl (fun A B E G H d0 d1 => rP (y_move (ed d0 rfl rfl rfl))) (gT (Ty.grd (((decide (n < (2 : Int))) || (decide ((12 : Int) < n))) = false) (Ty.ref [(Ty.lst Ty.ints l)])) rfl (by intro A B E G H d0; refine run_guard G rfl rfl (by decide) (ed d0 rfl rfl rfl) (fun hg => ?_); obtain ⟨d1, d2⟩ := Bool.or_eq_false_iff.mp hg; have d1 := of_decide_eq_false d1; have d2 := of_decide_eq_false d2; exact y_field Tryz.fld24_2 Tryz.inf22 (by decide) (kp (H 1 rfl) E q4) rfl) (gT (Ty.grd (((decide (n < (2 : Int))) || (decide ((12 : Int) < n))) = false) (Ty.lst Ty.ints l)) rfl (by intro A B E G H d0 d1; refine run_guard G rfl rfl (by decide) (ed d1 rfl rfl rfl) (fun hg => ?_); obtain ⟨d3, d4⟩ := Bool.or_eq_false_iff.mp hg; have d3 := of_decide_eq_false d3; have d4 := of_decide_eq_false d4; exact y_load Tryz.underlying22 rfl ((ed d0 rfl rfl rfl).1 hg) rfl) ?_)))))))))))
  refine gT (Ty.grd (((decide (n < (2 : Int))) || (decide ((12 : Int) < n))) = false) (Ty.nat (List.length l))) rfl (by intro A B E G H d0 d1; refine run_guard G rfl rfl (by decide) (ed d1 rfl rfl rfl) (fun hg => ?_); obtain ⟨d5, d6⟩ := Bool.or_eq_false_iff.mp hg; have d5 := of_decide_eq_false d5; have d6 := of_decide_eq_false d6; exact y_len Tryz.underlying22 ((ed d0 rfl rfl rfl).1 hg)) (gT (Ty.grd (((decide (n < (2 : Int))) || (decide ((12 : Int) < n))) = false) (Ty.bool (decide ((((List.length l) : Nat) : Int) < (1 : Int))))) rfl (by intro A B E G H d0 d1; refine run_guard G rfl rfl (by decide) (ed d1 rfl rfl rfl) (fun hg => ?_); obtain ⟨d7, d8⟩ := Bool.or_eq_false_iff.mp hg; have d7 := of_decide_eq_false d7; have d8 := of_decide_eq_false d8; exact y_lss ((ed d0 rfl rfl rfl).1 hg) rfl) (gS rfl (fun A B E G H d0 d1 => rP (y_pick_or (ed d0 rfl rfl rfl) rfl (ed d1 rfl rfl rfl))) (gS rfl (fun A B E G H d0 d1 => rP (y_move (ed d0 rfl rfl rfl))) (gT (Ty.grd ((((decide (n < (2 : Int))) || (decide ((12 : Int) < n))) || (decide ((((List.length l) : Nat) : Int) < (1 : Int)))) = false) (Ty.ref [(Ty.lst Ty.ints l)])) rfl (by intro A B E G H d0; refine run_guard G rfl rfl (by decide) (ed d0 rfl rfl rfl) (fun hg => ?_); obtain ⟨d9, d10⟩ := Bool.or_eq_false_iff.mp hg; obtain ⟨d11, d12⟩ := Bool.or_eq_false_iff.mp d9; have d11 := of_decide_eq_false d11; have d12 := of_decide_eq_false d12; have d10 := of_decide_eq_false d10; exact y_field Tryz.fld24_2 Tryz.inf22 (by decide) (kp (H 1 rfl) E q4) rfl) ?_))))
  refine gT (Ty.grd ((((decide (n < (2 : Int))) || (decide ((12 : Int) < n))) || (decide ((((List.length l) : Nat) : Int) < (1 : Int)))) = false) (Ty.lst Ty.ints l)) rfl (by intro A B E G H d0 d1; refine run_guard G rfl rfl (by decide) (ed d1 rfl rfl rfl) (fun hg => ?_); obtain ⟨d13, d14⟩ := Bool.or_eq_false_iff.mp hg; obtain ⟨d15, d16⟩ := Bool.or_eq_false_iff.mp d13; have d15 := of_decide_eq_false d15; have d16 := of_decide_eq_false d16; have d14 := of_decide_eq_false d14; exact y_load Tryz.underlying22 rfl ((ed d0 rfl rfl rfl).1 hg) rfl) (gT (Ty.grd ((((decide (n < (2 : Int))) || (decide ((12 : Int) < n))) || (decide ((((List.length l) : Nat) : Int) < (1 : Int)))) = false) (Ty.nat (List.length l))) rfl (by intro A B E G H d0 d1; refine run_guard G rfl rfl (by decide) (ed d1 rfl rfl rfl) (fun hg => ?_); obtain ⟨d17, d18⟩ := Bool.or_eq_false_iff.mp hg; obtain ⟨d19, d20⟩ := Bool.or_eq_false_iff.mp d17; have d19 := of_decide_eq_false d19; have d20 := of_decide_eq_false d20; have d18 := of_decide_eq_false d18; exact y_len Tryz.underlying22 ((ed d0 rfl rfl rfl).1 hg)) (gT (Ty.grd ((((decide (n < (2 : Int))) || (decide ((12 : Int) < n))) || (decide ((((List.length l) : Nat) : Int) < (1 : Int)))) = false) (Ty.bool (decide ((200 : Int) < (((List.length l) : Nat) : Int))))) rfl (by intro A B E G H d0 d1; refine run_guard G rfl rfl (by decide) (ed d1 rfl rfl rfl) (fun hg => ?_); obtain ⟨d21, d22⟩ := Bool.or_eq_false_iff.mp hg; obtain ⟨d23, d24⟩ := Bool.or_eq_false_iff.mp d21; have d23 := of_decide_eq_false d23; have d24 := of_decide_eq_false d24; have d22 := of_decide_eq_false d22; exact y_gtr ((ed d0 rfl rfl rfl).1 hg) rfl) (gS rfl (fun A B E G H d0 d1 => rP (y_pick_or (ed d0 rfl rfl rfl) rfl (ed d1 rfl rfl rfl))) (gE ok3 fun a5 s5 ok5 D5 => ?_)))); have F5 := F3.step0 D5.stp; refine tn ?_
  refine cond_t (D5.dn 19 rfl rfl) (fun c2 => ?_) (fun c2 => ?_)
  ·
   simp only [Bool.or_eq_true, decide_eq_true_eq] at c2; have h4 : n < 2 ∨ 12 < n ∨ l.length < 1 ∨ 200 < l.length := (by omega)
   refine wp_seq ?_
   refine gI a5 s5 ok5 (gC (Ty.int (1 : Int)) (gE ok5 fun a6 s6 ok6 D6 => ?_)); refine tn (wp_ret (tr ?_))
   exact retL1 rfl ok6 (F5.step0 D6.stp) (cvi (by (unfold methMay; rw [if_neg hnn, if_pos h4])) (D6.dn 0 rfl rfl))
  ·
   obtain ⟨d25, d26⟩ := Bool.or_eq_false_iff.mp c2
   obtain ⟨d27, d28⟩ := Bool.or_eq_false_iff.mp d25
   obtain ⟨d29, d30⟩ := Bool.or_eq_false_iff.mp d27
   replace d29 := of_decide_eq_false d29
   replace d30 := of_decide_eq_false d30
   replace d28 := of_decide_eq_false d28
   replace d26 := of_decide_eq_false d26
   have h4 : ¬ (n < 2 ∨ 12 < n ∨ l.length < 1 ∨ 200 < l.length) := (by simp only [Bool.or_eq_false_iff, decide_eq_false_iff_not] at c2; omega); have hmm : methMay nm n l = allMay n l := (by unfold methMay; rw [if_neg hnn, if_neg h4])
   refine wp_skip (tn (wp_seq (wp_seq ?_)))
   refine gI a5 s5 ok5 (gC (Ty.int (0 : Int)) (gE ok5 fun a7 s7 ok7 D7 => ?_)); refine tn (wp_block ?_)
   refine loop (fun n1 a8 w1 => ∃ (t1 : GW) (k : Nat), t1.w = w1 ∧ FromL [] s0 t1 ∧ Ok 49 [] a8 ∧ At (Ty.nat k) t1 a8 (.tmp 4) ∧ At (Ty.ref [(Ty.val (Value.string nm)), (Ty.int n), (Ty.lst Ty.ints l)]) t1 a8 (.tmp 1) ∧ (k ≤ l.length) ∧ (allMay n (l.drop k) = allMay n l) ∧ n1 = l.length - k) (l.length - (0)) ?_ ?_
   ·
    exact ⟨s7, 0, rfl, (F5.step0 D7.stp), ok7, (cvi (by (first | rfl | omega | (simp_all; done) | (simp_all; omega))) (D7.dn 0 rfl rfl)), (D7.kt (D5.kt q4 rfl) rfl), by omega, rfl, rfl⟩
   ·
    rintro n2 a9 w2 ⟨t2, k, rfl, F8, ok8, q12, q13, hk, ha, rfl⟩
    refine wp_seq (wp_seq ?_)
    refine gI a9 t2 ok8 (gM q12 (gS rfl (fun A B E G H => rP (y_field Tryz.fld24_2 Tryz.inf22 (by decide) (kp (H 1 rfl) E q13) rfl)) (gS rfl (fun A B E G H d0 => rP (y_load Tryz.underlying22 rfl (ed d0 rfl rfl rfl) rfl)) (gS rfl (fun A B E G H d0 => rP (y_len Tryz.underlying22 (ed d0 rfl rfl rfl))) (gS rfl (fun A B E G H d0 d1 => rP (y_lss (ed d0 rfl rfl rfl) (ed d1 rfl rfl rfl))) (gE ok8 fun a10 s8 ok9 D8 => ?_)))))); have F9 := F8.step0 D8.stp; have q14 := D8.kt q12 rfl; have q15 := D8.kt q13 rfl; refine tn ?_
    refine cond_p (p := (((k : Nat) : Int) < (((List.length l) : Nat) : Int))) (D8.dn 4 rfl rfl) (fun c3 => ?_) (fun c3 => ?_)
    ·
     refine wp_skip (tn (wp_seq (wp_block (wp_seq ?_))))
     refine gI a10 s8 ok9 (gS rfl (fun A B E G H => rP (y_field Tryz.fld24_1 Tryz.inf3 (by decide) (kp (H 1 rfl) E q15) rfl)) (gS rfl (fun A B E G H d0 => rP (y_load Tryz.underlying3 rfl (ed d0 rfl rfl rfl) rfl)) (gS rfl (fun A B E G H => rP (y_field Tryz.fld24_2 Tryz.inf22 (by decide) (kp (H 1 rfl) E q15) rfl)) (gS rfl (fun A B E G H d0 => rP (y_load Tryz.underlying22 rfl (ed d0 rfl rfl rfl) rfl)) (gM q14 (gT (Ty.ref [(Ty.lst Ty.int (l.getD k []))]) rfl (fun A B E G H d0 d1 => rP (y_index1 Tryz.underlying22 Tryz.inf30 (ed d0 rfl rfl rfl) (ed d1 rfl rfl rfl) (by omega) (lst_get Ty.ints l [] k (by omega)))) (gS rfl (fun A B E G H d0 => rP (y_load Tryz.underlying30 rfl (ed d0 rfl rfl rfl) rfl)) (gS rfl (fun A B E G H d0 d1 => rP (y_call _ Tryz.func29 rfl rfl my2 (rChangeMay_fn (n) ((l.getD k [])) _ _ _ (ed d0 rfl rfl rfl) (ed d1 rfl rfl rfl) (by omega)))) (gB 0 (gE ok9 fun a11 s9 ok10 D9 => ?_)))))))))); have q19 := D9.dn 8 rfl rfl; refine tn (wp_seq ?_)
     refine gI a11 s9 ok10 (gM q19 (gS rfl (fun A B E G H d0 => rP (y_neq (ed d0 rfl rfl rfl) rfl)) (gE ok10 fun a12 s10 ok11 D10 => ?_))); have F11 := (F9.step0 D9.stp).step0 D10.stp; refine tn ?_
     refine cond_p (p := ((chgMay n ((l.getD k []))) ≠ (0 : Int))) (D10.dn 1 rfl rfl) (fun c4 => ?_) (fun c4 => ?_)
     ·
      refine wp_seq ?_
      refine gI a12 s10 ok11 (gM (D10.kt q19 rfl) (gB 0 (gE ok11 fun a13 s11 ok12 D11 => ?_))); refine tn (wp_ret (br (tr (tr (br (tr ?_))))))
      exact retL1 rfl ok12 (F11.step0 D11.stp) (cvi (by (rw [hmm]; exact (allMay_stop ha (by omega) c4).symm)) (D11.dn 1 rfl rfl))
     ·
      refine wp_skip (bn (tn ?_))
      refine gI a12 s10 ok11 (gM (D10.kt (D9.kt q14 rfl) rfl) (gT (Ty.int (((k : Nat) : Int) + (1 : Int))) rfl (fun A B E G H d0 => rP (y_add (ed d0 rfl rfl rfl) rfl (w64 (by omega) (by omega)))) (gB 0 (gE ok11 fun a14 s12 ok13 D12 => ?_))))
      exact tn ⟨l.length - ((k+1)), by omega, s12, (k+1), rfl, (F11.step0 D12.stp), ok13, (cvi (by (first | rfl | omega | (simp_all; done) | (simp_all; omega))) (D12.dn 2 rfl rfl)), (D12.kt (D10.kt (D9.kt q15 rfl) rfl) rfl), by omega, allMay_step ha (by omega) c4, rfl⟩
    ·
     refine wp_exit (tx (tx (bx (tn (wp_seq ?_)))))
     refine gI a10 s8 ok9 (gC (Ty.int (0 : Int)) (gE ok9 fun a15 s13 ok14 D13 => ?_)); refine tn (wp_ret ?_)
     exact retL1 rfl ok14 (F9.step0 D13.stp) (cvi (by (rw [hmm]; exact (allMay_end ha (by omega)).symm)) (D13.dn 0 rfl rfl))


set_option maxRecDepth 100000 in
theorem pCheck_fn (n : Int) (l : List Int) (σ : GW) (v0 v1 : Value) (hv0 : Ty.has (Ty.int n) σ v0) (hv1 : Ty.has (Ty.lst Ty.int l) σ v1) (hn : -9223372036854775808 ≤ n ∧ n ≤ 9223372036854775807) :
    FnC Tryz.prog 36 #[v0, v1] σ (Ty.int (chgMay n l)) := by
 refine fn_intro Tryz.func36 rfl Tryz.ntmps36 (Nat.le_of_ble_eq_true rfl) (fun s0 a0 hle F0 ok0 hargs => ?_)
 have p0 := pA hle (hargs 0 _ rfl) hv0
 have p1 := pA hle (hargs 1 _ rfl) hv1
 have b1 := sl_le p1
 clear hargs; refine wp_seq ?_
 refine gI a0 s0 ok0 (gC (Ty.int (0 : Int)) (gE ok0 fun a1 s1 ok1 D1 => ?_)); have q1 := D1.kt p0 rfl; refine tn (wp_seq (wp_seq ?_))
 refine gI a1 s1 ok1 (gM q1 (gS rfl (fun A B E G H d0 => rP (y_lss (ed d0 rfl rfl rfl) rfl)) (gS rfl (fun A B E G H d0 => rP (y_move (ed d0 rfl rfl rfl))) (gS rfl (fun A B E G H d0 => gu G (ed d0 rfl rfl rfl) fun hg => y_move (kp (H 0 rfl) E q1)) (gS rfl (fun A B E G H d0 d1 => gu G (ed d1 rfl rfl rfl) fun hg => y_gtr ((ed d0 rfl rfl rfl).1 hg) rfl) (gS rfl (fun A B E G H d0 d1 => rP (y_pick_or (ed d0 rfl rfl rfl) rfl (ed d1 rfl rfl rfl))) (gE ok1 fun a2 s2 ok2 D2 => ?_))))))); have F2 := (F0.step0 D1.stp).step0 D2.stp; refine tn ?_
 refine cond_t (D2.dn 5 rfl rfl) (fun c1 => ?_) (fun c1 => ?_)
 ·
  simp only [Bool.or_eq_true, decide_eq_true_eq] at c1
  refine wp_seq ?_
  refine gI a2 s2 ok2 (gC (Ty.int (1 : Int)) (gE ok2 fun a3 s3 ok3 D3 => ?_)); refine tn (wp_ret (tr ?_))
  exact ret1 rfl ok3 (F2.step0 D3.stp) (cvi (by (exact (chgMay_cnt (by omega)).symm)) (D3.dn 0 rfl rfl))
 ·
  obtain ⟨d1, d2⟩ := Bool.or_eq_false_iff.mp c1
  replace d1 := of_decide_eq_false d1
  replace d2 := of_decide_eq_false d2
  refine wp_skip (tn (wp_seq ?_))
  refine gI a2 s2 ok2 (gC (Ty.int (0 : Int)) (gE ok2 fun a4 s4 ok4 D4 => ?_)); refine tn (wp_seq (wp_seq ?_))
  refine gI a4 s4 ok4 (gM (D4.kt (D2.kt (D1.kt p1 rfl) rfl) rfl) (gS rfl (fun A B E G H d0 => rP (y_len Tryz.underlying30 (ed d0 rfl rfl rfl))) (gT (Ty.int (0 : Int)) rfl (fun A B E G H => rP (y_move rfl)) (gE ok4 fun a5 s5 ok5 D5 => ?_)))); refine tn (wp_block ?_)
  refine loop (fun n1 a6 w1 => ∃ (t1 : GW) (k : Nat) (z : Int), t1.w = w1 ∧ From s0 t1 ∧ Ok 42 [] a6 ∧ At (Ty.nat k) t1 a6 (.tmp 16) ∧ At (Ty.int z) t1 a6 (.tmp 5) ∧ At (Ty.int n) t1 a6 (.tmp 0) ∧ At (Ty.lst Ty.int l) t1 a6 (.tmp 14) ∧ At (Ty.nat (List.length l)) t1 a6 (.tmp 15) ∧ (k ≤ l.length) ∧ (scanTo n l k = some z) ∧ (0 ≤ z ∧ z ≤ n) ∧ n1 = l.length - k) (l.length - (0)) ?_ ?_
  ·
   exact ⟨s5, 0, 0, rfl, ((F2.step0 D4.stp).step0 D5.stp), ok5, (cvi (by (first | rfl | omega | (simp_all; done) | (simp_all; omega))) (D5.dn 2 rfl rfl)), (cvi (by (first | rfl | omega | (simp_all; done) | (simp_all; omega))) (D5.kt (D4.dn 0 rfl rfl) rfl)), (D5.kt (D4.kt (D2.kt q1 rfl) rfl) rfl), (D5.dn 0 rfl rfl), (D5.dn 1 rfl rfl), by omega, rfl, by omega, rfl⟩
  ·
   rintro n2 a7 w2 ⟨t2, k, z, rfl, F6, ok6, q15, q16, q17, q18, q19, hk, E, hz, rfl⟩
   refine wp_seq ?_
   refine gI a7 t2 ok6 (gS rfl (fun A B E G H => rP (y_lss (kp (H 16 rfl) E q15) (kp (H 15 rfl) E q19))) (gE ok6 fun a8 s6 ok7 D6 => ?_)); have F7 := F6.step0 D6.stp; have q20 := D6.kt q15 rfl; have q21 := D6.kt q16 rfl; have q22 := D6.kt q17 rfl; have q23 := D6.kt q18 rfl; refine tn (wp_seq ?_)
   refine cond_p (p := (((k : Nat) : Int) < (((List.length l) : Nat) : Int))) (D6.dn 0 rfl rfl) (fun c2 => ?_) (fun c2 => ?_)
   ·
    refine wp_skip (tn (wp_seq (wp_block (wp_seq ?_))))
    refine gI a8 s6 ok7 (gT (Ty.ref [(Ty.int (l.getD k 0))]) rfl (fun A B E G H => rP (y_index1 Tryz.underlying30 Tryz.inf3 (kp (H 14 rfl) E q23) (kp (H 16 rfl) E q20) (by omega) (lst_get Ty.int l 0 k (by omega)))) (gS rfl (fun A B E G H d0 => rP (y_load Tryz.underlying3 rfl (ed d0 rfl rfl rfl) rfl)) (gB 0 (gE ok7 fun a9 s7 ok8 D7 => ?_)))); have q27 := D7.kt q21 rfl; have q28 := D7.kt q22 rfl; have q31 := D7.dn 2 rfl rfl; refine tn (wp_seq (wp_seq ?_))
    refine gI a9 s7 ok8 (gM q31 (gM q27 (gS rfl (fun A B E G H d0 d1 => rP (y_leq (ed d0 rfl rfl rfl) (ed d1 rfl rfl rfl))) (gS rfl (fun A B E G H d0 => rP (y_move (ed d0 rfl rfl rfl))) (gS rfl (fun A B E G H d0 => gu G (ed d0 rfl rfl rfl) fun hg => y_move (kp (H 7 rfl) E q31)) (gS rfl (fun A B E G H d0 => gu G (ed d0 rfl rfl rfl) fun hg => y_move (kp (H 0 rfl) E q28)) (gS rfl (fun A B E G H d0 d1 d2 => gu G (ed d2 rfl rfl rfl) fun hg => y_gtr ((ed d0 rfl rfl rfl).1 hg) ((ed d1 rfl rfl rfl).1 hg)) (gS rfl (fun A B E G H d0 d1 => rP (y_pick_or (ed d0 rfl rfl rfl) rfl (ed d1 rfl rfl rfl))) (gS rfl (fun A B E G H d0 d1 => rP (y_move (ed d0 rfl rfl rfl))) (gT (Ty.grd (((decide ((l.getD k 0) ≤ z)) || (decide (n < (l.getD k 0)))) = false) (Ty.int (l.getD k 0))) rfl (by intro A B E G H d0; refine run_guard G rfl rfl (by decide) (ed d0 rfl rfl rfl) (fun hg => ?_); obtain ⟨d3, d4⟩ := Bool.or_eq_false_iff.mp hg; have d3 := of_decide_eq_false d3; have d4 := of_decide_eq_false d4; exact y_move (kp (H 7 rfl) E q31)) (gT (Ty.grd (((decide ((l.getD k 0) ≤ z)) || (decide (n < (l.getD k 0)))) = false) (Ty.int z)) rfl (by intro A B E G H d0; refine run_guard G rfl rfl (by decide) (ed d0 rfl rfl rfl) (fun hg => ?_); obtain ⟨d5, d6⟩ := Bool.or_eq_false_iff.mp hg; have d5 := of_decide_eq_false d5; have d6 := of_decide_eq_false d6; exact y_move (kp (H 5 rfl) E q27)) (gT (Ty.grd (((decide ((l.getD k 0) ≤ z)) || (decide (n < (l.getD k 0)))) = false) (Ty.int ((l.getD k 0) - z))) rfl (by intro A B E G H d0 d1 d2; refine run_guard G rfl rfl (by decide) (ed d2 rfl rfl rfl) (fun hg => ?_); obtain ⟨d7, d8⟩ := Bool.or_eq_false_iff.mp hg; have d7 := of_decide_eq_false d7; have d8 := of_decide_eq_false d8; exact y_sub ((ed d0 rfl rfl rfl).1 hg) ((ed d1 rfl rfl rfl).1 hg) (w64 (by omega) (by omega))) ?_))))))))))))
    refine gT (Ty.grd (((decide ((l.getD k 0) ≤ z)) || (decide (n < (l.getD k 0)))) = false) (Ty.nat ((((l.getD k 0) - z)).toNat % 2))) rfl (by intro A B E G H d0 d1; refine run_guard G rfl rfl (by decide) (ed d1 rfl rfl rfl) (fun hg => ?_); obtain ⟨d9, d10⟩ := Bool.or_eq_false_iff.mp hg; have d9 := of_decide_eq_false d9; have d10 := of_decide_eq_false d10; exact y_remN (toN (σ := B) ((ed d0 rfl rfl rfl).1 hg) (by omega)) (toN (σ := B) rfl (by omega)) (by omega)) (gT (Ty.grd (((decide ((l.getD k 0) ≤ z)) || (decide (n < (l.getD k 0)))) = false) (Ty.bool (decide (((((((l.getD k 0) - z)).toNat % 2) : Nat) : Int) = (0 : Int))))) rfl (by intro A B E G H d0 d1; refine run_guard G rfl rfl (by decide) (ed d1 rfl rfl rfl) (fun hg => ?_); obtain ⟨d11, d12⟩ := Bool.or_eq_false_iff.mp hg; have d11 := of_decide_eq_false d11; have d12 := of_decide_eq_false d12; exact y_eql ((ed d0 rfl rfl rfl).1 hg) rfl) (gS rfl (fun A B E G H d0 d1 => rP (y_pick_or (ed d0 rfl rfl rfl) rfl (ed d1 rfl rfl rfl))) (gE ok8 fun a10 s8 ok9 D8 => ?_))); have F9 := (F7.step0 D7.stp).step0 D8.stp; refine tn ?_
    refine cond_t (D8.dn 14 rfl rfl) (fun c3 => ?_) (fun c3 => ?_)
    ·
     simp only [Bool.or_eq_true, decide_eq_true_eq] at c3
     refine wp_seq ?_
     refine gI a10 s8 ok9 (gC (Ty.int (6 : Int)) (gE ok9 fun a11 s9 ok10 D9 => ?_)); refine tn (wp_ret (tr (br (tr (tr (br (tr ?_)))))))
     exact ret1 rfl ok10 (F9.step0 D9.stp) (cvi (by (exact (chgMay_scan (by omega) E (by omega) (by omega)).symm)) (D9.dn 0 rfl rfl))
    ·
     obtain ⟨d13, d14⟩ := Bool.or_eq_false_iff.mp c3
     obtain ⟨d15, d16⟩ := Bool.or_eq_false_iff.mp d13
     replace d15 := of_decide_eq_false d15
     replace d16 := of_decide_eq_false d16
     replace d14 := of_decide_eq_false d14
     refine wp_skip (tn ?_)
     refine gI a10 s8 ok9 (gM (D8.kt q31 rfl) (gB 0 (gE ok9 fun a12 s10 ok11 D10 => ?_))); refine bn (tn ?_)
     refine gI a12 s10 ok11 (gT (Ty.int (((k : Nat) : Int) + (1 : Int))) rfl (fun A B E G H => rP (y_add (kp (H 16 rfl) E (D10.kt (D8.kt (D7.kt q20 rfl) rfl) rfl)) rfl (w64 (by omega) (by omega)))) (gS rfl (fun A B E G H d0 => rP (y_move (ed d0 rfl rfl rfl))) (gE ok11 fun a13 s11 ok12 D11 => ?_)))
     have d1_ := (of_decide_eq_false (Bool.or_eq_false_iff.1 c3).2)
     have d2_ := of_decide_eq_false (Bool.or_eq_false_iff.1 (Bool.or_eq_false_iff.1 c3).1).1
     have d3_ := of_decide_eq_false (Bool.or_eq_false_iff.1 (Bool.or_eq_false_iff.1 c3).1).2
     exact tn ⟨l.length - ((k+1)), by omega, s11, (k+1), (l.getD k 0), rfl, ((F9.step0 D10.stp).step0 D11.stp), ok12, (cvi (by (first | rfl | omega | (simp_all; done) | (simp_all; omega))) (D11.dn 1 rfl rfl)), (cvi (by (first | rfl | omega | (simp_all; done) | (simp_all; omega))) (D11.kt (D10.dn 1 rfl rfl) rfl)), (D11.kt (D10.kt (D8.kt q28 rfl) rfl) rfl), (D11.kt (D10.kt (D8.kt (D7.kt q23 rfl) rfl) rfl) rfl), (D11.kt (D10.kt (D8.kt (D7.kt (D6.kt q19 rfl) rfl) rfl) rfl) rfl), by omega, scan_step E (by omega) (by omega) (by omega) d1_, by omega, rfl⟩
   ·
    have hk2 : k = l.length := (by omega)
    refine wp_exit (tx (tx (bx (tn (wp_seq (wp_seq ?_))))))
    refine gI a8 s6 ok7 (gM q22 (gM q21 (gT (Ty.int (n - z)) rfl (fun A B E G H d0 d1 => rP (y_sub (ed d0 rfl rfl rfl) (ed d1 rfl rfl rfl) (w64 (by omega) (by omega)))) (gT (Ty.nat (((n - z)).toNat % 2)) rfl (fun A B E G H d0 => rP (y_remN (toN (σ := B) (ed d0 rfl rfl rfl) (by omega)) (toN (σ := B) rfl (by omega)) (by omega))) (gS rfl (fun A B E G H d0 => rP (y_eql (ed d0 rfl rfl rfl) rfl)) (gE ok7 fun a14 s12 ok13 D12 => ?_)))))); have F13 := F7.step0 D12.stp; refine tn ?_
    refine cond_p (p := ((((((n - z)).toNat % 2) : Nat) : Int) = (1 : Int))) (D12.dn 4 rfl rfl) (fun c4 => ?_) (fun c4 => ?_)
    ·
     refine wp_seq ?_
     refine gI a14 s12 ok13 (gC (Ty.int (6 : Int)) (gE ok13 fun a15 s13 ok14 D13 => ?_)); refine tn (wp_ret (tr ?_))
     exact ret1 rfl ok14 (F13.step0 D13.stp) (cvi (by (exact (chgMay_odd (by omega) (by rw [← hk2]; exact E) (by omega)).symm)) (D13.dn 0 rfl rfl))
    ·
     refine wp_skip (tn (wp_seq ?_))
     refine gI a14 s12 ok13 (gC (Ty.int (0 : Int)) (gE ok13 fun a16 s14 ok15 D14 => ?_)); refine tn (wp_ret ?_)
     exact ret1 rfl ok15 (F13.step0 D14.stp) (cvi (by (exact (chgMay_ok (by omega) (by rw [← hk2]; exact E) (by omega)).symm)) (D14.dn 0 rfl rfl))


set_option maxRecDepth 100000 in
theorem mCheck_fn (nm : ByteArray) (n : Int) (l : List (List Int)) (σ : GW) (v0 : Value) (hv0 : Ty.has (Ty.agg [(Ty.val (Value.string nm)), (Ty.int n), (Ty.lst Ty.ints l)]) σ v0) (hnm : nm.size ≤ 1099511627776) (hn : -9223372036854775808 ≤ n ∧ n ≤ 9223372036854775807) :
    FnC Tryz.prog 13 #[v0] σ (Ty.int (methMay nm n l)) := by
 refine fn_intro Tryz.func13 rfl Tryz.ntmps13 (Nat.le_of_ble_eq_true rfl) (fun s0 a0 hle F0 ok0 hargs => ?_)
 have p0 := pA hle (hargs 0 _ rfl) hv0
 clear hargs; refine wp_seq ?_
 refine gI a0 s0 ok0 (gS rfl (fun A B E G H => rP (y_boxagg (kp (H 0 rfl) E p0))) (gC (Ty.int (0 : Int)) (gE ok0 fun a1 s1 ok1 D1 => ?_))); have q1 := D1.dn 0 rfl rfl; refine tn (wp_seq (wp_block (wp_seq ?_)))
 refine gI a1 s1 ok1 (gS rfl (fun A B E G H => rP (y_field Tryz.fld24_0 Tryz.inf9 (by decide) (kp (H 1 rfl) E q1) rfl)) (gS rfl (fun A B E G H d0 => rP (y_load Tryz.underlying9 rfl (ed d0 rfl rfl rfl) rfl)) (gS rfl (fun A B E G H d0 => rP (y_call _ Tryz.func5 rfl rfl my1 (mName_fn (nm) _ _ (ed d0 rfl rfl rfl) (by first | omega | assumption)))) (gS rfl (fun A B E G H d0 => rP (y_not (ed d0 rfl rfl rfl))) (gB 0 (gE ok1 fun a2 s2 ok2 D2 => ?_)))))); have F2 := (F0.step0 D1.stp).step0 D2.stp; have q2 := D2.kt q1 rfl; refine tn ?_
 refine cond_t (D2.dn 4 rfl rfl) (fun c1 => ?_) (fun c1 => ?_)
 ·
  have hnn : nameL nm = false := (by simpa using c1)
  refine wp_seq ?_
  refine gI a2 s2 ok2 (gC (Ty.int (7 : Int)) (gE ok2 fun a3 s3 ok3 D3 => ?_)); refine tn (wp_ret (br (tr ?_)))
  exact ret1 rfl ok3 (F2.step0 D3.stp) (cvi (by (unfold methMay; rw [if_pos hnn])) (D3.dn 0 rfl rfl))
 ·
  have hnn : ¬ nameL nm = false := (by simpa using c1)
  refine wp_seq ?_
  refine gI a2 s2 ok2 (gS rfl (fun A B E G H => rP (y_field Tryz.fld24_1 Tryz.inf3 (by decide) (kp (H 1 rfl) E q2) rfl)) (gS rfl (fun A B E G H d0 => rP (y_load Tryz.underlying3 rfl (ed d0 rfl rfl rfl) rfl)) (gS rfl (fun A B E G H d0 => rP (y_lss (ed d0 rfl rfl rfl) rfl)) (gS rfl (fun A B E G H d0 => rP (y_move (ed d0 rfl rfl rfl))) (gS rfl (fun A B E G H d0 => guf G (ed d0 rfl rfl rfl) fun hg hp => y_field Tryz.fld24_1 Tryz.inf3 (by decide) (kp (H 1 rfl) E q2) rfl) (gS rfl (fun A B E G H d0 d1 => gu G (ed d1 rfl rfl rfl) fun hg => y_load Tryz.underlying3 rfl ((ed d0 rfl rfl rfl).1 hg) rfl) (gS rfl (fun A B E G H d0 d1 => gu G (ed d1 rfl rfl rfl) fun hg => y_gtr ((ed d0 rfl rfl rfl).1 hg) rfl) (gS rfl (fun A B E G H d0 d1 => rP (y_pick_or (ed d0 rfl rfl rfl) rfl (ed d1 rfl rfl rfl))) (gS rfl (fun A B E G H d0 d1 => rP (y_move (ed d0 rfl rfl rfl))) (gT (Ty.grd (((decide (n < (2 : Int))) || (decide ((12 : Int) < n))) = false) (Ty.ref [(Ty.lst Ty.ints l)])) rfl (by intro A B E G H d0; refine run_guard G rfl rfl (by decide) (ed d0 rfl rfl rfl) (fun hg => ?_); obtain ⟨d1, d2⟩ := Bool.or_eq_false_iff.mp hg; have d1 := of_decide_eq_false d1; have d2 := of_decide_eq_false d2; exact y_field Tryz.fld24_2 Tryz.inf22 (by decide) (kp (H 1 rfl) E q2) rfl) (gT (Ty.grd (((decide (n < (2 : Int))) || (decide ((12 : Int) < n))) = false) (Ty.lst Ty.ints l)) rfl (by intro A B E G H d0 d1; refine run_guard G rfl rfl (by decide) (ed d1 rfl rfl rfl) (fun hg => ?_); obtain ⟨d3, d4⟩ := Bool.or_eq_false_iff.mp hg; have d3 := of_decide_eq_false d3; have d4 := of_decide_eq_false d4; exact y_load Tryz.underlying22 rfl ((ed d0 rfl rfl rfl).1 hg) rfl) ?_)))))))))))
  refine gT (Ty.grd (((decide (n < (2 : Int))) || (decide ((12 : Int) < n))) = false) (Ty.nat (List.length l))) rfl (by intro A B E G H d0 d1; refine run_guard G rfl rfl (by decide) (ed d1 rfl rfl rfl) (fun hg => ?_); obtain ⟨d5, d6⟩ := Bool.or_eq_false_iff.mp hg; have d5 := of_decide_eq_false d5; have d6 := of_decide_eq_false d6; exact y_len Tryz.underlying22 ((ed d0 rfl rfl rfl).1 hg)) (gT (Ty.grd (((decide (n < (2 : Int))) || (decide ((12 : Int) < n))) = false) (Ty.bool (decide ((((List.length l) : Nat) : Int) < (1 : Int))))) rfl (by intro A B E G H d0 d1; refine run_guard G rfl rfl (by decide) (ed d1 rfl rfl rfl) (fun hg => ?_); obtain ⟨d7, d8⟩ := Bool.or_eq_false_iff.mp hg; have d7 := of_decide_eq_false d7; have d8 := of_decide_eq_false d8; exact y_lss ((ed d0 rfl rfl rfl).1 hg) rfl) (gS rfl (fun A B E G H d0 d1 => rP (y_pick_or (ed d0 rfl rfl rfl) rfl (ed d1 rfl rfl rfl))) (gS rfl (fun A B E G H d0 d1 => rP (y_move (ed d0 rfl rfl rfl))) (gT (Ty.grd ((((decide (n < (2 : Int))) || (decide ((12 : Int) < n))) || (decide ((((List.length l) : Nat) : Int) < (1 : Int)))) = false) (Ty.ref [(Ty.lst Ty.ints l)])) rfl (by intro A B E G H d0; refine run_guard G rfl rfl (by decide) (ed d0 rfl rfl rfl) (fun hg => ?_); obtain ⟨d9, d10⟩ := Bool.or_eq_false_iff.mp hg; obtain ⟨d11, d12⟩ := Bool.or_eq_false_iff.mp d9; have d11 := of_decide_eq_false d11; have d12 := of_decide_eq_false d12; have d10 := of_decide_eq_false d10; exact y_field Tryz.fld24_2 Tryz.inf22 (by decide) (kp (H 1 rfl) E q2) rfl) ?_))))
  refine gT (Ty.grd ((((decide (n < (2 : Int))) || (decide ((12 : Int) < n))) || (decide ((((List.length l) : Nat) : Int) < (1 : Int)))) = false) (Ty.lst Ty.ints l)) rfl (by intro A B E G H d0 d1; refine run_guard G rfl rfl (by decide) (ed d1 rfl rfl rfl) (fun hg => ?_); obtain ⟨d13, d14⟩ := Bool.or_eq_false_iff.mp hg; obtain ⟨d15, d16⟩ := Bool.or_eq_false_iff.mp d13; have d15 := of_decide_eq_false d15; have d16 := of_decide_eq_false d16; have d14 := of_decide_eq_false d14; exact y_load Tryz.underlying22 rfl ((ed d0 rfl rfl rfl).1 hg) rfl) (gT (Ty.grd ((((decide (n < (2 : Int))) || (decide ((12 : Int) < n))) || (decide ((((List.length l) : Nat) : Int) < (1 : Int)))) = false) (Ty.nat (List.length l))) rfl (by intro A B E G H d0 d1; refine run_guard G rfl rfl (by decide) (ed d1 rfl rfl rfl) (fun hg => ?_); obtain ⟨d17, d18⟩ := Bool.or_eq_false_iff.mp hg; obtain ⟨d19, d20⟩ := Bool.or_eq_false_iff.mp d17; have d19 := of_decide_eq_false d19; have d20 := of_decide_eq_false d20; have d18 := of_decide_eq_false d18; exact y_len Tryz.underlying22 ((ed d0 rfl rfl rfl).1 hg)) (gT (Ty.grd ((((decide (n < (2 : Int))) || (decide ((12 : Int) < n))) || (decide ((((List.length l) : Nat) : Int) < (1 : Int)))) = false) (Ty.bool (decide ((200 : Int) < (((List.length l) : Nat) : Int))))) rfl (by intro A B E G H d0 d1; refine run_guard G rfl rfl (by decide) (ed d1 rfl rfl rfl) (fun hg => ?_); obtain ⟨d21, d22⟩ := Bool.or_eq_false_iff.mp hg; obtain ⟨d23, d24⟩ := Bool.or_eq_false_iff.mp d21; have d23 := of_decide_eq_false d23; have d24 := of_decide_eq_false d24; have d22 := of_decide_eq_false d22; exact y_gtr ((ed d0 rfl rfl rfl).1 hg) rfl) (gS rfl (fun A B E G H d0 d1 => rP (y_pick_or (ed d0 rfl rfl rfl) rfl (ed d1 rfl rfl rfl))) (gB 0 (gE ok2 fun a4 s4 ok4 D4 => ?_))))); have F4 := F2.step0 D4.stp; have q5 := D4.kt q2 rfl; refine tn ?_
  refine cond_t (D4.dn 20 rfl rfl) (fun c2 => ?_) (fun c2 => ?_)
  ·
   simp only [Bool.or_eq_true, decide_eq_true_eq] at c2; have h4 : n < 2 ∨ 12 < n ∨ l.length < 1 ∨ 200 < l.length := (by omega)
   refine wp_seq ?_
   refine gI a4 s4 ok4 (gC (Ty.int (1 : Int)) (gE ok4 fun a5 s5 ok5 D5 => ?_)); refine tn (wp_ret (br (tr ?_)))
   exact ret1 rfl ok5 (F4.step0 D5.stp) (cvi (by (unfold methMay; rw [if_neg hnn, if_pos h4])) (D5.dn 0 rfl rfl))
  ·
   obtain ⟨d25, d26⟩ := Bool.or_eq_false_iff.mp c2
   obtain ⟨d27, d28⟩ := Bool.or_eq_false_iff.mp d25
   obtain ⟨d29, d30⟩ := Bool.or_eq_false_iff.mp d27
   replace d29 := of_decide_eq_false d29
   replace d30 := of_decide_eq_false d30
   replace d28 := of_decide_eq_false d28
   replace d26 := of_decide_eq_false d26
   have h4 : ¬ (n < 2 ∨ 12 < n ∨ l.length < 1 ∨ 200 < l.length) := (by simp only [Bool.or_eq_false_iff, decide_eq_false_iff_not] at c2; omega); have hmm : methMay nm n l = allMay n l := (by unfold methMay; rw [if_neg hnn, if_neg h4])
   refine wp_skip (bn (tn (wp_seq (wp_seq ?_))))
   refine gI a4 s4 ok4 (gS rfl (fun A B E G H => rP (y_field Tryz.fld24_2 Tryz.inf22 (by decide) (kp (H 1 rfl) E q5) rfl)) (gS rfl (fun A B E G H d0 => rP (y_load Tryz.underlying22 rfl (ed d0 rfl rfl rfl) rfl)) (gS rfl (fun A B E G H d0 => rP (y_len Tryz.underlying22 (ed d0 rfl rfl rfl))) (gT (Ty.int (0 : Int)) rfl (fun A B E G H => rP (y_move rfl)) (gE ok4 fun a6 s6 ok6 D6 => ?_))))); have q9 := D6.dn 1 rfl rfl
   have b1 := sl_le q9
   refine tn (wp_block ?_)
   refine loop (fun n1 a7 w1 => ∃ (t1 : GW) (k : Nat), t1.w = w1 ∧ From s0 t1 ∧ Ok 47 [] a7 ∧ At (Ty.nat k) t1 a7 (.tmp 35) ∧ At (Ty.ref [(Ty.val (Value.string nm)), (Ty.int n), (Ty.lst Ty.ints l)]) t1 a7 (.tmp 1) ∧ At (Ty.lst Ty.ints l) t1 a7 (.tmp 33) ∧ At (Ty.nat (List.length l)) t1 a7 (.tmp 34) ∧ (k ≤ l.length) ∧ (allMay n (l.drop k) = allMay n l) ∧ n1 = l.length - k) (l.length - (0)) ?_ ?_
   ·
    exact ⟨s6, 0, rfl, (F4.step0 D6.stp), ok6, (cvi (by (first | rfl | omega | (simp_all; done) | (simp_all; omega))) (D6.dn 3 rfl rfl)), (D6.kt q5 rfl), q9, (D6.dn 2 rfl rfl), by omega, rfl, rfl⟩
   ·
    rintro n2 a8 w2 ⟨t2, k, rfl, F7, ok7, q12, q13, q14, q15, hk, ha, rfl⟩
    refine wp_seq ?_
    refine gI a8 t2 ok7 (gS rfl (fun A B E G H => rP (y_lss (kp (H 35 rfl) E q12) (kp (H 34 rfl) E q15))) (gE ok7 fun a9 s7 ok8 D7 => ?_)); have F8 := F7.step0 D7.stp; have q16 := D7.kt q12 rfl; have q18 := D7.kt q14 rfl; refine tn (wp_seq ?_)
    refine cond_p (p := (((k : Nat) : Int) < (((List.length l) : Nat) : Int))) (D7.dn 0 rfl rfl) (fun c3 => ?_) (fun c3 => ?_)
    ·
     refine wp_skip (tn (wp_seq (wp_block (wp_seq ?_))))
     refine gI a9 s7 ok8 (gT (Ty.ref [(Ty.lst Ty.int (l.getD k []))]) rfl (fun A B E G H => rP (y_index1 Tryz.underlying22 Tryz.inf30 (kp (H 33 rfl) E q18) (kp (H 35 rfl) E q16) (by omega) (lst_get Ty.ints l [] k (by omega)))) (gS rfl (fun A B E G H d0 => rP (y_load Tryz.underlying30 rfl (ed d0 rfl rfl rfl) rfl)) (gB 0 (gE ok8 fun a10 s8 ok9 D8 => ?_)))); have q22 := D8.kt (D7.kt q13 rfl) rfl; refine tn (wp_seq ?_)
     refine gI a10 s8 ok9 (gS rfl (fun A B E G H => rP (y_field Tryz.fld24_1 Tryz.inf3 (by decide) (kp (H 1 rfl) E q22) rfl)) (gS rfl (fun A B E G H d0 => rP (y_load Tryz.underlying3 rfl (ed d0 rfl rfl rfl) rfl)) (gM (D8.dn 2 rfl rfl) (gS rfl (fun A B E G H d0 d1 => rP (y_call _ Tryz.func36 rfl rfl my2 (pCheck_fn (n) ((l.getD k [])) _ _ _ (ed d0 rfl rfl rfl) (ed d1 rfl rfl rfl) (by omega)))) (gB 0 (gE ok9 fun a11 s9 ok10 D9 => ?_)))))); have q30 := D9.dn 4 rfl rfl; refine tn (wp_seq ?_)
     refine gI a11 s9 ok10 (gM q30 (gS rfl (fun A B E G H d0 => rP (y_neq (ed d0 rfl rfl rfl) rfl)) (gE ok10 fun a12 s10 ok11 D10 => ?_))); have F11 := ((F8.step0 D8.stp).step0 D9.stp).step0 D10.stp; refine tn ?_
     refine cond_p (p := ((chgMay n ((l.getD k []))) ≠ (0 : Int))) (D10.dn 1 rfl rfl) (fun c4 => ?_) (fun c4 => ?_)
     ·
      refine wp_seq ?_
      refine gI a12 s10 ok11 (gM (D10.kt q30 rfl) (gB 0 (gE ok11 fun a13 s11 ok12 D11 => ?_))); refine tn (wp_ret (br (tr (tr (br (tr ?_))))))
      exact ret1 rfl ok12 (F11.step0 D11.stp) (cvi (by (rw [hmm]; exact (allMay_stop ha (by omega) c4).symm)) (D11.dn 1 rfl rfl))
     ·
      refine wp_skip (bn (tn ?_))
      refine gI a12 s10 ok11 (gT (Ty.int (((k : Nat) : Int) + (1 : Int))) rfl (fun A B E G H => rP (y_add (kp (H 35 rfl) E (D10.kt (D9.kt (D8.kt q16 rfl) rfl) rfl)) rfl (w64 (by omega) (by omega)))) (gS rfl (fun A B E G H d0 => rP (y_move (ed d0 rfl rfl rfl))) (gE ok11 fun a14 s12 ok13 D12 => ?_)))
      exact tn ⟨l.length - ((k+1)), by omega, s12, (k+1), rfl, (F11.step0 D12.stp), ok13, (cvi (by (first | rfl | omega | (simp_all; done) | (simp_all; omega))) (D12.dn 1 rfl rfl)), (D12.kt (D10.kt (D9.kt q22 rfl) rfl) rfl), (D12.kt (D10.kt (D9.kt (D8.kt q18 rfl) rfl) rfl) rfl), (D12.kt (D10.kt (D9.kt (D8.kt (D7.kt q15 rfl) rfl) rfl) rfl) rfl), by omega, allMay_step ha (by omega) c4, rfl⟩
    ·
     refine wp_exit (tx (tx (bx (tn (wp_seq ?_)))))
     refine gI a9 s7 ok8 (gC (Ty.int (0 : Int)) (gE ok8 fun a15 s13 ok14 D13 => ?_)); refine tn (wp_ret ?_)
     exact ret1 rfl ok14 (F8.step0 D13.stp) (cvi (by (rw [hmm]; exact (allMay_end ha (by omega)).symm)) (D13.dn 0 rfl rfl))


set_option maxRecDepth 100000 in
theorem first_fn (n : Nat) (σ : GW) (v0 : Value) (hv0 : Ty.has (Ty.nat n) σ v0) (hn : n ≤ 1000000) :
    FnC Tryz.prog 48 #[v0] σ (Ty.lst Ty.int (roundsL n)) := by
 refine fn_intro Tryz.func48 rfl Tryz.ntmps48 (Nat.le_of_ble_eq_true rfl) (fun s0 a0 hle F0 ok0 hargs => ?_)
 have p0 := pA hle (hargs 0 _ rfl) hv0
 clear hargs; refine wp_seq ?_
 refine gI a0 s0 ok0 (gC (Ty.val (Value.slice none 0 0)) (gE ok0 fun a1 s1 ok1 D1 => ?_)); refine tn (wp_seq ?_)
 refine gI a1 s1 ok1 (gM (D1.kt p0 rfl) (gR (Pr.own 11 3 1 n (List.map Ty.int (List.replicate n 0))) rfl (by intro A B E G H d0 d1; have e0 := ed d0 rfl rfl rfl; exact rP ((y_make (k := 11) (T := Ty.int 0) (n := n) Tryz.underlying30 Tryz.inf3 rfl (fun _ => rfl) e0 e0 (by omega) (by omega)).mono (fun _ _ h => cvo (by simp) (by simp) h))) (gR (Pr.own 11 3 1 n (List.map Ty.int (List.replicate n 0))) rfl (by intro A B E G H d0 d1 d2; have e1 : (Pr.own 11 3 1 n (List.map Ty.int (List.replicate n 0))).has B (A.eval (.tmp 6)) := d0 rfl; exact rP (y_assign e1)) (gE ok1 fun a2 s2 ok2 D2 => ?_))))
 have q2 : (Pr.own 11 3 1 n (List.map Ty.int (List.replicate n 0))).has s2 (a2.eval (.tmp 3)) := D2.done 2
 refine tn (wp_seq (wp_seq ?_))
 refine gI a2 s2 ok2 (gT (Ty.val (a2.eval (.tmp 3))) rfl (fun A B E G H => rP (y_move (H 3 rfl))) (gT (Ty.nat n) rfl (fun A B E G H d0 => rP (own_len Tryz.underlying30 (al (ed d0 rfl rfl rfl) ((Pr.own 11 3 1 n (List.map Ty.int (List.replicate n 0))).up E q2)))) (gT (Ty.int (0 : Int)) rfl (fun A B E G H => rP (y_move rfl)) (gE ok2 fun a3 s3 ok3 D3 => ?_))))
 have q3 : (Pr.own 11 3 1 n (List.map Ty.int (List.replicate n 0))).has s3 (a3.eval (.tmp 3)) := D3.ko q2 rfl
 refine tn (wp_block ?_)
 refine loop (fun n1 a4 w1 => ∃ (t1 : GW) (k : Nat), t1.w = w1 ∧ From s0 t1 ∧ Ok 18 [] a4 ∧ At (Ty.nat k) t1 a4 (.tmp 9) ∧ (Pr.own 11 3 1 (List.length (firstTo n k)) (List.map Ty.int (firstTo n k))).has t1 (a4.eval (.tmp 3)) ∧ At (Ty.nat n) t1 a4 (.tmp 8) ∧ (k ≤ n) ∧ n1 = n - k) (n - (0)) ?_ ?_
 ·
  exact ⟨s3, 0, rfl, (((F0.step0 D1.stp).step0 D2.stp).step0 D3.stp), ok3, (cvi (by (first | rfl | omega | (simp_all; done) | (simp_all; omega))) (D3.dn 2 rfl rfl)), (cvo (by (simp [firstTo_zero])) (by (simp [firstTo_zero])) q3), (D3.dn 1 rfl rfl), by omega, rfl⟩
 ·
  rintro n2 a5 w2 ⟨t2, k, rfl, F4, ok4, q6, q7, q8, hk, rfl⟩
  have hp := firstTo_len n k
  refine wp_seq ?_
  refine gI a5 t2 ok4 (gS rfl (fun A B E G H => rP (y_lss (kp (H 9 rfl) E q6) (kp (H 8 rfl) E q8))) (gE ok4 fun a6 s4 ok5 D4 => ?_)); have F5 := F4.step0 D4.stp; have q9 := D4.kt q6 rfl
  have q10 : (Pr.own 11 3 1 (List.length (firstTo n k)) (List.map Ty.int (firstTo n k))).has s4 (a6.eval (.tmp 3)) := D4.ko q7 rfl
  refine tn (wp_seq ?_)
  refine cond_p (p := (((k : Nat) : Int) < ((n : Nat) : Int))) (D4.dn 0 rfl rfl) (fun c1 => ?_) (fun c1 => ?_)
  ·
   refine wp_skip (tn (wp_seq (wp_block (wp_seq ?_))))
   refine gI a6 s4 ok5 (gM q9 (gB 0 (gE ok5 fun a7 s5 ok6 D5 => ?_)))
   have q14 : (Pr.own 11 3 1 (List.length (firstTo n k)) (List.map Ty.int (firstTo n k))).has s5 (a7.eval (.tmp 3)) := D5.ko q10 rfl
   have q16 := D5.dn 1 rfl rfl; refine tn ?_
   refine gI a7 s5 ok6 (gT (Ty.val (a7.eval (.tmp 3))) rfl (fun A B E G H => rP (y_move (H 3 rfl))) (gM q16 (gM q16 (gT (Ty.val (cellPtr (a7.eval (.tmp 3)) k)) rfl (fun A B E G H d0 d1 d2 d3 d4 => rP (own_index1 (i := ((k : Nat) : Int)) Tryz.underlying30 Tryz.inf3 ((Pr.own 11 3 1 (List.length (firstTo n k)) (List.map Ty.int (firstTo n k))).up E q14) (ed d0 rfl rfl rfl) (ed d1 rfl rfl rfl) (by omega) (by omega))) (gE2 ok6 fun a8 s6 ok7 D6 => ?_))))); have q17 := (Pr.own 11 3 1 (List.length (firstTo n k)) (List.map Ty.int (firstTo n k))).up D6.stp q14
   have q19 : a8.eval (.tmp 3) = a7.eval (.tmp 3) := D6.same 3 rfl
   have q21 := D6.dn 2 (by decide) rfl rfl
   refine tail_step0 (m := 11) (R := (fun _ τ => Own τ 11 3 1 (a7.eval (.tmp 3)) (List.length (firstTo n k)) ((List.map Ty.int (firstTo n k)).set k (Ty.nat k)))) rfl rfl (m_store Tryz.inf3 (by decide) q17 (D6.dn 3 (by decide) rfl rfl) (by simp only [List.length_map, List.length_set]; omega) q21 (one_val rfl)) (fun v1 s7 hs1 r1 => ?_)
   have F8 := ((F5.step0 D5.stp).step0 D6.stp).step hs1 (by decide)
   have q23 : At (Ty.nat k) s7 a8 (.tmp 9) := kpm hs1 (by decide) rfl (D6.kt (D5.kt q9 rfl) rfl)
   have q24 : At (Ty.nat n) s7 a8 (.tmp 8) := kpm hs1 (by decide) rfl (D6.kt (D5.kt (D4.kt q8 rfl) rfl) rfl)
   have q25 : At (Ty.nat k) s7 a8 (.tmp 14) := kpm hs1 (by decide) rfl q21
   have q26 : (Pr.own 11 3 1 (List.length ((firstTo n k).set k ((k : Nat) : Int))) (List.map Ty.int ((firstTo n k).set k ((k : Nat) : Int)))).has s7 (a7.eval (.tmp 3)) := (cvo (by simp) (by simp) r1)
   refine wpList_nil ?_
   have q27 : (Pr.own 11 3 1 (List.length ((firstTo n k).set k ((k : Nat) : Int))) (List.map Ty.int ((firstTo n k).set k ((k : Nat) : Int)))).has s7 (a8.eval (.tmp 3)) := al q19 q26
   refine bn (tn ?_)
   refine gI a8 s7 ok7 (gT (Ty.int (((k : Nat) : Int) + (1 : Int))) rfl (fun A B E G H => rP (y_add (kp (H 9 rfl) E q23) rfl (w64 (by omega) (by omega)))) (gS rfl (fun A B E G H d0 => rP (y_move (ed d0 rfl rfl rfl))) (gE ok7 fun a10 s8 ok9 D7 => ?_)))
   have q28 : (Pr.own 11 3 1 (List.length ((firstTo n k).set k ((k : Nat) : Int))) (List.map Ty.int ((firstTo n k).set k ((k : Nat) : Int)))).has s8 (a10.eval (.tmp 3)) := D7.ko q27 rfl
   exact tn ⟨n - ((k+1)), by omega, s8, (k+1), rfl, (F8.step0 D7.stp), ok9, (cvi (by (first | rfl | omega | (simp_all; done) | (simp_all; omega))) (D7.dn 1 rfl rfl)), (cvo (by (rw [firstTo_step n k])) (by (rw [firstTo_step n k])) q28), (D7.kt q24 rfl), by omega, rfl⟩
  ·
   refine wp_exit (tx (tx (bx (tn (wp_seq ?_)))))
   refine gI a6 s4 ok5 (gT (Ty.val (a6.eval (.tmp 3))) rfl (fun A B E G H => rP (y_move (H 3 rfl))) (gB 0 (gE ok5 fun a11 s9 ok10 D8 => ?_)))
   have q31 : (Pr.own 11 3 1 (List.length (firstTo n k)) (List.map Ty.int (firstTo n k))).has s9 (a11.eval (.tmp 2)) := al (show _ = _ from D8.done 1) ((Pr.own 11 3 1 (List.length (firstTo n k)) (List.map Ty.int (firstTo n k))).up D8.stp q10)
   refine tn (wp_ret ?_)
   obtain ⟨t3, e1, h1, q32⟩ := Own.seal q31 (by decide)
   rw [← e1]
   have F11 := (F5.step0 D8.stp).step h1 (by decide)
   exact ret1 rfl ok10 F11 (cvt (by (obtain rfl : k = n := (by omega); rw [firstTo_all])) q32)


set_option maxRecDepth 100000 in
theorem rounds_fn (n : Nat) (σ : GW) (v0 : Value) (hv0 : Ty.has (Ty.nat n) σ v0) (hn : 1 ≤ n ∧ n ≤ 12) :
    FnC Tryz.prog 30 #[v0] σ (Ty.tup2 (Ty.lst Ty.int (roundsL n)) (Ty.int (0 : Int))) := by
 refine fn_intro Tryz.func30 rfl Tryz.ntmps30 (Nat.le_of_ble_eq_true rfl) (fun s0 a0 hle F0 ok0 hargs => ?_)
 have p0 := pA hle (hargs 0 _ rfl) hv0
 clear hargs; refine wp_seq ?_
 refine gI a0 s0 ok0 (gC (Ty.val (Value.slice none 0 0)) (gC (Ty.int (0 : Int)) (gE ok0 fun a1 s1 ok1 D1 => ?_))); have q1 := D1.kt p0 rfl; refine tn (wp_seq (wp_seq ?_))
 refine gI a1 s1 ok1 (gM q1 (gS rfl (fun A B E G H d0 => rP (y_lss (ed d0 rfl rfl rfl) rfl)) (gS rfl (fun A B E G H d0 => rP (y_move (ed d0 rfl rfl rfl))) (gS rfl (fun A B E G H d0 => gu G (ed d0 rfl rfl rfl) fun hg => y_move (kp (H 0 rfl) E q1)) (gS rfl (fun A B E G H d0 d1 => gu G (ed d1 rfl rfl rfl) fun hg => y_gtr ((ed d0 rfl rfl rfl).1 hg) rfl) (gS rfl (fun A B E G H d0 d1 => rP (y_pick_or (ed d0 rfl rfl rfl) rfl (ed d1 rfl rfl rfl))) (gE ok1 fun a2 s2 ok2 D2 => ?_))))))); refine tn ?_
 refine cond_t (D2.dn 5 rfl rfl) (fun c1 => ?_) (fun c1 => ?_)
 ·
  exfalso
  simp only [Bool.or_eq_true, decide_eq_true_eq] at c1; omega
 ·
  obtain ⟨d1, d2⟩ := Bool.or_eq_false_iff.mp c1
  replace d1 := of_decide_eq_false d1
  replace d2 := of_decide_eq_false d2
  refine wp_skip (tn (wp_seq ?_))
  refine gI a2 s2 ok2 (gM (D2.kt q1 rfl) (gS rfl (fun A B E G H d0 => rP (y_call _ Tryz.func48 rfl rfl my1 (first_fn (n) _ _ (ed d0 rfl rfl rfl) (by omega)))) (gB 0 (gC (Ty.int (0 : Int)) (gE ok2 fun a3 s3 ok3 D3 => ?_))))); refine tn (wp_ret ?_)
  exact ret2 rfl ok3 (((F0.step0 D1.stp).step0 D2.stp).step0 D3.stp) (D3.dn 2 rfl rfl) (D3.dn 3 rfl rfl)


end Go.Proofs.YtdjihbjikpbhgaaGreatDoor
