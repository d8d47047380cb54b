/- The functions that the law MethodReads reaches, each by its contract. Part 6. -/
import Derived.Test.YtdjihbjikpbhgaaDoorMethodReadsW5
namespace Go.Proofs.YtdjihbjikpbhgaaDoor
open Go.KL

set_option maxHeartbeats 4000000 in
set_option maxRecDepth 100000 in
theorem rBellOf_fn (c : Int) (σ : GW)  (v0 : Value) (hv0 : Ty.has (Ty.val (Value.int .u8 c)) σ v0)  (hc : 0 ≤ c ∧ c < 256) :
    FnC Tryd.prog 92 #[v0] σ (Ty.int (Lib.indexByte SIGNS.data.toList (c).toNat.toUInt8)) := by
 refine fn_intro0 Tryd.func92 rfl Tryd.ntmps92 (Nat.le_of_ble_eq_true rfl) (fun s0 a0 hle F0 ok0 hargs => ?_)
 have p0 := pA hle (hargs 0 _ rfl) hv0
 clear hargs; refine wp_seq ?_
 refine gI a0 s0 ok0 (gC (Ty.int (0 : Int)) (gE ok0 fun a1 s1 ok1 D1 => ?_)); refine tn (wp_seq ?_)
 refine gI a1 s1 ok1 (gT (Ty.val (Value.string SIGNS)) rfl (fun A B E G H => rP (y_assign rfl)) (gE ok1 fun a2 s2 ok2 D2 => ?_)); refine tn (wp_seq (wp_seq ?_))
 refine gI a2 s2 ok2 (gC (Ty.int (0 : Int)) (gE ok2 fun a3 s3 ok3 D3 => ?_)); refine tn (wp_block ?_)
 refine loop (fun n1 a4 w1 => ∃ (t1 : GW) (i : Nat), t1.w = w1 ∧ FromL [] s0 t1 ∧ Ok 17 [] a4 ∧ At (Ty.nat i) t1 a4 (.tmp 4) ∧ At (Ty.val (Value.int .u8 c)) t1 a4 (.tmp 0) ∧ At (Ty.val (Value.string SIGNS)) t1 a4 (.tmp 3) ∧ (i ≤ 12) ∧ (∀ j, j < i → (((SIGNS.get! j).toNat : Nat) : Int) ≠ c) ∧ n1 = 12 - i) (12 - (0)) ?_ ?_
 ·
  exact ⟨s3, 0, rfl, (((F0.step0 D1.stp).step0 D2.stp).step0 D3.stp), ok3, (cvi (by (first | rfl | omega | (simp_all; done) | (simp_all; omega))) (D3.dn 0 rfl rfl)), (D3.kt (D2.kt (D1.kt p0 rfl) rfl) rfl), (D3.kt (D2.dn 0 rfl rfl) rfl), by omega, fun j hj => absurd hj (Nat.not_lt_zero j), rfl⟩
 ·
  rintro n2 a5 w2 ⟨t2, i, rfl, F4, ok4, q7, q8, q9, hi, hno, rfl⟩
  have hsz := signs_size
  refine wp_seq (wp_seq ?_)
  refine gI a5 t2 ok4 (gM q7 (gM q9 (gT (Ty.nat (ByteArray.size SIGNS)) rfl (fun A B E G H d0 => rP (y_len_str Tryd.underlying9 (ed d0 rfl rfl rfl))) (gS rfl (fun A B E G H d0 d1 => rP (y_lss (ed d0 rfl rfl rfl) (ed d1 rfl rfl rfl))) (gE ok4 fun a6 s4 ok5 D4 => ?_))))); have F5 := F4.step0 D4.stp; have q10 := D4.kt q7 rfl; have q11 := D4.kt q8 rfl; have q12 := D4.kt q9 rfl; refine tn ?_
  refine cond_p (p := (((i : Nat) : Int) < (((ByteArray.size SIGNS) : Nat) : Int))) (D4.dn 3 rfl rfl) (fun c1 => ?_) (fun c1 => ?_)
  ·
   refine wp_skip (tn (wp_seq (wp_block (wp_seq ?_))))
   refine gI a6 s4 ok5 (gM q12 (gM q10 (gT (Ty.val (Value.int .u8 (((SIGNS.get! i).toNat : Nat) : Int))) rfl (fun A B E G H d0 d1 => rP (y_sindex Tryd.underlying9 (ed d0 rfl rfl rfl) (ed d1 rfl rfl rfl) (by omega) (by omega))) (gM q11 (gS rfl (fun A B E G H d0 d1 => rP (y_eql (ed d0 rfl rfl rfl) (ed d1 rfl rfl rfl))) (gE ok5 fun a7 s5 ok6 D5 => ?_)))))); have F6 := F5.step0 D5.stp; have q14 := D5.kt q10 rfl; refine tn ?_
   refine cond_p (p := ((((SIGNS.get! i).toNat : Nat) : Int) = c)) (D5.dn 4 rfl rfl) (fun c2 => ?_) (fun c2 => ?_)
   ·
    refine wp_seq ?_
    refine gI a7 s5 ok6 (gM q14 (gB 0 (gE ok6 fun a8 s6 ok7 D6 => ?_))); refine tn (wp_ret (br (tr (tr (br (tr ?_))))))
    exact retL1 rfl ok7 (F6.step0 D6.stp) (cvi (by (exact (ixs_yes hc.1 hc.2 (by omega) (by assumption) hno).symm)) (D6.dn 1 rfl rfl))
   ·
    refine wp_skip (bn (tn ?_))
    refine gI a7 s5 ok6 (gM q14 (gT (Ty.int (((i : Nat) : Int) + (1 : Int))) rfl (fun A B E G H d0 => rP (y_add (ed d0 rfl rfl rfl) rfl (w64 (by omega) (by omega)))) (gB 0 (gE ok6 fun a9 s7 ok8 D7 => ?_))))
    exact tn ⟨12 - ((i+1)), by omega, s7, (i+1), rfl, (F6.step0 D7.stp), ok8, (cvi (by (first | rfl | omega | (simp_all; done) | (simp_all; omega))) (D7.dn 2 rfl rfl)), (D7.kt (D5.kt q11 rfl) rfl), (D7.kt (D5.kt q12 rfl) rfl), by omega, fun j hj => by (by_cases e : j = i; subst e; assumption; exact hno j (by omega)), rfl⟩
  ·
   refine wp_exit (tx (tx (bx (tn (wp_seq ?_)))))
   refine gI a6 s4 ok5 (gC (Ty.int (-1 : Int)) (gE ok5 fun a10 s8 ok9 D8 => ?_)); refine tn (wp_ret ?_)
   exact retL1 rfl ok9 (F5.step0 D8.stp) (cvi (by (exact (ixs_no hc.1 hc.2 (fun j hj => hno j (by omega))).symm)) (D8.dn 0 rfl rfl))


set_option maxHeartbeats 4000000 in
set_option maxRecDepth 100000 in
theorem rBell_fn (c : Int) (σ : GW)  (v0 : Value) (hv0 : Ty.has (Ty.int c) σ v0)   :
    FnC Tryd.prog 62 #[v0] σ (Ty.int (signIdx c)) := by
 refine fn_intro0 Tryd.func62 rfl Tryd.ntmps62 (Nat.le_of_ble_eq_true rfl) (fun s0 a0 hle F0 ok0 hargs => ?_)
 have p0 := pA hle (hargs 0 _ rfl) hv0
 clear hargs; refine wp_seq ?_
 refine gI a0 s0 ok0 (gC (Ty.int (0 : Int)) (gE ok0 fun a1 s1 ok1 D1 => ?_)); have q1 := D1.kt p0 rfl; refine tn (wp_seq (wp_seq ?_))
 refine gI a1 s1 ok1 (gM q1 (gS rfl (fun A B E G H d0 => rP (y_lss (ed d0 rfl rfl rfl) rfl)) (gS rfl (fun A B E G H d0 => rP (y_move (ed d0 rfl rfl rfl))) (gS rfl (fun A B E G H d0 => gu G (ed d0 rfl rfl rfl) fun hg => y_move (kp (H 0 rfl) E q1)) (gS rfl (fun A B E G H d0 d1 => gu G (ed d1 rfl rfl rfl) fun hg => y_gtr ((ed d0 rfl rfl rfl).1 hg) rfl) (gS rfl (fun A B E G H d0 d1 => rP (y_pick_or (ed d0 rfl rfl rfl) rfl (ed d1 rfl rfl rfl))) (gE ok1 fun a2 s2 ok2 D2 => ?_))))))); have F2 := (F0.step0 D1.stp).step0 D2.stp; refine tn ?_
 refine cond_t (D2.dn 5 rfl rfl) (fun c1 => ?_) (fun c1 => ?_)
 ·
  simp only [Bool.or_eq_true, decide_eq_true_eq] at c1
  refine wp_seq ?_
  refine gI a2 s2 ok2 (gC (Ty.int (-1 : Int)) (gE ok2 fun a3 s3 ok3 D3 => ?_)); refine tn (wp_ret (tr ?_))
  exact retL1 rfl ok3 (F2.step0 D3.stp) (cvi (by (exact (signIdx_hi (by omega)).symm)) (D3.dn 0 rfl rfl))
 ·
  obtain ⟨d1, d2⟩ := Bool.or_eq_false_iff.mp c1
  replace d1 := of_decide_eq_false d1
  replace d2 := of_decide_eq_false d2
  refine wp_skip (tn (wp_seq ?_))
  refine gI a2 s2 ok2 (gM (D2.kt q1 rfl) (gT (Ty.val (Value.int .u8 c)) rfl (fun A B E G H d0 => rP (y_conv Tryd.underlying5 (ed d0 rfl rfl rfl) (by exact wrap_u8 (by omega) (by omega)) (by rw [Tryd.underlying3]; rfl))) (gS rfl (fun A B E G H d0 => rP (y_call _ Tryd.func92 rfl rfl my1 (rBellOf_fn (c) _ _ (ed d0 rfl rfl rfl) (by omega)))) (gB 0 (gE ok2 fun a4 s4 ok4 D4 => ?_))))); refine tn (wp_ret ?_)
  exact retL1 rfl ok4 (F2.step0 D4.stp) (cvi (by (exact (signIdx_lo (by omega) (by omega)).symm)) (D4.dn 3 rfl rfl))


set_option maxRecDepth 100000 in
theorem rChangeMay_fn (n : Int) (l : List Int) (σ : GW) (v0 v1 : Value) (hv0 : Ty.has (Ty.int n) σ v0) (hv1 : Ty.has (Ty.lst Ty.int l) σ v1) (hn : -9223372036854775808 ≤ n ∧ n ≤ 9223372036854775807) :
    FnC Tryd.prog 64 #[v0, v1] σ (Ty.int (chgMay n l)) := by
 refine fn_intro Tryd.func64 rfl Tryd.ntmps64 (Nat.le_of_ble_eq_true rfl) (fun s0 a0 hle F0 ok0 hargs => ?_)
 have p0 := pA hle (hargs 0 _ rfl) hv0
 have p1 := pA hle (hargs 1 _ rfl) hv1
 have b1 := sl_le p1
 clear hargs; refine wp_seq ?_
 refine gI a0 s0 ok0 (gC (Ty.int (0 : Int)) (gE ok0 fun a1 s1 ok1 D1 => ?_)); have q1 := D1.kt p0 rfl; refine tn (wp_seq (wp_seq ?_))
 refine gI a1 s1 ok1 (gM q1 (gS rfl (fun A B E G H d0 => rP (y_lss (ed d0 rfl rfl rfl) rfl)) (gS rfl (fun A B E G H d0 => rP (y_move (ed d0 rfl rfl rfl))) (gS rfl (fun A B E G H d0 => gu G (ed d0 rfl rfl rfl) fun hg => y_move (kp (H 0 rfl) E q1)) (gS rfl (fun A B E G H d0 d1 => gu G (ed d1 rfl rfl rfl) fun hg => y_gtr ((ed d0 rfl rfl rfl).1 hg) rfl) (gS rfl (fun A B E G H d0 d1 => rP (y_pick_or (ed d0 rfl rfl rfl) rfl (ed d1 rfl rfl rfl))) (gE ok1 fun a2 s2 ok2 D2 => ?_))))))); have F2 := (F0.step0 D1.stp).step0 D2.stp; refine tn ?_
 refine cond_t (D2.dn 5 rfl rfl) (fun c1 => ?_) (fun c1 => ?_)
 ·
  simp only [Bool.or_eq_true, decide_eq_true_eq] at c1
  refine wp_seq ?_
  refine gI a2 s2 ok2 (gC (Ty.int (1 : Int)) (gE ok2 fun a3 s3 ok3 D3 => ?_)); refine tn (wp_ret (tr ?_))
  exact ret1 rfl ok3 (F2.step0 D3.stp) (cvi (by (exact (chgMay_cnt (by omega)).symm)) (D3.dn 0 rfl rfl))
 ·
  obtain ⟨d1, d2⟩ := Bool.or_eq_false_iff.mp c1
  replace d1 := of_decide_eq_false d1
  replace d2 := of_decide_eq_false d2
  refine wp_skip (tn (wp_seq ?_))
  refine gI a2 s2 ok2 (gC (Ty.int (0 : Int)) (gE ok2 fun a4 s4 ok4 D4 => ?_)); refine tn (wp_seq (wp_seq ?_))
  refine gI a4 s4 ok4 (gC (Ty.int (0 : Int)) (gE ok4 fun a5 s5 ok5 D5 => ?_)); refine tn (wp_block ?_)
  refine loop (fun n1 a6 w1 => ∃ (t1 : GW) (k : Nat) (z : Int), t1.w = w1 ∧ From s0 t1 ∧ Ok 52 [] a6 ∧ At (Ty.nat k) t1 a6 (.tmp 6) ∧ At (Ty.int z) t1 a6 (.tmp 5) ∧ At (Ty.int n) t1 a6 (.tmp 0) ∧ At (Ty.lst Ty.int l) t1 a6 (.tmp 1) ∧ (k ≤ l.length) ∧ (scanTo n l k = some z) ∧ (0 ≤ z ∧ z ≤ n) ∧ n1 = l.length - k) (l.length - (0)) ?_ ?_
  ·
   exact ⟨s5, 0, 0, rfl, ((F2.step0 D4.stp).step0 D5.stp), ok5, (cvi (by (first | rfl | omega | (simp_all; done) | (simp_all; omega))) (D5.dn 0 rfl rfl)), (cvi (by (first | rfl | omega | (simp_all; done) | (simp_all; omega))) (D5.kt (D4.dn 0 rfl rfl) rfl)), (D5.kt (D4.kt (D2.kt q1 rfl) rfl) rfl), (D5.kt (D4.kt (D2.kt (D1.kt p1 rfl) rfl) rfl) rfl), by omega, rfl, by omega, rfl⟩
  ·
   rintro n2 a7 w2 ⟨t2, k, z, rfl, F6, ok6, q14, q15, q16, q17, hk, E, hz, rfl⟩
   refine wp_seq (wp_seq ?_)
   refine gI a7 t2 ok6 (gM q14 (gM q17 (gS rfl (fun A B E G H d0 => rP (y_len Tryd.underlying42 (ed d0 rfl rfl rfl))) (gS rfl (fun A B E G H d0 d1 => rP (y_lss (ed d0 rfl rfl rfl) (ed d1 rfl rfl rfl))) (gE ok6 fun a8 s6 ok7 D6 => ?_))))); have F7 := F6.step0 D6.stp; have q18 := D6.kt q14 rfl; have q19 := D6.kt q15 rfl; have q20 := D6.kt q16 rfl; have q21 := D6.kt q17 rfl; refine tn ?_
   refine cond_p (p := (((k : Nat) : Int) < (((List.length l) : Nat) : Int))) (D6.dn 3 rfl rfl) (fun c2 => ?_) (fun c2 => ?_)
   ·
    refine wp_skip (tn (wp_seq (wp_block (wp_seq (wp_seq ?_)))))
    refine gI a8 s6 ok7 (gM q21 (gM q18 (gT (Ty.ref [(Ty.int (l.getD k 0))]) rfl (fun A B E G H d0 d1 => rP (y_index1 Tryd.underlying42 Tryd.inf3 (ed d0 rfl rfl rfl) (ed d1 rfl rfl rfl) (by omega) (lst_get Ty.int l 0 k (by omega)))) (gS rfl (fun A B E G H d0 => rP (y_load Tryd.underlying3 rfl (ed d0 rfl rfl rfl) rfl)) (gM q19 (gS rfl (fun A B E G H d0 d1 => rP (y_leq (ed d0 rfl rfl rfl) (ed d1 rfl rfl rfl))) (gS rfl (fun A B E G H d0 => rP (y_move (ed d0 rfl rfl rfl))) (gS rfl (fun A B E G H d0 => gu G (ed d0 rfl rfl rfl) fun hg => y_move (kp (H 1 rfl) E q21)) (gS rfl (fun A B E G H d0 => gu G (ed d0 rfl rfl rfl) fun hg => y_move (kp (H 6 rfl) E q18)) (gT (Ty.grd ((decide ((l.getD k 0) ≤ z)) = false) (Ty.ref [(Ty.int (l.getD k 0))])) rfl (fun A B E G H d0 d1 d2 => guf G (ed d2 rfl rfl rfl) fun hg hp => y_index1 Tryd.underlying42 Tryd.inf3 ((ed d0 rfl rfl rfl).1 hg) ((ed d1 rfl rfl rfl).1 hg) (by omega) (lst_get Ty.int l 0 k (by omega))) (gS rfl (fun A B E G H d0 d1 => gu G (ed d1 rfl rfl rfl) fun hg => y_load Tryd.underlying3 rfl ((ed d0 rfl rfl rfl).1 hg) rfl) (gS rfl (fun A B E G H d0 => gu G (ed d0 rfl rfl rfl) fun hg => y_move (kp (H 0 rfl) E q20)) (gS rfl (fun A B E G H d0 d1 d2 => gu G (ed d2 rfl rfl rfl) fun hg => y_gtr ((ed d0 rfl rfl rfl).1 hg) ((ed d1 rfl rfl rfl).1 hg)) (gS rfl (fun A B E G H d0 d1 => rP (y_pick_or (ed d0 rfl rfl rfl) rfl (ed d1 rfl rfl rfl))) (gS rfl (fun A B E G H d0 d1 => rP (y_move (ed d0 rfl rfl rfl))) (gT (Ty.grd (((decide ((l.getD k 0) ≤ z)) || (decide (n < (l.getD k 0)))) = false) (Ty.lst Ty.int l)) rfl (by intro A B E G H d0; refine run_guard G rfl rfl (by decide) (ed d0 rfl rfl rfl) (fun hg => ?_); obtain ⟨d3, d4⟩ := Bool.or_eq_false_iff.mp hg; have d3 := of_decide_eq_false d3; have d4 := of_decide_eq_false d4; exact y_move (kp (H 1 rfl) E q21)) ?_))))))))))))))))
    refine gT (Ty.grd (((decide ((l.getD k 0) ≤ z)) || (decide (n < (l.getD k 0)))) = false) (Ty.nat k)) rfl (by intro A B E G H d0; refine run_guard G rfl rfl (by decide) (ed d0 rfl rfl rfl) (fun hg => ?_); obtain ⟨d5, d6⟩ := Bool.or_eq_false_iff.mp hg; have d5 := of_decide_eq_false d5; have d6 := of_decide_eq_false d6; exact y_move (kp (H 6 rfl) E q18)) (gT (Ty.grd (((decide ((l.getD k 0) ≤ z)) || (decide (n < (l.getD k 0)))) = false) (Ty.ref [(Ty.int (l.getD k 0))])) rfl (by intro A B E G H d0 d1 d2; refine run_guard G rfl rfl (by decide) (ed d2 rfl rfl rfl) (fun hg => ?_); obtain ⟨d7, d8⟩ := Bool.or_eq_false_iff.mp hg; have d7 := of_decide_eq_false d7; have d8 := of_decide_eq_false d8; exact y_index1 Tryd.underlying42 Tryd.inf3 ((ed d0 rfl rfl rfl).1 hg) ((ed d1 rfl rfl rfl).1 hg) (by omega) (lst_get Ty.int l 0 k (by omega))) (gT (Ty.grd (((decide ((l.getD k 0) ≤ z)) || (decide (n < (l.getD k 0)))) = false) (Ty.int (l.getD k 0))) rfl (by intro A B E G H d0 d1; refine run_guard G rfl rfl (by decide) (ed d1 rfl rfl rfl) (fun hg => ?_); obtain ⟨d9, d10⟩ := Bool.or_eq_false_iff.mp hg; have d9 := of_decide_eq_false d9; have d10 := of_decide_eq_false d10; exact y_load Tryd.underlying3 rfl ((ed d0 rfl rfl rfl).1 hg) rfl) (gT (Ty.grd (((decide ((l.getD k 0) ≤ z)) || (decide (n < (l.getD k 0)))) = false) (Ty.int z)) rfl (by intro A B E G H d0; refine run_guard G rfl rfl (by decide) (ed d0 rfl rfl rfl) (fun hg => ?_); obtain ⟨d11, d12⟩ := Bool.or_eq_false_iff.mp hg; have d11 := of_decide_eq_false d11; have d12 := of_decide_eq_false d12; exact y_move (kp (H 5 rfl) E q19)) ?_)))
    refine gT (Ty.grd (((decide ((l.getD k 0) ≤ z)) || (decide (n < (l.getD k 0)))) = false) (Ty.int ((l.getD k 0) - z))) rfl (by intro A B E G H d0 d1 d2; refine run_guard G rfl rfl (by decide) (ed d2 rfl rfl rfl) (fun hg => ?_); obtain ⟨d13, d14⟩ := Bool.or_eq_false_iff.mp hg; have d13 := of_decide_eq_false d13; have d14 := of_decide_eq_false d14; exact y_sub ((ed d0 rfl rfl rfl).1 hg) ((ed d1 rfl rfl rfl).1 hg) (w64 (by omega) (by omega))) (gT (Ty.grd (((decide ((l.getD k 0) ≤ z)) || (decide (n < (l.getD k 0)))) = false) (Ty.nat ((((l.getD k 0) - z)).toNat % 2))) rfl (by intro A B E G H d0 d1; refine run_guard G rfl rfl (by decide) (ed d1 rfl rfl rfl) (fun hg => ?_); obtain ⟨d15, d16⟩ := Bool.or_eq_false_iff.mp hg; have d15 := of_decide_eq_false d15; have d16 := of_decide_eq_false d16; exact y_remN (toN (σ := B) ((ed d0 rfl rfl rfl).1 hg) (by omega)) (toN (σ := B) rfl (by omega)) (by omega)) (gT (Ty.grd (((decide ((l.getD k 0) ≤ z)) || (decide (n < (l.getD k 0)))) = false) (Ty.bool (decide (((((((l.getD k 0) - z)).toNat % 2) : Nat) : Int) = (0 : Int))))) rfl (by intro A B E G H d0 d1; refine run_guard G rfl rfl (by decide) (ed d1 rfl rfl rfl) (fun hg => ?_); obtain ⟨d17, d18⟩ := Bool.or_eq_false_iff.mp hg; have d17 := of_decide_eq_false d17; have d18 := of_decide_eq_false d18; exact y_eql ((ed d0 rfl rfl rfl).1 hg) rfl) (gS rfl (fun A B E G H d0 d1 => rP (y_pick_or (ed d0 rfl rfl rfl) rfl (ed d1 rfl rfl rfl))) (gE ok7 fun a9 s7 ok8 D7 => ?_)))); have F8 := F7.step0 D7.stp; have q23 := D7.kt q18 rfl; have q25 := D7.kt q21 rfl; refine tn ?_
    refine cond_t (D7.dn 23 rfl rfl) (fun c3 => ?_) (fun c3 => ?_)
    ·
     simp only [Bool.or_eq_true, decide_eq_true_eq] at c3
     refine wp_seq ?_
     refine gI a9 s7 ok8 (gC (Ty.int (6 : Int)) (gE ok8 fun a10 s8 ok9 D8 => ?_)); refine tn (wp_ret (tr (br (tr (tr (br (tr ?_)))))))
     exact ret1 rfl ok9 (F8.step0 D8.stp) (cvi (by (exact (chgMay_scan (by omega) E (by omega) (by omega)).symm)) (D8.dn 0 rfl rfl))
    ·
     obtain ⟨d19, d20⟩ := Bool.or_eq_false_iff.mp c3
     obtain ⟨d21, d22⟩ := Bool.or_eq_false_iff.mp d19
     replace d21 := of_decide_eq_false d21
     replace d22 := of_decide_eq_false d22
     replace d20 := of_decide_eq_false d20
     refine wp_skip (tn ?_)
     refine gI a9 s7 ok8 (gM q25 (gM q23 (gT (Ty.ref [(Ty.int (l.getD k 0))]) rfl (fun A B E G H d0 d1 => rP (y_index1 Tryd.underlying42 Tryd.inf3 (ed d0 rfl rfl rfl) (ed d1 rfl rfl rfl) (by omega) (lst_get Ty.int l 0 k (by omega)))) (gS rfl (fun A B E G H d0 => rP (y_load Tryd.underlying3 rfl (ed d0 rfl rfl rfl) rfl)) (gB 0 (gE ok8 fun a11 s9 ok10 D9 => ?_)))))); refine bn (tn ?_)
     refine gI a11 s9 ok10 (gM (D9.kt q23 rfl) (gT (Ty.int (((k : Nat) : Int) + (1 : Int))) rfl (fun A B E G H d0 => rP (y_add (ed d0 rfl rfl rfl) rfl (w64 (by omega) (by omega)))) (gB 0 (gE ok10 fun a12 s10 ok11 D10 => ?_))))
     have d1_ := (of_decide_eq_false (Bool.or_eq_false_iff.1 c3).2)
     have d2_ := of_decide_eq_false (Bool.or_eq_false_iff.1 (Bool.or_eq_false_iff.1 c3).1).1
     have d3_ := of_decide_eq_false (Bool.or_eq_false_iff.1 (Bool.or_eq_false_iff.1 c3).1).2
     exact tn ⟨l.length - ((k+1)), by omega, s10, (k+1), (l.getD k 0), rfl, ((F8.step0 D9.stp).step0 D10.stp), ok11, (cvi (by (first | rfl | omega | (simp_all; done) | (simp_all; omega))) (D10.dn 2 rfl rfl)), (cvi (by (first | rfl | omega | (simp_all; done) | (simp_all; omega))) (D10.kt (D9.dn 4 rfl rfl) rfl)), (D10.kt (D9.kt (D7.kt q20 rfl) rfl) rfl), (D10.kt (D9.kt q25 rfl) rfl), by omega, scan_step E (by omega) (by omega) (by omega) d1_, by omega, rfl⟩
   ·
    have hk2 : k = l.length := (by omega)
    refine wp_exit (tx (tx (bx (tn (wp_seq (wp_seq ?_))))))
    refine gI a8 s6 ok7 (gM q20 (gM q19 (gT (Ty.int (n - z)) rfl (fun A B E G H d0 d1 => rP (y_sub (ed d0 rfl rfl rfl) (ed d1 rfl rfl rfl) (w64 (by omega) (by omega)))) (gT (Ty.nat (((n - z)).toNat % 2)) rfl (fun A B E G H d0 => rP (y_remN (toN (σ := B) (ed d0 rfl rfl rfl) (by omega)) (toN (σ := B) rfl (by omega)) (by omega))) (gS rfl (fun A B E G H d0 => rP (y_eql (ed d0 rfl rfl rfl) rfl)) (gE ok7 fun a13 s11 ok12 D11 => ?_)))))); have F12 := F7.step0 D11.stp; refine tn ?_
    refine cond_p (p := ((((((n - z)).toNat % 2) : Nat) : Int) = (1 : Int))) (D11.dn 4 rfl rfl) (fun c4 => ?_) (fun c4 => ?_)
    ·
     refine wp_seq ?_
     refine gI a13 s11 ok12 (gC (Ty.int (6 : Int)) (gE ok12 fun a14 s12 ok13 D12 => ?_)); refine tn (wp_ret (tr ?_))
     exact ret1 rfl ok13 (F12.step0 D12.stp) (cvi (by (exact (chgMay_odd (by omega) (by rw [← hk2]; exact E) (by omega)).symm)) (D12.dn 0 rfl rfl))
    ·
     refine wp_skip (tn (wp_seq ?_))
     refine gI a13 s11 ok12 (gC (Ty.int (0 : Int)) (gE ok12 fun a15 s13 ok14 D13 => ?_)); refine tn (wp_ret ?_)
     exact ret1 rfl ok14 (F12.step0 D13.stp) (cvi (by (exact (chgMay_ok (by omega) (by rw [← hk2]; exact E) (by omega)).symm)) (D13.dn 0 rfl rfl))


set_option maxHeartbeats 4000000 in
set_option maxRecDepth 100000 in
theorem ended_fn (n : Int) (x : Value) (xs : List Int) (σ : GW) (hlow : Low [40] σ) (v0 v1 : Value) (hv0 : Ty.has (Ty.int n) σ v0) (hv1 : Ty.has (Ty.val x) σ v1) (ho_x : Own σ 40 3 1 x (List.length xs) (List.map Ty.int xs)) (hx1 : 1 ≤ xs.length) (hx : xs.length ≤ 100000) (hn : 1 ≤ n ∧ n ≤ 12) (hv : ∀ k, k < xs.length → 1 ≤ xs.getD k 0 ∧ xs.getD k 0 ≤ 12) :
    FnL Tryd.prog 63 #[v0, v1] σ [40] (fun v τ => (Ty.has (Ty.tup2 (Ty.lst Ty.int (edL n xs)) (Ty.int (edE n xs))) τ v)) := by
 refine fn_introL hlow Tryd.func63 rfl Tryd.ntmps63 (Nat.le_of_ble_eq_true rfl) (fun a0 F0 ok0 hargs => ?_)
 have p0 := pB (hargs 0 _ rfl) hv0
 have p1 := pB (hargs 1 _ rfl) hv1
 clear hargs; refine wp_seq ?_
 refine gI a0 σ ok0 (gC (Ty.val (Value.slice none 0 0)) (gC (Ty.int (0 : Int)) (gE ok0 fun a1 s1 ok1 D1 => ?_))); have o1 := Own.k0 ho_x D1.stp; refine tn (wp_seq (wp_seq ?_))
 refine gI a1 s1 ok1 (gC (Ty.int (1 : Int)) (gE ok1 fun a2 s2 ok2 D2 => ?_)); have o2 := Own.k0 o1 D2.stp; refine tn (wp_block ?_)
 refine loop (fun n1 a3 w1 => ∃ (t1 : GW) (i : Nat), t1.w = w1 ∧ FromL [40] σ t1 ∧ Ok 56 [] a3 ∧ At (Ty.nat i) t1 a3 (.tmp 6) ∧ At (Ty.int n) t1 a3 (.tmp 0) ∧ At (Ty.val x) t1 a3 (.tmp 1) ∧ Own t1 40 3 1 x (List.length xs) (List.map Ty.int xs) ∧ (1 ≤ i ∧ i ≤ xs.length) ∧ (∀ k, k + 1 < i → xs.getD k 0 < xs.getD (k + 1) 0) ∧ n1 = xs.length - i) (xs.length - (1)) ?_ ?_
 ·
  exact ⟨s2, 1, rfl, ((F0.step0 D1.stp).step0 D2.stp), ok2, (cvi (by (rfl)) (D2.dn 0 rfl rfl)), (D2.kt (D1.kt p0 rfl) rfl), (D2.kt (D1.kt p1 rfl) rfl), o2, by omega, fun k h => by omega, rfl⟩
 ·
  rintro n2 a4 w2 ⟨t2, i, rfl, F3, ok3, q6, q7, q8, o3, hi, E, rfl⟩
  refine wp_seq (wp_seq ?_)
  refine gI a4 t2 ok3 (gM q6 (gM q8 (gT (Ty.nat (List.length xs)) rfl (fun A B E G H d0 => rP (own_len Tryd.underlying42 (al (R := (Pr.own 40 3 1 (List.length xs) (List.map Ty.int xs))) (ed d0 rfl rfl rfl) (Own.k0 o3 E)))) (gS rfl (fun A B E G H d0 d1 => rP (y_lss (ed d0 rfl rfl rfl) (ed d1 rfl rfl rfl))) (gE ok3 fun a5 s3 ok4 D3 => ?_))))); have F4 := F3.step0 D3.stp; have q9 := D3.kt q6 rfl; have q10 := D3.kt q7 rfl; have q11 := D3.kt q8 rfl; have o4 := Own.k0 o3 D3.stp; refine tn ?_
  refine cond_p (p := (((i : Nat) : Int) < (((List.length xs) : Nat) : Int))) (D3.dn 3 rfl rfl) (fun c1 => ?_) (fun c1 => ?_)
  ·
   refine wp_skip (tn (wp_seq (wp_block (wp_seq ?_))))
   refine gI a5 s3 ok4 (gM q11 (gM q9 (gT (Ty.val (cellPtr x i)) rfl (fun A B E G H d0 d1 => rP (own_index1 (i := ((i : Nat) : Int)) Tryd.underlying42 Tryd.inf3 (Own.k0 o4 E) (ed d0 rfl rfl rfl) (ed d1 rfl rfl rfl) (by omega) (by omega))) (gS rfl (fun A B E G H d0 => rP (own_load Tryd.underlying3 rfl (Own.k0 o4 E) (ed d0 rfl rfl rfl) (lst_get Ty.int xs 0 i (by omega)))) (gM q11 (gM q9 (gT (Ty.nat (i - 1)) rfl (fun A B E G H d0 => rP ((y_sub (ed d0 rfl rfl rfl) rfl (w64 (by omega) (by omega))).mono (fun τ _ h => cvi (σ := τ) (by omega) h))) (gT (Ty.val (cellPtr x (i - 1))) rfl (fun A B E G H d0 d1 => rP (own_index1 (i := (((i - 1) : Nat) : Int)) Tryd.underlying42 Tryd.inf3 (Own.k0 o4 E) (ed d0 rfl rfl rfl) (ed d1 rfl rfl rfl) (by omega) (by omega))) (gS rfl (fun A B E G H d0 => rP (own_load Tryd.underlying3 rfl (Own.k0 o4 E) (ed d0 rfl rfl rfl) (lst_get Ty.int xs 0 (i - 1) (by omega)))) (gS rfl (fun A B E G H d0 d1 => rP (y_leq (ed d0 rfl rfl rfl) (ed d1 rfl rfl rfl))) (gE ok4 fun a6 s4 ok5 D4 => ?_))))))))))); have F5 := F4.step0 D4.stp; have o5 := Own.k0 o4 D4.stp; refine tn ?_
   refine cond_p (p := ((xs.getD i 0) ≤ (xs.getD (i - 1) 0))) (D4.dn 9 rfl rfl) (fun c2 => ?_) (fun c2 => ?_)
   ·
    have hno : incrB xs = false := incrB_no (k := i - 1) (by omega) (by rw [show i - 1 + 1 = i by omega]; omega)
    refine wp_seq ?_
    refine gI a6 s4 ok5 (gC (Ty.val (Value.slice none 0 0)) (gC (Ty.int (6 : Int)) (gE ok5 fun a7 s5 ok6 D5 => ?_))); have o6 := Own.k0 o5 D5.stp; refine tn (wp_ret (br (tr (tr (br (tr ?_))))))
    exact retL2 rfl ok6 (F5.step0 D5.stp) (hasT2 (nil_lst (by (exact edL_6 hno)) (D5.dn 0 rfl rfl)) (cvi (by (exact (edE_6 hno).symm)) (D5.dn 1 rfl rfl)))
   ·
    refine wp_skip (bn (tn ?_))
    refine gI a6 s4 ok5 (gM (D4.kt q9 rfl) (gT (Ty.nat (i + 1)) rfl (fun A B E G H d0 => rP ((y_add (ed d0 rfl rfl rfl) rfl (w64 (by omega) (by omega))).mono (fun τ _ h => cvi (σ := τ) (by first | omega | exact (Int.natCast_mul _ _).symm) h))) (gB 0 (gE ok5 fun a8 s6 ok7 D6 => ?_)))); have o7 := Own.k0 o5 D6.stp
    exact tn ⟨xs.length - ((i + 1)), by omega, s6, (i + 1), rfl, (F5.step0 D6.stp), ok7, (cvi (by (first | rfl | omega | (simp_all; done) | (simp_all; omega))) (D6.dn 2 rfl rfl)), (D6.kt (D4.kt q10 rfl) rfl), (D6.kt (D4.kt q11 rfl) rfl), o7, by omega, fun k h => by (by_cases e : k = i - 1; (subst e; rw [show i - 1 + 1 = i by omega]; omega); exact E k (by omega)), rfl⟩
  ·
   have hin : incrB xs = true := (incrB_iff xs).2 (fun k h => E k (by omega)); have hv0 := hv 0 (by omega); have hv0b : 1 ≤ xs.getD ((0 : Int)).toNat 0 ∧ xs.getD ((0 : Int)).toNat 0 ≤ 12 := hv0; have hvl := hv (xs.length - 1) (by omega)
   refine wp_exit (tx (tx (bx (tn (wp_seq (wp_seq ?_))))))
   refine gI a5 s3 ok4 (gM q11 (gT (Ty.val (cellPtr x ((0 : Int)).toNat)) rfl (fun A B E G H d0 => rP (own_index1 (i := (0 : Int)) Tryd.underlying42 Tryd.inf3 (Own.k0 o4 E) (ed d0 rfl rfl rfl) rfl (by omega) (by omega))) (gS rfl (fun A B E G H d0 => rP (own_load Tryd.underlying3 rfl (Own.k0 o4 E) (ed d0 rfl rfl rfl) (lst_get Ty.int xs 0 ((0 : Int)).toNat (by omega)))) (gT (Ty.nat (((xs.getD ((0 : Int)).toNat 0)).toNat % 2)) rfl (fun A B E G H d0 => rP (y_remN (toN (σ := B) (ed d0 rfl rfl rfl) (by omega)) (toN (σ := B) rfl (by omega)) (by omega))) (gS rfl (fun A B E G H d0 => rP (y_eql (ed d0 rfl rfl rfl) rfl)) (gE ok4 fun a9 s7 ok8 D7 => ?_)))))); have F8 := F4.step0 D7.stp; have q22 := D7.kt q10 rfl; have q23 := D7.kt q11 rfl; have o8 := Own.k0 o4 D7.stp; have q24 := D7.dn 4 rfl rfl; refine tn ?_
   refine cond_p (p := ((((((xs.getD ((0 : Int)).toNat 0)).toNat % 2) : Nat) : Int) = (0 : Int))) q24 (fun c3 => ?_) (fun c3 => ?_)
   ·
    have hf : plFst xs = [(1 : Int)] ++ xs := plFst_1 c3; have hl1 : ([(1 : Int)] ++ xs).length = xs.length + 1 := (by rw [List.length_append, List.length_singleton]; omega); have hl2 := ins_last (c := 1) hx1
    obtain ⟨t3, e1, h1, q25⟩ := Own.seal o8 (by decide)
    rw [← e1]
    have F9 := F8.step h1 (by decide); have q26 := Ty.up (Ty.int n) (h1.le (by decide)) q22
    have q27 : At (Ty.lst Ty.int xs) t3 a9 (.tmp 1) := by have e : a9.eval (.tmp 1) = x := q23; show Ty.has _ _ _; rw [e]; exact q25
    have q28 := Ty.up (Ty.bool (decide ((((((xs.getD ((0 : Int)).toNat 0)).toNat % 2) : Nat) : Int) = (0 : Int)))) (h1.le (by decide)) q24
    refine gI a9 t3 ok8 (gR (Pr.own 50 3 1 1 (List.map Ty.int [(1 : Int)])) rfl (by intro A B E G H; exact rP ((y_lit1 (k := 50) Tryd.underlying42 Tryd.inf3 rfl (one_val rfl) (show Ty.has (Ty.int (1 : Int)) B (A.eval ((Operand.const (Value.int IntKind.i64 1)))) from rfl)).mono (fun _ _ h => cvo (by simp) (by simp) h))) (gM q27 (gE2 ok8 fun a10 s8 ok9 D8 => ?_)))
    obtain ⟨x1, hx1⟩ : ∃ x, a10.eval (.tmp 29) = x := ⟨_, rfl⟩
    have q31 : At (Ty.val x1) s8 a10 (.tmp 29) := hx1
    have o9 := al2 (R := (Pr.own 50 3 1 1 (List.map Ty.int [(1 : Int)]))) hx1 (D8.done 0 (by decide))
    refine tL ok9 (YldM.toL (m_append Tryd.underlying42 Tryd.inf3 (by decide) rfl (by decide) (al (R := (Pr.own 50 3 1 1 (List.map Ty.int [(1 : Int)]))) q31 o9) (D8.dn 1 (by decide) rfl rfl) (one_map (fun _ => one_val rfl)) (by omega) (by omega))) fun a11 s9 hs1 ok10 r1 sm1 => ?_
    have F11 := (F9.step0 D8.stp).stepL hs1 (by decide); have q33 := kpL hs1 (by decide) (sm1 0 (by decide)) (D8.kt q26 rfl); have q34 := kpL hs1 (by decide) (sm1 1 (by decide)) (D8.kt q27 rfl)
    obtain ⟨x2, hx2⟩ : ∃ x, a11.eval (.tmp 31) = x := ⟨_, rfl⟩
    have q35 : At (Ty.val x2) s9 a11 (.tmp 31) := hx2
    have o10 := al2 (R := (Pr.own 50 3 1 (List.length ([(1 : Int)] ++ xs)) (List.map Ty.int ([(1 : Int)] ++ xs)))) hx2 (cvo (by first | (simp; done) | (simp; omega)) (by first | (rw [List.map_append]; rfl) | simp) r1)
    clear r1
    refine tL ok10 (Yld.toL (y_as q35)) fun a12 s10 hs2 ok11 r2 sm2 => ?_
    have F12 := F11.stepL hs2 (by decide); have q36 := kpL hs2 (by decide) (sm2 0 (by decide)) q33; have o11 := Own.keepL o10 hs2 (by decide) (by decide)
    have q37 : At (Ty.val x2) s10 a12 (.tmp 1) := r2
    clear r2; refine wpList_nil (tn (wp_seq ?_))
    refine gI a12 s10 ok11 (gM q37 (gM q37 (gT (Ty.nat (List.length ([(1 : Int)] ++ xs))) rfl (fun A B E G H d0 => rP (own_len Tryd.underlying42 (al (R := (Pr.own 50 3 1 (List.length ([(1 : Int)] ++ xs)) (List.map Ty.int ([(1 : Int)] ++ xs)))) (ed d0 rfl rfl rfl) (Own.k0 o11 E)))) (gT (Ty.nat ((List.length ([(1 : Int)] ++ xs)) - 1)) rfl (fun A B E G H d0 => rP ((y_sub (ed d0 rfl rfl rfl) rfl (w64 (by omega) (by omega))).mono (fun τ _ h => cvi (σ := τ) (by omega) h))) (gT (Ty.val (cellPtr x2 ((List.length ([(1 : Int)] ++ xs)) - 1))) rfl (fun A B E G H d0 d1 => rP (own_index1 (i := ((((List.length ([(1 : Int)] ++ xs)) - 1) : Nat) : Int)) Tryd.underlying42 Tryd.inf3 (Own.k0 o11 E) (ed d0 rfl rfl rfl) (ed d1 rfl rfl rfl) (by omega) (by omega))) (gS rfl (fun A B E G H d0 => rP (own_load Tryd.underlying3 rfl (Own.k0 o11 E) (ed d0 rfl rfl rfl) (lst_get Ty.int ([(1 : Int)] ++ xs) 0 ((List.length ([(1 : Int)] ++ xs)) - 1) (by omega)))) (gB 0 (gE ok11 fun a13 s11 ok12 D9 => ?_)))))))); have q38 := D9.kt q36 rfl; have o12 := Own.k0 o11 D9.stp; have q40 := D9.dn 6 rfl rfl; refine tn (wp_seq (wp_seq ?_))
    refine gI a13 s11 ok12 (gM q40 (gM q38 (gS rfl (fun A B E G H d0 d1 => rP (y_lss (ed d0 rfl rfl rfl) (ed d1 rfl rfl rfl))) (gS rfl (fun A B E G H d0 => rP (y_move (ed d0 rfl rfl rfl))) (gS rfl (fun A B E G H d0 => gu G (ed d0 rfl rfl rfl) fun hg => y_move (kp (H 0 rfl) E q38)) (gS rfl (fun A B E G H d0 => gu G (ed d0 rfl rfl rfl) fun hg => y_move (kp (H 7 rfl) E q40)) (gT (Ty.grd ((decide ((([(1 : Int)] ++ xs).getD ((List.length ([(1 : Int)] ++ xs)) - 1) 0) < n)) = true) (Ty.int (n - (([(1 : Int)] ++ xs).getD ((List.length ([(1 : Int)] ++ xs)) - 1) 0)))) rfl (fun A B E G H d0 d1 d2 => gut G (ed d2 rfl rfl rfl) fun hg hp => y_sub ((ed d0 rfl rfl rfl).1 hg) ((ed d1 rfl rfl rfl).1 hg) (w64 (by omega) (by omega))) (gT (Ty.grd ((decide ((([(1 : Int)] ++ xs).getD ((List.length ([(1 : Int)] ++ xs)) - 1) 0) < n)) = true) (Ty.nat (((n - (([(1 : Int)] ++ xs).getD ((List.length ([(1 : Int)] ++ xs)) - 1) 0))).toNat % 2))) rfl (fun A B E G H d0 d1 => gut G (ed d1 rfl rfl rfl) fun hg hp => y_remN (toN (σ := B) ((ed d0 rfl rfl rfl).1 hg) (by omega)) (toN (σ := B) rfl (by omega)) (by omega)) (gS rfl (fun A B E G H d0 d1 => gu G (ed d1 rfl rfl rfl) fun hg => y_eql ((ed d0 rfl rfl rfl).1 hg) rfl) (gS rfl (fun A B E G H d0 d1 => rP (y_pick_and (ed d0 rfl rfl rfl) (ed d1 rfl rfl rfl) rfl)) (gE ok12 fun a14 s12 ok13 D10 => ?_))))))))))); have F14 := (F12.step0 D9.stp).step0 D10.stp; have q41 := D10.kt q38 rfl; have q42 := D10.kt (D9.kt q37 rfl) rfl; have o13 := Own.k0 o12 D10.stp; have q43 := D10.dn 9 rfl rfl; refine tn ?_
    refine cond_t q43 (fun c4 => ?_) (fun c4 => ?_)
    ·
     obtain ⟨d1, d2⟩ := Bool.and_eq_true_iff.mp c4
     replace d1 := of_decide_eq_true d1
     replace d2 := of_decide_eq_true d2
     simp only [Bool.and_eq_true, decide_eq_true_eq] at c4; have hL : plIn n xs = ([(1 : Int)] ++ xs) ++ [n] := plIn_1 hf c4.1 (by have h_ := c4.2; omega)
     refine gI a14 s12 ok13 (gM q42 (gM q41 (gT (Ty.sl 1 1 [(Ty.int n)]) rfl (fun A B E G H d0 => rP (y_build1o Tryd.underlying42 Tryd.inf3 rfl (one_val rfl) (ed d0 rfl rfl rfl))) (gE2 ok13 fun a15 s13 ok14 D11 => ?_)))); have o14 := Own.k0 o13 D11.stp
     have q46 : At (Ty.val x2) s13 a15 (.tmp 48) := D11.done 0 (by decide)
     have q47 := D11.dn 2 (by decide) rfl rfl
     have b1 := sl_le q47
     refine tL ok14 (YldM.toL (m_append Tryd.underlying42 Tryd.inf3 (by decide) rfl (by decide) (al (R := (Pr.own 50 3 1 (List.length ([(1 : Int)] ++ xs)) (List.map Ty.int ([(1 : Int)] ++ xs)))) q46 o14) q47 (by intro U hU; simp at hU; subst hU; exact one_val rfl) (by omega) (by omega))) fun a16 s14 hs3 ok15 r3 sm3 => ?_
     have F16 := (F14.step0 D11.stp).stepL hs3 (by decide); have q48 := kpL hs3 (by decide) (sm3 0 (by decide)) (D11.kt q41 rfl); have q49 := kpL hs3 (by decide) (sm3 1 (by decide)) (D11.kt q42 rfl)
     obtain ⟨x3, hx3⟩ : ∃ x, a16.eval (.tmp 51) = x := ⟨_, rfl⟩
     have q50 : At (Ty.val x3) s14 a16 (.tmp 51) := hx3
     have o15 := al2 (R := (Pr.own 50 3 1 (List.length (([(1 : Int)] ++ xs) ++ [n])) (List.map Ty.int (([(1 : Int)] ++ xs) ++ [n])))) hx3 (cvo (by first | (simp; done) | (simp; omega)) (by first | (rw [List.map_append]; rfl) | simp) r3)
     clear r3
     refine tL ok15 (Yld.toL (y_as q50)) fun a17 s15 hs4 ok16 r4 sm4 => ?_
     have F17 := F16.stepL hs4 (by decide); have q51 := kpL hs4 (by decide) (sm4 0 (by decide)) q48; have o16 := Own.keepL o15 hs4 (by decide) (by decide)
     have q52 : At (Ty.val x3) s15 a17 (.tmp 1) := r4
     clear r4; refine wpList_nil (tn (wp_seq ?_))
     obtain ⟨t4, e2, h2, q53⟩ := Own.seal o16 (by decide)
     rw [← e2]
     have F18 := F17.step h2 (by decide); have q54 := Ty.up (Ty.int n) (h2.le (by decide)) q51
     have q55 : At (Ty.lst Ty.int (([(1 : Int)] ++ xs) ++ [n])) t4 a17 (.tmp 1) := by have e : a17.eval (.tmp 1) = x3 := q52; show Ty.has _ _ _; rw [e]; exact q53
     refine gI a17 t4 ok16 (gM q55 (gM q54 (gM q55 (gS rfl (fun A B E G H d0 d1 => rP (y_call _ Tryd.func64 rfl rfl my2 (rChangeMay_fn (n) ((([(1 : Int)] ++ xs) ++ [n])) _ _ _ (ed d0 rfl rfl rfl) (ed d1 rfl rfl rfl) (by omega)))) (gB 0 (gB 0 (gE ok16 fun a18 s16 ok17 D12 => ?_))))))); refine tn (wp_ret ?_)
     exact retL2 rfl ok17 (F18.step0 D12.stp) (hasT2 (cvt (by (rw [edL_p hin hL])) (D12.dn 4 rfl rfl)) (cvi (by (exact (edE_p hin hL).symm)) (D12.dn 5 rfl rfl)))
    ·
     simp only [Bool.and_eq_false_iff, decide_eq_false_iff_not] at c4; have hL : plIn n xs = [(1 : Int)] ++ xs := plIn_0 hf (by rintro ⟨h1_, h2_⟩; rcases c4 with h_ | h_; exact h_ h1_; omega)
     refine wp_skip (tn (wp_seq ?_))
     obtain ⟨t5, e3, h3, q58⟩ := Own.seal o13 (by decide)
     rw [← e3]
     have F20 := F14.step h3 (by decide); have q59 := Ty.up (Ty.int n) (h3.le (by decide)) q41
     have q60 : At (Ty.lst Ty.int ([(1 : Int)] ++ xs)) t5 a14 (.tmp 1) := by have e : a14.eval (.tmp 1) = x2 := q42; show Ty.has _ _ _; rw [e]; exact q58
     have q61 := Ty.up (Ty.bool ((decide ((([(1 : Int)] ++ xs).getD ((List.length ([(1 : Int)] ++ xs)) - 1) 0) < n)) && (decide ((((((n - (([(1 : Int)] ++ xs).getD ((List.length ([(1 : Int)] ++ xs)) - 1) 0))).toNat % 2) : Nat) : Int) = (1 : Int))))) (h3.le (by decide)) q43
     refine gI a14 t5 ok13 (gM q60 (gM q59 (gM q60 (gS rfl (fun A B E G H d0 d1 => rP (y_call _ Tryd.func64 rfl rfl my2 (rChangeMay_fn (n) (([(1 : Int)] ++ xs)) _ _ _ (ed d0 rfl rfl rfl) (ed d1 rfl rfl rfl) (by omega)))) (gB 0 (gB 0 (gE ok13 fun a19 s17 ok18 D13 => ?_))))))); refine tn (wp_ret ?_)
     exact retL2 rfl ok18 (F20.step0 D13.stp) (hasT2 (cvt (by (rw [edL_p hin hL])) (D13.dn 4 rfl rfl)) (cvi (by (exact (edE_p hin hL).symm)) (D13.dn 5 rfl rfl)))
   ·
    have hf : plFst xs = xs := plFst_0 c3
    refine wp_skip (tn (wp_seq ?_))
    refine gI a9 s7 ok8 (gM q23 (gM q23 (gT (Ty.nat (List.length xs)) rfl (fun A B E G H d0 => rP (own_len Tryd.underlying42 (al (R := (Pr.own 40 3 1 (List.length xs) (List.map Ty.int xs))) (ed d0 rfl rfl rfl) (Own.k0 o8 E)))) (gT (Ty.nat ((List.length xs) - 1)) rfl (fun A B E G H d0 => rP ((y_sub (ed d0 rfl rfl rfl) rfl (w64 (by omega) (by omega))).mono (fun τ _ h => cvi (σ := τ) (by omega) h))) (gT (Ty.val (cellPtr x ((List.length xs) - 1))) rfl (fun A B E G H d0 d1 => rP (own_index1 (i := ((((List.length xs) - 1) : Nat) : Int)) Tryd.underlying42 Tryd.inf3 (Own.k0 o8 E) (ed d0 rfl rfl rfl) (ed d1 rfl rfl rfl) (by omega) (by omega))) (gS rfl (fun A B E G H d0 => rP (own_load Tryd.underlying3 rfl (Own.k0 o8 E) (ed d0 rfl rfl rfl) (lst_get Ty.int xs 0 ((List.length xs) - 1) (by omega)))) (gB 0 (gE ok8 fun a20 s18 ok19 D14 => ?_)))))))); have q64 := D14.kt q22 rfl; have o17 := Own.k0 o8 D14.stp; have q66 := D14.dn 6 rfl rfl; refine tn (wp_seq (wp_seq ?_))
    refine gI a20 s18 ok19 (gM q66 (gM q64 (gS rfl (fun A B E G H d0 d1 => rP (y_lss (ed d0 rfl rfl rfl) (ed d1 rfl rfl rfl))) (gS rfl (fun A B E G H d0 => rP (y_move (ed d0 rfl rfl rfl))) (gS rfl (fun A B E G H d0 => gu G (ed d0 rfl rfl rfl) fun hg => y_move (kp (H 0 rfl) E q64)) (gS rfl (fun A B E G H d0 => gu G (ed d0 rfl rfl rfl) fun hg => y_move (kp (H 7 rfl) E q66)) (gT (Ty.grd ((decide ((xs.getD ((List.length xs) - 1) 0) < n)) = true) (Ty.int (n - (xs.getD ((List.length xs) - 1) 0)))) rfl (fun A B E G H d0 d1 d2 => gut G (ed d2 rfl rfl rfl) fun hg hp => y_sub ((ed d0 rfl rfl rfl).1 hg) ((ed d1 rfl rfl rfl).1 hg) (w64 (by omega) (by omega))) (gT (Ty.grd ((decide ((xs.getD ((List.length xs) - 1) 0) < n)) = true) (Ty.nat (((n - (xs.getD ((List.length xs) - 1) 0))).toNat % 2))) rfl (fun A B E G H d0 d1 => gut G (ed d1 rfl rfl rfl) fun hg hp => y_remN (toN (σ := B) ((ed d0 rfl rfl rfl).1 hg) (by omega)) (toN (σ := B) rfl (by omega)) (by omega)) (gS rfl (fun A B E G H d0 d1 => gu G (ed d1 rfl rfl rfl) fun hg => y_eql ((ed d0 rfl rfl rfl).1 hg) rfl) (gS rfl (fun A B E G H d0 d1 => rP (y_pick_and (ed d0 rfl rfl rfl) (ed d1 rfl rfl rfl) rfl)) (gE ok19 fun a21 s19 ok20 D15 => ?_))))))))))); have F23 := (F8.step0 D14.stp).step0 D15.stp; have q67 := D15.kt q64 rfl; have q68 := D15.kt (D14.kt q23 rfl) rfl; have o18 := Own.k0 o17 D15.stp; have q69 := D15.dn 9 rfl rfl; refine tn ?_
    refine cond_t q69 (fun c5 => ?_) (fun c5 => ?_)
    ·
     obtain ⟨d3, d4⟩ := Bool.and_eq_true_iff.mp c5
     replace d3 := of_decide_eq_true d3
     replace d4 := of_decide_eq_true d4
     simp only [Bool.and_eq_true, decide_eq_true_eq] at c5; have hL : plIn n xs = xs ++ [n] := plIn_1 hf c5.1 (by have h_ := c5.2; omega)
     refine gI a21 s19 ok20 (gM q68 (gM q67 (gT (Ty.sl 1 1 [(Ty.int n)]) rfl (fun A B E G H d0 => rP (y_build1o Tryd.underlying42 Tryd.inf3 rfl (one_val rfl) (ed d0 rfl rfl rfl))) (gE2 ok20 fun a22 s20 ok21 D16 => ?_)))); have o19 := Own.k0 o18 D16.stp
     have q72 : At (Ty.val x) s20 a22 (.tmp 48) := D16.done 0 (by decide)
     have q73 := D16.dn 2 (by decide) rfl rfl
     have b2 := sl_le q73
     refine tL ok21 (YldM.toL (m_append Tryd.underlying42 Tryd.inf3 (by decide) rfl (by decide) (al (R := (Pr.own 40 3 1 (List.length xs) (List.map Ty.int xs))) q72 o19) q73 (by intro U hU; simp at hU; subst hU; exact one_val rfl) (by omega) (by omega))) fun a23 s21 hs5 ok22 r5 sm5 => ?_
     have F25 := (F23.step0 D16.stp).stepL hs5 (by decide); have q74 := kpL hs5 (by decide) (sm5 0 (by decide)) (D16.kt q67 rfl); have q75 := kpL hs5 (by decide) (sm5 1 (by decide)) (D16.kt q68 rfl)
     obtain ⟨x4, hx4⟩ : ∃ x, a23.eval (.tmp 51) = x := ⟨_, rfl⟩
     have q76 : At (Ty.val x4) s21 a23 (.tmp 51) := hx4
     have o20 := al2 (R := (Pr.own 40 3 1 (List.length (xs ++ [n])) (List.map Ty.int (xs ++ [n])))) hx4 (cvo (by simp) (by first | (rw [List.map_append]; rfl) | simp) r5)
     clear r5
     refine tL ok22 (Yld.toL (y_as q76)) fun a24 s22 hs6 ok23 r6 sm6 => ?_
     have F26 := F25.stepL hs6 (by decide); have q77 := kpL hs6 (by decide) (sm6 0 (by decide)) q74; have o21 := Own.keepL o20 hs6 (by decide) (by decide)
     have q78 : At (Ty.val x4) s22 a24 (.tmp 1) := r6
     clear r6; refine wpList_nil (tn (wp_seq ?_))
     obtain ⟨t6, e4, h4, q79⟩ := Own.seal o21 (by decide)
     rw [← e4]
     have F27 := F26.step h4 (by decide); have q80 := Ty.up (Ty.int n) (h4.le (by decide)) q77
     have q81 : At (Ty.lst Ty.int (xs ++ [n])) t6 a24 (.tmp 1) := by have e : a24.eval (.tmp 1) = x4 := q78; show Ty.has _ _ _; rw [e]; exact q79
     refine gI a24 t6 ok23 (gM q81 (gM q80 (gM q81 (gS rfl (fun A B E G H d0 d1 => rP (y_call _ Tryd.func64 rfl rfl my2 (rChangeMay_fn (n) ((xs ++ [n])) _ _ _ (ed d0 rfl rfl rfl) (ed d1 rfl rfl rfl) (by omega)))) (gB 0 (gB 0 (gE ok23 fun a25 s23 ok24 D17 => ?_))))))); refine tn (wp_ret ?_)
     exact retL2 rfl ok24 (F27.step0 D17.stp) (hasT2 (cvt (by (rw [edL_p hin hL])) (D17.dn 4 rfl rfl)) (cvi (by (exact (edE_p hin hL).symm)) (D17.dn 5 rfl rfl)))
    ·
     simp only [Bool.and_eq_false_iff, decide_eq_false_iff_not] at c5; have hL : plIn n xs = xs := plIn_0 hf (by rintro ⟨h1_, h2_⟩; rcases c5 with h_ | h_; exact h_ h1_; omega)
     refine wp_skip (tn (wp_seq ?_))
     obtain ⟨t7, e5, h5, q84⟩ := Own.seal o18 (by decide)
     rw [← e5]
     have F29 := F23.step h5 (by decide); have q85 := Ty.up (Ty.int n) (h5.le (by decide)) q67
     have q86 : At (Ty.lst Ty.int xs) t7 a21 (.tmp 1) := by have e : a21.eval (.tmp 1) = x := q68; show Ty.has _ _ _; rw [e]; exact q84
     have q87 := Ty.up (Ty.bool ((decide ((xs.getD ((List.length xs) - 1) 0) < n)) && (decide ((((((n - (xs.getD ((List.length xs) - 1) 0))).toNat % 2) : Nat) : Int) = (1 : Int))))) (h5.le (by decide)) q69
     refine gI a21 t7 ok20 (gM q86 (gM q85 (gM q86 (gS rfl (fun A B E G H d0 d1 => rP (y_call _ Tryd.func64 rfl rfl my2 (rChangeMay_fn (n) (xs) _ _ _ (ed d0 rfl rfl rfl) (ed d1 rfl rfl rfl) (by omega)))) (gB 0 (gB 0 (gE ok20 fun a26 s24 ok25 D18 => ?_))))))); refine tn (wp_ret ?_)
     exact retL2 rfl ok25 (F29.step0 D18.stp) (hasT2 (cvt (by (rw [edL_p hin hL])) (D18.dn 4 rfl rfl)) (cvi (by (exact (edE_p hin hL).symm)) (D18.dn 5 rfl rfl)))


end Go.Proofs.YtdjihbjikpbhgaaDoor
