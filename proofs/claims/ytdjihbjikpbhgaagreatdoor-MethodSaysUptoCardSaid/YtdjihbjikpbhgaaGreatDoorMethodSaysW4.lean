/- The functions that the law MethodSays reaches, each by its contract. Part 4. -/
import Derived.Test.YtdjihbjikpbhgaaGreatDoorMethodSaysW3
namespace Go.Proofs.YtdjihbjikpbhgaaGreatDoor
open Go.KL

set_option maxHeartbeats 4000000 in
set_option maxRecDepth 100000 in
theorem hunts_fn (nm : ByteArray) (n : Int) (l : List (List Int)) (σ : GW)  (v0 : Value) (hv0 : Ty.has (Ty.agg [(Ty.val (Value.string nm)), (Ty.int n), (Ty.lst Ty.ints l)]) σ v0)  (hnm : nm.size ≤ 1099511627776) (hn : -9223372036854775808 ≤ n ∧ n ≤ 9223372036854775807) :
    FnC Tryz.prog 10 #[v0] σ (Ty.tup2 (Ty.lst Ty.int (if methMay nm n l = 0 then huntTo (headL n.toNat l) n.toNat else [])) (Ty.int (methMay nm n l))) := by
 refine fn_intro0 Tryz.func10 rfl Tryz.ntmps10 (Nat.le_of_ble_eq_true rfl) (fun s0 a0 hle F0 ok0 hargs => ?_)
 have p0 := pA hle (hargs 0 _ rfl) hv0
 clear hargs; refine wp_seq ?_
 refine gI a0 s0 ok0 (gS rfl (fun A B E G H => rP (y_boxagg (kp (H 0 rfl) E p0))) (gC (Ty.val (Value.slice none 0 0)) (gC (Ty.int (0 : Int)) (gE ok0 fun a1 s1 ok1 D1 => ?_)))); refine tn (wp_seq ?_)
 refine gI a1 s1 ok1 (gS rfl (fun A B E G H => rP (y_loadagg Tryz.underlying24 Tryz.inf24 (kp (H 1 rfl) E (D1.dn 0 rfl rfl)))) (gS rfl (fun A B E G H d0 => rP (y_call _ Tryz.func9 rfl rfl my1 (head_fn (nm) (n) (l) _ _ (ed d0 rfl rfl rfl) (by first | omega | assumption) (by first | omega | assumption)))) (gS rfl (fun A B E G H d0 => rP (y_move (ed d0 rfl rfl rfl))) (gT (Ty.lst Ty.int (if methMay nm n l = 0 then headL n.toNat l else [])) rfl (fun A B E G H d0 => rP (y_ext3_0 (ed d0 rfl rfl rfl))) (gT (Ty.nat (if methMay nm n l = 0 then ordL (headL n.toNat l) else 0)) rfl (fun A B E G H d0 d1 => rP (y_ext3_1 (ed d0 rfl rfl rfl))) (gT (Ty.int (methMay nm n l)) rfl (fun A B E G H d0 d1 => rP (y_ext3_2 (ed d0 rfl rfl rfl))) (gB 0 (gB 0 (gB 0 (gE ok1 fun a2 s2 ok2 D2 => ?_)))))))))); have q3 := D2.dn 8 rfl rfl; refine tn (wp_seq (wp_seq ?_))
 refine gI a2 s2 ok2 (gM q3 (gS rfl (fun A B E G H d0 => rP (y_neq (ed d0 rfl rfl rfl) rfl)) (gE ok2 fun a3 s3 ok3 D3 => ?_))); have F3 := ((F0.step0 D1.stp).step0 D2.stp).step0 D3.stp; refine tn ?_
 refine cond_p (p := ((methMay nm n l) ≠ (0 : Int))) (D3.dn 1 rfl rfl) (fun c1 => ?_) (fun c1 => ?_)
 ·
  refine wp_seq ?_
  refine gI a3 s3 ok3 (gM (D3.kt q3 rfl) (gC (Ty.val (Value.slice none 0 0)) (gB 0 (gE ok3 fun a4 s4 ok4 D4 => ?_)))); refine tn (wp_ret (tr ?_))
  exact retL2 rfl ok4 (F3.step0 D4.stp) (hasT2 (nil_lst (by (rw [if_neg c1])) (D4.dn 1 rfl rfl)) (D4.dn 2 rfl rfl))
 ·
  have h0 := Classical.not_not.1 c1; obtain ⟨hmo, hnn⟩ := methMay_ok' h0; have hm1 := hmo.n1; have hm2 := hmo.n2; have hml := hmo.l2; have hml1 := hmo.l1; have hrl := roundsL_len n.toNat; have hfl := fromL_len (roundsL n.toNat) l; obtain ⟨hhr, hhl⟩ := hmo.head; have hrm := rowMay_ok.2 hhr; have hol := ordTo_le hhr _ (Nat.le_refl _)
  have q9 : At (Ty.lst Ty.int (headL n.toNat l)) s3 a3 (.tmp 4) := cvt (T := (Ty.lst Ty.int (if methMay nm n l = 0 then headL n.toNat l else []))) (U := (Ty.lst Ty.int (headL n.toNat l))) (by rw [if_pos h0]) (D3.kt (D2.dn 6 rfl rfl) rfl)
  refine wp_skip (tn (wp_seq ?_))
  refine gI a3 s3 ok3 (gC (Ty.val (Value.slice none 0 0)) (gE ok3 fun a5 s5 ok5 D5 => ?_)); refine tn (wp_seq (wp_seq ?_))
  refine gI a5 s5 ok5 (gM (D5.kt q9 rfl) (gS rfl (fun A B E G H d0 => rP (y_len Tryz.underlying30 (ed d0 rfl rfl rfl))) (gT (Ty.int (0 : Int)) rfl (fun A B E G H => rP (y_move rfl)) (gE ok5 fun a6 s6 ok6 D6 => ?_)))); refine tn (wp_block ?_)
  have o1 : Own s6 5 3 1 (Value.slice none 0 0) 0 (List.map Ty.int ([] : List Int)) := Own.nil _ _ _ _
  refine loop (fun n1 a7 w1 => ∃ (t1 : GW) (k : Nat) (x7_0 : Value), t1.w = w1 ∧ FromL [] s0 t1 ∧ Ok 35 [] a7 ∧ At (Ty.nat k) t1 a7 (.tmp 21) ∧ At (Ty.val x7_0) t1 a7 (.tmp 7) ∧ At (Ty.lst Ty.int (headL n.toNat l)) t1 a7 (.tmp 19) ∧ At (Ty.nat (List.length (headL n.toNat l))) t1 a7 (.tmp 20) ∧ Own t1 5 3 1 x7_0 (List.length (huntTo (headL n.toNat l) k)) (List.map Ty.int (huntTo (headL n.toNat l) k)) ∧ (k ≤ (headL n.toNat l).length) ∧ n1 = (headL n.toNat l).length - k) ((headL n.toNat l).length - (0)) ?_ ?_
  ·
   exact ⟨s6, 0, (Value.slice none 0 0), rfl, ((F3.step0 D5.stp).step0 D6.stp), ok6, (cvi (by (first | rfl | omega | (simp_all; done) | (simp_all; omega))) (D6.dn 2 rfl rfl)), (D6.kt (D5.dn 0 rfl rfl) rfl), (D6.dn 0 rfl rfl), (D6.dn 1 rfl rfl), (cvo (by (rfl)) (by (rfl)) o1), by omega, rfl⟩
  ·
   rintro n2 a8 w2 ⟨t2, k, x7_0, rfl, F7, ok7, q16, q17, q18, q19, o2, hk, rfl⟩
   refine wp_seq ?_
   refine gI a8 t2 ok7 (gS rfl (fun A B E G H => rP (y_lss (kp (H 21 rfl) E q16) (kp (H 20 rfl) E q19))) (gE ok7 fun a9 s7 ok8 D7 => ?_)); have F8 := F7.step0 D7.stp; have q20 := D7.kt q16 rfl; have q21 := D7.kt q17 rfl; have q22 := D7.kt q18 rfl; have o3 := Own.k0 o2 D7.stp; refine tn (wp_seq ?_)
   refine cond_p (p := (((k : Nat) : Int) < (((List.length (headL n.toNat l)) : Nat) : Int))) (D7.dn 0 rfl rfl) (fun c2 => ?_) (fun c2 => ?_)
   ·
    have htl := hunt_len (headL n.toNat l) k
    refine wp_skip (tn (wp_seq (wp_block (wp_seq ?_))))
    refine gI a9 s7 ok8 (gM q20 (gT (Ty.ref [(Ty.int ((headL n.toNat l).getD k 0))]) rfl (fun A B E G H => rP (y_index1 Tryz.underlying30 Tryz.inf3 (kp (H 19 rfl) E q22) (kp (H 21 rfl) E q20) (by omega) (lst_get Ty.int (headL n.toNat l) 0 k (by omega)))) (gS rfl (fun A B E G H d0 => rP (y_load Tryz.underlying3 rfl (ed d0 rfl rfl rfl) rfl)) (gB 0 (gB 0 (gE ok8 fun a10 s8 ok9 D8 => ?_)))))); have o4 := Own.k0 o3 D8.stp; have q30 := D8.dn 4 rfl rfl; refine tn (wp_seq ?_)
    refine gI a10 s8 ok9 (gM (D8.dn 3 rfl rfl) (gM q30 (gS rfl (fun A B E G H d0 d1 => rP (y_eql (ed d0 rfl rfl rfl) (ed d1 rfl rfl rfl))) (gE ok9 fun a11 s9 ok10 D9 => ?_)))); have F10 := (F8.step0 D8.stp).step0 D9.stp; have q31 := D9.kt (D8.kt q20 rfl) rfl; have q32 := D9.kt (D8.kt q21 rfl) rfl; have q33 := D9.kt (D8.kt q22 rfl) rfl; have q34 := D9.kt (D8.kt (D7.kt q19 rfl) rfl) rfl; have o5 := Own.k0 o4 D9.stp; refine tn ?_
    refine cond_p (p := (((k : Nat) : Int) = ((headL n.toNat l).getD k 0))) (D9.dn 2 rfl rfl) (fun c3 => ?_) (fun c3 => ?_)
    ·
     have hy : (headL n.toNat l).getD k 0 = (k : Int) := (by omega)
     refine gI a11 s9 ok10 (gM q32 (gM (D9.kt q30 rfl) (gT (Ty.sl 1 1 [(Ty.int ((headL n.toNat l).getD k 0))]) rfl (fun A B E G H d0 => rP (y_build1o Tryz.underlying30 Tryz.inf3 rfl (one_val rfl) (ed d0 rfl rfl rfl))) (gE2 ok10 fun a12 s10 ok11 D10 => ?_)))); have o6 := Own.k0 o5 D10.stp
     have q41 : At (Ty.val x7_0) s10 a12 (.tmp 29) := D10.done 0 (by decide)
     have q42 := D10.dn 2 (by decide) rfl rfl
     have b1 := sl_le q42
     refine tL ok11 (YldM.toL (m_append Tryz.underlying30 Tryz.inf3 (by decide) rfl (by decide) (al (R := (Pr.own 5 3 1 (List.length (huntTo (headL n.toNat l) k)) (List.map Ty.int (huntTo (headL n.toNat l) k)))) q41 o6) q42 (by intro U hU; simp at hU; subst hU; exact one_val rfl) (by omega) (by omega))) fun a13 s11 hs1 ok12 r1 sm1 => ?_
     have F12 := (F10.step0 D10.stp).stepL hs1 (by decide); have q43 := kpL hs1 (by decide) (sm1 21 (by decide)) (D10.kt q31 rfl); have q44 := kpL hs1 (by decide) (sm1 7 (by decide)) (D10.kt q32 rfl); have q45 := kpL hs1 (by decide) (sm1 19 (by decide)) (D10.kt q33 rfl); have q46 := kpL hs1 (by decide) (sm1 20 (by decide)) (D10.kt q34 rfl)
     obtain ⟨x1, hx1⟩ : ∃ x, a13.eval (.tmp 32) = x := ⟨_, rfl⟩
     have q47 : At (Ty.val x1) s11 a13 (.tmp 32) := hx1
     have o7 := al2 (R := (Pr.own 5 3 1 (List.length ((huntTo (headL n.toNat l) k) ++ [((headL n.toNat l).getD k 0)])) (List.map Ty.int ((huntTo (headL n.toNat l) k) ++ [((headL n.toNat l).getD k 0)])))) hx1 (cvo (by simp) (by first | (rw [List.map_append]; rfl) | simp) r1)
     clear r1
     refine tL ok12 (Yld.toL (y_as q47)) fun a14 s12 hs2 ok13 r2 sm2 => ?_
     have F13 := F12.stepL hs2 (by decide); have q48 := kpL hs2 (by decide) (sm2 21 (by decide)) q43; have q49 := kpL hs2 (by decide) (sm2 19 (by decide)) q45; have q50 := kpL hs2 (by decide) (sm2 20 (by decide)) q46; have o8 := Own.keepL o7 hs2 (by decide) (by decide)
     have q51 : At (Ty.val x1) s12 a14 (.tmp 7) := r2
     clear r2; refine wpList_nil (bn (tn ?_))
     refine gI a14 s12 ok13 (gT (Ty.nat (k + 1)) rfl (fun A B E G H => rP ((y_add (kp (H 21 rfl) E q48) rfl (w64 (by omega) (by omega))).mono (fun τ _ h => cvi (σ := τ) (by first | omega | exact (Int.natCast_mul _ _).symm) h))) (gS rfl (fun A B E G H d0 => rP (y_move (ed d0 rfl rfl rfl))) (gE ok13 fun a15 s13 ok14 D11 => ?_))); have o9 := Own.k0 o8 D11.stp
     exact tn ⟨(headL n.toNat l).length - ((k+1)), by omega, s13, (k+1), x1, rfl, (F13.step0 D11.stp), ok14, (cvi (by (first | rfl | omega | (simp_all; done) | (simp_all; omega))) (D11.dn 1 rfl rfl)), (D11.kt q51 rfl), (D11.kt q49 rfl), (D11.kt q50 rfl), (cvo (by (rw [hunt_yes hy, hy])) (by (rw [hunt_yes hy, hy])) o9), by omega, rfl⟩
    ·
     have hy : (headL n.toNat l).getD k 0 ≠ (k : Int) := (by omega)
     refine wp_skip (bn (tn ?_))
     refine gI a11 s9 ok10 (gT (Ty.nat (k + 1)) rfl (fun A B E G H => rP ((y_add (kp (H 21 rfl) E q31) rfl (w64 (by omega) (by omega))).mono (fun τ _ h => cvi (σ := τ) (by first | omega | exact (Int.natCast_mul _ _).symm) h))) (gS rfl (fun A B E G H d0 => rP (y_move (ed d0 rfl rfl rfl))) (gE ok10 fun a16 s14 ok15 D12 => ?_))); have o10 := Own.k0 o5 D12.stp
     exact tn ⟨(headL n.toNat l).length - ((k+1)), by omega, s14, (k+1), x7_0, rfl, (F10.step0 D12.stp), ok15, (cvi (by (first | rfl | omega | (simp_all; done) | (simp_all; omega))) (D12.dn 1 rfl rfl)), (D12.kt q32 rfl), (D12.kt q33 rfl), (D12.kt q34 rfl), (cvo (by (rw [hunt_no hy])) (by (rw [hunt_no hy])) o10), by omega, rfl⟩
   ·
    refine wp_exit (tx (tx (bx (tn (wp_seq ?_)))))
    refine gI a9 s7 ok8 (gM q21 (gB 0 (gC (Ty.int (0 : Int)) (gE ok8 fun a17 s15 ok16 D13 => ?_)))); have o11 := Own.k0 o3 D13.stp
    have q60 : At (Ty.val x7_0) s15 a17 (.tmp 2) := D13.done 1
    refine tn (wp_ret ?_)
    obtain ⟨t3, e1, h1, q62⟩ := Own.seal o11 (by decide)
    rw [← e1]
    have F17 := (F8.step0 D13.stp).step h1 (by decide)
    have q63 : At (Ty.lst Ty.int (huntTo (headL n.toNat l) k)) t3 a17 (.tmp 2) := by have e : a17.eval (.tmp 2) = x7_0 := q60; show Ty.has _ _ _; rw [e]; exact q62
    have q64 := Ty.up (Ty.int (0 : Int)) (h1.le (by decide)) (D13.dn 2 rfl rfl)
    exact retL2 rfl ok16 F17 (hasT2 (cvt (by (rw [if_pos h0, show k = n.toNat by omega])) q63) (cvi (by (exact h0.symm)) q64))


set_option maxHeartbeats 4000000 in
set_option maxRecDepth 100000 in
theorem small_fn (n : Nat) (σ : GW)  (v0 : Value) (hv0 : Ty.has (Ty.nat n) σ v0)  (hn : n < 100) :
    FnC Tryz.prog 83 #[v0] σ (Ty.val (Value.string (decB n))) := by
 have hz1 := digits_size
 have hz2 := smalls_size
 refine fn_intro0 Tryz.func83 rfl Tryz.ntmps83 (Nat.le_of_ble_eq_true rfl) (fun s0 a0 hle F0 ok0 hargs => ?_)
 have p0 := pA hle (hargs 0 _ rfl) hv0
 clear hargs; refine wp_seq ?_
 refine gI a0 s0 ok0 (gC (Ty.val (Value.string (ByteArray.mk #[]))) (gE ok0 fun a1 s1 ok1 D1 => ?_)); have q1 := D1.kt p0 rfl; refine tn (wp_seq (wp_seq ?_))
 refine gI a1 s1 ok1 (gM q1 (gS rfl (fun A B E G H d0 => rP (y_lss (ed d0 rfl rfl rfl) rfl)) (gE ok1 fun a2 s2 ok2 D2 => ?_))); have F2 := (F0.step0 D1.stp).step0 D2.stp; have q2 := D2.kt q1 rfl; refine tn ?_
 refine cond_p (p := (((n : Nat) : Int) < (10 : Int))) (D2.dn 1 rfl rfl) (fun c1 => ?_) (fun c1 => ?_)
 ·
  refine wp_seq ?_
  refine gI a2 s2 ok2 (gM q2 (gM q2 (gT (Ty.nat (n + 1)) rfl (fun A B E G H d0 => rP ((y_add (ed d0 rfl rfl rfl) rfl (w64 (by omega) (by omega))).mono (fun τ _ h => cvi (σ := τ) (by first | omega | exact (Int.natCast_mul _ _).symm) h))) (gT (Ty.val (Value.string (ByteArray.extract digitsB n (n + 1)))) rfl (fun A B E G H d0 d1 => rP (y_sft (l := n) (h := (n + 1)) Tryz.underlying9 rfl (ed d0 rfl rfl rfl) (ed d1 rfl rfl rfl) (by omega) (by omega))) (gB 0 (gE ok2 fun a3 s3 ok3 D3 => ?_)))))); refine tn (wp_ret (tr ?_))
  exact retL1 rfl ok3 (F2.step0 D3.stp) (cvt (by (rw [small_lo (by omega)])) (D3.dn 4 rfl rfl))
 ·
  refine wp_skip (tn (wp_seq ?_))
  refine gI a2 s2 ok2 (gM q2 (gT (Ty.nat (n * 2)) rfl (fun A B E G H d0 => rP ((y_mul (ed d0 rfl rfl rfl) rfl (w64 (by omega) (by omega))).mono (fun τ _ h => cvi (σ := τ) (by first | omega | exact (Int.natCast_mul _ _).symm) h))) (gM q2 (gT (Ty.nat (n * 2)) rfl (fun A B E G H d0 => rP ((y_mul (ed d0 rfl rfl rfl) rfl (w64 (by omega) (by omega))).mono (fun τ _ h => cvi (σ := τ) (by first | omega | exact (Int.natCast_mul _ _).symm) h))) (gT (Ty.nat ((n * 2) + 2)) rfl (fun A B E G H d0 => rP ((y_add (ed d0 rfl rfl rfl) rfl (w64 (by omega) (by omega))).mono (fun τ _ h => cvi (σ := τ) (by first | omega | exact (Int.natCast_mul _ _).symm) h))) (gT (Ty.val (Value.string (ByteArray.extract smallsB (n * 2) ((n * 2) + 2)))) rfl (fun A B E G H d0 d1 => rP (y_sft (l := (n * 2)) (h := ((n * 2) + 2)) Tryz.underlying9 rfl (ed d0 rfl rfl rfl) (ed d1 rfl rfl rfl) (by omega) (by omega))) (gB 0 (gE ok2 fun a4 s4 ok4 D4 => ?_)))))))); refine tn (wp_ret ?_)
  exact retL1 rfl ok4 (F2.step0 D4.stp) (cvt (by (rw [small_hi (by omega) (by omega)])) (D4.dn 6 rfl rfl))


set_option maxHeartbeats 4000000 in
set_option maxRecDepth 100000 in
theorem formatInt_fn (n : Nat) (b : Int) (σ : GW)  (v0 v1 : Value) (hv0 : Ty.has (Ty.nat n) σ v0) (hv1 : Ty.has (Ty.int b) σ v1)  (hn : n < 100) (hb : b = 10) :
    FnC Tryz.prog 68 #[v0, v1] σ (Ty.val (Value.string (decB n))) := by
 refine fn_intro0 Tryz.func68 rfl Tryz.ntmps68 (Nat.le_of_ble_eq_true rfl) (fun s0 a0 hle F0 ok0 hargs => ?_)
 have p0 := pA hle (hargs 0 _ rfl) hv0
 have p1 := pA hle (hargs 1 _ rfl) hv1
 clear hargs; refine wp_seq ?_
 refine gI a0 s0 ok0 (gC (Ty.val (Value.string (ByteArray.mk #[]))) (gE ok0 fun a1 s1 ok1 D1 => ?_)); refine tn (wp_seq (wp_seq ?_))
 refine gI a1 s1 ok1 (gM (D1.kt p1 rfl) (gS rfl (fun A B E G H d0 => rP (y_eql (ed d0 rfl rfl rfl) rfl)) (gE ok1 fun a2 s2 ok2 D2 => ?_))); have q3 := D2.kt (D1.kt p0 rfl) rfl; refine tn ?_
 refine cond_p (p := (b = (10 : Int))) (D2.dn 1 rfl rfl) (fun c1 => ?_) (fun c1 => ?_)
 ·
  refine wp_seq (wp_seq ?_)
  refine gI a2 s2 ok2 (gM q3 (gS rfl (fun A B E G H d0 => rP (y_leq rfl (ed d0 rfl rfl rfl))) (gS rfl (fun A B E G H d0 => rP (y_move (ed d0 rfl rfl rfl))) (gS rfl (fun A B E G H d0 => gu G (ed d0 rfl rfl rfl) fun hg => y_move (kp (H 0 rfl) E q3)) (gS rfl (fun A B E G H d0 d1 => gu G (ed d1 rfl rfl rfl) fun hg => y_lss ((ed d0 rfl rfl rfl).1 hg) rfl) (gS rfl (fun A B E G H d0 d1 => rP (y_pick_and (ed d0 rfl rfl rfl) (ed d1 rfl rfl rfl) rfl)) (gE ok2 fun a3 s3 ok3 D3 => ?_))))))); refine tn ?_
  refine cond_t (D3.dn 5 rfl rfl) (fun c2 => ?_) (fun c2 => ?_)
  ·
   obtain ⟨d1, d2⟩ := Bool.and_eq_true_iff.mp c2
   replace d1 := of_decide_eq_true d1
   replace d2 := of_decide_eq_true d2
   refine wp_seq ?_
   refine gI a3 s3 ok3 (gM (D3.kt q3 rfl) (gS rfl (fun A B E G H d0 => rP (y_call _ Tryz.func83 rfl rfl my1 (small_fn (n) _ _ (ed d0 rfl rfl rfl) (by omega)))) (gB 0 (gE ok3 fun a4 s4 ok4 D4 => ?_)))); refine tn (wp_ret (tr (tr ?_)))
   exact retL1 rfl ok4 ((((F0.step0 D1.stp).step0 D2.stp).step0 D3.stp).step0 D4.stp) (D4.dn 2 rfl rfl)
  ·
   exfalso
   simp at c2; omega
 ·
  exfalso
  omega


set_option maxHeartbeats 4000000 in
set_option maxRecDepth 100000 in
theorem itoa0_fn (n : Nat) (σ : GW)  (v0 : Value) (hv0 : Ty.has (Ty.nat n) σ v0)  (hn : n < 100) :
    FnC Tryz.prog 53 #[v0] σ (Ty.val (Value.string (decB n))) := by
 refine fn_intro0 Tryz.func53 rfl Tryz.ntmps53 (Nat.le_of_ble_eq_true rfl) (fun s0 a0 hle F0 ok0 hargs => ?_)
 have p0 := pA hle (hargs 0 _ rfl) hv0
 clear hargs; refine wp_seq ?_
 refine gI a0 s0 ok0 (gC (Ty.val (Value.string (ByteArray.mk #[]))) (gE ok0 fun a1 s1 ok1 D1 => ?_)); refine tn (wp_seq ?_)
 refine gI a1 s1 ok1 (gM (D1.kt p0 rfl) (gS rfl (fun A B E G H d0 => rP (y_call #[A.eval (.tmp 3), A.eval ((Operand.const (Value.int IntKind.i64 10)))] Tryz.func68 rfl rfl my2 (formatInt_fn (n) ((10 : Int)) _ _ _ (ed d0 rfl rfl rfl) (cvi (σ := B) (by first | omega | rfl) rfl) (by first | omega | rfl) (by first | omega | rfl)))) (gB 0 (gE ok1 fun a2 s2 ok2 D2 => ?_)))); refine tn (wp_ret ?_)
 exact retL1 rfl ok2 ((F0.step0 D1.stp).step0 D2.stp) (D2.dn 2 rfl rfl)


set_option maxHeartbeats 4000000 in
set_option maxRecDepth 100000 in
theorem itoa_fn (n : Nat) (σ : GW)  (v0 : Value) (hv0 : Ty.has (Ty.nat n) σ v0)  (hn : n < 100) :
    FnC Tryz.prog 33 #[v0] σ (Ty.val (Value.string (decB n))) := by
 refine fn_intro0 Tryz.func33 rfl Tryz.ntmps33 (Nat.le_of_ble_eq_true rfl) (fun s0 a0 hle F0 ok0 hargs => ?_)
 have p0 := pA hle (hargs 0 _ rfl) hv0
 clear hargs; refine wp_seq ?_
 refine gI a0 s0 ok0 (gC (Ty.val (Value.string (ByteArray.mk #[]))) (gE ok0 fun a1 s1 ok1 D1 => ?_)); refine tn (wp_seq ?_)
 refine gI a1 s1 ok1 (gM (D1.kt p0 rfl) (gS rfl (fun A B E G H d0 => rP (y_call _ Tryz.func53 rfl rfl my1 (itoa0_fn (n) _ _ (ed d0 rfl rfl rfl) (by omega)))) (gB 0 (gE ok1 fun a2 s2 ok2 D2 => ?_)))); refine tn (wp_ret ?_)
 exact retL1 rfl ok2 ((F0.step0 D1.stp).step0 D2.stp) (D2.dn 2 rfl rfl)

theorem Tryz.inf74 : Info Tryz.prog 74 (.pointer none) 1 8 := by unfold Info; kernel_rfl
theorem Tryz.inf77 : Info Tryz.prog 77 (.agg #[.pointer none, .slice none 0 0]) 2 32 := by unfold Info; kernel_rfl
theorem Tryz.fld77_0 : fieldOf Tryz.prog 77 0 = some (74, 0) := by kernel_rfl
set_option maxHeartbeats 4000000 in
set_option maxRecDepth 100000 in
theorem copyCheck_fn (b buf : Value) (nb : Bool) (σ : GW) (hlow : Low [40] σ) (v0 : Value) (hv0 : Ty.has (Ty.val b) σ v0) (ho_b : OwnPT 77 σ 40 b [(Ty.val (bAddr nb b)), (Ty.val buf)])  :
    FnL Tryz.prog 69 #[v0] σ [40] (fun v τ => True ∧ (OwnPT 77 τ 40 b [(Ty.val (bAddr false b)), (Ty.val buf)])) := by
 refine fn_introL hlow Tryz.func69 rfl Tryz.ntmps69 (Nat.le_of_ble_eq_true rfl) (fun a0 F0 ok0 hargs => ?_)
 have p0 := pB (hargs 0 _ rfl) hv0
 clear hargs; refine wp_seq ?_
 refine gI a0 σ ok0 (gM p0 (gT (Ty.val b) rfl (fun A B E G H d0 => rP (y_nilp (OwnPT.toP (OwnPT.k0 ho_b E)) (ed d0 rfl rfl rfl))) (gT (Ty.val (ptrAt b 0)) rfl (fun A B E G H d0 => rP (ownp_field Tryz.fld77_0 Tryz.inf74 (by decide) (OwnPT.toP (OwnPT.k0 ho_b E)) (ed d0 rfl rfl rfl))) (gS rfl (fun A B E G H d0 => rP (ownp_load Tryz.underlying74 rfl (OwnPT.toP (OwnPT.k0 ho_b E)) (ed d0 rfl rfl rfl) rfl)) (gT (Ty.bool nb) rfl (fun A B E G H d0 => rP (y_bnil Tryz.underlying74 Tryz.inf77 (OwnPT.k0 ho_b E) (ed d0 rfl rfl rfl) rfl)) (gE ok0 fun a1 s1 ok1 D1 => ?_)))))); have F1 := F0.step0 D1.stp; have q1 := D1.kt p0 rfl; have o1 := OwnPT.k0 ho_b D1.stp; refine tn ?_
 refine cond_t (D1.dn 4 rfl rfl) (fun c1 => ?_) (fun c1 => ?_)
 ·
  refine gI a1 s1 ok1 (gM q1 (gM q1 (gT (Ty.val b) rfl (fun A B E G H d0 => rP (y_tounsafe Tryz.underlying74 Tryz.underlying116 Tryz.inf77 (by decide) (OwnPT.k0 o1 E) (Nat.le_of_ble_eq_true rfl) (ed d0 rfl rfl rfl))) (gT (Ty.val b) rfl (fun A B E G H d0 => rP (y_extern (R := (Ty.val b)) #[b] (by simp only [List.map_toArray, List.map_cons, List.map_nil, (show A.eval (.tmp 9) = _ from (ed d0 rfl rfl rfl))]) (by rw [run_callFunc_extern Tryz.func87 (by kernel_rfl) (by kernel_rfl) (by kernel_rfl) (e := Extern.AbiNoEscape.same) (by kernel_rfl), Lib.run_noEscape]; rfl) rfl)) (gT (Ty.val b) rfl (fun A B E G H d0 => rP (y_fromunsafe Tryz.underlying116 Tryz.underlying74 Tryz.inf77 (OwnPT.k0 o1 E) (ed d0 rfl rfl rfl) (by kernel_rfl))) (gT (Ty.val b) rfl (fun A B E G H d0 d1 d2 d3 d4 d5 => rP (y_nilp (OwnPT.toP (OwnPT.k0 o1 E)) (ed d0 rfl rfl rfl))) (gT (Ty.val (ptrAt b 0)) rfl (fun A B E G H d0 d1 d2 d3 d4 d5 => rP (ownp_field Tryz.fld77_0 Tryz.inf74 (by decide) (OwnPT.toP (OwnPT.k0 o1 E)) (ed d0 rfl rfl rfl))) (gE2 ok1 fun a2 s2 ok2 D2 => ?_)))))))); have o2 := OwnPT.k0 o1 D2.stp
  refine tailL0 (L := [40]) (R := (fun _ τ => OwnPT 77 τ 40 b ([(Ty.val (bAddr nb b)), (Ty.val buf)].set 0 (Ty.val b)))) rfl rfl (YldM.toL (m_storept Tryz.inf74 (by decide) o2 (D2.dn 6 (by decide) rfl rfl) (Nat.le_of_ble_eq_true rfl) (D2.dn 4 (by decide) rfl rfl) (one_val (OwnPT.one o2)))) (fun v1 s3 hs1 r1 => ?_)
  have F3 := (F1.step0 D2.stp).stepL hs1 (by decide)
  have o3 : OwnPT 77 s3 40 b [(Ty.val b), (Ty.val buf)] := r1
  clear r1; refine wpList_nil ?_
  exact nL0 rfl ok2 F3 ⟨trivial, (ownpt_cell 0 (Ty.val (bAddr false b)) o3 rfl (fun _ _ h => (cvt (by (first | rfl | omega | (simp_all; done) | (simp_all; omega))) h)))⟩
 ·
  refine wp_seq ?_
  refine gI a1 s1 ok1 (gM q1 (gT (Ty.val b) rfl (fun A B E G H d0 => rP (y_nilp (OwnPT.toP (OwnPT.k0 o1 E)) (ed d0 rfl rfl rfl))) (gT (Ty.val (ptrAt b 0)) rfl (fun A B E G H d0 => rP (ownp_field Tryz.fld77_0 Tryz.inf74 (by decide) (OwnPT.toP (OwnPT.k0 o1 E)) (ed d0 rfl rfl rfl))) (gS rfl (fun A B E G H d0 => rP (ownp_load Tryz.underlying74 rfl (OwnPT.toP (OwnPT.k0 o1 E)) (ed d0 rfl rfl rfl) rfl)) (gM q1 (gT (Ty.bool false) rfl (fun A B E G H d0 d1 => rP (y_bself Tryz.underlying74 Tryz.inf77 (OwnPT.k0 o1 E) (bAddr_f (by assumption) (ed d0 rfl rfl rfl)) (ed d1 rfl rfl rfl))) (gE ok1 fun a3 s4 ok3 D3 => ?_))))))); have o4 := OwnPT.k0 o1 D3.stp; refine tn ?_
  refine cond_t (D3.dn 5 rfl rfl) (fun c2 => (by cases c2)) (fun _ => ?_)
  refine wp_skip ?_
  exact nL0 rfl ok3 (F1.step0 D3.stp) ⟨trivial, (ownpt_cell 0 (Ty.val (bAddr false b)) o4 rfl (fun _ _ h => (cvt (by (rw [c1])) h)))⟩

theorem Tryz.inf5 : Info Tryz.prog 5 (.int .u8 0) 1 1 := by unfold Info; kernel_rfl
theorem Tryz.inf75 : Info Tryz.prog 75 (.slice none 0 0) 1 24 := by unfold Info; kernel_rfl
theorem Tryz.fld77_1 : fieldOf Tryz.prog 77 1 = some (75, 1) := by kernel_rfl
set_option maxHeartbeats 4000000 in
set_option maxRecDepth 100000 in
theorem writeByte_fn (b buf : Value) (nb : Bool) (l : List UInt8) (c : UInt8) (σ : GW) (hlow : Low [40, 41] σ) (v0 v1 : Value) (hv0 : Ty.has (Ty.val b) σ v0) (hv1 : Ty.has (Ty.byte c) σ v1) (ho_b : OwnPT 77 σ 40 b [(Ty.val (bAddr nb b)), (Ty.val buf)]) (ho_buf : Own σ 41 5 1 buf (List.length l) (List.map Ty.byte l)) (hl : l.length ≤ 1000000000) :
    FnL Tryz.prog 54 #[v0, v1] σ [40, 41] (fun v τ => ∃ (bz : Value), (Ty.has (Ty.val Value.nilIface) τ v) ∧ (OwnPT 77 τ 40 b [(Ty.val (bAddr false b)), (Ty.val bz)]) ∧ (Own τ 41 5 1 bz (List.length (l ++ [c])) (List.map Ty.byte (l ++ [c])))) := by
 refine fn_introL hlow Tryz.func54 rfl Tryz.ntmps54 (Nat.le_of_ble_eq_true rfl) (fun a0 F0 ok0 hargs => ?_)
 have p0 := pB (hargs 0 _ rfl) hv0
 have p1 := pB (hargs 1 _ rfl) hv1
 clear hargs; refine wp_seq ?_
 refine gI a0 σ ok0 (gC (Ty.val Value.nilIface) (gE ok0 fun a1 s1 ok1 D1 => ?_)); have q1 := D1.kt p0 rfl; have o1 := OwnPT.k0 ho_b D1.stp; have o2 := Own.k0 ho_buf D1.stp; refine tn (wp_seq ?_)
 refine gI a1 s1 ok1 (gM q1 (gE2 ok1 fun a2 s2 ok2 D2 => ?_)); have o3 := OwnPT.k0 o1 D2.stp; have o4 := Own.k0 o2 D2.stp
 refine tL ok2 (y_callL (L := [40]) [(40, 40)] [(40, 40)] #[a2.eval (.tmp 5)] rfl (by decide) Tryz.func69 rfl rfl my1 (copyCheck_fn (b) (buf) (nb) _ (GW.low_lend _ (by decide)) _ (Ty.up _ (GW.le_lend _ _) (D2.dn 0 (by decide) rfl rfl)) (OwnPT.ren o3 (GW.ren_lend _ _ (by decide) rfl)) )) fun a3 s3 hs1 ok3 r1 sm1 => ?_
 have F3 := ((F0.step0 D1.stp).step0 D2.stp).stepL hs1 (by decide); have q6 := kpL hs1 (by decide) (sm1 0 (by decide)) (D2.kt q1 rfl); have q7 := kpL hs1 (by decide) (sm1 1 (by decide)) (D2.kt (D1.kt p1 rfl) rfl); have o7 := Own.keepL o4 hs1 (by decide) (by decide)
 obtain ⟨t1, ⟨hT1, o5⟩, B1⟩ := r1
 have o6 : OwnPT 77 s3 40 b [(Ty.val (bAddr false b)), (Ty.val buf)] := OwnPT.ren o5 (B1.ren (by decide) rfl)
 refine wpList_nil (tn (wp_seq ?_))
 refine gI a3 s3 ok3 (gM q6 (gM q6 (gT (Ty.val b) rfl (fun A B E G H d0 => rP (y_nilp (OwnPT.toP (OwnPT.k0 o6 E)) (ed d0 rfl rfl rfl))) (gT (Ty.val (ptrAt b 1)) rfl (fun A B E G H d0 => rP (ownp_field Tryz.fld77_1 Tryz.inf75 (by decide) (OwnPT.toP (OwnPT.k0 o6 E)) (ed d0 rfl rfl rfl))) (gS rfl (fun A B E G H d0 => rP (ownp_load Tryz.underlying75 rfl (OwnPT.toP (OwnPT.k0 o6 E)) (ed d0 rfl rfl rfl) rfl)) (gM q7 (gT (Ty.sl 1 1 [(Ty.byte c)]) rfl (fun A B E G H d0 => rP (y_build1o Tryz.underlying75 Tryz.inf5 rfl (one_val rfl) (ed d0 rfl rfl rfl))) (gE2 ok3 fun a4 s4 ok4 D3 => ?_)))))))); have o8 := Own.k0 o7 D3.stp; have o9 := OwnPT.k0 o6 D3.stp; have q11 := D3.dn 6 (by decide) rfl rfl
 have b1 := sl_le q11
 refine tL ok4 (YldM.toL (m_append Tryz.underlying75 Tryz.inf5 (by decide) rfl (by decide) (al (R := (Pr.own 41 5 1 (List.length l) (List.map Ty.byte l))) (D3.dn 4 (by decide) rfl rfl) o8) q11 (by intro U hU; simp at hU; subst hU; exact one_val rfl) (by omega) (by omega))) fun a5 s5 hs2 ok5 r2 sm2 => ?_
 have F5 := (F3.step0 D3.stp).stepL hs2 (by decide); have q12 := kpL hs2 (by decide) (sm2 7 (by decide)) (D3.dn 0 (by decide) rfl rfl); have o11 := OwnPT.keepL o9 hs2 (by decide) (by decide)
 obtain ⟨x1, hx1⟩ : ∃ x, a5.eval (.tmp 14) = x := ⟨_, rfl⟩
 have q13 : At (Ty.val x1) s5 a5 (.tmp 14) := hx1
 have o10 := al2 (R := (Pr.own 41 5 1 (List.length (l ++ [c])) (List.map Ty.byte (l ++ [c])))) hx1 (cvo (by simp) (by first | (rw [List.map_append]; rfl) | simp) r2)
 clear r2
 refine tL (R := (fun v τ => Pr.has (Ty.pr (Ty.val b)) τ v)) ok5 (Yld.toL (y_nilp (OwnPT.toP o11) q12)) fun a6 s6 hs3 ok6 r3 sm3 => ?_
 have F6 := F5.stepL hs3 (by decide); have q14 := kpL hs3 (by decide) (sm3 14 (by decide)) q13; have o12 := OwnPT.keepL o11 hs3 (by decide) (by decide); have o13 := Own.keepL o10 hs3 (by decide) (by decide)
 have q15 : At (Ty.val b) s6 a6 (.tmp 15) := r3
 clear r3
 refine tL (R := (fun v τ => Pr.has (Ty.pr (Ty.val (ptrAt b 1))) τ v)) ok6 (Yld.toL (ownp_field Tryz.fld77_1 Tryz.inf75 (by decide) (OwnPT.toP o12) q15)) fun a7 s7 hs4 ok7 r4 sm4 => ?_
 have F7 := F6.stepL hs4 (by decide); have q16 := kpL hs4 (by decide) (sm4 14 (by decide)) q14; have o14 := OwnPT.keepL o12 hs4 (by decide) (by decide); have o15 := Own.keepL o13 hs4 (by decide) (by decide)
 have q17 : At (Ty.val (ptrAt b 1)) s7 a7 (.tmp 16) := r4
 clear r4
 refine tailL0 (L := [40]) (R := (fun _ τ => OwnPT 77 τ 40 b ([(Ty.val (bAddr false b)), (Ty.val buf)].set 1 (Ty.val x1)))) rfl rfl (YldM.toL (m_storept Tryz.inf75 (by decide) o14 q17 (Nat.le_of_ble_eq_true rfl) q16 (one_val (Own.one o15)))) (fun v1 s8 hs5 r5 => ?_)
 have F8 := F7.stepL hs5 (by decide); have o17 := Own.keepL o15 hs5 (by decide) (by decide)
 have o16 : OwnPT 77 s8 40 b [(Ty.val (bAddr false b)), (Ty.val x1)] := r5
 clear r5; refine wpList_nil (tn (wp_seq ?_))
 refine gI a7 s8 ok7 (gC (Ty.val Value.nilIface) (gE ok7 fun a8 s9 ok8 D4 => ?_)); have o18 := Own.k0 o17 D4.stp; have o19 := OwnPT.k0 o16 D4.stp; refine tn (wp_ret ?_)
 exact retL1 rfl ok8 (F8.step0 D4.stp) ⟨x1, (D4.dn 0 rfl rfl), o19, o18⟩


set_option maxHeartbeats 4000000 in
set_option maxRecDepth 100000 in
theorem bString_fn (b buf : Value) (nb : Bool) (l : List UInt8) (σ : GW) (hlow : Low [40, 41] σ) (v0 : Value) (hv0 : Ty.has (Ty.val b) σ v0) (ho_b : OwnPT 77 σ 40 b [(Ty.val (bAddr nb b)), (Ty.val buf)]) (ho_buf : Own σ 41 5 1 buf (List.length l) (List.map Ty.byte l))  :
    FnL Tryz.prog 57 #[v0] σ [40, 41] (fun v τ => (Ty.has (Ty.val (Value.string (bsL l))) τ v)) := by
 refine fn_introL hlow Tryz.func57 rfl Tryz.ntmps57 (Nat.le_of_ble_eq_true rfl) (fun a0 F0 ok0 hargs => ?_)
 have p0 := pB (hargs 0 _ rfl) hv0
 clear hargs; refine wp_seq ?_
 refine gI a0 σ ok0 (gC (Ty.val (Value.string (ByteArray.mk #[]))) (gE ok0 fun a1 s1 ok1 D1 => ?_)); have q1 := D1.kt p0 rfl; have o1 := OwnPT.k0 ho_b D1.stp; have o2 := Own.k0 ho_buf D1.stp; refine tn (wp_seq ?_)
 refine gI a1 s1 ok1 (gM q1 (gT (Ty.val b) rfl (fun A B E G H d0 => rP (y_nilp (OwnPT.toP (OwnPT.k0 o1 E)) (ed d0 rfl rfl rfl))) (gT (Ty.val (ptrAt b 1)) rfl (fun A B E G H d0 => rP (ownp_field Tryz.fld77_1 Tryz.inf75 (by decide) (OwnPT.toP (OwnPT.k0 o1 E)) (ed d0 rfl rfl rfl))) (gS rfl (fun A B E G H d0 => rP (ownp_load Tryz.underlying75 rfl (OwnPT.toP (OwnPT.k0 o1 E)) (ed d0 rfl rfl rfl) rfl)) (gT (Ty.dptr buf (List.length l)) rfl (fun A B E G H d0 => rP (y_sdata Tryz.underlying93 (Own.k0 o2 E) (ed d0 rfl rfl rfl))) (gM q1 (gT (Ty.val b) rfl (fun A B E G H d0 => rP (y_nilp (OwnPT.toP (OwnPT.k0 o1 E)) (ed d0 rfl rfl rfl))) (gT (Ty.val (ptrAt b 1)) rfl (fun A B E G H d0 => rP (ownp_field Tryz.fld77_1 Tryz.inf75 (by decide) (OwnPT.toP (OwnPT.k0 o1 E)) (ed d0 rfl rfl rfl))) (gS rfl (fun A B E G H d0 => rP (ownp_load Tryz.underlying75 rfl (OwnPT.toP (OwnPT.k0 o1 E)) (ed d0 rfl rfl rfl) rfl)) (gT (Ty.nat (List.length l)) rfl (fun A B E G H d0 => rP (own_len Tryz.underlying75 (al (R := (Pr.own 41 5 1 (List.length l) (List.map Ty.byte l))) (ed d0 rfl rfl rfl) (Own.k0 o2 E)))) (gE2 ok1 fun a2 s2 ok2 D2 => ?_))))))))))); have o3 := OwnPT.k0 o1 D2.stp; have o4 := Own.k0 o2 D2.stp
 refine tL (R := (fun v τ => (Ty.val (Value.string (bsL l))).has τ v)) ok2 (YldM.toL (m_sstr (by decide) Tryz.underlying93 (by kernel_rfl) o4 (D2.dn 4 (by decide) rfl rfl) (D2.dn 9 (by decide) rfl rfl))) fun a3 s3 hs1 ok3 r1 sm1 => ?_
 have F3 := ((F0.step0 D1.stp).step0 D2.stp).stepL hs1 (by decide); have o5 := OwnPT.keepL o3 hs1 (by decide) (by decide)
 have q4 : At (Ty.val (Value.string (bsL l))) s3 a3 (.tmp 13) := r1
 clear r1
 refine tL ok3 (Yld.toL (y_as q4)) fun a4 s4 hs2 ok4 r2 sm2 => ?_
 have F4 := F3.stepL hs2 (by decide); have o6 := OwnPT.keepL o5 hs2 (by decide) (by decide)
 have q5 : At (Ty.val (Value.string (bsL l))) s4 a4 (.tmp 2) := r2
 clear r2; refine wpList_nil (tn (wp_ret ?_))
 exact retL1 rfl ok4 F4 q5


set_option maxHeartbeats 4000000 in
set_option maxRecDepth 100000 in
theorem signs1_fn (r : List Int) (σ : GW)  (v0 : Value) (hv0 : Ty.has (Ty.lst Ty.int r) σ v0)  (hr : ∀ i, i < r.length → 0 ≤ r.getD i 0 ∧ r.getD i 0 < 12) (hl : r.length ≤ 1000000) :
    FnC Tryz.prog 56 #[v0] σ (Ty.val (Value.string (bsL (signsB r)))) := by
 have hsz := signs_size
 refine fn_intro0 Tryz.func56 rfl Tryz.ntmps56 (Nat.le_of_ble_eq_true rfl) (fun s0 a0 hle F0 ok0 hargs => ?_)
 have p0 := pA hle (hargs 0 _ rfl) hv0
 have b1 := sl_le p0
 clear hargs; refine wp_seq ?_
 refine gI a0 s0 ok0 (gC (Ty.val (Value.string (ByteArray.mk #[]))) (gE ok0 fun a1 s1 ok1 D1 => ?_)); refine tn (wp_seq ?_)
 refine gI a1 s1 ok1 (gR (Pr.ownpt 77 5 [(Ty.val (Value.pointer none)), (Ty.val (Value.slice none 0 0))]) rfl (by intro A B E G H; exact rP (y_alloct Tryz.inf77 rfl (alloc_vals (vs := [.pointer none, .slice none 0 0]) rfl))) (gE ok1 fun a2 s2 ok2 D2 => ?_))
 obtain ⟨x1, hx1⟩ : ∃ x, a2.eval (.tmp 3) = x := ⟨_, rfl⟩
 have q3 : At (Ty.val x1) s2 a2 (.tmp 3) := hx1
 have o1 := al2 (R := (Pr.ownpt 77 5 [(Ty.val (Value.pointer none)), (Ty.val (Value.slice none 0 0))])) hx1 (D2.done 0)
 refine tn (wp_seq (wp_seq ?_))
 refine gI a2 s2 ok2 (gM (D2.kt (D1.kt p0 rfl) rfl) (gS rfl (fun A B E G H d0 => rP (y_len Tryz.underlying30 (ed d0 rfl rfl rfl))) (gT (Ty.int (0 : Int)) rfl (fun A B E G H => rP (y_move rfl)) (gE ok2 fun a3 s3 ok3 D3 => ?_)))); have o2 := OwnPT.k0 o1 D3.stp; refine tn (wp_block ?_)
 have o3 : Own s3 6 5 1 (Value.slice none 0 0) 0 (List.map Ty.byte ([] : List UInt8)) := Own.nil _ _ _ _
 refine loop (fun n1 a4 w1 => ∃ (t1 : GW) (k : Nat) (nz : Bool) (bf : Value), t1.w = w1 ∧ FromL [] s0 t1 ∧ Ok 17 [] a4 ∧ At (Ty.nat k) t1 a4 (.tmp 8) ∧ At (Ty.val x1) t1 a4 (.tmp 3) ∧ At (Ty.lst Ty.int r) t1 a4 (.tmp 6) ∧ At (Ty.nat (List.length r)) t1 a4 (.tmp 7) ∧ OwnPT 77 t1 5 x1 [(Ty.val (bAddr nz x1)), (Ty.val bf)] ∧ Own t1 6 5 1 bf (List.length (signsB (r.take k))) (List.map Ty.byte (signsB (r.take k))) ∧ (k ≤ r.length) ∧ n1 = r.length - k) (r.length - (0)) ?_ ?_
 ·
  exact ⟨s3, 0, true, (Value.slice none 0 0), rfl, (((F0.step0 D1.stp).step0 D2.stp).step0 D3.stp), ok3, (cvi (by (first | rfl | omega | (simp_all; done) | (simp_all; omega))) (D3.dn 2 rfl rfl)), (D3.kt q3 rfl), (D3.dn 0 rfl rfl), (D3.dn 1 rfl rfl), (ownpt_cell 0 (Ty.val (bAddr (true) x1)) o2 rfl (fun _ _ h => (cvt (by (first | rfl | omega | (simp_all; done) | (simp_all; omega))) h))), (cvo (by (simp [signsB])) (by (simp [signsB])) o3), by omega, rfl⟩
 ·
  rintro n2 a5 w2 ⟨t2, k, nz, bf, rfl, F4, ok4, q8, q9, q10, q11, o4, o5, hk, rfl⟩
  have hsl := signsB_len (r.take k)
  have htl := List.length_take_le k r
  refine wp_seq ?_
  refine gI a5 t2 ok4 (gS rfl (fun A B E G H => rP (y_lss (kp (H 8 rfl) E q8) (kp (H 7 rfl) E q11))) (gE ok4 fun a6 s4 ok5 D4 => ?_)); have F5 := F4.step0 D4.stp; have q12 := D4.kt q8 rfl; have q13 := D4.kt q9 rfl; have q14 := D4.kt q10 rfl; have o6 := OwnPT.k0 o4 D4.stp; have o7 := Own.k0 o5 D4.stp; refine tn (wp_seq ?_)
  refine cond_p (p := (((k : Nat) : Int) < (((List.length r) : Nat) : Int))) (D4.dn 0 rfl rfl) (fun c1 => ?_) (fun c1 => ?_)
  ·
   have hrk := hr k (by omega)
   refine wp_skip (tn (wp_seq (wp_block (wp_seq ?_))))
   refine gI a6 s4 ok5 (gT (Ty.ref [(Ty.int (r.getD k 0))]) rfl (fun A B E G H => rP (y_index1 Tryz.underlying30 Tryz.inf3 (kp (H 6 rfl) E q14) (kp (H 8 rfl) E q12) (by omega) (lst_get Ty.int r 0 k (by omega)))) (gS rfl (fun A B E G H d0 => rP (y_load Tryz.underlying3 rfl (ed d0 rfl rfl rfl) rfl)) (gB 0 (gE ok5 fun a7 s5 ok6 D5 => ?_)))); have o8 := OwnPT.k0 o6 D5.stp; have o9 := Own.k0 o7 D5.stp; refine tn ?_
   refine gI a7 s5 ok6 (gM (D5.dn 2 rfl rfl) (gT (Ty.val (Value.int .u8 (((SIGNS.get! ((r.getD k 0)).toNat).toNat : Nat) : Int))) rfl (fun A B E G H d0 => rP (y_sindex Tryz.underlying9 rfl (ed d0 rfl rfl rfl) (by omega) (by omega))) (gE2 ok6 fun a8 s6 ok7 D6 => ?_))); have q23 := D6.kt (D5.kt q13 rfl) rfl; have o10 := OwnPT.k0 o8 D6.stp; have o11 := Own.k0 o9 D6.stp
   refine tL ok7 (y_callL (L := [40, 41]) [(5, 40), (6, 41)] [(40, 5), (41, 6)] #[a8.eval (.tmp 3), a8.eval (.tmp 13)] rfl (by decide) Tryz.func54 rfl rfl my2 (writeByte_fn (x1) (bf) (nz) ((signsB (r.take k))) ((SIGNS.get! ((r.getD k 0)).toNat)) _ (GW.low_lend _ (by decide)) _ _ (Ty.up _ (GW.le_lend _ _) q23) (Ty.up _ (GW.le_lend _ _) (D6.dn 1 (by decide) rfl rfl)) (OwnPT.ren (ownpt_cell 0 (Ty.val (bAddr (nz) (x1))) o10 rfl (fun _ _ h => (cvt (by (first | rfl | omega | (simp_all; done) | (simp_all; omega))) h))) (GW.ren_lend _ _ (by decide) rfl)) (Own.ren (cvo (by (simp)) (by (simp)) o11) (GW.ren_lend _ _ (by decide) rfl)) (by omega))) fun a9 s7 hs1 ok8 r1 sm1 => ?_
   have F8 := ((F5.step0 D5.stp).step0 D6.stp).stepL hs1 (by decide); have q27 := kpL hs1 (by decide) (sm1 8 (by decide)) (D6.kt (D5.kt q12 rfl) rfl); have q28 := kpL hs1 (by decide) (sm1 3 (by decide)) q23; have q29 := kpL hs1 (by decide) (sm1 6 (by decide)) (D6.kt (D5.kt q14 rfl) rfl); have q30 := kpL hs1 (by decide) (sm1 7 (by decide)) (D6.kt (D5.kt (D4.kt q11 rfl) rfl) rfl)
   obtain ⟨t3, ⟨x2, hT1, o12, o13⟩, B1⟩ := r1
   have q31 : At (Ty.val Value.nilIface) s7 a9 (.tmp 14) := Ty.up _ B1.le hT1
   have o14 : OwnPT 77 s7 5 x1 [(Ty.val (bAddr false (x1))), (Ty.val x2)] := OwnPT.ren o12 (B1.ren (by decide) rfl)
   have o15 : Own s7 6 5 1 x2 (List.length (((signsB (r.take k))) ++ [((SIGNS.get! ((r.getD k 0)).toNat))])) (List.map Ty.byte (((signsB (r.take k))) ++ [((SIGNS.get! ((r.getD k 0)).toNat))])) := Own.ren o13 (B1.ren (by decide) rfl)
   refine wpList_nil (bn (tn ?_))
   refine gI a9 s7 ok8 (gT (Ty.int (((k : Nat) : Int) + (1 : Int))) rfl (fun A B E G H => rP (y_add (kp (H 8 rfl) E q27) rfl (w64 (by omega) (by omega)))) (gS rfl (fun A B E G H d0 => rP (y_move (ed d0 rfl rfl rfl))) (gE ok8 fun a10 s8 ok9 D7 => ?_))); have o16 := OwnPT.k0 o14 D7.stp; have o17 := Own.k0 o15 D7.stp
   exact tn ⟨r.length - ((k+1)), by omega, s8, (k+1), false, x2, rfl, (F8.step0 D7.stp), ok9, (cvi (by (first | rfl | omega | (simp_all; done) | (simp_all; omega))) (D7.dn 1 rfl rfl)), (D7.kt q28 rfl), (D7.kt q29 rfl), (D7.kt q30 rfl), (ownpt_cell 0 (Ty.val (bAddr (false) x1)) o16 rfl (fun _ _ h => (cvt (by (first | rfl | omega | (simp_all; done) | (simp_all; omega))) h))), (cvo (by (rw [signsB_take r k (by omega)])) (by (rw [signsB_take r k (by omega)])) o17), by omega, rfl⟩
  ·
   refine wp_exit (tx (tx (bx (tn (wp_seq ?_)))))
   refine gI a6 s4 ok5 (gE2 ok5 fun a11 s9 ok10 D8 => ?_); have o18 := OwnPT.k0 o6 D8.stp; have o19 := Own.k0 o7 D8.stp
   refine tL ok10 (y_callL (L := [40, 41]) [(5, 40), (6, 41)] [(40, 5), (41, 6)] #[a11.eval (.tmp 3)] rfl (by decide) Tryz.func57 rfl rfl my1 (bString_fn (x1) (bf) (nz) ((signsB (r.take k))) _ (GW.low_lend _ (by decide)) _ (Ty.up _ (GW.le_lend _ _) (D8.kt q13 rfl)) (OwnPT.ren (ownpt_cell 0 (Ty.val (bAddr (nz) (x1))) o18 rfl (fun _ _ h => (cvt (by (first | rfl | omega | (simp_all; done) | (simp_all; omega))) h))) (GW.ren_lend _ _ (by decide) rfl)) (Own.ren (cvo (by (simp)) (by (simp)) o19) (GW.ren_lend _ _ (by decide) rfl)) )) fun a12 s10 hs2 ok11 r2 sm2 => ?_
   have F11 := (F5.step0 D8.stp).stepL hs2 (by decide)
   obtain ⟨t4, hT2, B2⟩ := r2
   have q37 : At (Ty.val (Value.string (bsL ((signsB (r.take k)))))) s10 a12 (.tmp 16) := Ty.up _ B2.le hT2
   refine tL ok11 (Yld.toL (y_as q37)) fun a13 s11 hs3 ok12 r3 sm3 => ?_
   have F12 := F11.stepL hs3 (by decide)
   have q38 : At (Ty.val (Value.string (bsL ((signsB (r.take k)))))) s11 a13 (.tmp 2) := r3
   clear r3; refine wpList_nil (tn (wp_ret ?_))
   exact retL1 rfl ok12 F12 (cvt (by (obtain rfl : k = r.length := (by omega); rw [List.take_length])) q38)


set_option maxHeartbeats 4000000 in
set_option maxRecDepth 100000 in
theorem writeString_fn (b buf : Value) (nb : Bool) (l : List UInt8) (s : ByteArray) (σ : GW) (hlow : Low [40, 41] σ) (v0 v1 : Value) (hv0 : Ty.has (Ty.val b) σ v0) (hv1 : Ty.has (Ty.val (Value.string s)) σ v1) (ho_b : OwnPT 77 σ 40 b [(Ty.val (bAddr nb b)), (Ty.val buf)]) (ho_buf : Own σ 41 5 1 buf (List.length l) (List.map Ty.byte l)) (hl : l.length ≤ 1000000000) (E : s.size ≤ 1000000000) :
    FnL Tryz.prog 55 #[v0, v1] σ [40, 41] (fun v τ => ∃ (bz : Value), (Ty.has (Ty.tup2 (Ty.nat (ByteArray.size s)) (Ty.val Value.nilIface)) τ v) ∧ (OwnPT 77 τ 40 b [(Ty.val (bAddr false b)), (Ty.val bz)]) ∧ (Own τ 41 5 1 bz (List.length (l ++ (ByteArray.data s).toList)) (List.map Ty.byte (l ++ (ByteArray.data s).toList)))) := by
 refine fn_introL hlow Tryz.func55 rfl Tryz.ntmps55 (Nat.le_of_ble_eq_true rfl) (fun a0 F0 ok0 hargs => ?_)
 have p0 := pB (hargs 0 _ rfl) hv0
 have p1 := pB (hargs 1 _ rfl) hv1
 clear hargs; refine wp_seq ?_
 refine gI a0 σ ok0 (gC (Ty.int (0 : Int)) (gC (Ty.val Value.nilIface) (gE ok0 fun a1 s1 ok1 D1 => ?_))); have q1 := D1.kt p0 rfl; have o1 := OwnPT.k0 ho_b D1.stp; have o2 := Own.k0 ho_buf D1.stp; refine tn (wp_seq ?_)
 refine gI a1 s1 ok1 (gM q1 (gE2 ok1 fun a2 s2 ok2 D2 => ?_)); have o3 := OwnPT.k0 o1 D2.stp; have o4 := Own.k0 o2 D2.stp
 refine tL ok2 (y_callL (L := [40]) [(40, 40)] [(40, 40)] #[a2.eval (.tmp 6)] rfl (by decide) Tryz.func69 rfl rfl my1 (copyCheck_fn (b) (buf) (nb) _ (GW.low_lend _ (by decide)) _ (Ty.up _ (GW.le_lend _ _) (D2.dn 0 (by decide) rfl rfl)) (OwnPT.ren o3 (GW.ren_lend _ _ (by decide) rfl)) )) fun a3 s3 hs1 ok3 r1 sm1 => ?_
 have F3 := ((F0.step0 D1.stp).step0 D2.stp).stepL hs1 (by decide); have q6 := kpL hs1 (by decide) (sm1 0 (by decide)) (D2.kt q1 rfl); have q7 := kpL hs1 (by decide) (sm1 1 (by decide)) (D2.kt (D1.kt p1 rfl) rfl); have o7 := Own.keepL o4 hs1 (by decide) (by decide)
 obtain ⟨t1, ⟨hT1, o5⟩, B1⟩ := r1
 have o6 : OwnPT 77 s3 40 b [(Ty.val (bAddr false b)), (Ty.val buf)] := OwnPT.ren o5 (B1.ren (by decide) rfl)
 refine wpList_nil (tn (wp_seq ?_))
 refine gI a3 s3 ok3 (gM q6 (gM q6 (gT (Ty.val b) rfl (fun A B E G H d0 => rP (y_nilp (OwnPT.toP (OwnPT.k0 o6 E)) (ed d0 rfl rfl rfl))) (gT (Ty.val (ptrAt b 1)) rfl (fun A B E G H d0 => rP (ownp_field Tryz.fld77_1 Tryz.inf75 (by decide) (OwnPT.toP (OwnPT.k0 o6 E)) (ed d0 rfl rfl rfl))) (gS rfl (fun A B E G H d0 => rP (ownp_load Tryz.underlying75 rfl (OwnPT.toP (OwnPT.k0 o6 E)) (ed d0 rfl rfl rfl) rfl)) (gM q7 (gE2 ok3 fun a4 s4 ok4 D3 => ?_))))))); have o8 := Own.k0 o7 D3.stp; have o9 := OwnPT.k0 o6 D3.stp
 refine tL (R := (fun v τ => Own τ 41 5 1 v ((List.length l) + ByteArray.size s) ((List.map Ty.byte l) ++ (ByteArray.data s).toList.map Ty.byte))) ok4 (YldM.toL (m_appendS Tryz.underlying75 Tryz.underlying9 Tryz.inf5 (by decide) (al (R := (Pr.own 41 5 1 (List.length l) (List.map Ty.byte l))) (D3.dn 4 (by decide) rfl rfl) o8) (D3.dn 5 (by decide) rfl rfl) (by omega))) fun a5 s5 hs2 ok5 r2 sm2 => ?_
 have F5 := (F3.step0 D3.stp).stepL hs2 (by decide); have q13 := kpL hs2 (by decide) (sm2 1 (by decide)) (D3.kt q7 rfl); have q14 := kpL hs2 (by decide) (sm2 8 (by decide)) (D3.dn 0 (by decide) rfl rfl); have o11 := OwnPT.keepL o9 hs2 (by decide) (by decide)
 obtain ⟨x1, hx1⟩ : ∃ x, a5.eval (.tmp 14) = x := ⟨_, rfl⟩
 have q15 : At (Ty.val x1) s5 a5 (.tmp 14) := hx1
 have o10 := al2 (R := (Pr.own 41 5 1 (List.length (l ++ (ByteArray.data s).toList)) (List.map Ty.byte (l ++ (ByteArray.data s).toList)))) hx1 (cvo (by simp) (by rw [List.map_append]) r2)
 clear r2
 refine tL (R := (fun v τ => Pr.has (Ty.pr (Ty.val b)) τ v)) ok5 (Yld.toL (y_nilp (OwnPT.toP o11) q14)) fun a6 s6 hs3 ok6 r3 sm3 => ?_
 have F6 := F5.stepL hs3 (by decide); have q16 := kpL hs3 (by decide) (sm3 1 (by decide)) q13; have q17 := kpL hs3 (by decide) (sm3 14 (by decide)) q15; have o12 := OwnPT.keepL o11 hs3 (by decide) (by decide); have o13 := Own.keepL o10 hs3 (by decide) (by decide)
 have q18 : At (Ty.val b) s6 a6 (.tmp 15) := r3
 clear r3
 refine tL (R := (fun v τ => Pr.has (Ty.pr (Ty.val (ptrAt b 1))) τ v)) ok6 (Yld.toL (ownp_field Tryz.fld77_1 Tryz.inf75 (by decide) (OwnPT.toP o12) q18)) fun a7 s7 hs4 ok7 r4 sm4 => ?_
 have F7 := F6.stepL hs4 (by decide); have q19 := kpL hs4 (by decide) (sm4 1 (by decide)) q16; have q20 := kpL hs4 (by decide) (sm4 14 (by decide)) q17; have o14 := OwnPT.keepL o12 hs4 (by decide) (by decide); have o15 := Own.keepL o13 hs4 (by decide) (by decide)
 have q21 : At (Ty.val (ptrAt b 1)) s7 a7 (.tmp 16) := r4
 clear r4
 refine tailL0 (L := [40]) (R := (fun _ τ => OwnPT 77 τ 40 b ([(Ty.val (bAddr false b)), (Ty.val buf)].set 1 (Ty.val x1)))) rfl rfl (YldM.toL (m_storept Tryz.inf75 (by decide) o14 q21 (Nat.le_of_ble_eq_true rfl) q20 (one_val (Own.one o15)))) (fun v1 s8 hs5 r5 => ?_)
 have F8 := F7.stepL hs5 (by decide); have q22 := kpL hs5 (by decide) rfl q19; have o17 := Own.keepL o15 hs5 (by decide) (by decide)
 have o16 : OwnPT 77 s8 40 b [(Ty.val (bAddr false b)), (Ty.val x1)] := r5
 clear r5; refine wpList_nil (tn (wp_seq ?_))
 refine gI a7 s8 ok7 (gM q22 (gT (Ty.nat (ByteArray.size s)) rfl (fun A B E G H d0 => rP (y_len_str Tryz.underlying9 (ed d0 rfl rfl rfl))) (gB 0 (gC (Ty.val Value.nilIface) (gE ok7 fun a8 s9 ok8 D4 => ?_))))); have o18 := Own.k0 o17 D4.stp; have o19 := OwnPT.k0 o16 D4.stp; refine tn (wp_ret ?_)
 exact retL2 rfl ok8 (F8.step0 D4.stp) ⟨x1, (hasT2 (D4.dn 2 rfl rfl) (D4.dn 3 rfl rfl)), o19, o18⟩


set_option maxHeartbeats 4000000 in
set_option maxRecDepth 100000 in
theorem plText_fn (l : List (List Int)) (σ : GW)  (v0 : Value) (hv0 : Ty.has (Ty.lst Ty.ints l) σ v0)  (hl : l.length ≤ 200) (hp : ∀ x ∈ l, x.length ≤ 12 ∧ ∀ p ∈ x, 1 ≤ p ∧ p ≤ 12) :
    FnC Tryz.prog 34 #[v0] σ (Ty.val (Value.string (bsL (txB false l)))) := by
 obtain ⟨T, hT⟩ : ∃ T, T = txB false l := ⟨_, rfl⟩
 have hTl : T.length ≤ 2600 := by rw [hT]; have h_ := tx_len (fun x hx => (hp x hx).1) false; omega
 refine fn_intro0 Tryz.func34 rfl Tryz.ntmps34 (Nat.le_of_ble_eq_true rfl) (fun s0 a0 hle F0 ok0 hargs => ?_)
 have p0 := pA hle (hargs 0 _ rfl) hv0
 have b1 := sl_le p0
 clear hargs; refine wp_seq ?_
 refine gI a0 s0 ok0 (gC (Ty.val (Value.string (ByteArray.mk #[]))) (gE ok0 fun a1 s1 ok1 D1 => ?_)); refine tn (wp_seq ?_)
 refine gI a1 s1 ok1 (gR (Pr.ownpt 77 5 [(Ty.val (Value.pointer none)), (Ty.val (Value.slice none 0 0))]) rfl (by intro A B E G H; exact rP (y_alloct Tryz.inf77 rfl (alloc_vals (vs := [.pointer none, .slice none 0 0]) rfl))) (gE ok1 fun a2 s2 ok2 D2 => ?_)); have q2 := D2.kt (D1.kt p0 rfl) rfl
 obtain ⟨x1, hx1⟩ : ∃ x, a2.eval (.tmp 3) = x := ⟨_, rfl⟩
 have q3 : At (Ty.val x1) s2 a2 (.tmp 3) := hx1
 have o1 := al2 (R := (Pr.ownpt 77 5 [(Ty.val (Value.pointer none)), (Ty.val (Value.slice none 0 0))])) hx1 (D2.done 0)
 refine tn (wp_seq (wp_seq ?_))
 refine gI a2 s2 ok2 (gM q2 (gS rfl (fun A B E G H d0 => rP (y_len Tryz.underlying22 (ed d0 rfl rfl rfl))) (gT (Ty.int (0 : Int)) rfl (fun A B E G H => rP (y_move rfl)) (gE ok2 fun a3 s3 ok3 D3 => ?_)))); have o2 := OwnPT.k0 o1 D3.stp; refine tn (wp_block ?_)
 have o3 : Own s3 6 5 1 (Value.slice none 0 0) 0 (List.map Ty.byte ([] : List UInt8)) := Own.nil _ _ _ _
 refine loop (fun n1 a4 w1 => ∃ (t1 : GW) (i : Nat) (out : List UInt8) (nz : Bool) (bf : Value), t1.w = w1 ∧ FromL [] s0 t1 ∧ Ok 45 [] a4 ∧ At (Ty.nat i) t1 a4 (.tmp 10) ∧ At (Ty.lst Ty.ints l) t1 a4 (.tmp 0) ∧ At (Ty.val x1) t1 a4 (.tmp 3) ∧ At (Ty.lst Ty.ints l) t1 a4 (.tmp 8) ∧ At (Ty.nat (List.length l)) t1 a4 (.tmp 9) ∧ OwnPT 77 t1 5 x1 [(Ty.val (bAddr nz x1)), (Ty.val bf)] ∧ Own t1 6 5 1 bf (List.length out) (List.map Ty.byte out) ∧ (out ++ txB (prv l i) (l.drop i) = T) ∧ (i ≤ l.length) ∧ n1 = l.length - i) (l.length - (0)) ?_ ?_
 ·
  exact ⟨s3, 0, ([] : List UInt8), true, (Value.slice none 0 0), rfl, (((F0.step0 D1.stp).step0 D2.stp).step0 D3.stp), ok3, (cvi (by (rfl)) (D3.dn 2 rfl rfl)), (D3.kt q2 rfl), (D3.kt q3 rfl), (D3.dn 0 rfl rfl), (D3.dn 1 rfl rfl), (ownpt_cell 0 (Ty.val (bAddr (true) x1)) o2 rfl (fun _ _ h => (cvt (by (first | rfl | omega | (simp_all; done) | (simp_all; omega))) h))), (cvo (by (simp)) (by (simp)) o3), by rw [hT]; exact tx_0, by omega, rfl⟩
 ·
  rintro n2 a5 w2 ⟨t2, i, out, nz, bf, rfl, F4, ok4, q9, q10, q11, q12, q13, o4, o5, E, hi, rfl⟩
  have hpi : i < l.length → (l.getD i []).length ≤ 12 ∧ ∀ p ∈ (l.getD i []), 1 ≤ p ∧ p ≤ 12 := fun h_ => hp _ (mem_getDD [] h_)
  have hol : out.length ≤ 2600 := by have h_ := congrArg List.length E; rw [List.length_append] at h_; omega
  refine wp_seq ?_
  refine gI a5 t2 ok4 (gS rfl (fun A B E G H => rP (y_lss (kp (H 10 rfl) E q9) (kp (H 9 rfl) E q13))) (gE ok4 fun a6 s4 ok5 D4 => ?_)); have F5 := F4.step0 D4.stp; have q14 := D4.kt q9 rfl; have q16 := D4.kt q11 rfl; have q17 := D4.kt q12 rfl; have o6 := OwnPT.k0 o4 D4.stp; have o7 := Own.k0 o5 D4.stp; refine tn (wp_seq ?_)
  refine cond_p (p := (((i : Nat) : Int) < (((List.length l) : Nat) : Int))) (D4.dn 0 rfl rfl) (fun c1 => ?_) (fun c1 => ?_)
  ·
   have hpi2 := hpi (by omega)
   refine wp_skip (tn (wp_seq (wp_block (wp_seq ?_))))
   refine gI a6 s4 ok5 (gM q14 (gT (Ty.ref [(Ty.lst Ty.int (l.getD i []))]) rfl (fun A B E G H => rP (y_index1 Tryz.underlying22 Tryz.inf30 (kp (H 8 rfl) E q17) (kp (H 10 rfl) E q14) (by omega) (lst_get Ty.ints l [] i (by omega)))) (gS rfl (fun A B E G H d0 => rP (y_load Tryz.underlying30 rfl (ed d0 rfl rfl rfl) rfl)) (gB 0 (gB 0 (gE ok5 fun a7 s5 ok6 D5 => ?_)))))); have o8 := OwnPT.k0 o6 D5.stp; have o9 := Own.k0 o7 D5.stp; have q26 := D5.dn 4 rfl rfl; refine tn (wp_seq (wp_seq ?_))
   refine gI a7 s5 ok6 (gM q26 (gS rfl (fun A B E G H d0 => rP (y_len Tryz.underlying30 (ed d0 rfl rfl rfl))) (gS rfl (fun A B E G H d0 => rP (y_eql (ed d0 rfl rfl rfl) rfl)) (gE ok6 fun a8 s6 ok7 D6 => ?_)))); have F7 := (F5.step0 D5.stp).step0 D6.stp; have q27 := D6.kt (D5.kt q14 rfl) rfl; have q28 := D6.kt (D5.kt (D4.kt q10 rfl) rfl) rfl; have q29 := D6.kt (D5.kt q16 rfl) rfl; have q30 := D6.kt (D5.kt q17 rfl) rfl; have q31 := D6.kt (D5.kt (D4.kt q13 rfl) rfl) rfl; have q32 := D6.kt (D5.dn 3 rfl rfl) rfl; have o10 := OwnPT.k0 o8 D6.stp; have o11 := Own.k0 o9 D6.stp; refine tn ?_
   refine cond_p (p := ((((List.length (l.getD i [])) : Nat) : Int) = (0 : Int))) (D6.dn 2 rfl rfl) (fun c2 => ?_) (fun c2 => ?_)
   ·
    have hxe : (l.getD i []) = [] := List.eq_nil_of_length_eq_zero (by omega)
    refine wp_seq ?_
    refine gI a8 s6 ok7 (gE2 ok7 fun a9 s7 ok8 D7 => ?_); have q37 := D7.kt q29 rfl; have o12 := OwnPT.k0 o10 D7.stp; have o13 := Own.k0 o11 D7.stp
    refine tL ok8 (y_callL (L := [40, 41]) [(5, 40), (6, 41)] [(40, 5), (41, 6)] #[a9.eval (.tmp 3), a9.eval ((Operand.const (Value.int IntKind.u8 120)))] rfl (by decide) Tryz.func54 rfl rfl my2 (writeByte_fn (x1) (bf) (nz) (out) ((120 : UInt8)) _ (GW.low_lend _ (by decide)) _ _ (Ty.up _ (GW.le_lend _ _) q37) (Ty.up _ (GW.le_lend _ _) rfl) (OwnPT.ren (ownpt_cell 0 (Ty.val (bAddr (nz) (x1))) o12 rfl (fun _ _ h => (cvt (by (first | rfl | omega | (simp_all; done) | (simp_all; omega))) h))) (GW.ren_lend _ _ (by decide) rfl)) (Own.ren (cvo (by (simp)) (by (simp)) o13) (GW.ren_lend _ _ (by decide) rfl)) (by omega))) fun a10 s8 hs1 ok9 r1 sm1 => ?_
    have F9 := (F7.step0 D7.stp).stepL hs1 (by decide); have q40 := kpL hs1 (by decide) (sm1 10 (by decide)) (D7.kt q27 rfl); have q41 := kpL hs1 (by decide) (sm1 0 (by decide)) (D7.kt q28 rfl); have q42 := kpL hs1 (by decide) (sm1 3 (by decide)) q37; have q43 := kpL hs1 (by decide) (sm1 8 (by decide)) (D7.kt q30 rfl); have q44 := kpL hs1 (by decide) (sm1 9 (by decide)) (D7.kt q31 rfl)
    obtain ⟨t3, ⟨x2, hT1, o14, o15⟩, B1⟩ := r1
    have q45 : At (Ty.val Value.nilIface) s8 a10 (.tmp 18) := Ty.up _ B1.le hT1
    have o16 : OwnPT 77 s8 5 x1 [(Ty.val (bAddr false (x1))), (Ty.val x2)] := OwnPT.ren o14 (B1.ren (by decide) rfl)
    have o17 : Own s8 6 5 1 x2 (List.length ((out) ++ [((120 : UInt8))])) (List.map Ty.byte ((out) ++ [((120 : UInt8))])) := Own.ren o15 (B1.ren (by decide) rfl)
    refine wpList_nil (tn (wp_exit (tx (bx (tn ?_)))))
    refine gI a10 s8 ok9 (gT (Ty.nat (i + 1)) rfl (fun A B E G H => rP ((y_add (kp (H 10 rfl) E q40) rfl (w64 (by omega) (by omega))).mono (fun τ _ h => cvi (σ := τ) (by first | omega | exact (Int.natCast_mul _ _).symm) h))) (gS rfl (fun A B E G H d0 => rP (y_move (ed d0 rfl rfl rfl))) (gE ok9 fun a11 s9 ok10 D8 => ?_))); have o18 := OwnPT.k0 o16 D8.stp; have o19 := Own.k0 o17 D8.stp
    exact tn ⟨l.length - ((i + 1)), by omega, s9, (i + 1), (out ++ [120]), false, x2, rfl, (F9.step0 D8.stp), ok10, (cvi (by (first | rfl | omega | (simp_all; done) | (simp_all; omega))) (D8.dn 1 rfl rfl)), (D8.kt q41 rfl), (D8.kt q42 rfl), (D8.kt q43 rfl), (D8.kt q44 rfl), (ownpt_cell 0 (Ty.val (bAddr (false) x1)) o18 rfl (fun _ _ h => (cvt (by (first | rfl | omega | (simp_all; done) | (simp_all; omega))) h))), (cvo (by (simp)) (by (simp)) o19), tx_e E (by omega) hxe, by omega, rfl⟩
   ·
    have hxn : (l.getD i []) ≠ [] := fun e_ => c2 (by rw [e_]; rfl)
    refine wp_skip (tn (wp_seq (wp_seq ?_)))
    refine gI a8 s6 ok7 (gM q32 (gS rfl (fun A B E G H d0 => rP (y_gtr (ed d0 rfl rfl rfl) rfl)) (gS rfl (fun A B E G H d0 => rP (y_move (ed d0 rfl rfl rfl))) (gS rfl (fun A B E G H d0 => gu G (ed d0 rfl rfl rfl) fun hg => y_move (kp (H 0 rfl) E q28)) (gS rfl (fun A B E G H d0 => gu G (ed d0 rfl rfl rfl) fun hg => y_move (kp (H 4 rfl) E q32)) (gT (Ty.grd ((decide ((0 : Int) < ((i : Nat) : Int))) = true) (Ty.int (((i : Nat) : Int) - (1 : Int)))) rfl (fun A B E G H d0 d1 => gut G (ed d1 rfl rfl rfl) fun hg hp => y_sub ((ed d0 rfl rfl rfl).1 hg) rfl (w64 (by omega) (by omega))) (gT (Ty.grd ((decide ((0 : Int) < ((i : Nat) : Int))) = true) (Ty.ref [(Ty.lst Ty.int (l.getD ((((i : Nat) : Int) - (1 : Int))).toNat []))])) rfl (fun A B E G H d0 d1 d2 => gut G (ed d2 rfl rfl rfl) fun hg hp => y_index1 Tryz.underlying22 Tryz.inf30 ((ed d0 rfl rfl rfl).1 hg) ((ed d1 rfl rfl rfl).1 hg) (by omega) (lst_get Ty.ints l [] ((((i : Nat) : Int) - (1 : Int))).toNat (by omega))) (gS rfl (fun A B E G H d0 d1 => gu G (ed d1 rfl rfl rfl) fun hg => y_load Tryz.underlying30 rfl ((ed d0 rfl rfl rfl).1 hg) rfl) (gS rfl (fun A B E G H d0 d1 => gu G (ed d1 rfl rfl rfl) fun hg => y_len Tryz.underlying30 ((ed d0 rfl rfl rfl).1 hg)) (gS rfl (fun A B E G H d0 d1 => gu G (ed d1 rfl rfl rfl) fun hg => y_gtr ((ed d0 rfl rfl rfl).1 hg) rfl) (gS rfl (fun A B E G H d0 d1 => rP (y_pick_and (ed d0 rfl rfl rfl) (ed d1 rfl rfl rfl) rfl)) (gE ok7 fun a12 s10 ok11 D9 => ?_)))))))))))); have F11 := F7.step0 D9.stp; have q51 := D9.kt q27 rfl; have q52 := D9.kt q28 rfl; have q53 := D9.kt q29 rfl; have q54 := D9.kt q30 rfl; have q55 := D9.kt q31 rfl; have q56 := D9.kt (D6.kt q26 rfl) rfl; have o20 := OwnPT.k0 o10 D9.stp; have o21 := Own.k0 o11 D9.stp; refine tn ?_
    refine Go.KL.join_then (Q' := fun a13 w3 => ∃ (t4 : GW) (ou : List UInt8) (nw : Bool) (bw : Value), t4.w = w3 ∧ FromL [] s0 t4 ∧ Ok 45 [] a13 ∧ At (Ty.nat i) t4 a13 (.tmp 10) ∧ At (Ty.lst Ty.ints l) t4 a13 (.tmp 0) ∧ At (Ty.val x1) t4 a13 (.tmp 3) ∧ At (Ty.lst Ty.ints l) t4 a13 (.tmp 8) ∧ At (Ty.nat (List.length l)) t4 a13 (.tmp 9) ∧ At (Ty.lst Ty.int (l.getD i [])) t4 a13 (.tmp 5) ∧ OwnPT 77 t4 5 x1 [(Ty.val (bAddr nw x1)), (Ty.val bw)] ∧ Own t4 6 5 1 bw (List.length ou) (List.map Ty.byte ou) ∧ (ou ++ wdB ((l.getD i []).drop 0) ++ txB true (l.drop (i + 1)) = T) ∧ True) ?_ ?_
    ·
     refine cond_t (D9.dn 10 rfl rfl) (fun c3 => ?_) (fun c3 => ?_)
     ·
      obtain ⟨d1, d2⟩ := Bool.and_eq_true_iff.mp c3
      replace d1 := of_decide_eq_true d1
      replace d2 := of_decide_eq_true d2
      have hb : prv l i = true := prv_c.symm.trans c3
      refine gI a12 s10 ok11 (gE2 ok11 fun a14 s11 ok12 D10 => ?_); have q60 := D10.kt q53 rfl; have o22 := OwnPT.k0 o20 D10.stp; have o23 := Own.k0 o21 D10.stp
      refine tL ok12 (y_callL (L := [40, 41]) [(5, 40), (6, 41)] [(40, 5), (41, 6)] #[a14.eval (.tmp 3), a14.eval ((Operand.const (Value.int IntKind.u8 46)))] rfl (by decide) Tryz.func54 rfl rfl my2 (writeByte_fn (x1) (bf) (nz) (out) ((46 : UInt8)) _ (GW.low_lend _ (by decide)) _ _ (Ty.up _ (GW.le_lend _ _) q60) (Ty.up _ (GW.le_lend _ _) rfl) (OwnPT.ren (ownpt_cell 0 (Ty.val (bAddr (nz) (x1))) o22 rfl (fun _ _ h => (cvt (by (first | rfl | omega | (simp_all; done) | (simp_all; omega))) h))) (GW.ren_lend _ _ (by decide) rfl)) (Own.ren (cvo (by (simp)) (by (simp)) o23) (GW.ren_lend _ _ (by decide) rfl)) (by omega))) fun a15 s12 hs2 ok13 r2 sm2 => ?_
      have F13 := (F11.step0 D10.stp).stepL hs2 (by decide); have q64 := kpL hs2 (by decide) (sm2 10 (by decide)) (D10.kt q51 rfl); have q65 := kpL hs2 (by decide) (sm2 0 (by decide)) (D10.kt q52 rfl); have q66 := kpL hs2 (by decide) (sm2 3 (by decide)) q60; have q67 := kpL hs2 (by decide) (sm2 8 (by decide)) (D10.kt q54 rfl); have q68 := kpL hs2 (by decide) (sm2 9 (by decide)) (D10.kt q55 rfl); have q69 := kpL hs2 (by decide) (sm2 5 (by decide)) (D10.kt q56 rfl)
      obtain ⟨t5, ⟨x3, hT2, o24, o25⟩, B2⟩ := r2
      have q70 : At (Ty.val Value.nilIface) s12 a15 (.tmp 30) := Ty.up _ B2.le hT2
      have o26 : OwnPT 77 s12 5 x1 [(Ty.val (bAddr false (x1))), (Ty.val x3)] := OwnPT.ren o24 (B2.ren (by decide) rfl)
      have o27 : Own s12 6 5 1 x3 (List.length ((out) ++ [((46 : UInt8))])) (List.map Ty.byte ((out) ++ [((46 : UInt8))])) := Own.ren o25 (B2.ren (by decide) rfl)
      refine wpList_nil ?_
      exact tn ⟨s12, (out ++ [46]), false, x3, rfl, F13, ok13, q64, q65, q66, q67, q68, q69, (ownpt_cell 0 (Ty.val (bAddr (false) x1)) o26 rfl (fun _ _ h => (cvt (by (first | rfl | omega | (simp_all; done) | (simp_all; omega))) h))), (cvo (by (simp)) (by (simp)) o27), tx_d E (by omega) hxn hb, trivial⟩
     ·
      have hb : prv l i = false := prv_c.symm.trans c3
      refine wp_skip ?_
      exact tn ⟨s10, out, nz, bf, rfl, F11, ok11, q51, q52, q53, q54, q55, q56, (ownpt_cell 0 (Ty.val (bAddr (nz) x1)) o20 rfl (fun _ _ h => (cvt (by (first | rfl | omega | (simp_all; done) | (simp_all; omega))) h))), (cvo (by (simp)) (by (simp)) o21), tx_n E (by omega) hxn hb, trivial⟩
    ·
     rintro a16 w4 ⟨t6, ou, nw, bw, rfl, F14, ok14, q71, q72, q73, q74, q75, q76, o28, o29, hz, -⟩
     refine wp_seq ?_
     refine gI a16 t6 ok14 (gM q76 (gS rfl (fun A B E G H d0 => rP (y_len Tryz.underlying30 (ed d0 rfl rfl rfl))) (gT (Ty.int (0 : Int)) rfl (fun A B E G H => rP (y_move rfl)) (gE ok14 fun a17 s13 ok15 D11 => ?_)))); have o30 := OwnPT.k0 o28 D11.stp; have o31 := Own.k0 o29 D11.stp; refine tn (wp_block ?_)
     refine loop (fun n3 a18 w5 => ∃ (t7 : GW) (j : Nat) (ov : List UInt8) (ny : Bool) (bv : Value), t7.w = w5 ∧ FromL [] s0 t7 ∧ Ok 45 [] a18 ∧ At (Ty.nat j) t7 a18 (.tmp 33) ∧ At (Ty.nat i) t7 a18 (.tmp 10) ∧ At (Ty.lst Ty.ints l) t7 a18 (.tmp 0) ∧ At (Ty.val x1) t7 a18 (.tmp 3) ∧ At (Ty.lst Ty.ints l) t7 a18 (.tmp 8) ∧ At (Ty.nat (List.length l)) t7 a18 (.tmp 9) ∧ At (Ty.lst Ty.int (l.getD i [])) t7 a18 (.tmp 31) ∧ At (Ty.nat (List.length (l.getD i []))) t7 a18 (.tmp 32) ∧ OwnPT 77 t7 5 x1 [(Ty.val (bAddr ny x1)), (Ty.val bv)] ∧ Own t7 6 5 1 bv (List.length ov) (List.map Ty.byte ov) ∧ (ov ++ wdB ((l.getD i []).drop j) ++ txB true (l.drop (i + 1)) = T) ∧ (j ≤ (l.getD i []).length) ∧ n3 = (l.getD i []).length - j) ((l.getD i []).length - (0)) ?_ ?_
     ·
      exact ⟨s13, 0, ou, nw, bw, rfl, (F14.step0 D11.stp), ok15, (cvi (by (rfl)) (D11.dn 2 rfl rfl)), (D11.kt q71 rfl), (D11.kt q72 rfl), (D11.kt q73 rfl), (D11.kt q74 rfl), (D11.kt q75 rfl), (D11.dn 0 rfl rfl), (D11.dn 1 rfl rfl), (ownpt_cell 0 (Ty.val (bAddr (nw) x1)) o30 rfl (fun _ _ h => (cvt (by (first | rfl | omega | (simp_all; done) | (simp_all; omega))) h))), (cvo (by (simp)) (by (simp)) o31), hz, by omega, rfl⟩
     ·
      rintro n4 a19 w6 ⟨t8, j, ov, ny, bv, rfl, F16, ok16, q85, q86, q87, q88, q89, q90, q91, q92, o32, o33, hq, hj, rfl⟩
      have hvl : ov.length ≤ 2600 := by have h_ := congrArg List.length hq; rw [List.length_append, List.length_append] at h_; omega
      have hpj : j < (l.getD i []).length → 1 ≤ (l.getD i []).getD j 0 ∧ (l.getD i []).getD j 0 ≤ 12 := fun h_ => hpi2.2 _ (mem_getDD 0 h_)
      have hs1 := sg_size (p := (l.getD i []).getD j 0 - 1)
      refine wp_seq ?_
      refine gI a19 t8 ok16 (gS rfl (fun A B E G H => rP (y_lss (kp (H 33 rfl) E q85) (kp (H 32 rfl) E q92))) (gE ok16 fun a20 s14 ok17 D12 => ?_)); have F17 := F16.step0 D12.stp; have q93 := D12.kt q85 rfl; have q94 := D12.kt q86 rfl; have q95 := D12.kt q87 rfl; have q96 := D12.kt q88 rfl; have q97 := D12.kt q89 rfl; have q98 := D12.kt q90 rfl; have q99 := D12.kt q91 rfl; have o34 := OwnPT.k0 o32 D12.stp; have o35 := Own.k0 o33 D12.stp; refine tn (wp_seq ?_)
      refine cond_p (p := (((j : Nat) : Int) < (((List.length (l.getD i [])) : Nat) : Int))) (D12.dn 0 rfl rfl) (fun c4 => ?_) (fun c4 => ?_)
      ·
       have hpj2 := hpj (by omega)
       refine wp_skip (tn (wp_seq (wp_block (wp_seq ?_))))
       refine gI a20 s14 ok17 (gT (Ty.ref [(Ty.int ((l.getD i []).getD j 0))]) rfl (fun A B E G H => rP (y_index1 Tryz.underlying30 Tryz.inf3 (kp (H 31 rfl) E q99) (kp (H 33 rfl) E q93) (by omega) (lst_get Ty.int (l.getD i []) 0 j (by omega)))) (gS rfl (fun A B E G H d0 => rP (y_load Tryz.underlying3 rfl (ed d0 rfl rfl rfl) rfl)) (gB 0 (gE ok17 fun a21 s15 ok18 D13 => ?_)))); have o36 := OwnPT.k0 o34 D13.stp; have o37 := Own.k0 o35 D13.stp; refine tn ?_
       refine gI a21 s15 ok18 (gM (D13.dn 2 rfl rfl) (gT (Ty.int (((l.getD i []).getD j 0) - (1 : Int))) rfl (fun A B E G H d0 => rP (y_sub (ed d0 rfl rfl rfl) rfl (w64 (by omega) (by omega)))) (gT (Ty.sl 1 1 [(Ty.int (((l.getD i []).getD j 0) - (1 : Int)))]) rfl (fun A B E G H d0 => rP (y_build1o Tryz.underlying30 Tryz.inf3 rfl (one_val rfl) (ed d0 rfl rfl rfl))) (gS rfl (fun A B E G H d0 => rP (y_call _ Tryz.func56 rfl rfl my1 (signs1_fn ([(((l.getD i []).getD j 0) - (1 : Int))]) _ _ (ed d0 rfl rfl rfl) (by first | omega | exact sg_in (by omega) | (simp; done)) (by first | omega | exact sg_in (by omega) | (simp; done))))) (gE2 ok18 fun a22 s16 ok19 D14 => ?_))))); have q114 := D14.kt (D13.kt q96 rfl) rfl; have o38 := OwnPT.k0 o36 D14.stp; have o39 := Own.k0 o37 D14.stp
       refine tL ok19 (y_callL (L := [40, 41]) [(5, 40), (6, 41)] [(40, 5), (41, 6)] #[a22.eval (.tmp 3), a22.eval (.tmp 40)] rfl (by decide) Tryz.func55 rfl rfl my2 (writeString_fn (x1) (bv) (ny) (ov) ((bsL (signsB ([(((l.getD i []).getD j 0) - (1 : Int))])))) _ (GW.low_lend _ (by decide)) _ _ (Ty.up _ (GW.le_lend _ _) q114) (Ty.up _ (GW.le_lend _ _) (D14.dn 3 (by decide) rfl rfl)) (OwnPT.ren (ownpt_cell 0 (Ty.val (bAddr (ny) (x1))) o38 rfl (fun _ _ h => (cvt (by (first | rfl | omega | (simp_all; done) | (simp_all; omega))) h))) (GW.ren_lend _ _ (by decide) rfl)) (Own.ren (cvo (by (simp)) (by (simp)) o39) (GW.ren_lend _ _ (by decide) rfl)) (by omega) (by omega))) fun a23 s17 hs3 ok20 r3 sm3 => ?_
       have F20 := ((F17.step0 D13.stp).step0 D14.stp).stepL hs3 (by decide); have q120 := kpL hs3 (by decide) (sm3 33 (by decide)) (D14.kt (D13.kt q93 rfl) rfl); have q121 := kpL hs3 (by decide) (sm3 10 (by decide)) (D14.kt (D13.kt q94 rfl) rfl); have q122 := kpL hs3 (by decide) (sm3 0 (by decide)) (D14.kt (D13.kt q95 rfl) rfl); have q123 := kpL hs3 (by decide) (sm3 3 (by decide)) q114; have q124 := kpL hs3 (by decide) (sm3 8 (by decide)) (D14.kt (D13.kt q97 rfl) rfl); have q125 := kpL hs3 (by decide) (sm3 9 (by decide)) (D14.kt (D13.kt q98 rfl) rfl); have q126 := kpL hs3 (by decide) (sm3 31 (by decide)) (D14.kt (D13.kt q99 rfl) rfl); have q127 := kpL hs3 (by decide) (sm3 32 (by decide)) (D14.kt (D13.kt (D12.kt q92 rfl) rfl) rfl)
       obtain ⟨t9, ⟨x4, hT3, o40, o41⟩, B3⟩ := r3
       have q128 : At (Ty.tup2 (Ty.nat (ByteArray.size ((bsL (signsB ([(((l.getD i []).getD j 0) - (1 : Int))])))))) (Ty.val Value.nilIface)) s17 a23 (.tmp 41) := Ty.up _ B3.le hT3
       have o42 : OwnPT 77 s17 5 x1 [(Ty.val (bAddr false (x1))), (Ty.val x4)] := OwnPT.ren o40 (B3.ren (by decide) rfl)
       have o43 : Own s17 6 5 1 x4 (List.length ((ov) ++ (ByteArray.data ((bsL (signsB ([(((l.getD i []).getD j 0) - (1 : Int))]))))).toList)) (List.map Ty.byte ((ov) ++ (ByteArray.data ((bsL (signsB ([(((l.getD i []).getD j 0) - (1 : Int))]))))).toList)) := Own.ren o41 (B3.ren (by decide) rfl)
       refine wpList_nil (bn (tn ?_))
       refine gI a23 s17 ok20 (gT (Ty.nat (j + 1)) rfl (fun A B E G H => rP ((y_add (kp (H 33 rfl) E q120) rfl (w64 (by omega) (by omega))).mono (fun τ _ h => cvi (σ := τ) (by first | omega | exact (Int.natCast_mul _ _).symm) h))) (gS rfl (fun A B E G H d0 => rP (y_move (ed d0 rfl rfl rfl))) (gE ok20 fun a24 s18 ok21 D15 => ?_))); have o44 := OwnPT.k0 o42 D15.stp; have o45 := Own.k0 o43 D15.stp
       exact tn ⟨(l.getD i []).length - ((j + 1)), by omega, s18, (j + 1), (ov ++ [SIGNS.get! ((l.getD i []).getD j 0 - 1).toNat]), false, x4, rfl, (F20.step0 D15.stp), ok21, (cvi (by (first | rfl | omega | (simp_all; done) | (simp_all; omega))) (D15.dn 1 rfl rfl)), (D15.kt q121 rfl), (D15.kt q122 rfl), (D15.kt q123 rfl), (D15.kt q124 rfl), (D15.kt q125 rfl), (D15.kt q126 rfl), (D15.kt q127 rfl), (ownpt_cell 0 (Ty.val (bAddr (false) x1)) o44 rfl (fun _ _ h => (cvt (by (first | rfl | omega | (simp_all; done) | (simp_all; omega))) h))), (cvo (by (rw [sg_one])) (by (rw [sg_one])) o45), tx_s hq (by omega), by omega, rfl⟩
      ·
       refine wp_exit (tx (tx (bx (bn (tn ?_)))))
       refine gI a20 s14 ok17 (gT (Ty.nat (i + 1)) rfl (fun A B E G H => rP ((y_add (kp (H 10 rfl) E q94) rfl (w64 (by omega) (by omega))).mono (fun τ _ h => cvi (σ := τ) (by first | omega | exact (Int.natCast_mul _ _).symm) h))) (gS rfl (fun A B E G H d0 => rP (y_move (ed d0 rfl rfl rfl))) (gE ok17 fun a25 s19 ok22 D16 => ?_))); have o46 := OwnPT.k0 o34 D16.stp; have o47 := Own.k0 o35 D16.stp
       exact tn ⟨l.length - ((i + 1)), by omega, s19, (i + 1), ov, ny, bv, rfl, (F17.step0 D16.stp), ok22, (cvi (by (first | rfl | omega | (simp_all; done) | (simp_all; omega))) (D16.dn 1 rfl rfl)), (D16.kt q95 rfl), (D16.kt q96 rfl), (D16.kt q97 rfl), (D16.kt q98 rfl), (ownpt_cell 0 (Ty.val (bAddr (ny) x1)) o46 rfl (fun _ _ h => (cvt (by (first | rfl | omega | (simp_all; done) | (simp_all; omega))) h))), (cvo (by (simp)) (by (simp)) o47), tx_o hq (by omega) (by omega) hxn, by omega, rfl⟩
  ·
   have hfin := tx_end E (by omega)
   refine wp_exit (tx (tx (bx (tn (wp_seq ?_)))))
   refine gI a6 s4 ok5 (gE2 ok5 fun a26 s20 ok23 D17 => ?_); have o48 := OwnPT.k0 o6 D17.stp; have o49 := Own.k0 o7 D17.stp
   refine tL ok23 (y_callL (L := [40, 41]) [(5, 40), (6, 41)] [(40, 5), (41, 6)] #[a26.eval (.tmp 3)] rfl (by decide) Tryz.func57 rfl rfl my1 (bString_fn (x1) (bf) (nz) (out) _ (GW.low_lend _ (by decide)) _ (Ty.up _ (GW.le_lend _ _) (D17.kt q16 rfl)) (OwnPT.ren (ownpt_cell 0 (Ty.val (bAddr (nz) (x1))) o48 rfl (fun _ _ h => (cvt (by (first | rfl | omega | (simp_all; done) | (simp_all; omega))) h))) (GW.ren_lend _ _ (by decide) rfl)) (Own.ren (cvo (by (simp)) (by (simp)) o49) (GW.ren_lend _ _ (by decide) rfl)) )) fun a27 s21 hs4 ok24 r4 sm4 => ?_
   have F24 := (F5.step0 D17.stp).stepL hs4 (by decide)
   obtain ⟨t10, hT4, B4⟩ := r4
   have q143 : At (Ty.val (Value.string (bsL (out)))) s21 a27 (.tmp 44) := Ty.up _ B4.le hT4
   refine tL ok24 (Yld.toL (y_as q143)) fun a28 s22 hs5 ok25 r5 sm5 => ?_
   have F25 := F24.stepL hs5 (by decide)
   have q144 : At (Ty.val (Value.string (bsL (out)))) s22 a28 (.tmp 2) := r5
   clear r5; refine wpList_nil (tn (wp_ret ?_))
   exact retL1 rfl ok25 F25 (cvt (by (rw [← hT, ← hfin])) q144)


set_option maxHeartbeats 4000000 in
set_option maxRecDepth 100000 in
theorem write_fn (nm : ByteArray) (n : Int) (l : List (List Int)) (σ : GW)  (v0 : Value) (hv0 : Ty.has (Ty.agg [(Ty.val (Value.string nm)), (Ty.int n), (Ty.lst Ty.ints l)]) σ v0)  (hnm : nm.size ≤ 1099511627776) (hn : -9223372036854775808 ≤ n ∧ n ≤ 9223372036854775807) :
    FnC Tryz.prog 11 #[v0] σ (Ty.tup2 (Ty.val (Value.string (if methMay nm n l = 0 then (mlB nm n.toNat l) else ByteArray.empty))) (Ty.int (methMay nm n l))) := by
 refine fn_intro0 Tryz.func11 rfl Tryz.ntmps11 (Nat.le_of_ble_eq_true rfl) (fun s0 a0 hle F0 ok0 hargs => ?_)
 have p0 := pA hle (hargs 0 _ rfl) hv0
 clear hargs; refine wp_seq ?_
 refine gI a0 s0 ok0 (gS rfl (fun A B E G H => rP (y_boxagg (kp (H 0 rfl) E p0))) (gC (Ty.val (Value.string (ByteArray.mk #[]))) (gC (Ty.int (0 : Int)) (gE ok0 fun a1 s1 ok1 D1 => ?_)))); have q1 := D1.dn 0 rfl rfl; refine tn (wp_seq (wp_seq ?_))
 refine gI a1 s1 ok1 (gS rfl (fun A B E G H => rP (y_loadagg Tryz.underlying24 Tryz.inf24 (kp (H 1 rfl) E q1))) (gS rfl (fun A B E G H d0 => rP (y_call _ Tryz.func13 rfl rfl my1 (mCheck_fn (nm) (n) (l) _ _ (ed d0 rfl rfl rfl) (by first | omega | assumption) (by first | omega | assumption)))) (gB 0 (gE ok1 fun a2 s2 ok2 D2 => ?_)))); have q3 := D2.dn 2 rfl rfl; refine tn (wp_seq ?_)
 refine gI a2 s2 ok2 (gM q3 (gS rfl (fun A B E G H d0 => rP (y_neq (ed d0 rfl rfl rfl) rfl)) (gE ok2 fun a3 s3 ok3 D3 => ?_))); have F3 := ((F0.step0 D1.stp).step0 D2.stp).step0 D3.stp; have q4 := D3.kt (D2.kt q1 rfl) rfl; refine tn ?_
 refine cond_p (p := ((methMay nm n l) ≠ (0 : Int))) (D3.dn 1 rfl rfl) (fun c1 => ?_) (fun c1 => ?_)
 ·
  refine wp_seq ?_
  refine gI a3 s3 ok3 (gM (D3.kt q3 rfl) (gC (Ty.val (Value.string (ByteArray.mk #[]))) (gB 0 (gE ok3 fun a4 s4 ok4 D4 => ?_)))); refine tn (wp_ret (tr ?_))
  exact retL2 rfl ok4 (F3.step0 D4.stp) (hasT2 (cvt (by (rw [if_neg c1]; rfl)) (D4.dn 1 rfl rfl)) (D4.dn 2 rfl rfl))
 ·
  have h0 := Classical.not_not.1 c1; obtain ⟨hmo, hnn⟩ := methMay_ok' h0; have hm1 := hmo.n1; have hm2 := hmo.n2; have hml := hmo.l2; have hml1 := hmo.l1; have hrl := roundsL_len n.toNat; have hfl := fromL_len (roundsL n.toNat) l; obtain ⟨hhr, hhl⟩ := hmo.head; have hrm := rowMay_ok.2 hhr; have hol := ordTo_le hhr _ (Nat.le_refl _); have hE := plw_of h0; have hz1 : (ByteArray.mk #[124]).size = 1 := rfl; have hz2 := dec_size (n := n.toNat); have hz3 : (bsL (txB false l)).size ≤ 2600 := tx_size hE
  refine wp_skip (tn (wp_seq ?_))
  refine gI a3 s3 ok3 (gS rfl (fun A B E G H => rP (y_field Tryz.fld24_0 Tryz.inf9 (by decide) (kp (H 1 rfl) E q4) rfl)) (gS rfl (fun A B E G H d0 => rP (y_load Tryz.underlying9 rfl (ed d0 rfl rfl rfl) rfl)) (gT (Ty.val (Value.string (nm ++ (ByteArray.mk #[124])))) rfl (fun A B E G H d0 => rP (y_scat (ed d0 rfl rfl rfl) rfl (by (try simp only [ByteArray.size_append]); omega))) (gS rfl (fun A B E G H => rP (y_field Tryz.fld24_1 Tryz.inf3 (by decide) (kp (H 1 rfl) E q4) rfl)) (gS rfl (fun A B E G H d0 => rP (y_load Tryz.underlying3 rfl (ed d0 rfl rfl rfl) rfl)) (gS rfl (fun A B E G H d0 => rP (y_call _ Tryz.func33 rfl rfl my1 (itoa_fn ((n).toNat) _ _ (cvi (σ := B) (by omega) (ed d0 rfl rfl rfl)) (by omega)))) (gT (Ty.val (Value.string ((nm ++ (ByteArray.mk #[124])) ++ (decB ((n).toNat))))) rfl (fun A B E G H d0 d1 => rP (y_scat (ed d0 rfl rfl rfl) (ed d1 rfl rfl rfl) (by (try simp only [ByteArray.size_append]); omega))) (gT (Ty.val (Value.string (((nm ++ (ByteArray.mk #[124])) ++ (decB ((n).toNat))) ++ (ByteArray.mk #[124])))) rfl (fun A B E G H d0 => rP (y_scat (ed d0 rfl rfl rfl) rfl (by (try simp only [ByteArray.size_append]); omega))) (gS rfl (fun A B E G H => rP (y_field Tryz.fld24_2 Tryz.inf22 (by decide) (kp (H 1 rfl) E q4) rfl)) (gS rfl (fun A B E G H d0 => rP (y_load Tryz.underlying22 rfl (ed d0 rfl rfl rfl) rfl)) (gS rfl (fun A B E G H d0 d1 => rP (y_call _ Tryz.func34 rfl rfl my1 (plText_fn (l) _ _ (ed d0 rfl rfl rfl) (by first | omega | assumption | exact (pl_pre hE).1 | exact (pl_pre hE).2) (by first | omega | assumption | exact (pl_pre hE).1 | exact (pl_pre hE).2)))) ?_)))))))))))
  refine gT (Ty.val (Value.string ((((nm ++ (ByteArray.mk #[124])) ++ (decB ((n).toNat))) ++ (ByteArray.mk #[124])) ++ (bsL (txB false l))))) rfl (fun A B E G H d0 d1 => rP (y_scat (ed d0 rfl rfl rfl) (ed d1 rfl rfl rfl) (by (try simp only [ByteArray.size_append]); omega))) (gB 0 (gC (Ty.int (0 : Int)) (gE ok3 fun a5 s5 ok5 D5 => ?_))); refine tn (wp_ret ?_)
  exact retL2 rfl ok5 (F3.step0 D5.stp) (hasT2 (cvt (by (rw [if_pos h0]; rfl)) (D5.dn 12 rfl rfl)) (cvi (by (exact h0.symm)) (D5.dn 13 rfl rfl)))


set_option maxHeartbeats 4000000 in
set_option maxRecDepth 100000 in
theorem equal_fn (xs : List Int) (ys : List Int) (σ : GW)  (v0 v1 : Value) (hv0 : Ty.has (Ty.lst Ty.int xs) σ v0) (hv1 : Ty.has (Ty.lst Ty.int ys) σ v1)   :
    FnC Tryz.prog 35 #[v0, v1] σ (Ty.bool (decide (xs = ys))) := by
 refine fn_intro0 Tryz.func35 rfl Tryz.ntmps35 (Nat.le_of_ble_eq_true rfl) (fun s0 a0 hle F0 ok0 hargs => ?_)
 have p0 := pA hle (hargs 0 _ rfl) hv0
 have b1 := sl_le p0
 have p1 := pA hle (hargs 1 _ rfl) hv1
 have b2 := sl_le p1
 clear hargs; refine wp_seq ?_
 refine gI a0 s0 ok0 (gC (Ty.bool false) (gE ok0 fun a1 s1 ok1 D1 => ?_)); have q1 := D1.kt p0 rfl; have q2 := D1.kt p1 rfl; refine tn (wp_seq (wp_seq ?_))
 refine gI a1 s1 ok1 (gM q1 (gS rfl (fun A B E G H d0 => rP (y_len Tryz.underlying30 (ed d0 rfl rfl rfl))) (gM q2 (gS rfl (fun A B E G H d0 => rP (y_len Tryz.underlying30 (ed d0 rfl rfl rfl))) (gS rfl (fun A B E G H d0 d1 => rP (y_neq (ed d0 rfl rfl rfl) (ed d1 rfl rfl rfl))) (gE ok1 fun a2 s2 ok2 D2 => ?_)))))); have F2 := (F0.step0 D1.stp).step0 D2.stp; have q3 := D2.kt q1 rfl; refine tn ?_
 refine cond_p (p := ((((List.length xs) : Nat) : Int) ≠ (((List.length ys) : Nat) : Int))) (D2.dn 4 rfl rfl) (fun c1 => ?_) (fun c1 => ?_)
 ·
  refine wp_seq ?_
  refine gI a2 s2 ok2 (gC (Ty.bool false) (gE ok2 fun a3 s3 ok3 D3 => ?_)); refine tn (wp_ret (tr ?_))
  exact retL1 rfl ok3 (F2.step0 D3.stp) (cvb (by (rw [decide_eq_false]; intro e; subst e; omega)) (D3.dn 0 rfl rfl))
 ·
  refine wp_skip (tn (wp_seq (wp_seq ?_)))
  refine gI a2 s2 ok2 (gM q3 (gS rfl (fun A B E G H d0 => rP (y_len Tryz.underlying30 (ed d0 rfl rfl rfl))) (gT (Ty.int (0 : Int)) rfl (fun A B E G H => rP (y_move rfl)) (gE ok2 fun a4 s4 ok4 D4 => ?_)))); refine tn (wp_block ?_)
  refine loop (fun n1 a5 w1 => ∃ (t1 : GW) (k : Nat), t1.w = w1 ∧ FromL [] s0 t1 ∧ Ok 26 [] a5 ∧ At (Ty.nat k) t1 a5 (.tmp 13) ∧ At (Ty.lst Ty.int xs) t1 a5 (.tmp 0) ∧ At (Ty.lst Ty.int ys) t1 a5 (.tmp 1) ∧ At (Ty.nat (List.length xs)) t1 a5 (.tmp 12) ∧ (k ≤ xs.length) ∧ (xs.length = ys.length) ∧ (∀ j, j < k → xs.getD j 0 = ys.getD j 0) ∧ n1 = xs.length - k) (xs.length - (0)) ?_ ?_
  ·
   exact ⟨s4, 0, rfl, (F2.step0 D4.stp), ok4, (cvi (by (first | rfl | omega | (simp_all; done) | (simp_all; omega))) (D4.dn 2 rfl rfl)), (D4.kt q3 rfl), (D4.kt (D2.kt q2 rfl) rfl), (D4.dn 1 rfl rfl), by omega, by omega, fun j hj => absurd hj (Nat.not_lt_zero j), rfl⟩
  ·
   rintro n2 a6 w2 ⟨t2, k, rfl, F5, ok5, q11, q12, q13, q14, hk, hl, heq, rfl⟩
   refine wp_seq ?_
   refine gI a6 t2 ok5 (gS rfl (fun A B E G H => rP (y_lss (kp (H 13 rfl) E q11) (kp (H 12 rfl) E q14))) (gE ok5 fun a7 s5 ok6 D5 => ?_)); have F6 := F5.step0 D5.stp; have q15 := D5.kt q11 rfl; refine tn (wp_seq ?_)
   refine cond_p (p := (((k : Nat) : Int) < (((List.length xs) : Nat) : Int))) (D5.dn 0 rfl rfl) (fun c2 => ?_) (fun c2 => ?_)
   ·
    refine wp_skip (tn (wp_seq (wp_block (wp_seq ?_))))
    refine gI a7 s5 ok6 (gM q15 (gB 0 (gE ok6 fun a8 s6 ok7 D6 => ?_))); have q21 := D6.kt (D5.kt q12 rfl) rfl; have q22 := D6.kt (D5.kt q13 rfl) rfl; have q24 := D6.dn 1 rfl rfl; refine tn (wp_seq ?_)
    refine gI a8 s6 ok7 (gM q21 (gM q24 (gT (Ty.ref [(Ty.int (xs.getD k 0))]) rfl (fun A B E G H d0 d1 => rP (y_index1 Tryz.underlying30 Tryz.inf3 (ed d0 rfl rfl rfl) (ed d1 rfl rfl rfl) (by omega) (lst_get Ty.int xs 0 k (by omega)))) (gS rfl (fun A B E G H d0 => rP (y_load Tryz.underlying3 rfl (ed d0 rfl rfl rfl) rfl)) (gM q22 (gM q24 (gT (Ty.ref [(Ty.int (ys.getD k 0))]) rfl (fun A B E G H d0 d1 => rP (y_index1 Tryz.underlying30 Tryz.inf3 (ed d0 rfl rfl rfl) (ed d1 rfl rfl rfl) (by omega) (lst_get Ty.int ys 0 k (by omega)))) (gS rfl (fun A B E G H d0 => rP (y_load Tryz.underlying3 rfl (ed d0 rfl rfl rfl) rfl)) (gS rfl (fun A B E G H d0 d1 => rP (y_neq (ed d0 rfl rfl rfl) (ed d1 rfl rfl rfl))) (gE ok7 fun a9 s7 ok8 D7 => ?_)))))))))); have F8 := (F6.step0 D6.stp).step0 D7.stp; refine tn ?_
    refine cond_p (p := ((xs.getD k 0) ≠ (ys.getD k 0))) (D7.dn 8 rfl rfl) (fun c3 => ?_) (fun c3 => ?_)
    ·
     refine wp_seq ?_
     refine gI a9 s7 ok8 (gC (Ty.bool false) (gE ok8 fun a10 s8 ok9 D8 => ?_)); refine tn (wp_ret (br (tr (tr (br (tr ?_))))))
     exact retL1 rfl ok9 (F8.step0 D8.stp) (cvb (by (exact (decide_eq_false (fun e => by subst e; simp_all)).symm)) (D8.dn 0 rfl rfl))
    ·
     refine wp_skip (bn (tn ?_))
     refine gI a9 s7 ok8 (gT (Ty.int (((k : Nat) : Int) + (1 : Int))) rfl (fun A B E G H => rP (y_add (kp (H 13 rfl) E (D7.kt (D6.kt q15 rfl) rfl)) rfl (w64 (by omega) (by omega)))) (gS rfl (fun A B E G H d0 => rP (y_move (ed d0 rfl rfl rfl))) (gE ok8 fun a11 s9 ok10 D9 => ?_)))
     exact tn ⟨xs.length - ((k+1)), by omega, s9, (k+1), rfl, (F8.step0 D9.stp), ok10, (cvi (by (first | rfl | omega | (simp_all; done) | (simp_all; omega))) (D9.dn 1 rfl rfl)), (D9.kt (D7.kt q21 rfl) rfl), (D9.kt (D7.kt q22 rfl) rfl), (D9.kt (D7.kt (D6.kt (D5.kt q14 rfl) rfl) rfl) rfl), by omega, by omega, all_snoc heq (by assumption), rfl⟩
   ·
    refine wp_exit (tx (tx (bx (tn (wp_seq ?_)))))
    refine gI a7 s5 ok6 (gC (Ty.bool true) (gE ok6 fun a12 s10 ok11 D10 => ?_)); refine tn (wp_ret ?_)
    exact retL1 rfl ok11 (F6.step0 D10.stp) (cvb (by (exact (decide_eq_true (list_ext (by omega) (fun j hj => heq j (by omega)))).symm)) (D10.dn 0 rfl rfl))


set_option maxHeartbeats 4000000 in
set_option maxRecDepth 100000 in
theorem mirrored_fn (nm : ByteArray) (n : Int) (l : List (List Int)) (σ : GW)  (v0 : Value) (hv0 : Ty.has (Ty.agg [(Ty.val (Value.string nm)), (Ty.int n), (Ty.lst Ty.ints l)]) σ v0)  (hnm : nm.size ≤ 1099511627776) (hn : -9223372036854775808 ≤ n ∧ n ≤ 9223372036854775807) :
    FnC Tryz.prog 12 #[v0] σ (Ty.tup2 (Ty.bool (if methMay nm n l = 0 then mirB l else false)) (Ty.int (methMay nm n l))) := by
 refine fn_intro0 Tryz.func12 rfl Tryz.ntmps12 (Nat.le_of_ble_eq_true rfl) (fun s0 a0 hle F0 ok0 hargs => ?_)
 have p0 := pA hle (hargs 0 _ rfl) hv0
 clear hargs; refine wp_seq ?_
 refine gI a0 s0 ok0 (gS rfl (fun A B E G H => rP (y_boxagg (kp (H 0 rfl) E p0))) (gC (Ty.bool false) (gC (Ty.int (0 : Int)) (gE ok0 fun a1 s1 ok1 D1 => ?_)))); have q1 := D1.dn 0 rfl rfl; refine tn (wp_seq (wp_seq ?_))
 refine gI a1 s1 ok1 (gS rfl (fun A B E G H => rP (y_loadagg Tryz.underlying24 Tryz.inf24 (kp (H 1 rfl) E q1))) (gS rfl (fun A B E G H d0 => rP (y_call _ Tryz.func13 rfl rfl my1 (mCheck_fn (nm) (n) (l) _ _ (ed d0 rfl rfl rfl) (by first | omega | assumption) (by first | omega | assumption)))) (gB 0 (gE ok1 fun a2 s2 ok2 D2 => ?_)))); have q3 := D2.dn 2 rfl rfl; refine tn (wp_seq ?_)
 refine gI a2 s2 ok2 (gM q3 (gS rfl (fun A B E G H d0 => rP (y_neq (ed d0 rfl rfl rfl) rfl)) (gE ok2 fun a3 s3 ok3 D3 => ?_))); have F3 := ((F0.step0 D1.stp).step0 D2.stp).step0 D3.stp; have q4 := D3.kt (D2.kt q1 rfl) rfl; refine tn ?_
 refine cond_p (p := ((methMay nm n l) ≠ (0 : Int))) (D3.dn 1 rfl rfl) (fun c1 => ?_) (fun c1 => ?_)
 ·
  refine wp_seq ?_
  refine gI a3 s3 ok3 (gM (D3.kt q3 rfl) (gC (Ty.bool false) (gB 0 (gE ok3 fun a4 s4 ok4 D4 => ?_)))); refine tn (wp_ret (tr ?_))
  exact retL2 rfl ok4 (F3.step0 D4.stp) (hasT2 (cvb (by (rw [if_neg c1])) (D4.dn 1 rfl rfl)) (D4.dn 2 rfl rfl))
 ·
  have h0 := Classical.not_not.1 c1; obtain ⟨hmo, hnn⟩ := methMay_ok' h0; have hm1 := hmo.n1; have hm2 := hmo.n2; have hml := hmo.l2; have hml1 := hmo.l1; have hrl := roundsL_len n.toNat; have hfl := fromL_len (roundsL n.toNat) l; obtain ⟨hhr, hhl⟩ := hmo.head; have hrm := rowMay_ok.2 hhr; have hol := ordTo_le hhr _ (Nat.le_refl _); obtain ⟨X, hX⟩ : ∃ X, X = l.take (l.length - 1) := ⟨_, rfl⟩; have hXl : X.length = l.length - 1 := by rw [hX, cut_len]
  refine wp_skip (tn (wp_seq ?_))
  refine gI a3 s3 ok3 (gS rfl (fun A B E G H => rP (y_field Tryz.fld24_2 Tryz.inf22 (by decide) (kp (H 1 rfl) E q4) rfl)) (gS rfl (fun A B E G H d0 => rP (y_load Tryz.underlying22 rfl (ed d0 rfl rfl rfl) rfl)) (gS rfl (fun A B E G H => rP (y_field Tryz.fld24_2 Tryz.inf22 (by decide) (kp (H 1 rfl) E q4) rfl)) (gS rfl (fun A B E G H d0 => rP (y_load Tryz.underlying22 rfl (ed d0 rfl rfl rfl) rfl)) (gS rfl (fun A B E G H d0 => rP (y_len Tryz.underlying22 (ed d0 rfl rfl rfl))) (gT (Ty.int ((((List.length l) : Nat) : Int) - (1 : Int))) rfl (fun A B E G H d0 => rP (y_sub (ed d0 rfl rfl rfl) rfl (w64 (by omega) (by omega)))) (gT (Ty.lst Ty.ints (l.take (((((List.length l) : Nat) : Int) - (1 : Int))).toNat)) rfl (fun A B E G H d0 d1 => rP (y_take Tryz.underlying22 Tryz.inf30 (ed d0 rfl rfl rfl) (toN (σ := B) (ed d1 rfl rfl rfl) (by omega)) (by omega))) (gB 0 (gE ok3 fun a5 s5 ok5 D5 => ?_)))))))))
  have q10 : At (Ty.lst Ty.ints X) s5 a5 (.tmp 5) := (cvt (by (rw [hX, show ((((List.length l : Nat) : Int) - (1 : Int))).toNat = l.length - 1 by omega])) (D5.dn 7 rfl rfl))
  refine tn (wp_seq (wp_seq ?_))
  refine gI a5 s5 ok5 (gM q10 (gS rfl (fun A B E G H d0 => rP (y_len Tryz.underlying22 (ed d0 rfl rfl rfl))) (gT (Ty.int (0 : Int)) rfl (fun A B E G H => rP (y_move rfl)) (gE ok5 fun a6 s6 ok6 D6 => ?_)))); refine tn (wp_block ?_)
  refine loop (fun n1 a7 w1 => ∃ (t1 : GW) (k : Nat), t1.w = w1 ∧ FromL [] s0 t1 ∧ Ok 39 [] a7 ∧ At (Ty.nat k) t1 a7 (.tmp 22) ∧ At (Ty.lst Ty.ints X) t1 a7 (.tmp 5) ∧ At (Ty.lst Ty.ints X) t1 a7 (.tmp 20) ∧ At (Ty.nat (List.length X)) t1 a7 (.tmp 21) ∧ (k ≤ X.length) ∧ (∀ j, j < k → l.getD j [] = l.getD (l.length - 2 - j) []) ∧ n1 = X.length - k) (X.length - (0)) ?_ ?_
  ·
   exact ⟨s6, 0, rfl, ((F3.step0 D5.stp).step0 D6.stp), ok6, (cvi (by (first | rfl | omega | (simp_all; done) | (simp_all; omega))) (D6.dn 2 rfl rfl)), (D6.kt q10 rfl), (D6.dn 0 rfl rfl), (D6.dn 1 rfl rfl), by omega, fun j hj => absurd hj (Nat.not_lt_zero j), rfl⟩
  ·
   rintro n2 a8 w2 ⟨t2, k, rfl, F7, ok7, q15, q16, q17, q18, hk, heq, rfl⟩
   refine wp_seq ?_
   refine gI a8 t2 ok7 (gS rfl (fun A B E G H => rP (y_lss (kp (H 22 rfl) E q15) (kp (H 21 rfl) E q18))) (gE ok7 fun a9 s7 ok8 D7 => ?_)); have F8 := F7.step0 D7.stp; have q19 := D7.kt q15 rfl; have q21 := D7.kt q17 rfl; refine tn (wp_seq ?_)
   refine cond_p (p := (((k : Nat) : Int) < (((List.length X) : Nat) : Int))) (D7.dn 0 rfl rfl) (fun c2 => ?_) (fun c2 => ?_)
   ·
    refine wp_skip (tn (wp_seq (wp_block (wp_seq ?_))))
    refine gI a9 s7 ok8 (gM q19 (gT (Ty.ref [(Ty.lst Ty.int (X.getD k []))]) rfl (fun A B E G H => rP (y_index1 Tryz.underlying22 Tryz.inf30 (kp (H 20 rfl) E q21) (kp (H 22 rfl) E q19) (by omega) (lst_get Ty.ints X [] k (by omega)))) (gS rfl (fun A B E G H d0 => rP (y_load Tryz.underlying30 rfl (ed d0 rfl rfl rfl) rfl)) (gB 0 (gB 0 (gE ok8 fun a10 s8 ok9 D8 => ?_)))))); have q25 := D8.kt (D7.kt q16 rfl) rfl; refine tn (wp_seq ?_)
    refine gI a10 s8 ok9 (gM (D8.dn 4 rfl rfl) (gM q25 (gM q25 (gS rfl (fun A B E G H d0 => rP (y_len Tryz.underlying22 (ed d0 rfl rfl rfl))) (gT (Ty.int ((((List.length X) : Nat) : Int) - (1 : Int))) rfl (fun A B E G H d0 => rP (y_sub (ed d0 rfl rfl rfl) rfl (w64 (by omega) (by omega)))) (gM (D8.dn 3 rfl rfl) (gT (Ty.int (((((List.length X) : Nat) : Int) - (1 : Int)) - ((k : Nat) : Int))) rfl (fun A B E G H d0 d1 => rP (y_sub (ed d0 rfl rfl rfl) (ed d1 rfl rfl rfl) (w64 (by omega) (by omega)))) (gT (Ty.ref [(Ty.lst Ty.int (X.getD ((((((List.length X) : Nat) : Int) - (1 : Int)) - ((k : Nat) : Int))).toNat []))]) rfl (fun A B E G H d0 d1 => rP (y_index1 Tryz.underlying22 Tryz.inf30 (ed d0 rfl rfl rfl) (ed d1 rfl rfl rfl) (by omega) (lst_get Ty.ints X [] ((((((List.length X) : Nat) : Int) - (1 : Int)) - ((k : Nat) : Int))).toNat (by omega)))) (gS rfl (fun A B E G H d0 => rP (y_load Tryz.underlying30 rfl (ed d0 rfl rfl rfl) rfl)) (gS rfl (fun A B E G H d0 d1 => rP (y_call _ Tryz.func35 rfl rfl my2 (equal_fn ((X.getD k [])) ((X.getD ((((((List.length X) : Nat) : Int) - (1 : Int)) - ((k : Nat) : Int))).toNat [])) _ _ _ (ed d0 rfl rfl rfl) (ed d1 rfl rfl rfl) ))) (gS rfl (fun A B E G H d0 => rP (y_not (ed d0 rfl rfl rfl))) (gE ok9 fun a11 s9 ok10 D9 => ?_)))))))))))); have F10 := (F8.step0 D8.stp).step0 D9.stp; refine tn ?_
    refine cond_t (D9.dn 10 rfl rfl) (fun c3 => ?_) (fun c3 => ?_)
    ·
     refine wp_seq ?_
     refine gI a11 s9 ok10 (gC (Ty.bool false) (gC (Ty.int (0 : Int)) (gE ok10 fun a12 s10 ok11 D10 => ?_))); refine tn (wp_ret (br (tr (tr (br (tr ?_))))))
     exact retL2 rfl ok11 (F10.step0 D10.stp) (hasT2 (cvb (by (rw [if_pos h0]; exact (mirB_no hX (by omega) c3).symm)) (D10.dn 0 rfl rfl)) (cvi (by (exact h0.symm)) (D10.dn 1 rfl rfl)))
    ·
     refine wp_skip (bn (tn ?_))
     refine gI a11 s9 ok10 (gT (Ty.int (((k : Nat) : Int) + (1 : Int))) rfl (fun A B E G H => rP (y_add (kp (H 22 rfl) E (D9.kt (D8.kt q19 rfl) rfl)) rfl (w64 (by omega) (by omega)))) (gS rfl (fun A B E G H d0 => rP (y_move (ed d0 rfl rfl rfl))) (gE ok10 fun a13 s11 ok12 D11 => ?_)))
     exact tn ⟨X.length - ((k+1)), by omega, s11, (k+1), rfl, (F10.step0 D11.stp), ok12, (cvi (by (first | rfl | omega | (simp_all; done) | (simp_all; omega))) (D11.dn 1 rfl rfl)), (D11.kt (D9.kt q25 rfl) rfl), (D11.kt (D9.kt (D8.kt q21 rfl) rfl) rfl), (D11.kt (D9.kt (D8.kt (D7.kt q18 rfl) rfl) rfl) rfl), by omega, mir_snoc hX (by omega) c3 heq, rfl⟩
   ·
    refine wp_exit (tx (tx (bx (tn (wp_seq ?_)))))
    refine gI a9 s7 ok8 (gC (Ty.bool true) (gC (Ty.int (0 : Int)) (gE ok8 fun a14 s12 ok13 D12 => ?_))); refine tn (wp_ret ?_)
    exact retL2 rfl ok13 (F8.step0 D12.stp) (hasT2 (cvb (by (rw [if_pos h0]; exact (decide_eq_true (fun j hj => heq j (by omega))).symm)) (D12.dn 0 rfl rfl)) (cvi (by (exact h0.symm)) (D12.dn 1 rfl rfl)))


set_option maxRecDepth 100000 in
theorem rRounds_fn (n : Nat) (σ : GW) (v0 : Value) (hv0 : Ty.has (Ty.nat n) σ v0) (hn : n ≤ 1000000) :
    FnC Tryz.prog 15 #[v0] σ (Ty.lst Ty.int (roundsL n)) := by
 refine fn_intro Tryz.func15 rfl Tryz.ntmps15 (Nat.le_of_ble_eq_true rfl) (fun s0 a0 hle F0 ok0 hargs => ?_)
 have p0 := pA hle (hargs 0 _ rfl) hv0
 clear hargs; refine wp_seq ?_
 refine gI a0 s0 ok0 (gC (Ty.val (Value.slice none 0 0)) (gE ok0 fun a1 s1 ok1 D1 => ?_)); refine tn (wp_seq ?_)
 refine gI a1 s1 ok1 (gC (Ty.val (Value.slice none 0 0)) (gE ok1 fun a2 s2 ok2 D2 => ?_)); refine tn (wp_seq (wp_seq ?_))
 refine gI a2 s2 ok2 (gC (Ty.int (0 : Int)) (gE ok2 fun a3 s3 ok3 D3 => ?_)); refine tn (wp_block ?_)
 refine loop (fun n1 a4 w1 => ∃ (t1 : GW) (k : Nat), t1.w = w1 ∧ From s0 t1 ∧ Ok 15 [] a4 ∧ (Pr.own 2 3 1 (List.length (roundsL k)) (List.map Ty.int (roundsL k))).has t1 (a4.eval (.tmp 3)) ∧ At (Ty.nat k) t1 a4 (.tmp 4) ∧ At (Ty.nat n) t1 a4 (.tmp 0) ∧ (k ≤ n) ∧ n1 = n - k) (n - (0)) ?_ ?_
 ·
  exact ⟨s3, 0, rfl, (((F0.step0 D1.stp).step0 D2.stp).step0 D3.stp), ok3, (by have e : a3.eval (.tmp 3) = _ := (D3.kt (D2.dn 0 rfl rfl) rfl); rw [e]; exact Own.nil _ _ _ _), (cvi (by (first | rfl | omega | (simp_all; done) | (simp_all; omega))) (D3.dn 0 rfl rfl)), (D3.kt (D2.kt (D1.kt p0 rfl) rfl) rfl), by omega, rfl⟩
 ·
  rintro n2 a5 w2 ⟨t2, k, rfl, F4, ok4, q7, q8, q9, hk, rfl⟩
  have hp := roundsL_len k
  refine wp_seq (wp_seq ?_)
  refine gI a5 t2 ok4 (gM q8 (gM q9 (gS rfl (fun A B E G H d0 d1 => rP (y_lss (ed d0 rfl rfl rfl) (ed d1 rfl rfl rfl))) (gE ok4 fun a6 s4 ok5 D4 => ?_)))); have F5 := F4.step0 D4.stp
  have q10 : (Pr.own 2 3 1 (List.length (roundsL k)) (List.map Ty.int (roundsL k))).has s4 (a6.eval (.tmp 3)) := D4.ko q7 rfl
  have q11 := D4.kt q8 rfl; refine tn ?_
  refine cond_p (p := (((k : Nat) : Int) < ((n : Nat) : Int))) (D4.dn 2 rfl rfl) (fun c1 => ?_) (fun c1 => ?_)
  ·
   refine wp_skip (tn (wp_seq (wp_block ?_)))
   refine gI a6 s4 ok5 (gT (Ty.val (a6.eval (.tmp 3))) rfl (fun A B E G H => rP (y_move (H 3 rfl))) (gM q11 (gT (Ty.sl 1 1 [(Ty.nat k)]) rfl (fun A B E G H d0 => rP (y_build1o Tryz.underlying30 Tryz.inf3 rfl (one_val rfl) (ed d0 rfl rfl rfl))) (gE2 ok5 fun a7 s5 ok6 D5 => ?_)))); have q14 := (Pr.own 2 3 1 (List.length (roundsL k)) (List.map Ty.int (roundsL k))).up D5.stp q10
   have q15 : a7.eval (.tmp 3) = a6.eval (.tmp 3) := D5.same 3 rfl
   have q19 := D5.dn 2 (by decide) rfl rfl
   refine tail_step (m := 2) (R := (fun v τ => Own τ 2 3 1 v ((List.length (roundsL k)) + 1) ((List.map Ty.int (roundsL k)) ++ [(Ty.nat k)]))) rfl rfl (by decide) ok6 (m_append Tryz.underlying30 Tryz.inf3 (by decide) rfl (by decide) (al (D5.dn 0 (by decide) rfl rfl) q14) q19 (by intro U hU; simp at hU;  subst hU; exact one_val rfl) (by omega) (by omega)) (fun a8 s6 hs1 ok7 r1 sm1 => ?_)
   have F7 := (F5.step0 D5.stp).step hs1 (by decide)
   have q20 : At (Ty.nat k) s6 a8 (.tmp 4) := kpm hs1 (by decide) (sm1 4 (by decide)) (D5.kt q11 rfl)
   have q21 : At (Ty.nat n) s6 a8 (.tmp 0) := kpm hs1 (by decide) (sm1 0 (by decide)) (D5.kt (D4.kt q9 rfl) rfl)
   have q22 : At (Ty.sl 1 1 [(Ty.nat k)]) s6 a8 (.tmp 12) := kpm hs1 (by decide) (sm1 12 (by decide)) q19
   have q23 : (Pr.own 2 3 1 (List.length ((roundsL k) ++ [((k : Nat) : Int)])) (List.map Ty.int ((roundsL k) ++ [((k : Nat) : Int)]))).has s6 (a8.eval (.tmp 13)) := (cvo (by simp) (by first | (rw [List.map_append]; rfl) | simp) r1)
   refine tail_step (m := 0) (R := (fun v τ => Pr.has (Pr.own 2 3 1 (List.length ((roundsL k) ++ [((k : Nat) : Int)])) (List.map Ty.int ((roundsL k) ++ [((k : Nat) : Int)]))) τ v)) rfl rfl (by decide) ok7 (Yld.toM (y_assign q23)) (fun a9 s7 hs2 ok8 r2 sm2 => ?_)
   have F8 := F7.step hs2 (by decide)
   have q24 : At (Ty.nat k) s7 a9 (.tmp 4) := kpm hs2 (by decide) (sm2 4 (by decide)) q20
   have q25 : At (Ty.nat n) s7 a9 (.tmp 0) := kpm hs2 (by decide) (sm2 0 (by decide)) q21
   have q26 : At (Ty.sl 1 1 [(Ty.nat k)]) s7 a9 (.tmp 12) := kpm hs2 (by decide) (sm2 12 (by decide)) q22
   have q27 : (Pr.own 2 3 1 (List.length ((roundsL k) ++ [((k : Nat) : Int)])) (List.map Ty.int ((roundsL k) ++ [((k : Nat) : Int)]))).has s7 (a9.eval (.tmp 13)) := kpmo hs2 (by decide) (.inl rfl) (sm2 13 (by decide)) q23
   have q28 : (Pr.own 2 3 1 (List.length ((roundsL k) ++ [((k : Nat) : Int)])) (List.map Ty.int ((roundsL k) ++ [((k : Nat) : Int)]))).has s7 (a9.eval (.tmp 3)) := r2
   refine wpList_nil (bn (tn ?_))
   refine gI a9 s7 ok8 (gM q24 (gT (Ty.int (((k : Nat) : Int) + (1 : Int))) rfl (fun A B E G H d0 => rP (y_add (ed d0 rfl rfl rfl) rfl (w64 (by omega) (by omega)))) (gB 0 (gE ok8 fun a10 s8 ok9 D6 => ?_))))
   have q30 : (Pr.own 2 3 1 (List.length ((roundsL k) ++ [((k : Nat) : Int)])) (List.map Ty.int ((roundsL k) ++ [((k : Nat) : Int)]))).has s8 (a10.eval (.tmp 3)) := D6.ko q28 rfl
   exact tn ⟨n - ((k+1)), by omega, s8, (k+1), rfl, (F8.step0 D6.stp), ok9, (cvo (by (rw [roundsL_succ k])) (by (rw [roundsL_succ k])) q30), (cvi (by (first | rfl | omega | (simp_all; done) | (simp_all; omega))) (D6.dn 2 rfl rfl)), (D6.kt q25 rfl), by omega, rfl⟩
  ·
   refine wp_exit (tx (tx (bx (tn (wp_seq ?_)))))
   refine gI a6 s4 ok5 (gT (Ty.val (a6.eval (.tmp 3))) rfl (fun A B E G H => rP (y_move (H 3 rfl))) (gB 0 (gE ok5 fun a11 s9 ok10 D7 => ?_)))
   have q32 : (Pr.own 2 3 1 (List.length (roundsL k)) (List.map Ty.int (roundsL k))).has s9 (a11.eval (.tmp 2)) := al (show _ = _ from D7.done 1) ((Pr.own 2 3 1 (List.length (roundsL k)) (List.map Ty.int (roundsL k))).up D7.stp q10)
   refine tn (wp_ret ?_)
   obtain ⟨t3, e1, h1, q33⟩ := Own.seal q32 (by decide)
   rw [← e1]
   have F11 := (F5.step0 D7.stp).step h1 (by decide)
   exact ret1 rfl ok10 F11 (cvt (by (obtain rfl : k = n := (by omega); rfl)) q33)


set_option maxRecDepth 100000 in
theorem rIsIn_fn (xs : List Int) (x : Int) (σ : GW) (v0 v1 : Value) (hv0 : Ty.has (Ty.lst Ty.int xs) σ v0) (hv1 : Ty.has (Ty.int x) σ v1)  :
    FnC Tryz.prog 58 #[v0, v1] σ (Ty.bool (decide (x ∈ xs))) := by
 refine fn_intro Tryz.func58 rfl Tryz.ntmps58 (Nat.le_of_ble_eq_true rfl) (fun s0 a0 hle F0 ok0 hargs => ?_)
 have p0 := pA hle (hargs 0 _ rfl) hv0
 have b1 := sl_le p0
 have p1 := pA hle (hargs 1 _ rfl) hv1
 clear hargs; refine wp_seq ?_
 refine gI a0 s0 ok0 (gC (Ty.bool false) (gE ok0 fun a1 s1 ok1 D1 => ?_)); refine tn (wp_seq (wp_seq ?_))
 refine gI a1 s1 ok1 (gC (Ty.int (0 : Int)) (gE ok1 fun a2 s2 ok2 D2 => ?_)); refine tn (wp_block ?_)
 refine loop (fun n1 a3 w1 => ∃ (t1 : GW) (k : Nat), t1.w = w1 ∧ From s0 t1 ∧ Ok 18 [] a3 ∧ At (Ty.nat k) t1 a3 (.tmp 5) ∧ At (Ty.lst Ty.int xs) t1 a3 (.tmp 0) ∧ At (Ty.int x) t1 a3 (.tmp 1) ∧ (k ≤ xs.length) ∧ (∀ j, j < k → xs.getD j 0 ≠ x) ∧ n1 = xs.length - k) (xs.length - (0)) ?_ ?_
 ·
  exact ⟨s2, 0, rfl, ((F0.step0 D1.stp).step0 D2.stp), ok2, (cvi (by (first | rfl | omega | (simp_all; done) | (simp_all; omega))) (D2.dn 0 rfl rfl)), (D2.kt (D1.kt p0 rfl) rfl), (D2.kt (D1.kt p1 rfl) rfl), by omega, fun j hj => absurd hj (Nat.not_lt_zero j), rfl⟩
 ·
  rintro n2 a4 w2 ⟨t2, k, rfl, F3, ok3, q6, q7, q8, hk, hno, rfl⟩
  refine wp_seq (wp_seq ?_)
  refine gI a4 t2 ok3 (gM q6 (gM q7 (gS rfl (fun A B E G H d0 => rP (y_len Tryz.underlying30 (ed d0 rfl rfl rfl))) (gS rfl (fun A B E G H d0 d1 => rP (y_lss (ed d0 rfl rfl rfl) (ed d1 rfl rfl rfl))) (gE ok3 fun a5 s3 ok4 D3 => ?_))))); have F4 := F3.step0 D3.stp; have q9 := D3.kt q6 rfl; have q10 := D3.kt q7 rfl; have q11 := D3.kt q8 rfl; refine tn ?_
  refine cond_p (p := (((k : Nat) : Int) < (((List.length xs) : Nat) : Int))) (D3.dn 3 rfl rfl) (fun c1 => ?_) (fun c1 => ?_)
  ·
   refine wp_skip (tn (wp_seq (wp_block (wp_seq ?_))))
   refine gI a5 s3 ok4 (gM q10 (gM q9 (gT (Ty.ref [(Ty.int (xs.getD k 0))]) rfl (fun A B E G H d0 d1 => rP (y_index1 Tryz.underlying30 Tryz.inf3 (ed d0 rfl rfl rfl) (ed d1 rfl rfl rfl) (by omega) (lst_get Ty.int xs 0 k (by omega)))) (gS rfl (fun A B E G H d0 => rP (y_load Tryz.underlying3 rfl (ed d0 rfl rfl rfl) rfl)) (gM q11 (gS rfl (fun A B E G H d0 d1 => rP (y_eql (ed d0 rfl rfl rfl) (ed d1 rfl rfl rfl))) (gE ok4 fun a6 s4 ok5 D4 => ?_))))))); have F5 := F4.step0 D4.stp; refine tn ?_
   refine cond_p (p := ((xs.getD k 0) = x)) (D4.dn 5 rfl rfl) (fun c2 => ?_) (fun c2 => ?_)
   ·
    refine wp_seq ?_
    refine gI a6 s4 ok5 (gC (Ty.bool true) (gE ok5 fun a7 s5 ok6 D5 => ?_)); refine tn (wp_ret (br (tr (tr (br (tr ?_))))))
    exact ret1 rfl ok6 (F5.step0 D5.stp) (cvb (by (exact (decide_eq_true (mem_at (by omega) c2)).symm)) (D5.dn 0 rfl rfl))
   ·
    refine wp_skip (bn (tn ?_))
    refine gI a6 s4 ok5 (gM (D4.kt q9 rfl) (gT (Ty.int (((k : Nat) : Int) + (1 : Int))) rfl (fun A B E G H d0 => rP (y_add (ed d0 rfl rfl rfl) rfl (w64 (by omega) (by omega)))) (gB 0 (gE ok5 fun a8 s6 ok7 D6 => ?_))))
    exact tn ⟨xs.length - ((k+1)), by omega, s6, (k+1), rfl, (F5.step0 D6.stp), ok7, (cvi (by (first | rfl | omega | (simp_all; done) | (simp_all; omega))) (D6.dn 2 rfl rfl)), (D6.kt (D4.kt q10 rfl) rfl), (D6.kt (D4.kt q11 rfl) rfl), by omega, fun j hj => by (by_cases e : j = k; subst e; exact c2; exact hno j (by omega)), rfl⟩
  ·
   refine wp_exit (tx (tx (bx (tn (wp_seq ?_)))))
   refine gI a5 s3 ok4 (gC (Ty.bool false) (gE ok4 fun a9 s7 ok8 D7 => ?_)); refine tn (wp_ret ?_)
   exact ret1 rfl ok8 (F4.step0 D7.stp) (cvb (by (exact (decide_eq_false (not_mem_all (fun j hj => hno j (by omega)))).symm)) (D7.dn 0 rfl rfl))


set_option maxRecDepth 100000 in
theorem rChangeRow_fn (n : Nat) (l : List Int) (σ : GW) (v0 v1 : Value) (hv0 : Ty.has (Ty.nat n) σ v0) (hv1 : Ty.has (Ty.lst Ty.int l) σ v1) (hn : n ≤ 100) :
    FnC Tryz.prog 37 #[v0, v1] σ (Ty.lst Ty.int (chgRow n l)) := by
 refine fn_intro Tryz.func37 rfl Tryz.ntmps37 (Nat.le_of_ble_eq_true rfl) (fun s0 a0 hle F0 ok0 hargs => ?_)
 have p0 := pA hle (hargs 0 _ rfl) hv0
 have p1 := pA hle (hargs 1 _ rfl) hv1
 have b1 := sl_le p1
 clear hargs; refine wp_seq ?_
 refine gI a0 s0 ok0 (gC (Ty.val (Value.slice none 0 0)) (gE ok0 fun a1 s1 ok1 D1 => ?_)); refine tn (wp_seq ?_)
 refine gI a1 s1 ok1 (gC (Ty.val (Value.slice none 0 0)) (gE ok1 fun a2 s2 ok2 D2 => ?_)); refine tn (wp_seq (wp_block ?_))
 refine loop (fun n1 a3 w1 => ∃ (t1 : GW) (xs : List Int) (f : Nat), t1.w = w1 ∧ From s0 t1 ∧ Ok 30 [] a3 ∧ (Pr.own 2 3 1 (List.length xs) (List.map Ty.int xs)).has t1 (a3.eval (.tmp 5)) ∧ At (Ty.nat n) t1 a3 (.tmp 0) ∧ At (Ty.lst Ty.int l) t1 a3 (.tmp 1) ∧ (n ≤ f + xs.length) ∧ (xs.length ≤ n + 1) ∧ (xs ++ rowF l n f xs.length = chgRow n l) ∧ n1 = n + 2 - xs.length) (n + 2 - (([] : List Int)).length) ?_ ?_
 ·
  exact ⟨s2, ([] : List Int), n, rfl, ((F0.step0 D1.stp).step0 D2.stp), ok2, (by have e : a2.eval (.tmp 5) = _ := (D2.dn 0 rfl rfl); rw [e]; exact Own.nil _ _ _ _), (D2.kt (D1.kt p0 rfl) rfl), (D2.kt (D1.kt p1 rfl) rfl), by simp, by simp, rfl, rfl⟩
 ·
  rintro n2 a4 w2 ⟨t2, xs, f, rfl, F3, ok3, q6, q7, q8, hf, hx, heq, rfl⟩
  refine wp_seq (wp_seq ?_)
  refine gI a4 t2 ok3 (gT (Ty.val (a4.eval (.tmp 5))) rfl (fun A B E G H => rP (y_move (H 5 rfl))) (gT (Ty.nat (List.length xs)) rfl (fun A B E G H d0 => rP (own_len Tryz.underlying30 (al (ed d0 rfl rfl rfl) ((Pr.own 2 3 1 (List.length xs) (List.map Ty.int xs)).up E q6)))) (gM q7 (gS rfl (fun A B E G H d0 d1 => rP (y_lss (ed d0 rfl rfl rfl) (ed d1 rfl rfl rfl))) (gE ok3 fun a5 s3 ok4 D3 => ?_))))); have F4 := F3.step0 D3.stp
  have q9 : (Pr.own 2 3 1 (List.length xs) (List.map Ty.int xs)).has s3 (a5.eval (.tmp 5)) := D3.ko q6 rfl
  refine tn ?_
  refine cond_p (p := ((((List.length xs) : Nat) : Int) < ((n : Nat) : Int))) (D3.dn 3 rfl rfl) (fun c1 => ?_) (fun c1 => ?_)
  ·
   refine wp_skip (tn (wp_block (wp_seq ?_)))
   refine gI a5 s3 ok4 (gT (Ty.val (a5.eval (.tmp 5))) rfl (fun A B E G H => rP (y_move (H 5 rfl))) (gT (Ty.nat (List.length xs)) rfl (fun A B E G H d0 => rP (own_len Tryz.underlying30 (al (ed d0 rfl rfl rfl) ((Pr.own 2 3 1 (List.length xs) (List.map Ty.int xs)).up E q9)))) (gB 0 (gE ok4 fun a6 s4 ok5 D4 => ?_))))
   have q13 : (Pr.own 2 3 1 (List.length xs) (List.map Ty.int xs)).has s4 (a6.eval (.tmp 5)) := D4.ko q9 rfl
   have q15 := D4.kt (D3.kt q8 rfl) rfl; have q16 := D4.dn 2 rfl rfl; refine tn (wp_seq ?_)
   refine gI a6 s4 ok5 (gM q15 (gM q16 (gT (Ty.int ((((List.length xs) : Nat) : Int) + (1 : Int))) rfl (fun A B E G H d0 => rP (y_add (ed d0 rfl rfl rfl) rfl (w64 (by omega) (by omega)))) (gS rfl (fun A B E G H d0 d1 => rP (y_call _ Tryz.func58 rfl rfl my2 (rIsIn_fn (l) (((((List.length xs) : Nat) : Int) + (1 : Int))) _ _ _ (ed d0 rfl rfl rfl) (ed d1 rfl rfl rfl) ))) (gB 0 (gE ok5 fun a7 s5 ok6 D5 => ?_))))))
   have q17 : (Pr.own 2 3 1 (List.length xs) (List.map Ty.int xs)).has s5 (a7.eval (.tmp 5)) := D5.ko q13 rfl
   refine tn (wp_seq ?_)
   refine gI a7 s5 ok6 (gM (D5.dn 4 rfl rfl) (gE ok6 fun a8 s6 ok7 D6 => ?_)); have F7 := ((F4.step0 D4.stp).step0 D5.stp).step0 D6.stp
   have q22 : (Pr.own 2 3 1 (List.length xs) (List.map Ty.int xs)).has s6 (a8.eval (.tmp 5)) := D6.ko q17 rfl
   have q23 := D6.kt (D5.kt (D4.kt (D3.kt q7 rfl) rfl) rfl) rfl; have q24 := D6.kt (D5.kt q15 rfl) rfl; have q25 := D6.kt (D5.kt q16 rfl) rfl; refine tn ?_
   refine cond_t (D6.dn 0 rfl rfl) (fun c2 => ?_) (fun c2 => ?_)
   ·
    have c2 := of_decide_eq_true c2
    refine gI a8 s6 ok7 (gT (Ty.val (a8.eval (.tmp 5))) rfl (fun A B E G H => rP (y_move (H 5 rfl))) (gM q25 (gT (Ty.sl 1 1 [(Ty.nat (List.length xs))]) rfl (fun A B E G H d0 => rP (y_build1o Tryz.underlying30 Tryz.inf3 rfl (one_val rfl) (ed d0 rfl rfl rfl))) (gE2 ok7 fun a9 s7 ok8 D7 => ?_)))); have q27 := (Pr.own 2 3 1 (List.length xs) (List.map Ty.int xs)).up D7.stp q22
    have q28 : a9.eval (.tmp 5) = a8.eval (.tmp 5) := D7.same 5 rfl
    have q32 := D7.dn 2 (by decide) rfl rfl
    refine tail_step (m := 2) (R := (fun v τ => Own τ 2 3 1 v ((List.length xs) + 1) ((List.map Ty.int xs) ++ [(Ty.nat (List.length xs))]))) rfl rfl (by decide) ok8 (m_append Tryz.underlying30 Tryz.inf3 (by decide) rfl (by decide) (al (D7.dn 0 (by decide) rfl rfl) q27) q32 (by intro U hU; simp at hU;  subst hU; exact one_val rfl) (by omega) (by omega)) (fun a10 s8 hs1 ok9 r1 sm1 => ?_)
    have F9 := (F7.step0 D7.stp).step hs1 (by decide)
    have q33 : At (Ty.nat n) s8 a10 (.tmp 0) := kpm hs1 (by decide) (sm1 0 (by decide)) (D7.kt q23 rfl)
    have q34 : At (Ty.lst Ty.int l) s8 a10 (.tmp 1) := kpm hs1 (by decide) (sm1 1 (by decide)) (D7.kt q24 rfl)
    have q35 : At (Ty.sl 1 1 [(Ty.nat (List.length xs))]) s8 a10 (.tmp 21) := kpm hs1 (by decide) (sm1 21 (by decide)) q32
    have q36 : (Pr.own 2 3 1 (List.length (xs ++ [(((List.length xs) : Nat) : Int)])) (List.map Ty.int (xs ++ [(((List.length xs) : Nat) : Int)]))).has s8 (a10.eval (.tmp 22)) := (cvo (by simp) (by first | (rw [List.map_append]; rfl) | simp) r1)
    refine tail_step (m := 0) (R := (fun v τ => Pr.has (Pr.own 2 3 1 (List.length (xs ++ [(((List.length xs) : Nat) : Int)])) (List.map Ty.int (xs ++ [(((List.length xs) : Nat) : Int)]))) τ v)) rfl rfl (by decide) ok9 (Yld.toM (y_assign q36)) (fun a11 s9 hs2 ok10 r2 sm2 => ?_)
    have F10 := F9.step hs2 (by decide)
    have q37 : At (Ty.nat n) s9 a11 (.tmp 0) := kpm hs2 (by decide) (sm2 0 (by decide)) q33
    have q38 : At (Ty.lst Ty.int l) s9 a11 (.tmp 1) := kpm hs2 (by decide) (sm2 1 (by decide)) q34
    have q39 : At (Ty.sl 1 1 [(Ty.nat (List.length xs))]) s9 a11 (.tmp 21) := kpm hs2 (by decide) (sm2 21 (by decide)) q35
    have q40 : (Pr.own 2 3 1 (List.length (xs ++ [(((List.length xs) : Nat) : Int)])) (List.map Ty.int (xs ++ [(((List.length xs) : Nat) : Int)]))).has s9 (a11.eval (.tmp 22)) := kpmo hs2 (by decide) (.inl rfl) (sm2 22 (by decide)) q36
    have q41 : (Pr.own 2 3 1 (List.length (xs ++ [(((List.length xs) : Nat) : Int)])) (List.map Ty.int (xs ++ [(((List.length xs) : Nat) : Int)]))).has s9 (a11.eval (.tmp 5)) := r2
    refine wpList_nil (bn ?_)
    exact tn ⟨n + 2 - ((xs ++ [((xs.length : Nat) : Int)])).length, by simp; omega, s9, (xs ++ [((xs.length : Nat) : Int)]), (f-1), rfl, F10, ok10, (cvo (by (simp)) (by (simp)) q41), q37, q38, by simp; omega, by simp; omega, by rw [List.length_append]; exact rowF_yes heq (by omega) hf c2, rfl⟩
   ·
    have c2 := of_decide_eq_false c2
    refine gI a8 s6 ok7 (gT (Ty.val (a8.eval (.tmp 5))) rfl (fun A B E G H => rP (y_move (H 5 rfl))) (gM q25 (gT (Ty.int ((((List.length xs) : Nat) : Int) + (1 : Int))) rfl (fun A B E G H d0 => rP (y_add (ed d0 rfl rfl rfl) rfl (w64 (by omega) (by omega)))) (gM q25 (gT (Ty.sl 1 2 [(Ty.int ((((List.length xs) : Nat) : Int) + (1 : Int))), (Ty.nat (List.length xs))]) rfl (fun A B E G H d0 d1 => rP (y_build2 Tryz.underlying30 Tryz.inf3 rfl (one_val rfl) (one_val rfl) (ed d0 rfl rfl rfl) (ed d1 rfl rfl rfl))) (gE2 ok7 fun a12 s10 ok11 D8 => ?_)))))); have q42 := (Pr.own 2 3 1 (List.length xs) (List.map Ty.int xs)).up D8.stp q22
    have q43 : a12.eval (.tmp 5) = a8.eval (.tmp 5) := D8.same 5 rfl
    have q47 := D8.dn 4 (by decide) rfl rfl
    refine tail_step (m := 2) (R := (fun v τ => Own τ 2 3 1 v ((List.length xs) + 2) ((List.map Ty.int xs) ++ [(Ty.int ((((List.length xs) : Nat) : Int) + (1 : Int))), (Ty.nat (List.length xs))]))) rfl rfl (by decide) ok11 (m_append Tryz.underlying30 Tryz.inf3 (by decide) rfl (by decide) (al (D8.dn 0 (by decide) rfl rfl) q42) q47 (by intro U hU; simp at hU;  rcases hU with rfl | rfl <;> exact one_val rfl) (by omega) (by omega)) (fun a13 s11 hs3 ok12 r3 sm3 => ?_)
    have F12 := (F7.step0 D8.stp).step hs3 (by decide)
    have q48 : At (Ty.nat n) s11 a13 (.tmp 0) := kpm hs3 (by decide) (sm3 0 (by decide)) (D8.kt q23 rfl)
    have q49 : At (Ty.lst Ty.int l) s11 a13 (.tmp 1) := kpm hs3 (by decide) (sm3 1 (by decide)) (D8.kt q24 rfl)
    have q50 : At (Ty.sl 1 2 [(Ty.int ((((List.length xs) : Nat) : Int) + (1 : Int))), (Ty.nat (List.length xs))]) s11 a13 (.tmp 27) := kpm hs3 (by decide) (sm3 27 (by decide)) q47
    have q51 : (Pr.own 2 3 1 (List.length (xs ++ [((((List.length xs) : Nat) : Int) + (1 : Int)), (((List.length xs) : Nat) : Int)])) (List.map Ty.int (xs ++ [((((List.length xs) : Nat) : Int) + (1 : Int)), (((List.length xs) : Nat) : Int)]))).has s11 (a13.eval (.tmp 28)) := (cvo (by simp) (by first | (rw [List.map_append]; rfl) | simp) r3)
    refine tail_step (m := 0) (R := (fun v τ => Pr.has (Pr.own 2 3 1 (List.length (xs ++ [((((List.length xs) : Nat) : Int) + (1 : Int)), (((List.length xs) : Nat) : Int)])) (List.map Ty.int (xs ++ [((((List.length xs) : Nat) : Int) + (1 : Int)), (((List.length xs) : Nat) : Int)]))) τ v)) rfl rfl (by decide) ok12 (Yld.toM (y_assign q51)) (fun a14 s12 hs4 ok13 r4 sm4 => ?_)
    have F13 := F12.step hs4 (by decide)
    have q52 : At (Ty.nat n) s12 a14 (.tmp 0) := kpm hs4 (by decide) (sm4 0 (by decide)) q48
    have q53 : At (Ty.lst Ty.int l) s12 a14 (.tmp 1) := kpm hs4 (by decide) (sm4 1 (by decide)) q49
    have q54 : At (Ty.sl 1 2 [(Ty.int ((((List.length xs) : Nat) : Int) + (1 : Int))), (Ty.nat (List.length xs))]) s12 a14 (.tmp 27) := kpm hs4 (by decide) (sm4 27 (by decide)) q50
    have q55 : (Pr.own 2 3 1 (List.length (xs ++ [((((List.length xs) : Nat) : Int) + (1 : Int)), (((List.length xs) : Nat) : Int)])) (List.map Ty.int (xs ++ [((((List.length xs) : Nat) : Int) + (1 : Int)), (((List.length xs) : Nat) : Int)]))).has s12 (a14.eval (.tmp 28)) := kpmo hs4 (by decide) (.inl rfl) (sm4 28 (by decide)) q51
    have q56 : (Pr.own 2 3 1 (List.length (xs ++ [((((List.length xs) : Nat) : Int) + (1 : Int)), (((List.length xs) : Nat) : Int)])) (List.map Ty.int (xs ++ [((((List.length xs) : Nat) : Int) + (1 : Int)), (((List.length xs) : Nat) : Int)]))).has s12 (a14.eval (.tmp 5)) := r4
    refine wpList_nil (bn ?_)
    exact tn ⟨n + 2 - ((xs ++ [((xs.length : Nat) : Int) + 1, ((xs.length : Nat) : Int)])).length, by simp; omega, s12, (xs ++ [((xs.length : Nat) : Int) + 1, ((xs.length : Nat) : Int)]), (f-1), rfl, F13, ok13, (cvo (by (simp)) (by (simp)) q56), q52, q53, by simp; omega, by simp; omega, by rw [List.length_append]; exact rowF_no heq (by omega) hf c2, rfl⟩
  ·
   refine wp_exit (tx (tx (bx (tn (wp_seq ?_)))))
   refine gI a5 s3 ok4 (gT (Ty.val (a5.eval (.tmp 5))) rfl (fun A B E G H => rP (y_move (H 5 rfl))) (gB 0 (gE ok4 fun a15 s13 ok14 D9 => ?_)))
   have q57 : (Pr.own 2 3 1 (List.length xs) (List.map Ty.int xs)).has s13 (a15.eval (.tmp 4)) := al (show _ = _ from D9.done 1) ((Pr.own 2 3 1 (List.length xs) (List.map Ty.int xs)).up D9.stp q9)
   refine tn (wp_ret ?_)
   obtain ⟨t3, e1, h1, q58⟩ := Own.seal q57 (by decide)
   rw [← e1]
   have F15 := (F4.step0 D9.stp).step h1 (by decide)
   exact ret1 rfl ok14 F15 (cvt (by (rw [rowF_end (by omega), List.append_nil] at heq; rw [heq])) q58)


end Go.Proofs.YtdjihbjikpbhgaaGreatDoor
