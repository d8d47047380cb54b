/- The functions that the law BookOpens reaches, each by its contract. Part 3. -/
import Derived.Test.YtfgkhpkbehhflaaDoorBookOpensW2
namespace Go.Proofs.YtfgkhpkbehhflaaDoor
open Go.KL

set_option maxHeartbeats 4000000 in
set_option maxRecDepth 100000 in
theorem rRuneAt_fn (s : ByteArray) (σ : GW)  (v0 : Value) (hv0 : Ty.has (Ty.val (Value.string s)) σ v0)  (E : 1 ≤ s.size) :
    FnC Tryd.prog 82 #[v0] σ (Ty.tup2 (Ty.int (runM s 0)) (Ty.nat (wid s 0))) := by
 have hb256 := UInt8.toNat_lt (s.get! 0)
 have hb257 := UInt8.toNat_lt (s.get! ((0 : Int)).toNat)
 have hnb := nb_bd ((s.get! 0).toNat)
 refine fn_intro0 Tryd.func82 rfl Tryd.ntmps82 (Nat.le_of_ble_eq_true rfl) (fun s0 a0 hle F0 ok0 hargs => ?_)
 have p0 := pA hle (hargs 0 _ rfl) hv0
 clear hargs; refine wp_seq ?_
 refine gI a0 s0 ok0 (gC (Ty.int (0 : Int)) (gC (Ty.int (0 : Int)) (gE ok0 fun a1 s1 ok1 D1 => ?_))); have q1 := D1.k p0; refine tn (wp_seq ?_)
 refine gI a1 s1 ok1 (gM q1 (gT (Ty.val (Value.int .u8 (((s.get! ((0 : Int)).toNat).toNat : Nat) : Int))) rfl (fun A B E G H d0 => rP (y_sindex Tryd.underlying9 (eI d0) rfl oM oM)) (gT (Ty.nat (s.get! ((0 : Int)).toNat).toNat) rfl (fun A B E G H d0 => rP (y_conv Tryd.underlying3 (eI d0) (by exact w64 oM oM) (by rw [Tryd.underlying5]; rfl))) (gB 0 (gE ok1 fun a2 s2 ok2 D2 => ?_)))))
 have q4 : At (Ty.nat ((s.get! 0).toNat)) s2 a2 (.tmp 4) := (cvi (by (rfl)) (D2.m 3 rfl))
 refine tn (wp_seq (wp_seq ?_))
 refine gI a2 s2 ok2 (gM q4 (gS rfl (fun A B E G H d0 => rP (y_lss (eI d0) rfl)) (gE ok2 fun a3 s3 ok3 D3 => ?_))); have F3 := ((F0.step0 D1.stp).step0 D2.stp).step0 D3.stp; have q6 := D3.k q4; refine tn ?_
 refine cond_p (p := (((((s.get! 0).toNat) : Nat) : Int) < (128 : Int))) (D3.m 1 rfl) (fun c1 => ?_) (fun c1 => ?_)
 ·
  refine wp_seq ?_
  refine gI a3 s3 ok3 (gM q6 (gB 0 (gC (Ty.int (1 : Int)) (gE ok3 fun a4 s4 ok4 D4 => ?_)))); refine tn (wp_ret (tr ?_))
  exact retL2 rfl ok4 (F3.step0 D4.stp) (hasT2 (cvi (by (exact (rn_low oM).1.symm)) (D4.m 1 rfl)) (cvi (by (have := (rn_low (s := s) oM).2; omega)) (D4.m 2 rfl)))
 ·
  refine wp_skip (tn (wp_seq ?_))
  refine gI a3 s3 ok3 (gC (Ty.int (0 : Int)) (gE ok3 fun a5 s5 ok5 D5 => ?_)); refine tn (wp_seq ?_)
  refine gI a5 s5 ok5 (gC (Ty.int (0 : Int)) (gE ok5 fun a6 s6 ok6 D6 => ?_)); have q14 := D6.k (D5.k q6); refine tn (wp_seq (wp_seq ?_))
  refine gI a6 s6 ok6 (gM q14 (gS rfl (fun A B E G H d0 => rP (y_geq (eI d0) rfl)) (gS rfl (fun A B E G H d0 => rP (y_move (eI d0))) (gS rfl (fun A B E G H d0 => gu G (eI d0) fun hg => y_move (kp (H 4 rfl) E q14)) (gS rfl (fun A B E G H d0 d1 => gu G (eI d1) fun hg => y_lss ((ef d0 rfl).1 hg) rfl) (gS rfl (fun A B E G H d0 d1 => rP (y_pick_and (eI d0) (eI d1) rfl)) (gE ok6 fun a7 s7 ok7 D7 => ?_))))))); have F7 := ((F3.step0 D5.stp).step0 D6.stp).step0 D7.stp; have q17 := D7.k (D6.k (D5.k (D3.k (D2.k q1)))); have q18 := D7.k q14; refine tn ?_
  refine Go.KL.join_then (Q' := fun a8 w1 => ∃ (t1 : GW), t1.w = w1 ∧ FromL [] s0 t1 ∧ Ok 86 [] a8 ∧ At (Ty.nat (nB ((s.get! 0).toNat))) t1 a8 (.tmp 5) ∧ At (Ty.nat (cB ((s.get! 0).toNat))) t1 a8 (.tmp 4) ∧ At (Ty.nat (lowB ((s.get! 0).toNat))) t1 a8 (.tmp 6) ∧ At (Ty.val (Value.string s)) t1 a8 (.tmp 0) ∧ True) ?_ ?_
  ·
   refine cond_t (D7.m 5 rfl) (fun c2 => ?_) (fun c2 => ?_)
   ·
    obtain ⟨d1, d2⟩ := Bool.and_eq_true_iff.mp c2
    replace d1 := of_decide_eq_true d1
    replace d2 := of_decide_eq_true d2
    simp only [Bool.and_eq_true, decide_eq_true_eq] at c2; obtain ⟨n1, n2, n3⟩ := nb2 (b := ((s.get! 0).toNat)) oM
    refine wp_seq ?_
    refine gI a7 s7 ok7 (gC (Ty.int (2 : Int)) (gE ok7 fun a9 s8 ok8 D8 => ?_)); refine tn (wp_seq ?_)
    refine gI a9 s8 ok8 (gM (D8.k q18) (gT (Ty.int (((((s.get! 0).toNat) : Nat) : Int) - (192 : Int))) rfl (fun A B E G H d0 => rP (y_sub (eI d0) rfl wX)) (gB 0 (gE ok8 fun a10 s9 ok9 D9 => ?_)))); refine tn ?_
    refine gI a10 s9 ok9 (gC (Ty.int (128 : Int)) (gE ok9 fun a11 s10 ok10 D10 => ?_))
    exact tn ⟨s10, rfl, (((F7.step0 D8.stp).step0 D9.stp).step0 D10.stp), ok10, (cJ (D10.k (D9.k (D8.m 0 rfl)))), (cJ (D10.k (D9.m 2 rfl))), (cJ (D10.m 0 rfl)), (D10.k (D9.k (D8.k q17))), trivial⟩
   ·
    simp only [Bool.and_eq_false_iff, decide_eq_false_iff_not] at c2; have k1 : ¬ (194 ≤ ((s.get! 0).toNat) ∧ ((s.get! 0).toNat) < 224) := oM
    refine wp_seq ?_
    refine gI a7 s7 ok7 (gM q18 (gS rfl (fun A B E G H d0 => rP (y_geq (eI d0) rfl)) (gS rfl (fun A B E G H d0 => rP (y_move (eI d0))) (gS rfl (fun A B E G H d0 => gu G (eI d0) fun hg => y_move (kp (H 4 rfl) E q18)) (gS rfl (fun A B E G H d0 d1 => gu G (eI d1) fun hg => y_lss ((ef d0 rfl).1 hg) rfl) (gS rfl (fun A B E G H d0 d1 => rP (y_pick_and (eI d0) (eI d1) rfl)) (gE ok7 fun a12 s11 ok11 D11 => ?_))))))); have F11 := F7.step0 D11.stp; have q32 := D11.k q17; have q33 := D11.k q18; refine tn ?_
    refine cond_t (D11.m 5 rfl) (fun c3 => ?_) (fun c3 => ?_)
    ·
     obtain ⟨d3, d4⟩ := Bool.and_eq_true_iff.mp c3
     replace d3 := of_decide_eq_true d3
     replace d4 := of_decide_eq_true d4
     simp only [Bool.and_eq_true, decide_eq_true_eq] at c3; obtain ⟨n1, n2, n3⟩ := nb3 (b := ((s.get! 0).toNat)) oM
     refine wp_seq ?_
     refine gI a12 s11 ok11 (gC (Ty.int (3 : Int)) (gE ok11 fun a13 s12 ok12 D12 => ?_)); refine tn (wp_seq ?_)
     refine gI a13 s12 ok12 (gM (D12.k q33) (gT (Ty.int (((((s.get! 0).toNat) : Nat) : Int) - (224 : Int))) rfl (fun A B E G H d0 => rP (y_sub (eI d0) rfl wX)) (gB 0 (gE ok12 fun a14 s13 ok13 D13 => ?_)))); refine tn ?_
     refine gI a14 s13 ok13 (gC (Ty.int (2048 : Int)) (gE ok13 fun a15 s14 ok14 D14 => ?_))
     exact tn ⟨s14, rfl, (((F11.step0 D12.stp).step0 D13.stp).step0 D14.stp), ok14, (cJ (D14.k (D13.k (D12.m 0 rfl)))), (cJ (D14.k (D13.m 2 rfl))), (cJ (D14.m 0 rfl)), (D14.k (D13.k (D12.k q32))), trivial⟩
    ·
     simp only [Bool.and_eq_false_iff, decide_eq_false_iff_not] at c3; have k2 : ¬ (224 ≤ ((s.get! 0).toNat) ∧ ((s.get! 0).toNat) < 240) := oM
     refine wp_seq ?_
     refine gI a12 s11 ok11 (gM q33 (gS rfl (fun A B E G H d0 => rP (y_geq (eI d0) rfl)) (gS rfl (fun A B E G H d0 => rP (y_move (eI d0))) (gS rfl (fun A B E G H d0 => gu G (eI d0) fun hg => y_move (kp (H 4 rfl) E q33)) (gS rfl (fun A B E G H d0 d1 => gu G (eI d1) fun hg => y_lss ((ef d0 rfl).1 hg) rfl) (gS rfl (fun A B E G H d0 d1 => rP (y_pick_and (eI d0) (eI d1) rfl)) (gE ok11 fun a16 s15 ok15 D15 => ?_))))))); have F15 := F11.step0 D15.stp; have q47 := D15.k q32; have q48 := D15.k q33; refine tn ?_
     refine cond_t (D15.m 5 rfl) (fun c4 => ?_) (fun c4 => ?_)
     ·
      obtain ⟨d5, d6⟩ := Bool.and_eq_true_iff.mp c4
      replace d5 := of_decide_eq_true d5
      replace d6 := of_decide_eq_true d6
      simp only [Bool.and_eq_true, decide_eq_true_eq] at c4; obtain ⟨n1, n2, n3⟩ := nb4 (b := ((s.get! 0).toNat)) oM
      refine wp_seq ?_
      refine gI a16 s15 ok15 (gC (Ty.int (4 : Int)) (gE ok15 fun a17 s16 ok16 D16 => ?_)); refine tn (wp_seq ?_)
      refine gI a17 s16 ok16 (gM (D16.k q48) (gT (Ty.int (((((s.get! 0).toNat) : Nat) : Int) - (240 : Int))) rfl (fun A B E G H d0 => rP (y_sub (eI d0) rfl wX)) (gB 0 (gE ok16 fun a18 s17 ok17 D17 => ?_)))); refine tn ?_
      refine gI a18 s17 ok17 (gC (Ty.int (65536 : Int)) (gE ok17 fun a19 s18 ok18 D18 => ?_))
      exact tn ⟨s18, rfl, (((F15.step0 D16.stp).step0 D17.stp).step0 D18.stp), ok18, (cJ (D18.k (D17.k (D16.m 0 rfl)))), (cJ (D18.k (D17.m 2 rfl))), (cJ (D18.m 0 rfl)), (D18.k (D17.k (D16.k q47))), trivial⟩
     ·
      simp only [Bool.and_eq_false_iff, decide_eq_false_iff_not] at c4; have k3 : ¬ (240 ≤ ((s.get! 0).toNat) ∧ ((s.get! 0).toNat) < 245) := oM; obtain ⟨n1, n2, n3⟩ := nb0 k1 k2 k3
      refine wp_skip ?_
      exact tn ⟨s15, rfl, F15, ok15, (cJ (D15.k (D11.k (D7.k (D6.k (D5.m 0 rfl)))))), (cJ q48), (cJ (D15.k (D11.k (D7.k (D6.m 0 rfl))))), q47, trivial⟩
  ·
   rintro a20 w2 ⟨t2, rfl, F19, ok19, q62, q63, q64, q65, -⟩
   refine wp_seq (wp_seq ?_)
   refine gI a20 t2 ok19 (gM q62 (gS rfl (fun A B E G H d0 => rP (y_eql (eI d0) rfl)) (gS rfl (fun A B E G H d0 => rP (y_move (eI d0))) (gS rfl (fun A B E G H d0 => gu G (eI d0) fun hg => y_move (kp (H 0 rfl) E q65)) (gT (Ty.grd ((decide ((((nB ((s.get! 0).toNat)) : Nat) : Int) = (0 : Int))) = false) (Ty.nat (ByteArray.size s))) rfl (fun A B E G H d0 d1 => gu G (eI d1) fun hg => y_len_str Tryd.underlying9 ((ef d0 rfl).1 hg)) (gS rfl (fun A B E G H d0 => gu G (eI d0) fun hg => y_move (kp (H 5 rfl) E q62)) (gS rfl (fun A B E G H d0 d1 d2 => gu G (eI d2) fun hg => y_lss ((ef d0 rfl).1 hg) ((ef d1 rfl).1 hg)) (gS rfl (fun A B E G H d0 d1 => rP (y_pick_or (eI d0) rfl (eI d1))) (gE ok19 fun a21 s19 ok20 D19 => ?_))))))))); have F20 := F19.step0 D19.stp; refine tn ?_
   refine cond_t (D19.m 7 rfl) (fun c5 => ?_) (fun c5 => ?_)
   ·
    simp only [Bool.or_eq_true, decide_eq_true_eq] at c5
    refine wp_seq ?_
    refine gI a21 s19 ok20 (gC (Ty.int (-1 : Int)) (gC (Ty.int (1 : Int)) (gE ok20 fun a22 s20 ok21 D20 => ?_))); refine tn (wp_ret (tr ?_))
    exact retL2 rfl ok21 (F20.step0 D20.stp) (hasT2 (cvi (by (exact (rn_short oM oM E).1.symm)) (D20.m 0 rfl)) (cvi (by (have := (rn_short (s := s) oM oM E).2; omega)) (D20.m 1 rfl)))
   ·
    obtain ⟨d7, d8⟩ := Bool.or_eq_false_iff.mp c5
    replace d7 := of_decide_eq_false d7
    replace d8 := of_decide_eq_false d8
    simp only [Bool.or_eq_false_iff, decide_eq_false_iff_not] at c5; have h0 : nB ((s.get! 0).toNat) ≠ 0 := oM; have hsz : nB ((s.get! 0).toNat) ≤ s.size := oM; have hcb := hnb.2 h0
    refine wp_skip (tn (wp_seq (wp_seq ?_)))
    refine gI a21 s19 ok20 (gC (Ty.int (1 : Int)) (gE ok20 fun a23 s21 ok22 D21 => ?_)); refine tn (wp_block ?_)
    refine loop (fun n1 a24 w3 => ∃ (t3 : GW) (j : Nat), t3.w = w3 ∧ FromL [] s0 t3 ∧ Ok 86 [] a24 ∧ At (Ty.nat (j + 1)) t3 a24 (.tmp 7) ∧ At (Ty.nat (accR s (cB ((s.get! 0).toNat)) j)) t3 a24 (.tmp 4) ∧ At (Ty.nat (nB ((s.get! 0).toNat))) t3 a24 (.tmp 5) ∧ At (Ty.nat (lowB ((s.get! 0).toNat))) t3 a24 (.tmp 6) ∧ At (Ty.val (Value.string s)) t3 a24 (.tmp 0) ∧ (j + 1 ≤ nB ((s.get! 0).toNat)) ∧ (∀ i, i < j → 128 ≤ (s.get! (i + 1)).toNat ∧ (s.get! (i + 1)).toNat < 192) ∧ n1 = nB ((s.get! 0).toNat) - j) (nB ((s.get! 0).toNat) - (0)) ?_ ?_
    ·
     exact ⟨s21, 0, rfl, (F20.step0 D21.stp), ok22, (cvi (by (rfl)) (D21.m 0 rfl)), (cvi (by (rfl)) (D21.k (D19.k q63))), (D21.k (D19.k q62)), (D21.k (D19.k q64)), (D21.k (D19.k q65)), by omega, fun j hj => absurd hj (Nat.not_lt_zero j), rfl⟩
    ·
     rintro n2 a25 w4 ⟨t4, j, rfl, F23, ok23, q78, q79, q80, q81, q82, hj, hc, rfl⟩
     have hab := acc_bd (s := s) (c := cB ((s.get! 0).toNat)) oM hc oM
     have hbk := UInt8.toNat_lt (s.get! (j + 1))
     refine wp_seq (wp_seq ?_)
     refine gI a25 t4 ok23 (gM q78 (gM q80 (gS rfl (fun A B E G H d0 d1 => rP (y_lss (eI d0) (eI d1))) (gE ok23 fun a26 s22 ok24 D22 => ?_)))); have F24 := F23.step0 D22.stp; have q83 := D22.k q78; have q84 := D22.k q79; have q85 := D22.k q80; have q86 := D22.k q81; have q87 := D22.k q82; refine tn ?_
     refine cond_p (p := ((((j + 1) : Nat) : Int) < (((nB ((s.get! 0).toNat)) : Nat) : Int))) (D22.m 2 rfl) (fun c6 => ?_) (fun c6 => ?_)
     ·
      refine wp_skip (tn (wp_seq (wp_block (wp_seq (wp_seq ?_)))))
      refine gI a26 s22 ok24 (gM q87 (gM q83 (gT (Ty.val (Value.int .u8 (((s.get! (j + 1)).toNat : Nat) : Int))) rfl (fun A B E G H d0 d1 => rP (y_sindex Tryd.underlying9 (eI d0) (eI d1) oM oM)) (gS rfl (fun A B E G H d0 => rP (y_lss (eI d0) rfl)) (gS rfl (fun A B E G H d0 => rP (y_move (eI d0))) (gS rfl (fun A B E G H d0 => gu G (eI d0) fun hg => y_move (kp (H 0 rfl) E q87)) (gS rfl (fun A B E G H d0 => gu G (eI d0) fun hg => y_move (kp (H 7 rfl) E q83)) (gT (Ty.grd ((decide ((((s.get! (j + 1)).toNat : Nat) : Int) < (128 : Int))) = false) (Ty.val (Value.int .u8 (((s.get! (j + 1)).toNat : Nat) : Int)))) rfl (fun A B E G H d0 d1 d2 => guf G (eI d2) fun hg hp => y_sindex Tryd.underlying9 ((ef d0 rfl).1 hg) ((ef d1 rfl).1 hg) oM oM) (gS rfl (fun A B E G H d0 d1 => gu G (eI d1) fun hg => y_geq ((ef d0 rfl).1 hg) rfl) (gS rfl (fun A B E G H d0 d1 => rP (y_pick_or (eI d0) rfl (eI d1))) (gE ok24 fun a27 s23 ok25 D23 => ?_))))))))))); have F25 := F24.step0 D23.stp; have q89 := D23.k q83; have q93 := D23.k q87; refine tn ?_
      refine cond_t (D23.m 9 rfl) (fun c7 => ?_) (fun c7 => ?_)
      ·
       simp only [Bool.or_eq_true, decide_eq_true_eq] at c7
       refine wp_seq ?_
       refine gI a27 s23 ok25 (gC (Ty.int (-1 : Int)) (gC (Ty.int (1 : Int)) (gE ok25 fun a28 s24 ok26 D24 => ?_))); refine tn (wp_ret (tr (br (tr (tr (br (tr ?_)))))))
       exact retL2 rfl ok26 (F25.step0 D24.stp) (hasT2 (cvi (by (exact (rn_cont (j := j) oM oM).1.symm)) (D24.m 0 rfl)) (cvi (by (have := (rn_cont (s := s) (j := j) oM oM).2; omega)) (D24.m 1 rfl)))
      ·
       obtain ⟨d9, d10⟩ := Bool.or_eq_false_iff.mp c7
       replace d9 := of_decide_eq_false d9
       replace d10 := of_decide_eq_false d10
       simp only [Bool.or_eq_false_iff, decide_eq_false_iff_not] at c7
       refine wp_skip (tn ?_)
       refine gI a27 s23 ok25 (gM (D23.k q84) (gT (Ty.nat ((accR s (cB ((s.get! 0).toNat)) j) * 64)) rfl (fun A B E G H d0 => rP ((y_mul (eI d0) rfl wX).mono (fun τ _ h => cN (σ := τ) h))) (gM q93 (gM q89 (gT (Ty.val (Value.int .u8 (((s.get! (j + 1)).toNat : Nat) : Int))) rfl (fun A B E G H d0 d1 => rP (y_sindex Tryd.underlying9 (eI d0) (eI d1) oM oM)) (gT (Ty.nat (s.get! (j + 1)).toNat) rfl (fun A B E G H d0 => rP (y_conv Tryd.underlying3 (eI d0) (by exact w64 oM oM) (by rw [Tryd.underlying5]; rfl))) (gT (Ty.nat (((accR s (cB ((s.get! 0).toNat)) j) * 64) + (s.get! (j + 1)).toNat)) rfl (fun A B E G H d0 d1 => rP ((y_add (eI d0) (eI d1) wX).mono (fun τ _ h => cN (σ := τ) h))) (gT (Ty.int ((((((accR s (cB ((s.get! 0).toNat)) j) * 64) + (s.get! (j + 1)).toNat) : Nat) : Int) - (128 : Int))) rfl (fun A B E G H d0 => rP (y_sub (eI d0) rfl wX)) (gB 0 (gE ok25 fun a29 s25 ok27 D25 => ?_)))))))))); refine bn (tn ?_)
       refine gI a29 s25 ok27 (gM (D25.k q89) (gT (Ty.nat ((j + 1) + 1)) rfl (fun A B E G H d0 => rP ((y_add (eI d0) rfl wX).mono (fun τ _ h => cN (σ := τ) h))) (gB 0 (gE ok27 fun a30 s26 ok28 D26 => ?_))))
       have hac : accR s (cB ((s.get! 0).toNat)) (j + 1) = accR s (cB ((s.get! 0).toNat)) j * 64 + ((s.get! (j + 1)).toNat - 128) := rfl
       exact tn ⟨nB ((s.get! 0).toNat) - ((j + 1)), by omega, s26, (j + 1), rfl, ((F25.step0 D25.stp).step0 D26.stp), ok28, (cJ (D26.m 2 rfl)), (cJ (D26.k (D25.m 8 rfl))), (D26.k (D25.k (D23.k q85))), (D26.k (D25.k (D23.k q86))), (D26.k (D25.k q93)), by omega, acc_snoc hc oM oM, rfl⟩
     ·
      have hje : j + 1 = nB ((s.get! 0).toNat) := oM
      refine wp_exit (tx (tx (bx (tn (wp_seq (wp_seq ?_))))))
      refine gI a26 s22 ok24 (gM q84 (gM q86 (gS rfl (fun A B E G H d0 d1 => rP (y_lss (eI d0) (eI d1))) (gS rfl (fun A B E G H d0 => rP (y_move (eI d0))) (gS rfl (fun A B E G H d0 => gu G (eI d0) fun hg => y_move (kp (H 4 rfl) E q84)) (gS rfl (fun A B E G H d0 d1 => gu G (eI d1) fun hg => y_gtr ((ef d0 rfl).1 hg) rfl) (gS rfl (fun A B E G H d0 d1 => rP (y_pick_or (eI d0) rfl (eI d1))) (gS rfl (fun A B E G H d0 d1 => rP (y_move (eI d0))) (gT (Ty.grd (((decide ((((accR s (cB ((s.get! 0).toNat)) j) : Nat) : Int) < (((lowB ((s.get! 0).toNat)) : Nat) : Int))) || (decide ((1114111 : Int) < (((accR s (cB ((s.get! 0).toNat)) j) : Nat) : Int)))) = false) (Ty.nat (accR s (cB ((s.get! 0).toNat)) j))) rfl (by intro A B E G H d0; refine run_guard G rfl rfl dE (eI d0) (fun hg => ?_); obtain ⟨d11, d12⟩ := Bool.or_eq_false_iff.mp hg; have d11 := of_decide_eq_false d11; have d12 := of_decide_eq_false d12; exact y_move (kp (H 4 rfl) E q84)) (gT (Ty.grd (((decide ((((accR s (cB ((s.get! 0).toNat)) j) : Nat) : Int) < (((lowB ((s.get! 0).toNat)) : Nat) : Int))) || (decide ((1114111 : Int) < (((accR s (cB ((s.get! 0).toNat)) j) : Nat) : Int)))) = false) (Ty.bool (decide ((55296 : Int) ≤ (((accR s (cB ((s.get! 0).toNat)) j) : Nat) : Int))))) rfl (by intro A B E G H d0 d1; refine run_guard G rfl rfl dE (eI d1) (fun hg => ?_); obtain ⟨d13, d14⟩ := Bool.or_eq_false_iff.mp hg; have d13 := of_decide_eq_false d13; have d14 := of_decide_eq_false d14; exact y_geq ((ef d0 rfl).1 hg) rfl) ?_))))))))))
      refine gT (Ty.grd (((decide ((((accR s (cB ((s.get! 0).toNat)) j) : Nat) : Int) < (((lowB ((s.get! 0).toNat)) : Nat) : Int))) || (decide ((1114111 : Int) < (((accR s (cB ((s.get! 0).toNat)) j) : Nat) : Int)))) = false) (Ty.bool (decide ((55296 : Int) ≤ (((accR s (cB ((s.get! 0).toNat)) j) : Nat) : Int))))) rfl (by intro A B E G H d0 d1 d2; refine run_guard G rfl rfl dE (eI d1) (fun hg => ?_); obtain ⟨d15, d16⟩ := Bool.or_eq_false_iff.mp hg; have d15 := of_decide_eq_false d15; have d16 := of_decide_eq_false d16; exact y_move ((ef d0 rfl).1 hg)) (gS rfl (fun A B E G H d0 => gu2 G (eI d0) fun hg => y_move (kp (H 4 rfl) E q84)) (gS rfl (fun A B E G H d0 d1 => gu2 G (eI d1) fun hg => y_lss ((ef d0 rfl).1 hg) rfl) (gT (Ty.grd (((decide ((((accR s (cB ((s.get! 0).toNat)) j) : Nat) : Int) < (((lowB ((s.get! 0).toNat)) : Nat) : Int))) || (decide ((1114111 : Int) < (((accR s (cB ((s.get! 0).toNat)) j) : Nat) : Int)))) = false) (Ty.bool ((decide ((55296 : Int) ≤ (((accR s (cB ((s.get! 0).toNat)) j) : Nat) : Int))) && (decide ((((accR s (cB ((s.get! 0).toNat)) j) : Nat) : Int) < (57344 : Int)))))) rfl (by intro A B E G H d0 d1 d2; refine run_guard G rfl rfl dE (eI d2) (fun hg => ?_); obtain ⟨d17, d18⟩ := Bool.or_eq_false_iff.mp hg; have d17 := of_decide_eq_false d17; have d18 := of_decide_eq_false d18; exact y_pick_and ((ef d0 rfl).1 hg) (grd_part hg (eI d1)) rfl) (gS rfl (fun A B E G H d0 d1 => rP (y_pick_or (eI d0) rfl (eI d1))) (gE ok24 fun a31 s27 ok29 D27 => ?_))))); have F29 := F24.step0 D27.stp; refine tn ?_
      refine cond_t (D27.m 14 rfl) (fun c8 => ?_) (fun c8 => ?_)
      ·
       simp only [Bool.or_eq_true, Bool.and_eq_true, decide_eq_true_eq] at c8
       refine wp_seq ?_
       refine gI a31 s27 ok29 (gC (Ty.int (-1 : Int)) (gC (Ty.int (1 : Int)) (gE ok29 fun a32 s28 ok30 D28 => ?_))); refine tn (wp_ret (tr ?_))
       exact retL2 rfl ok30 (F29.step0 D28.stp) (hasT2 (cvi (by (exact (rn_bad h0 hsz hje hc oM).1.symm)) (D28.m 0 rfl)) (cvi (by (have := (rn_bad h0 hsz hje hc oM).2; omega)) (D28.m 1 rfl)))
      ·
       obtain ⟨d19, d20⟩ := Bool.or_eq_false_iff.mp c8
       obtain ⟨d21, d22⟩ := Bool.or_eq_false_iff.mp d19
       replace d21 := of_decide_eq_false d21
       replace d22 := of_decide_eq_false d22
       simp only [Bool.or_eq_false_iff, Bool.and_eq_false_iff, decide_eq_false_iff_not] at c8
       refine wp_skip (tn (wp_seq ?_))
       refine gI a31 s27 ok29 (gM (D27.k q84) (gM (D27.k q85) (gB 0 (gB 0 (gE ok29 fun a33 s29 ok31 D29 => ?_))))); refine tn (wp_ret ?_)
       exact retL2 rfl ok31 (F29.step0 D29.stp) (hasT2 (cvi (by (exact (rn_ok h0 hsz hje hc oM).1.symm)) (D29.m 2 rfl)) (cvi (by (have := (rn_ok h0 hsz hje hc oM).2; omega)) (D29.m 3 rfl)))


set_option maxHeartbeats 4000000 in
set_option maxRecDepth 100000 in
theorem rRunes_fn (s : ByteArray) (σ : GW)  (v0 : Value) (hv0 : Ty.has (Ty.val (Value.string s)) σ v0)  (E : s.size ≤ 17592186044416) :
    FnC Tryd.prog 64 #[v0] σ (Ty.lst Ty.int (runsL s)) := by
 refine fn_intro0 Tryd.func64 rfl Tryd.ntmps64 (Nat.le_of_ble_eq_true rfl) (fun s0 a0 hle F0 ok0 hargs => ?_)
 have p0 := pA hle (hargs 0 _ rfl) hv0
 clear hargs; refine wp_seq ?_
 refine gI a0 s0 ok0 (gC (Ty.val (Value.slice none 0 0)) (gE ok0 fun a1 s1 ok1 D1 => ?_)); refine tn (wp_seq ?_)
 refine gI a1 s1 ok1 (gC (Ty.val (Value.slice none 0 0)) (gE ok1 fun a2 s2 ok2 D2 => ?_)); refine tn (wp_seq (wp_block ?_))
 have o1 : Own s2 5 3 1 (Value.slice none 0 0) 0 (List.map Ty.int ([] : List Int)) := Own.nil _ _ _ _
 refine loop (fun n1 a3 w1 => ∃ (t1 : GW) (p : Nat) (f : Nat) (xs : List Int) (x3_0 : Value), t1.w = w1 ∧ FromL [] s0 t1 ∧ Ok 22 [] a3 ∧ At (Ty.val (Value.string (ByteArray.extract s p (ByteArray.size s)))) t1 a3 (.tmp 0) ∧ At (Ty.val x3_0) t1 a3 (.tmp 3) ∧ Own t1 5 3 1 x3_0 (List.length xs) (List.map Ty.int xs) ∧ (xs ++ runsF s f p = runsL s) ∧ (s.size ≤ f + p) ∧ (p ≤ s.size) ∧ (xs.length ≤ p) ∧ n1 = s.size + 1 - p) (s.size + 1 - (0)) ?_ ?_
 ·
  exact ⟨s2, 0, s.size, ([] : List Int), (Value.slice none 0 0), rfl, ((F0.step0 D1.stp).step0 D2.stp), ok2, (cvt (by (rw [ByteArray.extract_zero_size])) (D2.k (D1.k p0))), (D2.m 0 rfl), (cvo (by (simp)) (by (simp)) o1), rfl, by omega, by omega, by simp, rfl⟩
 ·
  rintro n2 a4 w2 ⟨t2, p, f, xs, x3_0, rfl, F3, ok3, q4, q5, o2, heq, hf, hp, hx, rfl⟩
  have hez : (ByteArray.extract s p (ByteArray.size s)).size = s.size - p := by rw [ByteArray.size_extract]; omega
  have hw := wid_pos s p
  have her := ext_run s p
  refine wp_seq (wp_seq ?_)
  refine gI a4 t2 ok3 (gM q4 (gT (Ty.nat (ByteArray.size (ByteArray.extract s p (ByteArray.size s)))) rfl (fun A B E G H d0 => rP (y_len_str Tryd.underlying9 (eI d0))) (gS rfl (fun A B E G H d0 => rP (y_gtr (eI d0) rfl)) (gE ok3 fun a5 s3 ok4 D3 => ?_)))); have F4 := F3.step0 D3.stp; have q6 := D3.k q4; have q7 := D3.k q5; have o3 := Own.k0 o2 D3.stp; refine tn ?_
  refine cond_p (p := ((0 : Int) < (((ByteArray.size (ByteArray.extract s p (ByteArray.size s))) : Nat) : Int))) (D3.m 2 rfl) (fun c1 => ?_) (fun c1 => ?_)
  ·
   have hwi := wid_in (s := s) (p := p) oM
   refine wp_skip (tn (wp_block (wp_seq ?_)))
   refine gI a5 s3 ok4 (gM q6 (gT (Ty.tup2 (Ty.int (runM s p)) (Ty.nat (wid s p))) rfl (fun A B E G H d0 => rP ((y_call _ Tryd.func82 rfl rfl my1 (rRuneAt_fn ((ByteArray.extract s p (ByteArray.size s))) _ _ (eI d0) oM)).mono (fun τ _ h => cvt (σ := τ) (T := (Ty.tup2 (Ty.int (runM ((ByteArray.extract s p (ByteArray.size s))) 0)) (Ty.nat (wid ((ByteArray.extract s p (ByteArray.size s))) 0)))) (U := (Ty.tup2 (Ty.int (runM s p)) (Ty.nat (wid s p)))) (by rw [her.1, her.2]) h))) (gS rfl (fun A B E G H d0 => rP (y_move (eI d0))) (gT (Ty.int (runM s p)) rfl (fun A B E G H d0 => rP (y_ext2_0 (eI d0))) (gT (Ty.nat (wid s p)) rfl (fun A B E G H d0 d1 => rP (y_ext2_1 (eI d0))) (gB 0 (gB 0 (gE ok4 fun a6 s4 ok5 D4 => ?_)))))))); have q10 := D4.k q7; have o4 := Own.k0 o3 D4.stp; refine tn (wp_seq ?_)
   refine gI a6 s4 ok5 (gM q10 (gM (D4.m 5 rfl) (gT (Ty.sl 1 1 [(Ty.int (runM s p))]) rfl (fun A B E G H d0 => rP (y_build1o Tryd.underlying34 Tryd.inf3 rfl (one_val rfl) (eI d0))) (gE2 ok5 fun a7 s5 ok6 D5 => ?_)))); have o5 := Own.k0 o4 D5.stp
   have q16 : At (Ty.val x3_0) s5 a7 (.tmp 14) := D5.done 0 dE
   have q17 := D5.m 2 rfl
   have b1 := sl_le q17
   refine tL ok6 (YldM.toL (m_append Tryd.underlying34 Tryd.inf3 dE rfl dE (al (R := (Pr.own 5 3 1 (List.length xs) (List.map Ty.int xs))) q16 o5) q17 (by intro U hU; simp at hU; subst hU; exact one_val rfl) oM oM)) fun a8 s6 hs1 ok7 r1 sm1 => ?_
   have q19 := kq hs1 sm1 3 (D5.k q10)
   obtain ⟨x1, hx1⟩ : ∃ x, a8.eval (.tmp 17) = x := ⟨_, rfl⟩
   have q21 : At (Ty.val x1) s6 a8 (.tmp 17) := hx1
   have o6 := al2 (R := (Pr.own 5 3 1 (List.length (xs ++ [(runM s p)])) (List.map Ty.int (xs ++ [(runM s p)])))) hx1 (cvo (by simp) (by first | (rw [List.map_append]; rfl) | simp) r1)
   clear r1
   refine tL ok7 (Yld.toL (y_as q21)) fun a9 s7 hs2 ok8 r2 sm2 => ?_
   have q24 : At (Ty.val x1) s7 a9 (.tmp 3) := r2
   clear r2; refine wpList_nil (tn ?_)
   refine gI a9 s7 ok8 (gM (kq hs2 sm2 0 (kq hs1 sm1 0 (D5.k (D4.k q6)))) (gM (kq hs2 sm2 5 (kq hs1 sm1 5 (D5.k (D4.m 6 rfl)))) (gT (Ty.val (Value.string (ByteArray.extract (ByteArray.extract s p (ByteArray.size s)) (wid s p) (ByteArray.size (ByteArray.extract s p (ByteArray.size s)))))) rfl (fun A B E G H d0 d1 => rP (y_sfrom (l := (wid s p)) Tryd.underlying9 (eI d0) (eI d1) oM)) (gB 0 (gE ok8 fun a10 s8 ok9 D6 => ?_))))); have o8 := Own.k0 (Own.kl o6 hs2) D6.stp; refine bn ?_
   exact tn ⟨s.size + 1 - ((p + wid s p)), by omega, s8, (p + wid s p), (f - 1), (xs ++ [runM s p]), x1, rfl, (((((F4.step0 D4.stp).step0 D5.stp).sl hs1).sl hs2).step0 D6.stp), ok9, (cvt (by (rw [ext_ext hwi])) (D6.m 3 rfl)), (D6.k q24), (cvo (by (simp)) (by (simp)) o8), runsF_step heq oM oM, by omega, by omega, by simp; omega, rfl⟩
  ·
   refine wp_exit (tx (tx (bx (tn (wp_seq ?_)))))
   refine gI a5 s3 ok4 (gM q7 (gB 0 (gE ok4 fun a11 s9 ok10 D7 => ?_))); have o9 := Own.k0 o3 D7.stp
   have q27 : At (Ty.val x3_0) s9 a11 (.tmp 2) := D7.done 1
   refine tn (wp_ret ?_)
   obtain ⟨t3, e1, h1, q28⟩ := Own.seal o9 dE
   rw [← e1]
   have F11 := (F4.step0 D7.stp).step h1 dE
   have q29 : At (Ty.lst Ty.int xs) t3 a11 (.tmp 2) := by have e : a11.eval (.tmp 2) = x3_0 := q27; show Ty.has _ _ _; rw [e]; exact q28
   exact retL1 rfl ok10 F11 (cvt (by (rw [runsF_end oM, List.append_nil] at heq; rw [heq])) q29)


set_option maxHeartbeats 4000000 in
set_option maxRecDepth 100000 in
theorem rIsName_fn (s : ByteArray) (σ : GW)  (v0 : Value) (hv0 : Ty.has (Ty.val (Value.string s)) σ v0)  (E : s.size ≤ 17592186044416) :
    FnC Tryd.prog 43 #[v0] σ (Ty.bool (nameL s)) := by
 obtain ⟨L, hL⟩ : ∃ L, L = runsL s := ⟨_, rfl⟩
 have hne : nameI L = nameL s := by rw [hL, name_eq]
 refine fn_intro0 Tryd.func43 rfl Tryd.ntmps43 (Nat.le_of_ble_eq_true rfl) (fun s0 a0 hle F0 ok0 hargs => ?_)
 have p0 := pA hle (hargs 0 _ rfl) hv0
 clear hargs; refine wp_seq ?_
 refine gI a0 s0 ok0 (gC (Ty.bool false) (gE ok0 fun a1 s1 ok1 D1 => ?_)); refine tn (wp_seq ?_)
 refine gI a1 s1 ok1 (gM (D1.k p0) (gT (Ty.lst Ty.int L) rfl (fun A B E G H d0 => rP ((y_call _ Tryd.func64 rfl rfl my1 (rRunes_fn (s) _ _ (eI d0) oM)).mono (fun τ _ h => cvt (σ := τ) (T := (Ty.lst Ty.int (runsL s))) (U := (Ty.lst Ty.int L)) (by rw [hL]) h))) (gB 0 (gE ok1 fun a2 s2 ok2 D2 => ?_)))); have q2 := D2.m 2 rfl; refine tn (wp_seq (wp_seq ?_))
 refine gI a2 s2 ok2 (gM q2 (gS rfl (fun A B E G H d0 => rP (y_len Tryd.underlying34 (eI d0))) (gS rfl (fun A B E G H d0 => rP (y_lss (eI d0) rfl)) (gS rfl (fun A B E G H d0 => rP (y_move (eI d0))) (gS rfl (fun A B E G H d0 => gu G (eI d0) fun hg => y_move (kp (H 3 rfl) E q2)) (gS rfl (fun A B E G H d0 d1 => gu G (eI d1) fun hg => y_len Tryd.underlying34 ((ef d0 rfl).1 hg)) (gS rfl (fun A B E G H d0 d1 => gu G (eI d1) fun hg => y_gtr ((ef d0 rfl).1 hg) rfl) (gS rfl (fun A B E G H d0 d1 => rP (y_pick_or (eI d0) rfl (eI d1))) (gS rfl (fun A B E G H d0 d1 => rP (y_move (eI d0))) (gT (Ty.grd (((decide ((((List.length L) : Nat) : Int) < (1 : Int))) || (decide ((20 : Int) < (((List.length L) : Nat) : Int)))) = false) (Ty.lst Ty.int L)) rfl (by intro A B E G H d0; refine run_guard G rfl rfl dE (eI d0) (fun hg => ?_); obtain ⟨d1, d2⟩ := Bool.or_eq_false_iff.mp hg; have d1 := of_decide_eq_false d1; have d2 := of_decide_eq_false d2; exact y_move (kp (H 3 rfl) E q2)) (gT (Ty.grd (((decide ((((List.length L) : Nat) : Int) < (1 : Int))) || (decide ((20 : Int) < (((List.length L) : Nat) : Int)))) = false) (Ty.ref [(Ty.int (L.getD ((0 : Int)).toNat 0))])) rfl (by intro A B E G H d0 d1; refine run_guard G rfl rfl dE (eI d1) (fun hg => ?_); obtain ⟨d3, d4⟩ := Bool.or_eq_false_iff.mp hg; have d3 := of_decide_eq_false d3; have d4 := of_decide_eq_false d4; exact y_index1 Tryd.underlying34 Tryd.inf3 ((ef d0 rfl).1 hg) rfl oM (lst_get Ty.int L 0 ((0 : Int)).toNat oM)) ?_)))))))))))
 refine gT (Ty.grd (((decide ((((List.length L) : Nat) : Int) < (1 : Int))) || (decide ((20 : Int) < (((List.length L) : Nat) : Int)))) = false) (Ty.int (L.getD ((0 : Int)).toNat 0))) rfl (by intro A B E G H d0 d1; refine run_guard G rfl rfl dE (eI d1) (fun hg => ?_); obtain ⟨d5, d6⟩ := Bool.or_eq_false_iff.mp hg; have d5 := of_decide_eq_false d5; have d6 := of_decide_eq_false d6; exact y_load Tryd.underlying3 rfl ((ef d0 rfl).1 hg) rfl) (gT (Ty.grd (((decide ((((List.length L) : Nat) : Int) < (1 : Int))) || (decide ((20 : Int) < (((List.length L) : Nat) : Int)))) = false) (Ty.bool (decide ((L.getD ((0 : Int)).toNat 0) = (32 : Int))))) rfl (by intro A B E G H d0 d1; refine run_guard G rfl rfl dE (eI d1) (fun hg => ?_); obtain ⟨d7, d8⟩ := Bool.or_eq_false_iff.mp hg; have d7 := of_decide_eq_false d7; have d8 := of_decide_eq_false d8; exact y_eql ((ef d0 rfl).1 hg) rfl) (gS rfl (fun A B E G H d0 d1 => rP (y_pick_or (eI d0) rfl (eI d1))) (gS rfl (fun A B E G H d0 d1 => rP (y_move (eI d0))) (gT (Ty.grd ((((decide ((((List.length L) : Nat) : Int) < (1 : Int))) || (decide ((20 : Int) < (((List.length L) : Nat) : Int)))) || (decide ((L.getD ((0 : Int)).toNat 0) = (32 : Int)))) = false) (Ty.lst Ty.int L)) rfl (by intro A B E G H d0; refine run_guard G rfl rfl dE (eI d0) (fun hg => ?_); obtain ⟨d9, d10⟩ := Bool.or_eq_false_iff.mp hg; obtain ⟨d11, d12⟩ := Bool.or_eq_false_iff.mp d9; have d11 := of_decide_eq_false d11; have d12 := of_decide_eq_false d12; have d10 := of_decide_eq_false d10; exact y_move (kp (H 3 rfl) E q2)) ?_))))
 refine gT (Ty.grd ((((decide ((((List.length L) : Nat) : Int) < (1 : Int))) || (decide ((20 : Int) < (((List.length L) : Nat) : Int)))) || (decide ((L.getD ((0 : Int)).toNat 0) = (32 : Int)))) = false) (Ty.lst Ty.int L)) rfl (by intro A B E G H d0; refine run_guard G rfl rfl dE (eI d0) (fun hg => ?_); obtain ⟨d13, d14⟩ := Bool.or_eq_false_iff.mp hg; obtain ⟨d15, d16⟩ := Bool.or_eq_false_iff.mp d13; have d15 := of_decide_eq_false d15; have d16 := of_decide_eq_false d16; have d14 := of_decide_eq_false d14; exact y_move (kp (H 3 rfl) E q2)) (gT (Ty.grd ((((decide ((((List.length L) : Nat) : Int) < (1 : Int))) || (decide ((20 : Int) < (((List.length L) : Nat) : Int)))) || (decide ((L.getD ((0 : Int)).toNat 0) = (32 : Int)))) = false) (Ty.nat (List.length L))) rfl (by intro A B E G H d0 d1; refine run_guard G rfl rfl dE (eI d1) (fun hg => ?_); obtain ⟨d17, d18⟩ := Bool.or_eq_false_iff.mp hg; obtain ⟨d19, d20⟩ := Bool.or_eq_false_iff.mp d17; have d19 := of_decide_eq_false d19; have d20 := of_decide_eq_false d20; have d18 := of_decide_eq_false d18; exact y_len Tryd.underlying34 ((ef d0 rfl).1 hg)) (gT (Ty.grd ((((decide ((((List.length L) : Nat) : Int) < (1 : Int))) || (decide ((20 : Int) < (((List.length L) : Nat) : Int)))) || (decide ((L.getD ((0 : Int)).toNat 0) = (32 : Int)))) = false) (Ty.nat ((List.length L) - 1))) rfl (by intro A B E G H d0 d1; refine run_guard G rfl rfl dE (eI d1) (fun hg => ?_); obtain ⟨d21, d22⟩ := Bool.or_eq_false_iff.mp hg; obtain ⟨d23, d24⟩ := Bool.or_eq_false_iff.mp d21; have d23 := of_decide_eq_false d23; have d24 := of_decide_eq_false d24; have d22 := of_decide_eq_false d22; exact (y_sub ((ef d0 rfl).1 hg) rfl wX).mono (fun τ _ h => cvi (σ := τ) oM h)) ?_))
 refine gT (Ty.grd ((((decide ((((List.length L) : Nat) : Int) < (1 : Int))) || (decide ((20 : Int) < (((List.length L) : Nat) : Int)))) || (decide ((L.getD ((0 : Int)).toNat 0) = (32 : Int)))) = false) (Ty.ref [(Ty.int (L.getD ((List.length L) - 1) 0))])) rfl (by intro A B E G H d0 d1 d2; refine run_guard G rfl rfl dE (eI d2) (fun hg => ?_); obtain ⟨d25, d26⟩ := Bool.or_eq_false_iff.mp hg; obtain ⟨d27, d28⟩ := Bool.or_eq_false_iff.mp d25; have d27 := of_decide_eq_false d27; have d28 := of_decide_eq_false d28; have d26 := of_decide_eq_false d26; exact y_index1 Tryd.underlying34 Tryd.inf3 ((ef d0 rfl).1 hg) ((ef d1 rfl).1 hg) oM (lst_get Ty.int L 0 ((List.length L) - 1) oM)) (gT (Ty.grd ((((decide ((((List.length L) : Nat) : Int) < (1 : Int))) || (decide ((20 : Int) < (((List.length L) : Nat) : Int)))) || (decide ((L.getD ((0 : Int)).toNat 0) = (32 : Int)))) = false) (Ty.int (L.getD ((List.length L) - 1) 0))) rfl (by intro A B E G H d0 d1; refine run_guard G rfl rfl dE (eI d1) (fun hg => ?_); obtain ⟨d29, d30⟩ := Bool.or_eq_false_iff.mp hg; obtain ⟨d31, d32⟩ := Bool.or_eq_false_iff.mp d29; have d31 := of_decide_eq_false d31; have d32 := of_decide_eq_false d32; have d30 := of_decide_eq_false d30; exact y_load Tryd.underlying3 rfl ((ef d0 rfl).1 hg) rfl) (gT (Ty.grd ((((decide ((((List.length L) : Nat) : Int) < (1 : Int))) || (decide ((20 : Int) < (((List.length L) : Nat) : Int)))) || (decide ((L.getD ((0 : Int)).toNat 0) = (32 : Int)))) = false) (Ty.bool (decide ((L.getD ((List.length L) - 1) 0) = (32 : Int))))) rfl (by intro A B E G H d0 d1; refine run_guard G rfl rfl dE (eI d1) (fun hg => ?_); obtain ⟨d33, d34⟩ := Bool.or_eq_false_iff.mp hg; obtain ⟨d35, d36⟩ := Bool.or_eq_false_iff.mp d33; have d35 := of_decide_eq_false d35; have d36 := of_decide_eq_false d36; have d34 := of_decide_eq_false d34; exact y_eql ((ef d0 rfl).1 hg) rfl) ?_))
 refine gS rfl (fun A B E G H d0 d1 => rP (y_pick_or (eI d0) rfl (eI d1))) (gE ok2 fun a3 s3 ok3 D3 => ?_); have F3 := ((F0.step0 D1.stp).step0 D2.stp).step0 D3.stp; refine tn ?_
 refine cond_t (D3.m 22 rfl) (fun c1 => ?_) (fun c1 => ?_)
 ·
  simp only [Bool.or_eq_true, decide_eq_true_eq, Int.toNat_zero] at c1; have hb := name_bad (l := L) oM
  refine wp_seq ?_
  refine gI a3 s3 ok3 (gC (Ty.bool false) (gE ok3 fun a4 s4 ok4 D4 => ?_)); refine tn (wp_ret (tr ?_))
  exact retL1 rfl ok4 (F3.step0 D4.stp) (cvb (by (rw [← hne, hb])) (D4.m 0 rfl))
 ·
  obtain ⟨d37, d38⟩ := Bool.or_eq_false_iff.mp c1
  obtain ⟨d39, d40⟩ := Bool.or_eq_false_iff.mp d37
  obtain ⟨d41, d42⟩ := Bool.or_eq_false_iff.mp d39
  replace d41 := of_decide_eq_false d41
  replace d42 := of_decide_eq_false d42
  replace d40 := of_decide_eq_false d40
  replace d38 := of_decide_eq_false d38
  have hx1 : ¬ (L.length < 1 ∨ 20 < L.length ∨ L.getD 0 0 = 32 ∨ L.getD (L.length - 1) 0 = 32) := (by simp only [Bool.or_eq_false_iff, decide_eq_false_iff_not, Int.toNat_zero] at c1; omega)
  refine wp_skip (tn (wp_seq (wp_seq ?_)))
  refine gI a3 s3 ok3 (gC (Ty.int (0 : Int)) (gE ok3 fun a5 s5 ok5 D5 => ?_)); refine tn (wp_block ?_)
  refine loop (fun n1 a6 w1 => ∃ (t1 : GW) (i : Nat), t1.w = w1 ∧ FromL [] s0 t1 ∧ Ok 86 [] a6 ∧ At (Ty.nat i) t1 a6 (.tmp 4) ∧ At (Ty.lst Ty.int L) t1 a6 (.tmp 3) ∧ (i ≤ L.length) ∧ (∀ j, j < i → letterB (L.getD j 0) = true) ∧ n1 = L.length - i) (L.length - (0)) ?_ ?_
  ·
   exact ⟨s5, 0, rfl, (F3.step0 D5.stp), ok5, (cJ (D5.m 0 rfl)), (D5.k (D3.k q2)), by omega, fun j hj => absurd hj (Nat.not_lt_zero j), rfl⟩
  ·
   rintro n2 a7 w2 ⟨t2, i, rfl, F6, ok6, q8, q9, hi, hal, rfl⟩
   refine wp_seq (wp_seq ?_)
   refine gI a7 t2 ok6 (gM q8 (gM q9 (gS rfl (fun A B E G H d0 => rP (y_len Tryd.underlying34 (eI d0))) (gS rfl (fun A B E G H d0 d1 => rP (y_lss (eI d0) (eI d1))) (gE ok6 fun a8 s6 ok7 D6 => ?_))))); have F7 := F6.step0 D6.stp; have q10 := D6.k q8; have q11 := D6.k q9; refine tn ?_
   refine cond_p (p := (((i : Nat) : Int) < (((List.length L) : Nat) : Int))) (D6.m 3 rfl) (fun c2 => ?_) (fun c2 => ?_)
   ·
    refine wp_skip (tn (wp_seq (wp_block (wp_seq ?_))))
    refine gI a8 s6 ok7 (gM q11 (gM q10 (gT (Ty.ref [(Ty.int (L.getD i 0))]) rfl (fun A B E G H d0 d1 => rP (y_index1 Tryd.underlying34 Tryd.inf3 (eI d0) (eI d1) oM (lst_get Ty.int L 0 i oM))) (gS rfl (fun A B E G H d0 => rP (y_load Tryd.underlying3 rfl (eI d0) rfl)) (gB 0 (gE ok7 fun a9 s7 ok8 D7 => ?_)))))); have q15 := D7.m 4 rfl; refine tn (wp_seq ?_)
    refine gI a9 s7 ok8 (gM q15 (gS rfl (fun A B E G H d0 => rP (y_geq (eI d0) rfl)) (gS rfl (fun A B E G H d0 => rP (y_move (eI d0))) (gS rfl (fun A B E G H d0 => gu G (eI d0) fun hg => y_move (kp (H 5 rfl) E q15)) (gS rfl (fun A B E G H d0 d1 => gu G (eI d1) fun hg => y_leq ((ef d0 rfl).1 hg) rfl) (gS rfl (fun A B E G H d0 d1 => rP (y_pick_and (eI d0) (eI d1) rfl)) (gS rfl (fun A B E G H d0 d1 => rP (y_move (eI d0))) (gS rfl (fun A B E G H d0 => gu G (eI d0) fun hg => y_move (kp (H 5 rfl) E q15)) (gS rfl (fun A B E G H d0 d1 => gu G (eI d1) fun hg => y_geq ((ef d0 rfl).1 hg) rfl) (gS rfl (fun A B E G H d0 d1 d2 => gu G (eI d1) fun hg => y_mv ((ef d0 rfl).1 hg)) (gS rfl (fun A B E G H d0 => gu2 G (eI d0) fun hg => y_move (kp (H 5 rfl) E q15)) (gS rfl (fun A B E G H d0 d1 => gu2 G (eI d1) fun hg => y_leq ((ef d0 rfl).1 hg) rfl) (gS rfl (fun A B E G H d0 d1 d2 => gu G (eI d2) fun hg => y_pick_and ((ef d0 rfl).1 hg) (grd_part hg (eI d1)) rfl) (gS rfl (fun A B E G H d0 d1 => rP (y_pick_or (eI d0) rfl (eI d1))) (gS rfl (fun A B E G H d0 d1 => rP (y_move (eI d0))) (gT (Ty.grd ((((decide ((65 : Int) ≤ (L.getD i 0))) && (decide ((L.getD i 0) ≤ (90 : Int)))) || ((decide ((97 : Int) ≤ (L.getD i 0))) && (decide ((L.getD i 0) ≤ (122 : Int))))) = false) (Ty.int (L.getD i 0))) rfl (by intro A B E G H d0; refine run_guard G rfl rfl dE (eI d0) (fun hg => ?_); obtain ⟨d43, d44⟩ := Bool.or_eq_false_iff.mp hg; exact y_move (kp (H 5 rfl) E q15)) ?_))))))))))))))))
    refine gT (Ty.grd ((((decide ((65 : Int) ≤ (L.getD i 0))) && (decide ((L.getD i 0) ≤ (90 : Int)))) || ((decide ((97 : Int) ≤ (L.getD i 0))) && (decide ((L.getD i 0) ≤ (122 : Int))))) = false) (Ty.bool (decide ((48 : Int) ≤ (L.getD i 0))))) rfl (by intro A B E G H d0 d1; refine run_guard G rfl rfl dE (eI d1) (fun hg => ?_); obtain ⟨d45, d46⟩ := Bool.or_eq_false_iff.mp hg; exact y_geq ((ef d0 rfl).1 hg) rfl) (gT (Ty.grd ((((decide ((65 : Int) ≤ (L.getD i 0))) && (decide ((L.getD i 0) ≤ (90 : Int)))) || ((decide ((97 : Int) ≤ (L.getD i 0))) && (decide ((L.getD i 0) ≤ (122 : Int))))) = false) (Ty.bool (decide ((48 : Int) ≤ (L.getD i 0))))) rfl (by intro A B E G H d0 d1 d2; refine run_guard G rfl rfl dE (eI d1) (fun hg => ?_); obtain ⟨d47, d48⟩ := Bool.or_eq_false_iff.mp hg; exact y_move ((ef d0 rfl).1 hg)) (gS rfl (fun A B E G H d0 => gu2 G (eI d0) fun hg => y_move (kp (H 5 rfl) E q15)) (gS rfl (fun A B E G H d0 d1 => gu2 G (eI d1) fun hg => y_leq ((ef d0 rfl).1 hg) rfl) (gT (Ty.grd ((((decide ((65 : Int) ≤ (L.getD i 0))) && (decide ((L.getD i 0) ≤ (90 : Int)))) || ((decide ((97 : Int) ≤ (L.getD i 0))) && (decide ((L.getD i 0) ≤ (122 : Int))))) = false) (Ty.bool ((decide ((48 : Int) ≤ (L.getD i 0))) && (decide ((L.getD i 0) ≤ (57 : Int)))))) rfl (by intro A B E G H d0 d1 d2; refine run_guard G rfl rfl dE (eI d2) (fun hg => ?_); obtain ⟨d49, d50⟩ := Bool.or_eq_false_iff.mp hg; exact y_pick_and ((ef d0 rfl).1 hg) (grd_part hg (eI d1)) rfl) (gS rfl (fun A B E G H d0 d1 => rP (y_pick_or (eI d0) rfl (eI d1))) (gS rfl (fun A B E G H d0 d1 => rP (y_move (eI d0))) ?_))))))
    refine gT (Ty.grd (((((decide ((65 : Int) ≤ (L.getD i 0))) && (decide ((L.getD i 0) ≤ (90 : Int)))) || ((decide ((97 : Int) ≤ (L.getD i 0))) && (decide ((L.getD i 0) ≤ (122 : Int))))) || ((decide ((48 : Int) ≤ (L.getD i 0))) && (decide ((L.getD i 0) ≤ (57 : Int))))) = false) (Ty.int (L.getD i 0))) rfl (by intro A B E G H d0; refine run_guard G rfl rfl dE (eI d0) (fun hg => ?_); obtain ⟨d51, d52⟩ := Bool.or_eq_false_iff.mp hg; obtain ⟨d53, d54⟩ := Bool.or_eq_false_iff.mp d51; exact y_move (kp (H 5 rfl) E q15)) (gT (Ty.grd (((((decide ((65 : Int) ≤ (L.getD i 0))) && (decide ((L.getD i 0) ≤ (90 : Int)))) || ((decide ((97 : Int) ≤ (L.getD i 0))) && (decide ((L.getD i 0) ≤ (122 : Int))))) || ((decide ((48 : Int) ≤ (L.getD i 0))) && (decide ((L.getD i 0) ≤ (57 : Int))))) = false) (Ty.bool (decide ((L.getD i 0) = (32 : Int))))) rfl (by intro A B E G H d0 d1; refine run_guard G rfl rfl dE (eI d1) (fun hg => ?_); obtain ⟨d55, d56⟩ := Bool.or_eq_false_iff.mp hg; obtain ⟨d57, d58⟩ := Bool.or_eq_false_iff.mp d55; exact y_eql ((ef d0 rfl).1 hg) rfl) (gS rfl (fun A B E G H d0 d1 => rP (y_pick_or (eI d0) rfl (eI d1))) (gB 0 (gE ok8 fun a10 s8 ok9 D8 => ?_)))); have q18 := D8.k q15; refine tn (wp_seq ?_)
    refine gI a10 s8 ok9 (gM (D8.m 26 rfl) (gS rfl (fun A B E G H d0 => rP (y_not (eI d0))) (gS rfl (fun A B E G H d0 => rP (y_move (eI d0))) (gS rfl (fun A B E G H d0 => gu G (eI d0) fun hg => y_move (kp (H 5 rfl) E q18)) (gS rfl (fun A B E G H d0 d1 => gu G (eI d1) fun hg => y_lss ((ef d0 rfl).1 hg) rfl) (gS rfl (fun A B E G H d0 d1 d2 => gu G (eI d1) fun hg => y_mv ((ef d0 rfl).1 hg)) (gS rfl (fun A B E G H d0 => gu2 G (eI d0) fun hg => y_move (kp (H 5 rfl) E q18)) (gS rfl (fun A B E G H d0 d1 => gu2 G (eI d1) fun hg => y_gtr ((ef d0 rfl).1 hg) rfl) (gS rfl (fun A B E G H d0 d1 d2 => gu G (eI d2) fun hg => y_pick_or ((ef d0 rfl).1 hg) rfl (grd_part hg (eI d1))) (gS rfl (fun A B E G H d0 d1 d2 => gu G (eI d2) fun hg => y_mv ((ef d0 rfl).1 hg)) (gT (Ty.grd (((!(((((decide ((65 : Int) ≤ (L.getD i 0))) && (decide ((L.getD i 0) ≤ (90 : Int)))) || ((decide ((97 : Int) ≤ (L.getD i 0))) && (decide ((L.getD i 0) ≤ (122 : Int))))) || ((decide ((48 : Int) ≤ (L.getD i 0))) && (decide ((L.getD i 0) ≤ (57 : Int))))) || (decide ((L.getD i 0) = (32 : Int))))) = true) ∧ ((decide ((L.getD i 0) < (192 : Int))) || (decide ((382 : Int) < (L.getD i 0)))) = false) (Ty.int (L.getD i 0))) rfl (by intro A B E G H d0; refine run_guard2 G rfl rfl dE (eI d0) (fun hg => ?_); obtain ⟨d59, d60⟩ := Bool.or_eq_false_iff.mp hg.2; have d59 := of_decide_eq_false d59; have d60 := of_decide_eq_false d60; exact y_move (kp (H 5 rfl) E q18)) ?_)))))))))))
    refine gT (Ty.grd (((!(((((decide ((65 : Int) ≤ (L.getD i 0))) && (decide ((L.getD i 0) ≤ (90 : Int)))) || ((decide ((97 : Int) ≤ (L.getD i 0))) && (decide ((L.getD i 0) ≤ (122 : Int))))) || ((decide ((48 : Int) ≤ (L.getD i 0))) && (decide ((L.getD i 0) ≤ (57 : Int))))) || (decide ((L.getD i 0) = (32 : Int))))) = true) ∧ ((decide ((L.getD i 0) < (192 : Int))) || (decide ((382 : Int) < (L.getD i 0)))) = false) (Ty.bool (decide ((L.getD i 0) = (215 : Int))))) rfl (by intro A B E G H d0 d1; refine run_guard2 G rfl rfl dE (eI d1) (fun hg => ?_); obtain ⟨d61, d62⟩ := Bool.or_eq_false_iff.mp hg.2; have d61 := of_decide_eq_false d61; have d62 := of_decide_eq_false d62; exact y_eql ((ef d0 rfl).1 hg) rfl) (gS rfl (fun A B E G H d0 d1 d2 => gu G (eI d2) fun hg => y_pick_or ((ef d0 rfl).1 hg) rfl (grd_part hg (eI d1))) (gS rfl (fun A B E G H d0 d1 d2 => gu G (eI d2) fun hg => y_mv ((ef d0 rfl).1 hg)) (gT (Ty.grd (((!(((((decide ((65 : Int) ≤ (L.getD i 0))) && (decide ((L.getD i 0) ≤ (90 : Int)))) || ((decide ((97 : Int) ≤ (L.getD i 0))) && (decide ((L.getD i 0) ≤ (122 : Int))))) || ((decide ((48 : Int) ≤ (L.getD i 0))) && (decide ((L.getD i 0) ≤ (57 : Int))))) || (decide ((L.getD i 0) = (32 : Int))))) = true) ∧ (((decide ((L.getD i 0) < (192 : Int))) || (decide ((382 : Int) < (L.getD i 0)))) || (decide ((L.getD i 0) = (215 : Int)))) = false) (Ty.int (L.getD i 0))) rfl (by intro A B E G H d0; refine run_guard2 G rfl rfl dE (eI d0) (fun hg => ?_); obtain ⟨d63, d64⟩ := Bool.or_eq_false_iff.mp hg.2; obtain ⟨d65, d66⟩ := Bool.or_eq_false_iff.mp d63; have d65 := of_decide_eq_false d65; have d66 := of_decide_eq_false d66; have d64 := of_decide_eq_false d64; exact y_move (kp (H 5 rfl) E q18)) ?_)))
    refine gT (Ty.grd (((!(((((decide ((65 : Int) ≤ (L.getD i 0))) && (decide ((L.getD i 0) ≤ (90 : Int)))) || ((decide ((97 : Int) ≤ (L.getD i 0))) && (decide ((L.getD i 0) ≤ (122 : Int))))) || ((decide ((48 : Int) ≤ (L.getD i 0))) && (decide ((L.getD i 0) ≤ (57 : Int))))) || (decide ((L.getD i 0) = (32 : Int))))) = true) ∧ (((decide ((L.getD i 0) < (192 : Int))) || (decide ((382 : Int) < (L.getD i 0)))) || (decide ((L.getD i 0) = (215 : Int)))) = false) (Ty.bool (decide ((L.getD i 0) = (247 : Int))))) rfl (by intro A B E G H d0 d1; refine run_guard2 G rfl rfl dE (eI d1) (fun hg => ?_); obtain ⟨d67, d68⟩ := Bool.or_eq_false_iff.mp hg.2; obtain ⟨d69, d70⟩ := Bool.or_eq_false_iff.mp d67; have d69 := of_decide_eq_false d69; have d70 := of_decide_eq_false d70; have d68 := of_decide_eq_false d68; exact y_eql ((ef d0 rfl).1 hg) rfl) (gS rfl (fun A B E G H d0 d1 d2 => gu G (eI d2) fun hg => y_pick_or ((ef d0 rfl).1 hg) rfl (grd_part hg (eI d1))) (gS rfl (fun A B E G H d0 d1 => rP (y_pick_and (eI d0) (eI d1) rfl)) (gE ok9 fun a11 s9 ok10 D9 => ?_))); have F10 := ((F7.step0 D7.stp).step0 D8.stp).step0 D9.stp; refine tn ?_
    refine cond_t (D9.m 17 rfl) (fun c3 => ?_) (fun c3 => ?_)
    ·
     obtain ⟨d71, d72⟩ := Bool.and_eq_true_iff.mp c3
     have hlb : letterB (L.getD i 0) = false := (by rw [Bool.eq_false_iff]; intro h_; simp only [letterB, Bool.or_eq_true, Bool.and_eq_true, Bool.not_eq_true, Bool.or_eq_false_iff, Bool.and_eq_false_iff, Bool.not_eq_true', decide_eq_true_eq, decide_eq_false_iff_not] at h_ c3; omega); have hb := name_let (l := L) oM hlb
     refine wp_seq ?_
     refine gI a11 s9 ok10 (gC (Ty.bool false) (gE ok10 fun a12 s10 ok11 D10 => ?_)); refine tn (wp_ret (br (tr (tr (br (tr ?_))))))
     exact retL1 rfl ok11 (F10.step0 D10.stp) (cvb (by (rw [← hne, hb])) (D10.m 0 rfl))
    ·
     have hlb : letterB (L.getD i 0) = true := (by simp only [letterB, Bool.or_eq_true, Bool.and_eq_true, Bool.not_eq_false', Bool.or_eq_false_iff, Bool.and_eq_false_iff, decide_eq_true_eq, decide_eq_false_iff_not] at c3 ⊢; omega)
     refine wp_skip (bn (tn ?_))
     refine gI a11 s9 ok10 (gM (D9.k (D8.k (D7.k q10))) (gT (Ty.nat (i + 1)) rfl (fun A B E G H d0 => rP ((y_add (eI d0) rfl wX).mono (fun τ _ h => cN (σ := τ) h))) (gB 0 (gE ok10 fun a13 s11 ok12 D11 => ?_))))
     exact tn ⟨L.length - ((i+1)), by omega, s11, (i+1), rfl, (F10.step0 D11.stp), ok12, (cJ (D11.m 2 rfl)), (D11.k (D9.k (D8.k (D7.k q11)))), by omega, fun j hj => by (by_cases e : j = i; subst e; exact hlb; exact hal j oM), rfl⟩
   ·
    refine wp_exit (tx (tx (bx (tn (wp_seq ?_)))))
    refine gI a8 s6 ok7 (gC (Ty.bool true) (gE ok7 fun a14 s12 ok13 D12 => ?_)); refine tn (wp_ret ?_)
    exact retL1 rfl ok13 (F7.step0 D12.stp) (cvb (by (rw [← hne]; exact (name_good hx1 (fun j hj => hal j oM)).symm)) (D12.m 0 rfl))


set_option maxHeartbeats 4000000 in
set_option maxRecDepth 100000 in
theorem rMay_fn (dy : Int) (ch : Int) (mt : ByteArray) (rg : List ByteArray) (σ : GW)  (v0 : Value) (hv0 : Ty.has (Ty.agg [(Ty.int dy), (Ty.int ch), (Ty.val (Value.string mt)), (Ty.lst Ty.str rg)]) σ v0)  (hzm : mt.size ≤ 17592186044416) (hzr : ∀ x ∈ rg, x.size ≤ 17592186044416) (hzl : rg.length ≤ 1099511627776) :
    FnC Tryd.prog 32 #[v0] σ (Ty.int (mayR (dy, ch, mt, rg))) := by
 refine fn_intro0 Tryd.func32 rfl Tryd.ntmps32 (Nat.le_of_ble_eq_true rfl) (fun s0 a0 hle F0 ok0 hargs => ?_)
 have p0 := pA hle (hargs 0 _ rfl) hv0
 clear hargs; refine wp_seq ?_
 refine gI a0 s0 ok0 (gS rfl (fun A B E G H => rP (y_boxagg (kp (H 0 rfl) E p0))) (gC (Ty.int (0 : Int)) (gE ok0 fun a1 s1 ok1 D1 => ?_))); have q1 := D1.m 0 rfl; refine tn (wp_seq (wp_seq ?_))
 refine gI a1 s1 ok1 (gS rfl (fun A B E G H => rP (y_field Tryd.fld42_0 Tryd.inf3 dE (kp (H 1 rfl) E q1) rfl)) (gS rfl (fun A B E G H d0 => rP (y_load Tryd.underlying3 rfl (eI d0) rfl)) (gS rfl (fun A B E G H d0 => rP (y_lss (eI d0) rfl)) (gS rfl (fun A B E G H d0 => rP (y_move (eI d0))) (gS rfl (fun A B E G H d0 => guf G (eI d0) fun hg hp => y_field Tryd.fld42_0 Tryd.inf3 dE (kp (H 1 rfl) E q1) rfl) (gS rfl (fun A B E G H d0 d1 => gu G (eI d1) fun hg => y_load Tryd.underlying3 rfl ((ef d0 rfl).1 hg) rfl) (gS rfl (fun A B E G H d0 d1 => gu G (eI d1) fun hg => y_gtr ((ef d0 rfl).1 hg) rfl) (gS rfl (fun A B E G H d0 d1 => rP (y_pick_or (eI d0) rfl (eI d1))) (gS rfl (fun A B E G H d0 d1 => rP (y_move (eI d0))) (gT (Ty.grd (((decide (dy < (0 : Int))) || (decide ((1000000 : Int) < dy))) = false) (Ty.ref [(Ty.int ch), (Ty.val (Value.string mt)), (Ty.lst Ty.str rg)])) rfl (by intro A B E G H d0; refine run_guard G rfl rfl dE (eI d0) (fun hg => ?_); obtain ⟨d1, d2⟩ := Bool.or_eq_false_iff.mp hg; have d1 := of_decide_eq_false d1; have d2 := of_decide_eq_false d2; exact y_field Tryd.fld42_1 Tryd.inf3 dE (kp (H 1 rfl) E q1) rfl) (gT (Ty.grd (((decide (dy < (0 : Int))) || (decide ((1000000 : Int) < dy))) = false) (Ty.int ch)) rfl (by intro A B E G H d0 d1; refine run_guard G rfl rfl dE (eI d1) (fun hg => ?_); obtain ⟨d3, d4⟩ := Bool.or_eq_false_iff.mp hg; have d3 := of_decide_eq_false d3; have d4 := of_decide_eq_false d4; exact y_load Tryd.underlying3 rfl ((ef d0 rfl).1 hg) rfl) ?_)))))))))))
 refine gT (Ty.grd (((decide (dy < (0 : Int))) || (decide ((1000000 : Int) < dy))) = false) (Ty.bool (decide (ch < (1 : Int))))) rfl (by intro A B E G H d0 d1; refine run_guard G rfl rfl dE (eI d1) (fun hg => ?_); obtain ⟨d5, d6⟩ := Bool.or_eq_false_iff.mp hg; have d5 := of_decide_eq_false d5; have d6 := of_decide_eq_false d6; exact y_lss ((ef d0 rfl).1 hg) rfl) (gS rfl (fun A B E G H d0 d1 => rP (y_pick_or (eI d0) rfl (eI d1))) (gS rfl (fun A B E G H d0 d1 => rP (y_move (eI d0))) (gT (Ty.grd ((((decide (dy < (0 : Int))) || (decide ((1000000 : Int) < dy))) || (decide (ch < (1 : Int)))) = false) (Ty.ref [(Ty.int ch), (Ty.val (Value.string mt)), (Ty.lst Ty.str rg)])) rfl (by intro A B E G H d0; refine run_guard G rfl rfl dE (eI d0) (fun hg => ?_); obtain ⟨d7, d8⟩ := Bool.or_eq_false_iff.mp hg; obtain ⟨d9, d10⟩ := Bool.or_eq_false_iff.mp d7; have d9 := of_decide_eq_false d9; have d10 := of_decide_eq_false d10; have d8 := of_decide_eq_false d8; exact y_field Tryd.fld42_1 Tryd.inf3 dE (kp (H 1 rfl) E q1) rfl) (gT (Ty.grd ((((decide (dy < (0 : Int))) || (decide ((1000000 : Int) < dy))) || (decide (ch < (1 : Int)))) = false) (Ty.int ch)) rfl (by intro A B E G H d0 d1; refine run_guard G rfl rfl dE (eI d1) (fun hg => ?_); obtain ⟨d11, d12⟩ := Bool.or_eq_false_iff.mp hg; obtain ⟨d13, d14⟩ := Bool.or_eq_false_iff.mp d11; have d13 := of_decide_eq_false d13; have d14 := of_decide_eq_false d14; have d12 := of_decide_eq_false d12; exact y_load Tryd.underlying3 rfl ((ef d0 rfl).1 hg) rfl) ?_))))
 refine gT (Ty.grd ((((decide (dy < (0 : Int))) || (decide ((1000000 : Int) < dy))) || (decide (ch < (1 : Int)))) = false) (Ty.bool (decide ((1000000 : Int) < ch)))) rfl (by intro A B E G H d0 d1; refine run_guard G rfl rfl dE (eI d1) (fun hg => ?_); obtain ⟨d15, d16⟩ := Bool.or_eq_false_iff.mp hg; obtain ⟨d17, d18⟩ := Bool.or_eq_false_iff.mp d15; have d17 := of_decide_eq_false d17; have d18 := of_decide_eq_false d18; have d16 := of_decide_eq_false d16; exact y_gtr ((ef d0 rfl).1 hg) rfl) (gS rfl (fun A B E G H d0 d1 => rP (y_pick_or (eI d0) rfl (eI d1))) (gE ok1 fun a2 s2 ok2 D2 => ?_)); have F2 := (F0.step0 D1.stp).step0 D2.stp; have q2 := D2.k q1; refine tn ?_
 refine cond_t (D2.m 17 rfl) (fun c1 => ?_) (fun c1 => ?_)
 ·
  have hv : (dy < 0 ∨ 1000000 < dy ∨ ch < 1 ∨ 1000000 < ch) := (by simp only [Bool.or_eq_true, decide_eq_true_eq] at c1; omega)
  refine wp_seq ?_
  refine gI a2 s2 ok2 (gC (Ty.int (12 : Int)) (gE ok2 fun a3 s3 ok3 D3 => ?_)); refine tn (wp_ret (tr ?_))
  exact retL1 rfl ok3 (F2.step0 D3.stp) (cvi (by (rw [may_val hv])) (D3.m 0 rfl))
 ·
  obtain ⟨d19, d20⟩ := Bool.or_eq_false_iff.mp c1
  obtain ⟨d21, d22⟩ := Bool.or_eq_false_iff.mp d19
  obtain ⟨d23, d24⟩ := Bool.or_eq_false_iff.mp d21
  replace d23 := of_decide_eq_false d23
  replace d24 := of_decide_eq_false d24
  replace d22 := of_decide_eq_false d22
  replace d20 := of_decide_eq_false d20
  have hv : ¬ (dy < 0 ∨ 1000000 < dy ∨ ch < 1 ∨ 1000000 < ch) := (by simp only [Bool.or_eq_false_iff, decide_eq_false_iff_not] at c1; omega)
  refine wp_skip (tn (wp_seq ?_))
  refine gI a2 s2 ok2 (gS rfl (fun A B E G H => rP (y_field Tryd.fld42_2 Tryd.inf9 dE (kp (H 1 rfl) E q2) rfl)) (gS rfl (fun A B E G H d0 => rP (y_load Tryd.underlying9 rfl (eI d0) rfl)) (gS rfl (fun A B E G H d0 => rP (y_call _ Tryd.func43 rfl rfl my1 (rIsName_fn (mt) _ _ (eI d0) oM))) (gB 0 (gE ok2 fun a4 s4 ok4 D4 => ?_))))); refine tn (wp_seq (wp_seq ?_))
  refine gI a4 s4 ok4 (gM (D4.m 3 rfl) (gS rfl (fun A B E G H d0 => rP (y_not (eI d0))) (gE ok4 fun a5 s5 ok5 D5 => ?_))); have F5 := (F2.step0 D4.stp).step0 D5.stp; have q7 := D5.k (D4.k q2); refine tn ?_
  refine cond_t (D5.m 1 rfl) (fun c2 => ?_) (fun c2 => ?_)
  ·
   have hn : nameL mt = false := (by simpa using c2)
   refine wp_seq ?_
   refine gI a5 s5 ok5 (gC (Ty.int (7 : Int)) (gE ok5 fun a6 s6 ok6 D6 => ?_)); refine tn (wp_ret (tr ?_))
   exact retL1 rfl ok6 (F5.step0 D6.stp) (cvi (by (rw [may_name hv hn])) (D6.m 0 rfl))
  ·
   have hn : nameL mt = true := (by simpa using c2)
   refine wp_skip (tn (wp_seq (wp_seq ?_)))
   refine gI a5 s5 ok5 (gS rfl (fun A B E G H => rP (y_field Tryd.fld42_3 Tryd.inf40 dE (kp (H 1 rfl) E q7) rfl)) (gS rfl (fun A B E G H d0 => rP (y_load Tryd.underlying40 rfl (eI d0) rfl)) (gS rfl (fun A B E G H d0 => rP (y_len Tryd.underlying40 (eI d0))) (gS rfl (fun A B E G H d0 => rP (y_lss (eI d0) rfl)) (gS rfl (fun A B E G H d0 => rP (y_move (eI d0))) (gS rfl (fun A B E G H d0 => guf G (eI d0) fun hg hp => y_field Tryd.fld42_3 Tryd.inf40 dE (kp (H 1 rfl) E q7) rfl) (gS rfl (fun A B E G H d0 d1 => gu G (eI d1) fun hg => y_load Tryd.underlying40 rfl ((ef d0 rfl).1 hg) rfl) (gS rfl (fun A B E G H d0 d1 => gu G (eI d1) fun hg => y_len Tryd.underlying40 ((ef d0 rfl).1 hg)) (gS rfl (fun A B E G H d0 d1 => gu G (eI d1) fun hg => y_gtr ((ef d0 rfl).1 hg) rfl) (gS rfl (fun A B E G H d0 d1 => rP (y_pick_or (eI d0) rfl (eI d1))) (gE ok5 fun a7 s7 ok7 D7 => ?_))))))))))); have F7 := F5.step0 D7.stp; refine tn ?_
   refine cond_t (D7.m 9 rfl) (fun c3 => ?_) (fun c3 => ?_)
   ·
    have hl : rg.length < 1 ∨ 12 < rg.length := (by simp only [Bool.or_eq_true, decide_eq_true_eq] at c3; omega)
    refine wp_seq ?_
    refine gI a7 s7 ok7 (gC (Ty.int (1 : Int)) (gE ok7 fun a8 s8 ok8 D8 => ?_)); refine tn (wp_ret (tr ?_))
    exact retL1 rfl ok8 (F7.step0 D8.stp) (cvi (by (rw [may_cnt hv hn hl])) (D8.m 0 rfl))
   ·
    obtain ⟨d25, d26⟩ := Bool.or_eq_false_iff.mp c3
    replace d25 := of_decide_eq_false d25
    replace d26 := of_decide_eq_false d26
    have hl : ¬ (rg.length < 1 ∨ 12 < rg.length) := (by simp only [Bool.or_eq_false_iff, decide_eq_false_iff_not] at c3; omega)
    refine wp_skip (tn (wp_seq (wp_seq ?_)))
    refine gI a7 s7 ok7 (gC (Ty.int (0 : Int)) (gE ok7 fun a9 s9 ok9 D9 => ?_)); refine tn (wp_block ?_)
    refine loop (fun n1 a10 w1 => ∃ (t1 : GW) (k : Nat), t1.w = w1 ∧ FromL [] s0 t1 ∧ Ok 71 [] a10 ∧ At (Ty.nat k) t1 a10 (.tmp 4) ∧ At (Ty.ref [(Ty.int dy), (Ty.int ch), (Ty.val (Value.string mt)), (Ty.lst Ty.str rg)]) t1 a10 (.tmp 1) ∧ (k ≤ rg.length) ∧ (rgM (rg.take k) (rg.drop k) = mayR (dy, ch, mt, rg)) ∧ n1 = rg.length - k) (rg.length - (0)) ?_ ?_
    ·
     exact ⟨s9, 0, rfl, (F7.step0 D9.stp), ok9, (cJ (D9.m 0 rfl)), (D9.k (D7.k q7)), by omega, may_run hv hn hl, rfl⟩
    ·
     rintro n2 a11 w2 ⟨t2, k, rfl, F10, ok10, q15, q16, hk, hq, rfl⟩
     refine wp_seq (wp_seq ?_)
     refine gI a11 t2 ok10 (gM q15 (gS rfl (fun A B E G H => rP (y_field Tryd.fld42_3 Tryd.inf40 dE (kp (H 1 rfl) E q16) rfl)) (gS rfl (fun A B E G H d0 => rP (y_load Tryd.underlying40 rfl (eI d0) rfl)) (gS rfl (fun A B E G H d0 => rP (y_len Tryd.underlying40 (eI d0))) (gS rfl (fun A B E G H d0 d1 => rP (y_lss (eI d0) (eI d1))) (gE ok10 fun a12 s10 ok11 D10 => ?_)))))); have F11 := F10.step0 D10.stp; have q17 := D10.k q15; have q18 := D10.k q16; refine tn ?_
     refine cond_p (p := (((k : Nat) : Int) < (((List.length rg) : Nat) : Int))) (D10.m 4 rfl) (fun c4 => ?_) (fun c4 => ?_)
     ·
      have hgk : (rg.getD k ByteArray.empty).size ≤ 17592186044416 := hzr _ (getD_memS oM)
      refine wp_skip (tn (wp_seq (wp_block (wp_seq ?_))))
      refine gI a12 s10 ok11 (gS rfl (fun A B E G H => rP (y_field Tryd.fld42_3 Tryd.inf40 dE (kp (H 1 rfl) E q18) rfl)) (gS rfl (fun A B E G H d0 => rP (y_load Tryd.underlying40 rfl (eI d0) rfl)) (gM q17 (gT (Ty.ref [(Ty.val (Value.string (rg.getD k ByteArray.empty)))]) rfl (fun A B E G H d0 d1 => rP (y_index1 Tryd.underlying40 Tryd.inf9 (eI d0) (eI d1) oM (lst_get Ty.str rg ByteArray.empty k oM))) (gS rfl (fun A B E G H d0 => rP (y_load Tryd.underlying9 rfl (eI d0) rfl)) (gS rfl (fun A B E G H d0 => rP (y_call _ Tryd.func43 rfl rfl my1 (rIsName_fn ((rg.getD k ByteArray.empty)) _ _ (eI d0) oM))) (gB 0 (gE ok11 fun a13 s11 ok12 D11 => ?_)))))))); refine tn (wp_seq (wp_seq ?_))
      refine gI a13 s11 ok12 (gM (D11.m 6 rfl) (gS rfl (fun A B E G H d0 => rP (y_not (eI d0))) (gE ok12 fun a14 s12 ok13 D12 => ?_))); have F13 := (F11.step0 D11.stp).step0 D12.stp; refine tn ?_
      refine cond_t (D12.m 1 rfl) (fun c5 => ?_) (fun c5 => ?_)
      ·
       have hn2 : nameL (rg.getD k ByteArray.empty) = false := (by simpa using c5)
       refine wp_seq ?_
       refine gI a14 s12 ok13 (gC (Ty.int (7 : Int)) (gE ok13 fun a15 s13 ok14 D13 => ?_)); refine tn (wp_ret (tr (br (tr (tr (br (tr ?_)))))))
       exact retL1 rfl ok14 (F13.step0 D13.stp) (cvi (by (rw [rg_name oM hq hn2])) (D13.m 0 rfl))
      ·
       have hn2 : nameL (rg.getD k ByteArray.empty) = true := (by simpa using c5)
       refine wp_skip (tn (wp_seq ?_))
       refine gI a14 s12 ok13 (gC (Ty.int (0 : Int)) (gE ok13 fun a16 s14 ok15 D14 => ?_)); refine tn (wp_block ?_)
       refine loop (fun n3 a17 w3 => ∃ (t3 : GW) (i : Nat), t3.w = w3 ∧ FromL [] s0 t3 ∧ Ok 71 [] a17 ∧ At (Ty.nat i) t3 a17 (.tmp 6) ∧ At (Ty.nat k) t3 a17 (.tmp 4) ∧ At (Ty.ref [(Ty.int dy), (Ty.int ch), (Ty.val (Value.string mt)), (Ty.lst Ty.str rg)]) t3 a17 (.tmp 1) ∧ (i ≤ k) ∧ (∀ j, j < i → rg.getD j ByteArray.empty ≠ (rg.getD k ByteArray.empty)) ∧ n3 = k - i) (k - (0)) ?_ ?_
       ·
        exact ⟨s14, 0, rfl, (F13.step0 D14.stp), ok15, (cJ (D14.m 0 rfl)), (D14.k (D12.k (D11.k q17))), (D14.k (D12.k (D11.k q18))), by omega, fun j hj => absurd hj (Nat.not_lt_zero j), rfl⟩
       ·
        rintro n4 a18 w4 ⟨t4, i, rfl, F16, ok16, q30, q31, q32, hi, hno, rfl⟩
        refine wp_seq (wp_seq ?_)
        refine gI a18 t4 ok16 (gM q30 (gM q31 (gS rfl (fun A B E G H d0 d1 => rP (y_lss (eI d0) (eI d1))) (gE ok16 fun a19 s15 ok17 D15 => ?_)))); have F17 := F16.step0 D15.stp; have q33 := D15.k q30; have q34 := D15.k q31; have q35 := D15.k q32; refine tn ?_
        refine cond_p (p := (((i : Nat) : Int) < ((k : Nat) : Int))) (D15.m 2 rfl) (fun c6 => ?_) (fun c6 => ?_)
        ·
         refine wp_skip (tn (wp_seq (wp_block (wp_seq ?_))))
         refine gI a19 s15 ok17 (gS rfl (fun A B E G H => rP (y_field Tryd.fld42_3 Tryd.inf40 dE (kp (H 1 rfl) E q35) rfl)) (gS rfl (fun A B E G H d0 => rP (y_load Tryd.underlying40 rfl (eI d0) rfl)) (gM q33 (gT (Ty.ref [(Ty.val (Value.string (rg.getD i ByteArray.empty)))]) rfl (fun A B E G H d0 d1 => rP (y_index1 Tryd.underlying40 Tryd.inf9 (eI d0) (eI d1) oM (lst_get Ty.str rg ByteArray.empty i oM))) (gS rfl (fun A B E G H d0 => rP (y_load Tryd.underlying9 rfl (eI d0) rfl)) (gS rfl (fun A B E G H => rP (y_field Tryd.fld42_3 Tryd.inf40 dE (kp (H 1 rfl) E q35) rfl)) (gS rfl (fun A B E G H d0 => rP (y_load Tryd.underlying40 rfl (eI d0) rfl)) (gM q34 (gT (Ty.ref [(Ty.val (Value.string (rg.getD k ByteArray.empty)))]) rfl (fun A B E G H d0 d1 => rP (y_index1 Tryd.underlying40 Tryd.inf9 (eI d0) (eI d1) oM (lst_get Ty.str rg ByteArray.empty k oM))) (gS rfl (fun A B E G H d0 => rP (y_load Tryd.underlying9 rfl (eI d0) rfl)) (gT (Ty.bool (decide ((rg.getD i ByteArray.empty) = (rg.getD k ByteArray.empty)))) rfl (fun A B E G H d0 d1 => rP (y_seql Tryd.underlying9 (eI d0) (eI d1))) (gE ok17 fun a20 s16 ok18 D16 => ?_)))))))))))); have F18 := F17.step0 D16.stp; refine tn ?_
         refine cond_p (p := ((rg.getD i ByteArray.empty) = (rg.getD k ByteArray.empty))) (D16.m 10 rfl) (fun c7 => ?_) (fun c7 => ?_)
         ·
          have hds : hasSt (rg.take k) (rg.getD k ByteArray.empty) = true := hasSt_yes oM oM (show rg.getD i ByteArray.empty = (rg.getD k ByteArray.empty) from c7)
          refine wp_seq ?_
          refine gI a20 s16 ok18 (gC (Ty.int (8 : Int)) (gE ok18 fun a21 s17 ok19 D17 => ?_)); refine tn (wp_ret (br (tr (tr (br (br (tr (tr (br (tr ?_))))))))))
          exact retL1 rfl ok19 (F18.step0 D17.stp) (cvi (by (rw [rg_dbl oM hq hn2 hds])) (D17.m 0 rfl))
         ·
          refine wp_skip (bn (tn ?_))
          refine gI a20 s16 ok18 (gM (D16.k q33) (gT (Ty.nat (i + 1)) rfl (fun A B E G H d0 => rP ((y_add (eI d0) rfl wX).mono (fun τ _ h => cN (σ := τ) h))) (gB 0 (gE ok18 fun a22 s18 ok20 D18 => ?_))))
          exact tn ⟨k - ((i+1)), by omega, s18, (i+1), rfl, (F18.step0 D18.stp), ok20, (cJ (D18.m 2 rfl)), (D18.k (D16.k q34)), (D18.k (D16.k q35)), by omega, fun j hj => by (by_cases e : j = i; subst e; exact c7; exact hno j oM), rfl⟩
        ·
         have hds : hasSt (rg.take k) (rg.getD k ByteArray.empty) = false := hasSt_no (fun i hi => hno i oM) oM
         refine wp_exit (tx (tx (bx (bn (tn ?_)))))
         refine gI a19 s15 ok17 (gM q34 (gT (Ty.nat (k + 1)) rfl (fun A B E G H d0 => rP ((y_add (eI d0) rfl wX).mono (fun τ _ h => cN (σ := τ) h))) (gB 0 (gE ok17 fun a23 s19 ok21 D19 => ?_))))
         exact tn ⟨rg.length - ((k+1)), by omega, s19, (k+1), rfl, (F17.step0 D19.stp), ok21, (cJ (D19.m 2 rfl)), (D19.k q35), by omega, rg_step oM hq hn2 hds, rfl⟩
     ·
      refine wp_exit (tx (tx (bx (tn (wp_seq ?_)))))
      refine gI a12 s10 ok11 (gC (Ty.int (0 : Int)) (gE ok11 fun a24 s20 ok22 D20 => ?_)); refine tn (wp_ret ?_)
      exact retL1 rfl ok22 (F11.step0 D20.stp) (cvi (by (rw [rg_end oM hq])) (D20.m 0 rfl))


end Go.Proofs.YtfgkhpkbehhflaaDoor
