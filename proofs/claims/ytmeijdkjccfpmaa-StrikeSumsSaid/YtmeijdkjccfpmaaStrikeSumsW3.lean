/- The functions that the law StrikeSums reaches, each by its contract. Part 3. -/
import Derived.Test.YtmeijdkjccfpmaaStrikeSumsW2
namespace Go.Proofs.Ytmeijdkjccfpmaa
open Go.KL

set_option maxHeartbeats 4000000 in
set_option maxRecDepth 100000 in
theorem strikeSums_fn (l : List FV) (σ : GW)  (v0 : Value) (hv0 : Ty.has (Ty.lst Ty.flt l) σ v0)  (hfk : ∀ x ∈ l, Fok x) :
    FnC Try.prog 4 #[v0] σ (Ty.bool true) := by
 have hpz := added_pz hfk
 have hxl := xTab_len l
 refine fn_intro0 Try.func4 rfl Try.ntmps4 (Nat.le_of_ble_eq_true rfl) (fun s0 a0 hle F0 ok0 hargs => ?_)
 have p0 := pA hle (hargs 0 _ rfl) hv0
 have b1 := sl_le p0
 clear hargs; refine wp_seq ?_
 refine gI a0 s0 ok0 (gC (Ty.bool false) (gE ok0 fun a1 s1 ok1 D1 => ?_)); have q1 := D1.kt p0 rfl; refine tn (wp_seq (wp_seq ?_))
 refine gI a1 s1 ok1 (gM q1 (gS rfl (fun A B E G H d0 => rP (y_len Try.underlying24 (ed d0 rfl rfl rfl))) (gS rfl (fun A B E G H d0 => rP (y_gtr (ed d0 rfl rfl rfl) rfl)) (gS rfl (fun A B E G H d0 => rP (y_move (ed d0 rfl rfl rfl))) (gS rfl (fun A B E G H d0 => gu G (ed d0 rfl rfl rfl) fun hg => y_move (kp (H 0 rfl) E q1)) (gS rfl (fun A B E G H d0 d1 => gu G (ed d1 rfl rfl rfl) fun hg => y_len Try.underlying24 ((ed d0 rfl rfl rfl).1 hg)) (gS rfl (fun A B E G H d0 d1 => gu G (ed d1 rfl rfl rfl) fun hg => y_lss ((ed d0 rfl rfl rfl).1 hg) rfl) (gS rfl (fun A B E G H d0 d1 => rP (y_pick_and (ed d0 rfl rfl rfl) (ed d1 rfl rfl rfl) rfl)) (gE ok1 fun a2 s2 ok2 D2 => ?_))))))))); have F2 := (F0.step0 D1.stp).step0 D2.stp; have q2 := D2.kt q1 rfl; refine tn ?_
 refine cond_t (D2.dn 7 rfl rfl) (fun c1 => ?_) (fun c1 => ?_)
 ·
  obtain ⟨d1, d2⟩ := Bool.and_eq_true_iff.mp c1
  replace d1 := of_decide_eq_true d1
  replace d2 := of_decide_eq_true d2
  refine wp_seq ?_
  refine gI a2 s2 ok2 (gC (Ty.bool true) (gE ok2 fun a3 s3 ok3 D3 => ?_)); refine tn (wp_ret (tr ?_))
  exact retL1 rfl ok3 (F2.step0 D3.stp) (D3.dn 0 rfl rfl)
 ·
  refine wp_skip (tn (wp_seq ?_))
  refine gI a2 s2 ok2 (gM q2 (gS rfl (fun A B E G H d0 => rP (y_call _ Try.func12 rfl rfl my1 (skSum_fn (l) _ _ (ed d0 rfl rfl rfl) ))) (gS rfl (fun A B E G H d0 => rP (y_move (ed d0 rfl rfl rfl))) (gT (Ty.flt (if sumE l = 0 then added l else some 0)) rfl (fun A B E G H d0 => rP (y_ext2_0 (ed d0 rfl rfl rfl))) (gT (Ty.int (sumE l)) rfl (fun A B E G H d0 d1 => rP (y_ext2_1 (ed d0 rfl rfl rfl))) (gB 0 (gB 0 (gE ok2 fun a4 s4 ok4 D4 => ?_)))))))); have q5 := D4.kt q2 rfl; refine tn (wp_seq ?_)
  refine gI a4 s4 ok4 (gM q5 (gT (Ty.tup2 (Ty.flt (if sumE l = 0 then added l else some 0)) (Ty.int (sumE l))) rfl (fun A B E G H d0 => rP ((y_call _ Try.func13 rfl rfl my1 (rSumOf_fn (l) _ _ (ed d0 rfl rfl rfl) )).mono (fun τ _ h => cvt (σ := τ) (T := (Ty.tup2 (Ty.flt (if sumE l = 0 then pzF (added l) else some 0)) (Ty.int (sumE l)))) (U := (Ty.tup2 (Ty.flt (if sumE l = 0 then added l else some 0)) (Ty.int (sumE l)))) (by rw [hpz]) h))) (gS rfl (fun A B E G H d0 => rP (y_move (ed d0 rfl rfl rfl))) (gT (Ty.flt (if sumE l = 0 then added l else some 0)) rfl (fun A B E G H d0 => rP (y_ext2_0 (ed d0 rfl rfl rfl))) (gT (Ty.int (sumE l)) rfl (fun A B E G H d0 d1 => rP (y_ext2_1 (ed d0 rfl rfl rfl))) (gB 0 (gB 0 (gE ok4 fun a5 s5 ok5 D5 => ?_)))))))); have q8 := D5.kt q5 rfl; refine tn (wp_seq ?_)
  refine gI a5 s5 ok5 (gM q8 (gS rfl (fun A B E G H d0 => rP (y_call _ Try.func14 rfl rfl my1 (skRhythm_fn (l) _ _ (ed d0 rfl rfl rfl) ))) (gS rfl (fun A B E G H d0 => rP (y_move (ed d0 rfl rfl rfl))) (gT (Ty.agg [(Ty.cx (if sumE l = 0 then rhF l 0 else C0)), (Ty.cx (if sumE l = 0 then rhF l 1 else C0)), (Ty.cx (if sumE l = 0 then rhF l 2 else C0)), (Ty.cx (if sumE l = 0 then rhF l 3 else C0)), (Ty.cx (if sumE l = 0 then rhF l 4 else C0)), (Ty.cx (if sumE l = 0 then rhF l 5 else C0)), (Ty.cx (if sumE l = 0 then rhF l 6 else C0)), (Ty.cx (if sumE l = 0 then rhF l 7 else C0))]) rfl (fun A B E G H d0 => rP (y_ext2_0 (ed d0 rfl rfl rfl))) (gT (Ty.int (sumE l)) rfl (fun A B E G H d0 d1 => rP (y_ext2_1 (ed d0 rfl rfl rfl))) (gR (Pr.ownp 40 [(Ty.cx C0), (Ty.cx C0), (Ty.cx C0), (Ty.cx C0), (Ty.cx C0), (Ty.cx C0), (Ty.cx C0), (Ty.cx C0)]) rfl (by intro A B E G H; exact rP (y_alloc Try.inf36 (by simp [Value.cells]) (alloc_zero 8 (by intro σ; exact cx_zero)))) (gE2 ok5 fun a6 s6 ok6 D6 => ?_)))))))
  obtain ⟨x1, hx1⟩ : ∃ x, a6.eval (.tmp 7) = x := ⟨_, rfl⟩
  have q20 : At (Ty.val x1) s6 a6 (.tmp 7) := hx1
  have o1 := al2 (R := (Pr.ownp 40 [(Ty.cx C0), (Ty.cx C0), (Ty.cx C0), (Ty.cx C0), (Ty.cx C0), (Ty.cx C0), (Ty.cx C0), (Ty.cx C0)])) hx1 (D6.done 5 (by decide))
  refine tailL0 (L := [40]) (R := (fun _ τ => OwnP τ 40 x1 [(Ty.cx (if sumE l = 0 then rhF l 0 else C0)), (Ty.cx (if sumE l = 0 then rhF l 1 else C0)), (Ty.cx (if sumE l = 0 then rhF l 2 else C0)), (Ty.cx (if sumE l = 0 then rhF l 3 else C0)), (Ty.cx (if sumE l = 0 then rhF l 4 else C0)), (Ty.cx (if sumE l = 0 then rhF l 5 else C0)), (Ty.cx (if sumE l = 0 then rhF l 6 else C0)), (Ty.cx (if sumE l = 0 then rhF l 7 else C0))])) rfl rfl (YldM.toL (m_storeagg Try.inf36 (by decide) o1 q20 rfl (D6.dn 3 (by decide) rfl rfl) (by intro U hU; simp only [List.mem_cons, List.not_mem_nil, or_false] at hU; rcases hU with rfl | rfl | rfl | rfl | rfl | rfl | rfl | rfl <;> first | exact one_val rfl | exact one_sl | exact one_flt | exact one_cx | exact one_ref))) (fun v1 s7 hs1 r1 => ?_)
  have F7 := (((F2.step0 D4.stp).step0 D5.stp).step0 D6.stp).stepL hs1 (by decide); have q21 := kpL hs1 (by decide) rfl (D6.kt q8 rfl); have q22 := kpL hs1 (by decide) rfl (D6.kt (D5.kt (D4.dn 5 rfl rfl) rfl) rfl); have q23 := kpL hs1 (by decide) rfl (D6.kt (D5.kt (D4.dn 6 rfl rfl) rfl) rfl); have q24 := kpL hs1 (by decide) rfl (D6.kt (D5.dn 5 rfl rfl) rfl); have q25 := kpL hs1 (by decide) rfl (D6.kt (D5.dn 6 rfl rfl) rfl); have q26 := kpL hs1 (by decide) rfl (D6.dn 4 (by decide) rfl rfl); have q27 := kpL hs1 (by decide) rfl q20
  have o2 : OwnP s7 40 x1 [(Ty.cx (if sumE l = 0 then rhF l 0 else C0)), (Ty.cx (if sumE l = 0 then rhF l 1 else C0)), (Ty.cx (if sumE l = 0 then rhF l 2 else C0)), (Ty.cx (if sumE l = 0 then rhF l 3 else C0)), (Ty.cx (if sumE l = 0 then rhF l 4 else C0)), (Ty.cx (if sumE l = 0 then rhF l 5 else C0)), (Ty.cx (if sumE l = 0 then rhF l 6 else C0)), (Ty.cx (if sumE l = 0 then rhF l 7 else C0))] := r1
  clear r1
  refine tL ok6 (Yld.toL (y_as q26)) fun a7 s8 hs2 ok7 r2 sm1 => ?_
  have F8 := F7.stepL hs2 (by decide); have q29 := kpL hs2 (by decide) (sm1 0 (by decide)) q21; have q30 := kpL hs2 (by decide) (sm1 3 (by decide)) q22; have q31 := kpL hs2 (by decide) (sm1 4 (by decide)) q23; have q32 := kpL hs2 (by decide) (sm1 5 (by decide)) q24; have q33 := kpL hs2 (by decide) (sm1 6 (by decide)) q25; have q34 := kpL hs2 (by decide) (sm1 7 (by decide)) q27; have o3 := OwnP.keepL o2 hs2 (by decide) (by decide)
  have q35 : At (Ty.int (sumE l)) s8 a7 (.tmp 8) := r2
  clear r2; refine wpList_nil (tn (wp_seq ?_))
  refine gI a7 s8 ok7 (gM q29 (gS rfl (fun A B E G H d0 => rP (y_call _ Try.func15 rfl rfl my1 (rRhythm_fn (l) _ _ (ed d0 rfl rfl rfl) ))) (gS rfl (fun A B E G H d0 => rP (y_move (ed d0 rfl rfl rfl))) (gT (Ty.lst Ty.cx (if sumE l = 0 then rhTo l 8 else [])) rfl (fun A B E G H d0 => rP (y_ext2_0 (ed d0 rfl rfl rfl))) (gT (Ty.int (sumE l)) rfl (fun A B E G H d0 d1 => rP (y_ext2_1 (ed d0 rfl rfl rfl))) (gB 0 (gB 0 (gE ok7 fun a8 s9 ok8 D7 => ?_)))))))); have o4 := OwnP.k0 o3 D7.stp; have q43 := D7.dn 6 rfl rfl; refine tn (wp_seq (wp_seq ?_))
  refine gI a8 s9 ok8 (gM (D7.kt q31 rfl) (gM (D7.kt q33 rfl) (gS rfl (fun A B E G H d0 d1 => rP (y_neq (ed d0 rfl rfl rfl) (ed d1 rfl rfl rfl))) (gS rfl (fun A B E G H d0 => rP (y_move (ed d0 rfl rfl rfl))) (gS rfl (fun A B E G H d0 => gu G (ed d0 rfl rfl rfl) fun hg => y_move (kp (H 3 rfl) E (D7.kt q30 rfl))) (gS rfl (fun A B E G H d0 => gu G (ed d0 rfl rfl rfl) fun hg => y_move (kp (H 5 rfl) E (D7.kt q32 rfl))) (gS rfl (fun A B E G H d0 d1 d2 d3 => guf G (ed d2 rfl rfl rfl) fun hg hp => y_call _ Try.func11 rfl rfl my2 (sameFloat_fn ((if sumE l = 0 then added l else some 0)) ((if sumE l = 0 then added l else some 0)) _ _ _ ((ed d0 rfl rfl rfl).1 hg) ((ed d1 rfl rfl rfl).1 hg) (by first | rfl | assumption))) (gS rfl (fun A B E G H d0 d1 => gu G (ed d1 rfl rfl rfl) fun hg => y_not ((ed d0 rfl rfl rfl).1 hg)) (gS rfl (fun A B E G H d0 d1 => rP (y_pick_or (ed d0 rfl rfl rfl) rfl (ed d1 rfl rfl rfl))) (gS rfl (fun A B E G H d0 d1 => rP (y_move (ed d0 rfl rfl rfl))) (gT (Ty.grd (((decide ((sumE l) ≠ (sumE l))) || (!true)) = false) (Ty.int (sumE l))) rfl (by intro A B E G H d0; refine run_guard G rfl rfl (by decide) (ed d0 rfl rfl rfl) (fun hg => ?_); obtain ⟨d3, d4⟩ := Bool.or_eq_false_iff.mp hg; have d3 := of_decide_eq_false d3; exact y_move (kp (H 8 rfl) E (D7.kt q35 rfl))) (gT (Ty.grd (((decide ((sumE l) ≠ (sumE l))) || (!true)) = false) (Ty.int (sumE l))) rfl (by intro A B E G H d0; refine run_guard G rfl rfl (by decide) (ed d0 rfl rfl rfl) (fun hg => ?_); obtain ⟨d5, d6⟩ := Bool.or_eq_false_iff.mp hg; have d5 := of_decide_eq_false d5; exact y_move (kp (H 10 rfl) E q43)) ?_))))))))))))
  refine gT (Ty.grd (((decide ((sumE l) ≠ (sumE l))) || (!true)) = false) (Ty.bool (decide ((sumE l) ≠ (sumE l))))) rfl (by intro A B E G H d0 d1 d2; refine run_guard G rfl rfl (by decide) (ed d2 rfl rfl rfl) (fun hg => ?_); obtain ⟨d7, d8⟩ := Bool.or_eq_false_iff.mp hg; have d7 := of_decide_eq_false d7; exact y_neq ((ed d0 rfl rfl rfl).1 hg) ((ed d1 rfl rfl rfl).1 hg)) (gS rfl (fun A B E G H d0 d1 => rP (y_pick_or (ed d0 rfl rfl rfl) rfl (ed d1 rfl rfl rfl))) (gE ok8 fun a9 s10 ok9 D8 => ?_)); have o5 := OwnP.k0 o4 D8.stp; refine tn ?_
  refine cond_t (D8.dn 13 rfl rfl) (fun c2 => ?_) (fun c2 => ?_)
  ·
   exfalso
   simp at c2
  ·
   obtain ⟨d9, d10⟩ := Bool.or_eq_false_iff.mp c2
   obtain ⟨d11, d12⟩ := Bool.or_eq_false_iff.mp d9
   replace d11 := of_decide_eq_false d11
   replace d10 := of_decide_eq_false d10
   refine wp_skip (tn (wp_seq (wp_seq ?_)))
   refine gI a9 s10 ok9 (gC (Ty.int (0 : Int)) (gE ok9 fun a10 s11 ok10 D9 => ?_)); have o6 := OwnP.k0 o5 D9.stp; refine tn (wp_block ?_)
   refine loop (fun n1 a11 w1 => ∃ (t1 : GW) (j : Nat), t1.w = w1 ∧ FromL [] s0 t1 ∧ Ok 83 [] a11 ∧ At (Ty.nat j) t1 a11 (.tmp 11) ∧ At (Ty.val x1) t1 a11 (.tmp 7) ∧ At (Ty.lst Ty.cx (if sumE l = 0 then rhTo l 8 else [])) t1 a11 (.tmp 9) ∧ At (Ty.int (sumE l)) t1 a11 (.tmp 10) ∧ OwnP t1 40 x1 (List.map Ty.cx (xTab l)) ∧ (j ≤ 8) ∧ n1 = 8 - j) (8 - (0)) ?_ ?_
   ·
    exact ⟨s11, 0, rfl, (((F8.step0 D7.stp).step0 D8.stp).step0 D9.stp), ok10, (cvi (by (first | rfl | omega | (simp_all; done) | (simp_all; omega))) (D9.dn 0 rfl rfl)), (D9.kt (D8.kt (D7.kt q34 rfl) rfl) rfl), (D9.kt (D8.kt (D7.dn 5 rfl rfl) rfl) rfl), (D9.kt (D8.kt q43 rfl) rfl), (cvop (by (rfl)) o6), by omega, rfl⟩
   ·
    rintro n2 a12 w2 ⟨t2, j, rfl, F12, ok11, q52, q53, q54, q55, o7, hj, rfl⟩
    refine wp_seq (wp_seq ?_)
    refine gI a12 t2 ok11 (gM q52 (gS rfl (fun A B E G H d0 => rP (y_lss (ed d0 rfl rfl rfl) rfl)) (gE ok11 fun a13 s12 ok12 D10 => ?_))); have F13 := F12.step0 D10.stp; have o8 := OwnP.k0 o7 D10.stp; refine tn ?_
    refine cond_p (p := (((j : Nat) : Int) < (8 : Int))) (D10.dn 1 rfl rfl) (fun c3 => ?_) (fun c3 => ?_)
    ·
     refine wp_skip (tn (wp_seq (wp_block (wp_seq ?_))))
     refine gI a13 s12 ok12 (gC (Ty.val (Value.complex FloatKind.f64 0 0)) (gE ok12 fun a14 s13 ok13 D11 => ?_)); have q64 := D11.kt (D10.kt q55 rfl) rfl; have o9 := OwnP.k0 o8 D11.stp
     have q66 : At (Ty.cx C0) s13 a14 (.tmp 12) := (cvt (by (rfl)) (cx_of (a := 0) (b := 0) (Nat.le_of_ble_eq_true rfl) (Nat.le_of_ble_eq_true rfl) (Nat.le_of_ble_eq_true rfl) (Nat.le_of_ble_eq_true rfl) (D11.dn 0 rfl rfl)))
     refine tn (wp_seq (wp_seq ?_))
     refine gI a14 s13 ok13 (gM q64 (gS rfl (fun A B E G H d0 => rP (y_eql (ed d0 rfl rfl rfl) rfl)) (gE ok13 fun a15 s14 ok14 D12 => ?_))); have F15 := (F13.step0 D11.stp).step0 D12.stp; have q67 := D12.kt (D11.kt (D10.kt q52 rfl) rfl) rfl; have q68 := D12.kt (D11.kt (D10.kt q53 rfl) rfl) rfl; have q69 := D12.kt (D11.kt (D10.kt q54 rfl) rfl) rfl; have q70 := D12.kt q64 rfl; have q71 := D12.kt q66 rfl; have o10 := OwnP.k0 o9 D12.stp; refine tn ?_
     refine cond_p (p := ((sumE l) = (0 : Int))) (D12.dn 1 rfl rfl) (fun c4 => ?_) (fun c4 => ?_)
     ·
      have hw := tab_yes (j := j) c4 (by omega); obtain ⟨hw, hyl⟩ := hw; have hw1 := congrArg Prod.fst hw; have hw2 := congrArg Prod.snd hw
      refine gI a15 s14 ok14 (gM q69 (gM q67 (gT (Ty.ref [(Ty.cx ((if sumE l = 0 then rhTo l 8 else []).getD j C0))]) rfl (fun A B E G H d0 d1 => rP (y_index1 Try.underlying39 Try.inf35 (ed d0 rfl rfl rfl) (ed d1 rfl rfl rfl) (by omega) (lst_get Ty.cx (if sumE l = 0 then rhTo l 8 else []) C0 j (by omega)))) (gS rfl (fun A B E G H d0 => rP (y_load Try.underlying35 rfl (ed d0 rfl rfl rfl) rfl)) (gB 0 (gE ok14 fun a16 s15 ok15 D13 => ?_)))))); have q73 := D13.kt q67 rfl; have q74 := D13.kt q68 rfl; have o11 := OwnP.k0 o10 D13.stp; have q77 := D13.dn 4 rfl rfl; refine tn (wp_seq ?_)
      refine gI a16 s15 ok15 (gM q73 (gT (Ty.val (ptrAt x1 j)) rfl (fun A B E G H d0 => rP (ownp_index (i := ((j : Nat) : Int)) Try.underlying36 Try.inf35 (OwnP.k0 o11 E) (kp (H 7 rfl) E q74) (ed d0 rfl rfl rfl) (by omega) (by omega))) (gS rfl (fun A B E G H d0 => rP (ownp_load Try.underlying35 rfl (OwnP.k0 o11 E) (ed d0 rfl rfl rfl) (lst_get Ty.cx (xTab l) C0 j (by omega)))) (gT (Ty.flt (((xTab l).getD j C0)).1) rfl (fun A B E G H d0 => rP (y_re (ed d0 rfl rfl rfl))) (gM q77 (gT (Ty.flt (((if sumE l = 0 then rhTo l 8 else []).getD j C0)).1) rfl (fun A B E G H d0 => rP (y_re (ed d0 rfl rfl rfl))) (gS rfl (fun A B E G H d0 d1 => rP (y_call _ Try.func11 rfl rfl my2 (sameFloat_fn ((((xTab l).getD j C0)).1) ((((if sumE l = 0 then rhTo l 8 else []).getD j C0)).1) _ _ _ (ed d0 rfl rfl rfl) (ed d1 rfl rfl rfl) (by first | rfl | assumption)))) (gS rfl (fun A B E G H d0 => rP (y_not (ed d0 rfl rfl rfl))) (gS rfl (fun A B E G H d0 d1 => rP (y_move (ed d0 rfl rfl rfl))) (gS rfl (fun A B E G H d0 => gu G (ed d0 rfl rfl rfl) fun hg => y_move (kp (H 11 rfl) E q73)) (gT (Ty.grd ((!true) = false) (Ty.val (ptrAt x1 j))) rfl (fun A B E G H d0 d1 => gu G (ed d1 rfl rfl rfl) fun hg => ownp_index (i := ((j : Nat) : Int)) Try.underlying36 Try.inf35 (OwnP.k0 o11 E) (kp (H 7 rfl) E q74) ((ed d0 rfl rfl rfl).1 hg) (by omega) (by omega)) (gS rfl (fun A B E G H d0 d1 => gu G (ed d1 rfl rfl rfl) fun hg => ownp_load Try.underlying35 rfl (OwnP.k0 o11 E) ((ed d0 rfl rfl rfl).1 hg) (lst_get Ty.cx (xTab l) C0 j (by omega))) (gT (Ty.grd ((!true) = false) (Ty.flt (((xTab l).getD j C0)).2)) rfl (fun A B E G H d0 d1 => gu G (ed d1 rfl rfl rfl) fun hg => y_im ((ed d0 rfl rfl rfl).1 hg)) ?_)))))))))))))
      refine gS rfl (fun A B E G H d0 => gu G (ed d0 rfl rfl rfl) fun hg => y_move (kp (H 12 rfl) E q77)) (gT (Ty.grd ((!true) = false) (Ty.flt (((if sumE l = 0 then rhTo l 8 else []).getD j C0)).2)) rfl (fun A B E G H d0 d1 => gu G (ed d1 rfl rfl rfl) fun hg => y_im ((ed d0 rfl rfl rfl).1 hg)) (gS rfl (fun A B E G H d0 d1 d2 d3 => gu G (ed d2 rfl rfl rfl) fun hg => y_call _ Try.func11 rfl rfl my2 (sameFloat_fn ((((xTab l).getD j C0)).2) ((((if sumE l = 0 then rhTo l 8 else []).getD j C0)).2) _ _ _ ((ed d0 rfl rfl rfl).1 hg) ((ed d1 rfl rfl rfl).1 hg) (by first | rfl | assumption))) (gS rfl (fun A B E G H d0 d1 => gu G (ed d1 rfl rfl rfl) fun hg => y_not ((ed d0 rfl rfl rfl).1 hg)) (gS rfl (fun A B E G H d0 d1 => rP (y_pick_or (ed d0 rfl rfl rfl) rfl (ed d1 rfl rfl rfl))) (gE ok15 fun a17 s16 ok16 D14 => ?_))))); have o12 := OwnP.k0 o11 D14.stp; refine tn ?_
      refine cond_t (D14.dn 17 rfl rfl) (fun c5 => ?_) (fun c5 => ?_)
      ·
       exfalso
       simp at c5
      ·
       obtain ⟨d13, d14⟩ := Bool.or_eq_false_iff.mp c5
       refine wp_skip (bn (tn ?_))
       refine gI a17 s16 ok16 (gM (D14.kt q73 rfl) (gT (Ty.int (((j : Nat) : Int) + (1 : Int))) rfl (fun A B E G H d0 => rP (y_add (ed d0 rfl rfl rfl) rfl (w64 (by omega) (by omega)))) (gB 0 (gE ok16 fun a18 s17 ok17 D15 => ?_)))); have o13 := OwnP.k0 o12 D15.stp
       exact tn ⟨8 - ((j+1)), by omega, s17, (j+1), rfl, (((F15.step0 D13.stp).step0 D14.stp).step0 D15.stp), ok17, (cvi (by (first | rfl | omega | (simp_all; done) | (simp_all; omega))) (D15.dn 2 rfl rfl)), (D15.kt (D14.kt q74 rfl) rfl), (D15.kt (D14.kt (D13.kt q69 rfl) rfl) rfl), (D15.kt (D14.kt (D13.kt q70 rfl) rfl) rfl), o13, by omega, rfl⟩
     ·
      have hw := tab_no (j := j) c4 (by omega); have hw1 := congrArg Prod.fst hw; have hw2 := congrArg Prod.snd hw
      refine wp_skip (tn (wp_seq ?_))
      refine gI a15 s14 ok14 (gM q67 (gT (Ty.val (ptrAt x1 j)) rfl (fun A B E G H d0 => rP (ownp_index (i := ((j : Nat) : Int)) Try.underlying36 Try.inf35 (OwnP.k0 o10 E) (kp (H 7 rfl) E q68) (ed d0 rfl rfl rfl) (by omega) (by omega))) (gS rfl (fun A B E G H d0 => rP (ownp_load Try.underlying35 rfl (OwnP.k0 o10 E) (ed d0 rfl rfl rfl) (lst_get Ty.cx (xTab l) C0 j (by omega)))) (gT (Ty.flt (((xTab l).getD j C0)).1) rfl (fun A B E G H d0 => rP (y_re (ed d0 rfl rfl rfl))) (gM q71 (gT (Ty.flt (C0).1) rfl (fun A B E G H d0 => rP (y_re (ed d0 rfl rfl rfl))) (gS rfl (fun A B E G H d0 d1 => rP (y_call _ Try.func11 rfl rfl my2 (sameFloat_fn ((((xTab l).getD j C0)).1) ((C0).1) _ _ _ (ed d0 rfl rfl rfl) (ed d1 rfl rfl rfl) (by first | rfl | assumption)))) (gS rfl (fun A B E G H d0 => rP (y_not (ed d0 rfl rfl rfl))) (gS rfl (fun A B E G H d0 d1 => rP (y_move (ed d0 rfl rfl rfl))) (gS rfl (fun A B E G H d0 => gu G (ed d0 rfl rfl rfl) fun hg => y_move (kp (H 11 rfl) E q67)) (gT (Ty.grd ((!true) = false) (Ty.val (ptrAt x1 j))) rfl (fun A B E G H d0 d1 => gu G (ed d1 rfl rfl rfl) fun hg => ownp_index (i := ((j : Nat) : Int)) Try.underlying36 Try.inf35 (OwnP.k0 o10 E) (kp (H 7 rfl) E q68) ((ed d0 rfl rfl rfl).1 hg) (by omega) (by omega)) (gS rfl (fun A B E G H d0 d1 => gu G (ed d1 rfl rfl rfl) fun hg => ownp_load Try.underlying35 rfl (OwnP.k0 o10 E) ((ed d0 rfl rfl rfl).1 hg) (lst_get Ty.cx (xTab l) C0 j (by omega))) (gT (Ty.grd ((!true) = false) (Ty.flt (((xTab l).getD j C0)).2)) rfl (fun A B E G H d0 d1 => gu G (ed d1 rfl rfl rfl) fun hg => y_im ((ed d0 rfl rfl rfl).1 hg)) (gS rfl (fun A B E G H d0 => gu G (ed d0 rfl rfl rfl) fun hg => y_move (kp (H 12 rfl) E q71)) ?_))))))))))))))
      refine gT (Ty.grd ((!true) = false) (Ty.flt (C0).2)) rfl (fun A B E G H d0 d1 => gu G (ed d1 rfl rfl rfl) fun hg => y_im ((ed d0 rfl rfl rfl).1 hg)) (gS rfl (fun A B E G H d0 d1 d2 d3 => gu G (ed d2 rfl rfl rfl) fun hg => y_call _ Try.func11 rfl rfl my2 (sameFloat_fn ((((xTab l).getD j C0)).2) ((C0).2) _ _ _ ((ed d0 rfl rfl rfl).1 hg) ((ed d1 rfl rfl rfl).1 hg) (by first | rfl | assumption))) (gS rfl (fun A B E G H d0 d1 => gu G (ed d1 rfl rfl rfl) fun hg => y_not ((ed d0 rfl rfl rfl).1 hg)) (gS rfl (fun A B E G H d0 d1 => rP (y_pick_or (ed d0 rfl rfl rfl) rfl (ed d1 rfl rfl rfl))) (gE ok14 fun a19 s18 ok18 D16 => ?_)))); have o14 := OwnP.k0 o10 D16.stp; refine tn ?_
      refine cond_t (D16.dn 17 rfl rfl) (fun c6 => ?_) (fun c6 => ?_)
      ·
       exfalso
       simp at c6
      ·
       obtain ⟨d15, d16⟩ := Bool.or_eq_false_iff.mp c6
       refine wp_skip (bn (tn ?_))
       refine gI a19 s18 ok18 (gM (D16.kt q67 rfl) (gT (Ty.int (((j : Nat) : Int) + (1 : Int))) rfl (fun A B E G H d0 => rP (y_add (ed d0 rfl rfl rfl) rfl (w64 (by omega) (by omega)))) (gB 0 (gE ok18 fun a20 s19 ok19 D17 => ?_)))); have o15 := OwnP.k0 o14 D17.stp
       exact tn ⟨8 - ((j+1)), by omega, s19, (j+1), rfl, ((F15.step0 D16.stp).step0 D17.stp), ok19, (cvi (by (first | rfl | omega | (simp_all; done) | (simp_all; omega))) (D17.dn 2 rfl rfl)), (D17.kt (D16.kt q68 rfl) rfl), (D17.kt (D16.kt q69 rfl) rfl), (D17.kt (D16.kt q70 rfl) rfl), o15, by omega, rfl⟩
    ·
     refine wp_exit (tx (tx (bx (tn (wp_seq ?_)))))
     refine gI a13 s12 ok12 (gC (Ty.bool true) (gE ok12 fun a21 s20 ok20 D18 => ?_)); have o16 := OwnP.k0 o8 D18.stp; refine tn (wp_ret ?_)
     exact retL1 rfl ok20 (F13.step0 D18.stp) (D18.dn 0 rfl rfl)


end Go.Proofs.Ytmeijdkjccfpmaa
