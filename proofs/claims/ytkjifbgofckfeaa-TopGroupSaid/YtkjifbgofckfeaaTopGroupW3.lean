/- The functions that the law TopGroup reaches, each by its contract. Part 3. -/
import Derived.Test.YtkjifbgofckfeaaTopGroupW2
namespace Go.Proofs.Ytkjifbgofckfeaa
open Go.KL

set_option maxHeartbeats 4000000 in
set_option maxRecDepth 100000 in
theorem gSay_fn (gv : Value) (gs : Value) (cs : Value) (n : Nat) (gens : List (List Int)) (w : List Int) (σ : GW) (hlow : Low [41, 43] σ) (v0 v1 : Value) (hv0 : Ty.has (Ty.val gv) σ v0) (hv1 : Ty.has (Ty.lst Ty.int w) σ v1) (ho_gv : OwnP σ 41 gv [(Ty.nat n), (Ty.val gs), (Ty.val cs)]) (ho_gs : Own σ 43 22 1 gs (List.length gens) (List.map Ty.ints gens)) (hn : 1 ≤ n ∧ n ≤ 12) (hG : ∀ x ∈ gens, RowN n x) (hGl : gens.length ≤ 1000000) :
    FnL Try.prog 44 #[v0, v1] σ [41, 43] (fun v τ => (Ty.has (Ty.tup2 (Ty.lst Ty.int (sayR n gens w)) (Ty.int (sayE gens w))) τ v) ∧ (OwnP τ 41 gv [(Ty.nat n), (Ty.val gs), (Ty.val cs)]) ∧ (Own τ 43 22 1 gs (List.length gens) (List.map Ty.ints gens))) := by
 refine fn_introL hlow Try.func44 rfl Try.ntmps44 (Nat.le_of_ble_eq_true rfl) (fun a0 F0 ok0 hargs => ?_)
 have p0 := pB (hargs 0 _ rfl) hv0
 have p1 := pB (hargs 1 _ rfl) hv1
 have b1 := sl_le p1
 clear hargs; refine wp_seq ?_
 refine gI a0 σ ok0 (gC (Ty.val (Value.slice none 0 0)) (gC (Ty.int (0 : Int)) (gE ok0 fun a1 s1 ok1 D1 => ?_))); have q2 := D1.k p1; have o1 := OwnP.k0 ho_gv D1.stp; have o2 := Own.k0 ho_gs D1.stp; refine tn (wp_seq (wp_seq ?_))
 refine gI a1 s1 ok1 (gM q2 (gS rfl (fun A B E H I d0 => rP (y_len Try.underlying22 (eI d0))) (gS rfl (fun A B E H I d0 => rP (y_gtr (eI d0) rfl)) (gE ok1 fun a2 s2 ok2 D2 => ?_)))); have F2 := (F0.step0 D1.stp).step0 D2.stp; have q3 := D2.k (D1.k p0); have o3 := OwnP.k0 o1 D2.stp; have o4 := Own.k0 o2 D2.stp; refine tn ?_
 refine cond_p (p := ((20000 : Int) < (((List.length w) : Nat) : Int))) (D2.m 2 rfl) (fun c1 => ?_) (fun c1 => ?_)
 ·
  obtain ⟨hE, hR⟩ := say_3 (n := n) (G := gens) (w := w) oM
  refine wp_seq ?_
  refine gI a2 s2 ok2 (gC (Ty.val (Value.slice none 0 0)) (gC (Ty.int (3 : Int)) (gE ok2 fun a3 s3 ok3 D3 => ?_))); have o5 := OwnP.k0 o3 D3.stp; have o6 := Own.k0 o4 D3.stp; refine tn (wp_ret (tr ?_))
  exact retL2 rfl ok3 (F2.step0 D3.stp) ⟨(hasT2 (nil_lst (by (rw [hR])) (D3.m 0 rfl)) (cvi (by (rw [hE])) (D3.m 1 rfl))), o5, o6⟩
 ·
  have hw2 : ¬ 20000 < w.length := oM
  refine wp_skip (tn (wp_seq ?_))
  refine gI a2 s2 ok2 (gM q3 (gT (Ty.val gv) rfl (fun A B E H I d0 => rP (y_nilp (OwnP.k0 o3 E) (eI d0))) (gT (Ty.val (ptrAt gv 0)) rfl (fun A B E H I d0 => rP (ownp_field Try.fld95_0 Try.inf3 dE (OwnP.k0 o3 E) (eI d0))) (gS rfl (fun A B E H I d0 => rP (ownp_load Try.underlying3 rfl (OwnP.k0 o3 E) (eI d0) rfl)) (gS rfl (fun A B E H I d0 => rP (y_call _ Try.func74 rfl rfl my1 (rounds_fn (n) _ _ (eI d0) oM))) (gS rfl (fun A B E H I d0 => rP (y_move (eI d0))) (gT (Ty.lst Ty.int (roundsL n)) rfl (fun A B E H I d0 => rP (y_ext2_0 (eI d0))) (gT (Ty.int (0 : Int)) rfl (fun A B E H I d0 d1 => rP (y_ext2_1 (eI d0))) (gB 0 (gB 0 (gE ok2 fun a4 s4 ok4 D4 => ?_))))))))))); have o7 := OwnP.k0 o3 D4.stp; have o8 := Own.k0 o4 D4.stp; refine tn (wp_seq (wp_seq ?_))
  refine gI a4 s4 ok4 (gM (D4.k (D2.k q2)) (gS rfl (fun A B E H I d0 => rP (y_len Try.underlying22 (eI d0))) (gT (Ty.int (0 : Int)) rfl (fun A B E H I => rP (y_move rfl)) (gE ok4 fun a5 s5 ok5 D5 => ?_)))); have o9 := OwnP.k0 o7 D5.stp; have o10 := Own.k0 o8 D5.stp; refine tn (wp_block ?_)
  refine loop (fun n1 a6 w1 => ∃ (t1 : GW) (j : Nat), t1.w = w1 ∧ FromL [41, 43] σ t1 ∧ Ok 55 [] a6 ∧ At (Ty.nat j) t1 a6 (.tmp 23) ∧ At (Ty.lst Ty.int (sayT n gens w j)) t1 a6 (.tmp 6) ∧ At (Ty.val gv) t1 a6 (.tmp 0) ∧ At (Ty.lst Ty.int w) t1 a6 (.tmp 21) ∧ At (Ty.nat (List.length w)) t1 a6 (.tmp 22) ∧ OwnP t1 41 gv [(Ty.nat n), (Ty.val gs), (Ty.val cs)] ∧ Own t1 43 22 1 gs (List.length gens) (List.map Ty.ints gens) ∧ (j ≤ w.length) ∧ (badW gens w j = false) ∧ n1 = w.length - j) (w.length - (0)) ?_ ?_
  ·
   exact ⟨s5, 0, rfl, ((F2.step0 D4.stp).step0 D5.stp), ok5, (cJ (D5.m 2 rfl)), (cvt (by (rfl)) (D5.k (D4.m 8 rfl))), (D5.k (D4.k q3)), (D5.m 0 rfl), (D5.m 1 rfl), o9, o10, by omega, rfl, rfl⟩
  ·
   rintro n2 a7 w2 ⟨t2, j, rfl, F6, ok6, q16, q17, q18, q19, q20, o11, o12, hj, hB, rfl⟩
   refine wp_seq ?_
   refine gI a7 t2 ok6 (gS rfl (fun A B E H I => rP (y_lss (kp (I 23 rfl) E q16) (kp (I 22 rfl) E q20))) (gE ok6 fun a8 s6 ok7 D6 => ?_)); have F7 := F6.step0 D6.stp; have q21 := D6.k q16; have q22 := D6.k q17; have q24 := D6.k q19; have o13 := OwnP.k0 o11 D6.stp; have o14 := Own.k0 o12 D6.stp; refine tn (wp_seq ?_)
   refine cond_p (p := (((j : Nat) : Int) < (((List.length w) : Nat) : Int))) (D6.m 0 rfl) (fun c2 => ?_) (fun c2 => ?_)
   ·
    have hsr := say_row hn hG hB; have hsl := hsr.len
    refine wp_skip (tn (wp_seq (wp_block (wp_seq ?_))))
    refine gI a8 s6 ok7 (gT (Ty.ref [(Ty.int (w.getD j 0))]) rfl (fun A B E H I => rP (y_index1 Try.underlying22 Try.inf3 (kp (I 21 rfl) E q24) (kp (I 23 rfl) E q21) oM (lst_get Ty.int w 0 j oM))) (gS rfl (fun A B E H I d0 => rP (y_load Try.underlying3 rfl (eI d0) rfl)) (gB 0 (gE ok7 fun a9 s7 ok8 D7 => ?_)))); have q29 := D7.k (D6.k q18); have o15 := OwnP.k0 o13 D7.stp; have o16 := Own.k0 o14 D7.stp; have q32 := D7.m 2 rfl; refine tn (wp_seq (wp_seq ?_))
    refine gI a9 s7 ok8 (gM q32 (gS rfl (fun A B E H I d0 => rP (y_eql (eI d0) rfl)) (gS rfl (fun A B E H I d0 => rP (y_move (eI d0))) (gS rfl (fun A B E H I d0 => gu H (eI d0) fun hg => y_move (kp (I 9 rfl) E q32)) (gS rfl (fun A B E H I d0 => gu H (eI d0) fun hg => y_move (kp (I 0 rfl) E q29)) (gT (Ty.grd ((decide ((w.getD j 0) = (0 : Int))) = false) (Ty.val gv)) rfl (fun A B E H I d0 d1 => gu H (eI d1) fun hg => y_nilp (OwnP.k0 o15 E) ((ef d0 rfl).1 hg)) (gT (Ty.grd ((decide ((w.getD j 0) = (0 : Int))) = false) (Ty.val (ptrAt gv 1))) rfl (fun A B E H I d0 d1 => guf H (eI d1) fun hg hp => ownp_field Try.fld95_1 Try.inf24 dE (OwnP.k0 o15 E) ((ef d0 rfl).1 hg)) (gS rfl (fun A B E H I d0 d1 => gu H (eI d1) fun hg => ownp_load Try.underlying24 rfl (OwnP.k0 o15 E) ((ef d0 rfl).1 hg) rfl) (gT (Ty.grd ((decide ((w.getD j 0) = (0 : Int))) = false) (Ty.nat (List.length gens))) rfl (fun A B E H I d0 d1 => gu H (eI d1) fun hg => own_len Try.underlying24 (al (R := (Pr.own 43 22 1 (List.length gens) (List.map Ty.ints gens))) ((ef d0 rfl).1 hg) (Own.k0 o16 E))) (gS rfl (fun A B E H I d0 d1 d2 => gu H (eI d2) fun hg => y_gtr ((ef d0 rfl).1 hg) ((ef d1 rfl).1 hg)) (gS rfl (fun A B E H I d0 d1 => rP (y_pick_or (eI d0) rfl (eI d1))) (gS rfl (fun A B E H I d0 d1 => rP (y_move (eI d0))) ?_))))))))))))
    refine gT (Ty.grd (((decide ((w.getD j 0) = (0 : Int))) || (decide ((((List.length gens) : Nat) : Int) < (w.getD j 0)))) = false) (Ty.int (w.getD j 0))) rfl (by intro A B E H I d0; refine run_guard H rfl rfl dE (eI d0) (fun hg => ?_); obtain ⟨d1, d2⟩ := Bool.or_eq_false_iff.mp hg; have d1 := of_decide_eq_false d1; have d2 := of_decide_eq_false d2; exact y_move (kp (I 9 rfl) E q32)) (gT (Ty.grd (((decide ((w.getD j 0) = (0 : Int))) || (decide ((((List.length gens) : Nat) : Int) < (w.getD j 0)))) = false) (Ty.val gv)) rfl (by intro A B E H I d0; refine run_guard H rfl rfl dE (eI d0) (fun hg => ?_); obtain ⟨d3, d4⟩ := Bool.or_eq_false_iff.mp hg; have d3 := of_decide_eq_false d3; have d4 := of_decide_eq_false d4; exact y_move (kp (I 0 rfl) E q29)) (gT (Ty.grd (((decide ((w.getD j 0) = (0 : Int))) || (decide ((((List.length gens) : Nat) : Int) < (w.getD j 0)))) = false) (Ty.val gv)) rfl (by intro A B E H I d0 d1; refine run_guard H rfl rfl dE (eI d1) (fun hg => ?_); obtain ⟨d5, d6⟩ := Bool.or_eq_false_iff.mp hg; have d5 := of_decide_eq_false d5; have d6 := of_decide_eq_false d6; exact y_nilp (OwnP.k0 o15 E) ((ef d0 rfl).1 hg)) (gT (Ty.grd (((decide ((w.getD j 0) = (0 : Int))) || (decide ((((List.length gens) : Nat) : Int) < (w.getD j 0)))) = false) (Ty.val (ptrAt gv 1))) rfl (by intro A B E H I d0 d1; refine run_guard H rfl rfl dE (eI d1) (fun hg => ?_); obtain ⟨d7, d8⟩ := Bool.or_eq_false_iff.mp hg; have d7 := of_decide_eq_false d7; have d8 := of_decide_eq_false d8; exact ownp_field Try.fld95_1 Try.inf24 dE (OwnP.k0 o15 E) ((ef d0 rfl).1 hg)) ?_)))
    refine gT (Ty.grd (((decide ((w.getD j 0) = (0 : Int))) || (decide ((((List.length gens) : Nat) : Int) < (w.getD j 0)))) = false) (Ty.val gs)) rfl (by intro A B E H I d0 d1; refine run_guard H rfl rfl dE (eI d1) (fun hg => ?_); obtain ⟨d9, d10⟩ := Bool.or_eq_false_iff.mp hg; have d9 := of_decide_eq_false d9; have d10 := of_decide_eq_false d10; exact ownp_load Try.underlying24 rfl (OwnP.k0 o15 E) ((ef d0 rfl).1 hg) rfl) (gT (Ty.grd (((decide ((w.getD j 0) = (0 : Int))) || (decide ((((List.length gens) : Nat) : Int) < (w.getD j 0)))) = false) (Ty.nat (List.length gens))) rfl (by intro A B E H I d0 d1; refine run_guard H rfl rfl dE (eI d1) (fun hg => ?_); obtain ⟨d11, d12⟩ := Bool.or_eq_false_iff.mp hg; have d11 := of_decide_eq_false d11; have d12 := of_decide_eq_false d12; exact own_len Try.underlying24 (al (R := (Pr.own 43 22 1 (List.length gens) (List.map Ty.ints gens))) ((ef d0 rfl).1 hg) (Own.k0 o16 E))) (gT (Ty.grd (((decide ((w.getD j 0) = (0 : Int))) || (decide ((((List.length gens) : Nat) : Int) < (w.getD j 0)))) = false) (Ty.int (-(((List.length gens) : Nat) : Int)))) rfl (by intro A B E H I d0 d1; refine run_guard H rfl rfl dE (eI d1) (fun hg => ?_); obtain ⟨d13, d14⟩ := Bool.or_eq_false_iff.mp hg; have d13 := of_decide_eq_false d13; have d14 := of_decide_eq_false d14; exact y_neg ((ef d0 rfl).1 hg) wX) (gT (Ty.grd (((decide ((w.getD j 0) = (0 : Int))) || (decide ((((List.length gens) : Nat) : Int) < (w.getD j 0)))) = false) (Ty.bool (decide ((w.getD j 0) < (-(((List.length gens) : Nat) : Int)))))) rfl (by intro A B E H I d0 d1 d2; refine run_guard H rfl rfl dE (eI d2) (fun hg => ?_); obtain ⟨d15, d16⟩ := Bool.or_eq_false_iff.mp hg; have d15 := of_decide_eq_false d15; have d16 := of_decide_eq_false d16; exact y_lss ((ef d0 rfl).1 hg) ((ef d1 rfl).1 hg)) ?_)))
    refine gS rfl (fun A B E H I d0 d1 => rP (y_pick_or (eI d0) rfl (eI d1))) (gE ok8 fun a10 s8 ok9 D8 => ?_); have F9 := (F7.step0 D7.stp).step0 D8.stp; have q34 := D8.k (D7.k q22); have q35 := D8.k q29; have o17 := OwnP.k0 o15 D8.stp; have o18 := Own.k0 o16 D8.stp; refine tn ?_
    refine cond_t (D8.m 20 rfl) (fun c3 => ?_) (fun c3 => ?_)
    ·
     simp only [Bool.or_eq_true, decide_eq_true_eq] at c3; obtain ⟨hE, hR⟩ := say_12 (n := n) (G := gens) (w := w) hw2 (badW_yes (G := gens) (show j < w.length by omega) oM)
     refine wp_seq ?_
     refine gI a10 s8 ok9 (gC (Ty.val (Value.slice none 0 0)) (gC (Ty.int (12 : Int)) (gE ok9 fun a11 s9 ok10 D9 => ?_))); have o19 := OwnP.k0 o17 D9.stp; have o20 := Own.k0 o18 D9.stp; refine tn (wp_ret (tr (br (tr (tr (br (tr ?_)))))))
     exact retL2 rfl ok10 (F9.step0 D9.stp) ⟨(hasT2 (nil_lst (by (rw [hR])) (D9.m 0 rfl)) (cvi (by (rw [hE])) (D9.m 1 rfl))), o19, o20⟩
    ·
     obtain ⟨d17, d18⟩ := Bool.or_eq_false_iff.mp c3
     obtain ⟨d19, d20⟩ := Bool.or_eq_false_iff.mp d17
     replace d19 := of_decide_eq_false d19
     replace d20 := of_decide_eq_false d20
     replace d18 := of_decide_eq_false d18
     simp only [Bool.or_eq_false_iff, decide_eq_false_iff_not] at c3; have hok : ¬ (w.getD j 0 = 0 ∨ (gens.length : Int) < w.getD j 0 ∨ w.getD j 0 < -(gens.length : Int)) := oM; have hB2 := badW_succ hB hok; have hgr := gen_row (n := n) hG (k := w.getD j 0) oM oM oM; have hgb := hgr.bds hsl; have hgl := hgr.len; have hsrr := hsr.row; have hgrr := hgr.row
     refine wp_skip (tn ?_)
     refine gI a10 s8 ok9 (gM q34 (gM q35 (gM (D8.k q32) (gE2 ok9 fun a12 s10 ok11 D10 => ?_)))); have o21 := OwnP.k0 o17 D10.stp; have o22 := Own.k0 o18 D10.stp
     refine tL ok11 (y_callL (L := [41, 43]) [(41, 41), (43, 43)] [(41, 41), (43, 43)] #[a12.eval (.tmp 49), a12.eval (.tmp 50)] rfl dE Try.func75 rfl rfl my2 (gGen_fn (gv) (gs) (cs) (n) (gens) ((w.getD j 0)) _ lW _ _ (uL (D10.m 1 rfl)) (uL (cvi (σ := s10) oX (D10.m 2 rfl))) (OwnP.ren o21 (GW.ren_lend _ _ dE rfl)) (Own.ren o22 (GW.ren_lend _ _ dE rfl)) oX oX oX oX oX)) fun a13 s11 hs1 ok12 r1 sm1 => ?_
     obtain ⟨t3, ⟨hT1, o23, o24⟩, B1⟩ := r1
     have q56 : At (Ty.lst Ty.int (genL gens ((w.getD j 0)))) s11 a13 (.tmp 51) := Ty.up _ B1.le hT1
     have o25 : OwnP s11 41 gv [(Ty.nat n), (Ty.val gs), (Ty.val cs)] := OwnP.ren o23 (B1.ren dE rfl)
     have o26 : Own s11 43 22 1 gs (List.length gens) (List.map Ty.ints gens) := Own.ren o24 (B1.ren dE rfl)
     refine tL (R := (fun v τ => Pr.has (Ty.pr (Ty.lst Ty.int (byL ((sayT n gens w j)) ((genL gens ((w.getD j 0))))))) τ v)) ok12 (Yld.toL (y_call _ Try.func64 rfl rfl my2 (product_fn ((sayT n gens w j)) ((genL gens ((w.getD j 0)))) _ _ _ (kq hs1 sm1 48 (D10.m 0 rfl)) q56 (by first | assumption | omega) (by first | assumption | omega) (by first | assumption | omega)))) fun a14 s12 hs2 ok13 r2 sm2 => ?_
     have q58 := kq hs2 sm2 6 (kq hs1 sm1 6 (D10.k q34))
     have q62 : At (Ty.lst Ty.int (byL ((sayT n gens w j)) ((genL gens ((w.getD j 0)))))) s12 a14 (.tmp 52) := r2
     clear r2
     refine tL ok13 (Yld.toL (y_as q62)) fun a15 s13 hs3 ok14 r3 sm3 => ?_
     have q67 : At (Ty.lst Ty.int (byL ((sayT n gens w j)) ((genL gens ((w.getD j 0)))))) s13 a15 (.tmp 6) := r3
     clear r3; refine wpList_nil (bn (tn ?_))
     refine gI a15 s13 ok14 (gT (Ty.nat (j + 1)) rfl (fun A B E H I => rP ((y_add (kp (I 23 rfl) E (kq hs3 sm3 23 (kq hs2 sm2 23 (kq hs1 sm1 23 (D10.k (D8.k (D7.k q21))))))) rfl wX).mono (fun τ _ h => cN (σ := τ) h))) (gS rfl (fun A B E H I d0 => rP (y_move (eI d0))) (gE ok14 fun a16 s14 ok15 D11 => ?_))); have o31 := OwnP.k0 (OwnP.kl (OwnP.kl o25 hs2) hs3) D11.stp; have o32 := Own.k0 (Own.kl (Own.kl o26 hs2) hs3) D11.stp
     exact tn ⟨w.length - ((j+1)), by omega, s14, (j+1), rfl, (((((F9.step0 D10.stp).sl hs1).sl hs2).sl hs3).step0 D11.stp), ok15, (cJ (D11.m 1 rfl)), (cvt (by (rfl)) (D11.k q67)), (D11.k (kq hs3 sm3 0 (kq hs2 sm2 0 (kq hs1 sm1 0 (D10.k q35))))), (D11.k (kq hs3 sm3 21 (kq hs2 sm2 21 (kq hs1 sm1 21 (D10.k (D8.k (D7.k q24))))))), (D11.k (kq hs3 sm3 22 (kq hs2 sm2 22 (kq hs1 sm1 22 (D10.k (D8.k (D7.k (D6.k q20)))))))), o31, o32, by omega, hB2, rfl⟩
   ·
    have ej : j = w.length := oM; obtain ⟨hE, hR⟩ := say_0 (n := n) hw2 (ej ▸ hB)
    refine wp_exit (tx (tx (bx (tn (wp_seq ?_)))))
    refine gI a8 s6 ok7 (gM q22 (gB 0 (gC (Ty.int (0 : Int)) (gE ok7 fun a17 s15 ok16 D12 => ?_)))); have o33 := OwnP.k0 o13 D12.stp; have o34 := Own.k0 o14 D12.stp; refine tn (wp_ret ?_)
    exact retL2 rfl ok16 (F7.step0 D12.stp) ⟨(hasT2 (cvt (by (rw [hR, ej])) (D12.m 1 rfl)) (cvi (by (rw [hE])) (D12.m 2 rfl))), o33, o34⟩


set_option maxRecDepth 100000 in
theorem rUndo_fn (r : List Int) (σ : GW) (v0 : Value) (hv0 : Ty.has (Ty.lst Ty.int r) σ v0) (hr : IsRow r) :
    FnC Try.prog 23 #[v0] σ (Ty.lst Ty.int (undoL r)) := by
 have hln := hr.le
 refine fn_intro Try.func23 rfl Try.ntmps23 (Nat.le_of_ble_eq_true rfl) (fun s0 a0 hle F0 ok0 hargs => ?_)
 have p0 := pA hle (hargs 0 _ rfl) hv0
 have b1 := sl_le p0
 clear hargs; refine wp_seq ?_
 refine gI a0 s0 ok0 (gC (Ty.val (Value.slice none 0 0)) (gE ok0 fun a1 s1 ok1 D1 => ?_)); have q1 := D1.k p0; refine tn (wp_seq ?_)
 refine gI a1 s1 ok1 (gM q1 (gS rfl (fun A B E H I d0 => rP (y_len Try.underlying22 (eI d0))) (gR (Pr.own 11 3 1 (List.length r) (List.map Ty.int (List.replicate (List.length r) 0))) rfl (by intro A B E H I d0 d1; have e1 := ed d0 rfl rfl rfl; exact rP ((y_make (k := 11) (T := Ty.int 0) (n := (List.length r)) Try.underlying22 Try.inf3 rfl (fun _ => rfl) e1 e1 oM oM).mono (fun _ _ h => cvo (by simp) (by simp) h))) (gR (Pr.own 11 3 1 (List.length r) (List.map Ty.int (List.replicate (List.length r) 0))) rfl (by intro A B E H I d0 d1 d2 d3; have e2 : (Pr.own 11 3 1 (List.length r) (List.map Ty.int (List.replicate (List.length r) 0))).has B (A.eval (.tmp 7)) := d0 rfl; exact rP (y_assign e2)) (gE ok1 fun a2 s2 ok2 D2 => ?_)))))
 have q3 : (Pr.own 11 3 1 (List.length r) (List.map Ty.int (List.replicate (List.length r) 0))).has s2 (a2.eval (.tmp 3)) := D2.done 3
 refine tn (wp_seq (wp_seq ?_))
 refine gI a2 s2 ok2 (gC (Ty.int (0 : Int)) (gE ok2 fun a3 s3 ok3 D3 => ?_))
 have q5 : (Pr.own 11 3 1 (List.length r) (List.map Ty.int (List.replicate (List.length r) 0))).has s3 (a3.eval (.tmp 3)) := D3.ko q3 rfl
 refine tn (wp_block ?_)
 refine loop (fun n1 a4 w1 => ∃ (t1 : GW) (k : Nat), t1.w = w1 ∧ From s0 t1 ∧ Ok 22 [] a4 ∧ (Pr.own 11 3 1 (List.length (undoTo r k)) (List.map Ty.int (undoTo r k))).has t1 (a4.eval (.tmp 3)) ∧ At (Ty.nat k) t1 a4 (.tmp 4) ∧ At (Ty.lst Ty.int r) t1 a4 (.tmp 0) ∧ (k ≤ r.length) ∧ n1 = r.length - k) (r.length - (0)) ?_ ?_
 ·
  exact ⟨s3, 0, rfl, (((F0.step0 D1.stp).step0 D2.stp).step0 D3.stp), ok3, (cvo (by (simp [undoTo_zero])) (by (simp [undoTo_zero])) q5), (cJ (D3.m 0 rfl)), (D3.k (D2.k q1)), by omega, rfl⟩
 ·
  rintro n2 a5 w2 ⟨t2, k, rfl, F4, ok4, q7, q8, q9, hk, rfl⟩
  have hp := undoTo_len r k
  refine wp_seq (wp_seq ?_)
  refine gI a5 t2 ok4 (gM q8 (gM q9 (gS rfl (fun A B E H I d0 => rP (y_len Try.underlying22 (eI d0))) (gS rfl (fun A B E H I d0 d1 => rP (y_lss (eI d0) (eI d1))) (gE ok4 fun a6 s4 ok5 D4 => ?_))))); have F5 := F4.step0 D4.stp
  have q10 : (Pr.own 11 3 1 (List.length (undoTo r k)) (List.map Ty.int (undoTo r k))).has s4 (a6.eval (.tmp 3)) := D4.ko q7 rfl
  have q11 := D4.k q8; have q12 := D4.k q9; refine tn ?_
  refine cond_p (p := (((k : Nat) : Int) < (((List.length r) : Nat) : Int))) (D4.m 3 rfl) (fun c1 => ?_) (fun c1 => ?_)
  ·
   have hq := hr.at (i := k) oM
   refine wp_skip (tn (wp_seq (wp_block ?_)))
   refine gI a6 s4 ok5 (gT (Ty.val (a6.eval (.tmp 3))) rfl (fun A B E H I => rP (y_move (I 3 rfl))) (gM q12 (gM q11 (gT (Ty.ref [(Ty.int (r.getD k 0))]) rfl (fun A B E H I d0 d1 => rP (y_index1 Try.underlying22 Try.inf3 (eI d0) (eI d1) oM (lst_get Ty.int r 0 k oM))) (gS rfl (fun A B E H I d0 => rP (y_load Try.underlying3 rfl (eI d0) rfl)) (gM q11 (gT (Ty.val (cellPtr (a6.eval (.tmp 3)) ((r.getD k 0)).toNat)) rfl (fun A B E H I d0 d1 d2 d3 d4 d5 d6 d7 => rP (own_index1 (i := (r.getD k 0)) Try.underlying22 Try.inf3 ((Pr.own 11 3 1 (List.length (undoTo r k)) (List.map Ty.int (undoTo r k))).up E q10) (eI d0) (eI d1) oM oM)) (gE2 ok5 fun a7 s5 ok6 D5 => ?_)))))))); have q14 := (Pr.own 11 3 1 (List.length (undoTo r k)) (List.map Ty.int (undoTo r k))).up D5.stp q10
   have q15 : a7.eval (.tmp 3) = a6.eval (.tmp 3) := D5.same 3 rfl
   have q18 := D5.m 5 rfl
   refine tail_step0 (m := 11) (R := (fun _ τ => Own τ 11 3 1 (a6.eval (.tmp 3)) (List.length (undoTo r k)) ((List.map Ty.int (undoTo r k)).set ((r.getD k 0)).toNat (Ty.nat k)))) rfl rfl (m_store Try.inf3 dE q14 (D5.m 6 rfl) (by simp only [List.length_map, List.length_set]; omega) q18 (one_val rfl)) (fun v1 s6 hs1 r1 => ?_)
   have F7 := (F5.step0 D5.stp).step hs1 dE
   have q20 : At (Ty.nat k) s6 a7 (.tmp 4) := kpm hs1 dE rfl (D5.k q11)
   have q21 : At (Ty.lst Ty.int r) s6 a7 (.tmp 0) := kpm hs1 dE rfl (D5.k q12)
   have q22 : At (Ty.nat k) s6 a7 (.tmp 19) := kpm hs1 dE rfl q18
   have q23 : (Pr.own 11 3 1 (List.length ((undoTo r k).set ((r.getD k 0)).toNat ((k : Nat) : Int))) (List.map Ty.int ((undoTo r k).set ((r.getD k 0)).toNat ((k : Nat) : Int)))).has s6 (a6.eval (.tmp 3)) := (cvo (by simp) (by simp) r1)
   refine wpList_nil ?_
   have q24 : (Pr.own 11 3 1 (List.length ((undoTo r k).set ((r.getD k 0)).toNat ((k : Nat) : Int))) (List.map Ty.int ((undoTo r k).set ((r.getD k 0)).toNat ((k : Nat) : Int)))).has s6 (a7.eval (.tmp 3)) := al q15 q23
   refine bn (tn ?_)
   refine gI a7 s6 ok6 (gM q20 (gT (Ty.int (((k : Nat) : Int) + (1 : Int))) rfl (fun A B E H I d0 => rP (y_add (eI d0) rfl wX)) (gB 0 (gE ok6 fun a9 s7 ok8 D6 => ?_))))
   have q25 : (Pr.own 11 3 1 (List.length ((undoTo r k).set ((r.getD k 0)).toNat ((k : Nat) : Int))) (List.map Ty.int ((undoTo r k).set ((r.getD k 0)).toNat ((k : Nat) : Int)))).has s7 (a9.eval (.tmp 3)) := D6.ko q24 rfl
   exact tn ⟨r.length - ((k+1)), by omega, s7, (k+1), rfl, (F7.step0 D6.stp), ok8, (cvo (by (rw [undoTo_step r k hr oM])) (by (rw [undoTo_step r k hr oM])) q25), (cJ (D6.m 2 rfl)), (D6.k q21), by omega, rfl⟩
  ·
   refine wp_exit (tx (tx (bx (tn (wp_seq ?_)))))
   refine gI a6 s4 ok5 (gT (Ty.val (a6.eval (.tmp 3))) rfl (fun A B E H I => rP (y_move (I 3 rfl))) (gB 0 (gE ok5 fun a10 s8 ok9 D7 => ?_)))
   have q28 : (Pr.own 11 3 1 (List.length (undoTo r k)) (List.map Ty.int (undoTo r k))).has s8 (a10.eval (.tmp 2)) := al (show _ = _ from D7.done 1) ((Pr.own 11 3 1 (List.length (undoTo r k)) (List.map Ty.int (undoTo r k))).up D7.stp q10)
   refine tn (wp_ret ?_)
   obtain ⟨t3, e1, h1, q29⟩ := Own.seal q28 dE
   rw [← e1]
   have F10 := (F5.step0 D7.stp).step h1 dE
   exact ret1 rfl ok9 F10 (cvt (by (obtain rfl : k = r.length := oM; rw [undoTo_all r hr])) q29)


set_option maxRecDepth 100000 in
theorem rBy_fn (a : List Int) (b : List Int) (σ : GW) (v0 v1 : Value) (hv0 : Ty.has (Ty.lst Ty.int a) σ v0) (hv1 : Ty.has (Ty.lst Ty.int b) σ v1) (hbd : ∀ i, i < b.length → 0 ≤ b.getD i 0 ∧ b.getD i 0 < a.length) (E : b.length ≤ 1000000) :
    FnC Try.prog 22 #[v0, v1] σ (Ty.lst Ty.int (byL a b)) := by
 refine fn_intro Try.func22 rfl Try.ntmps22 (Nat.le_of_ble_eq_true rfl) (fun s0 a0 hle F0 ok0 hargs => ?_)
 have p0 := pA hle (hargs 0 _ rfl) hv0
 have b1 := sl_le p0
 have p1 := pA hle (hargs 1 _ rfl) hv1
 have b2 := sl_le p1
 clear hargs; refine wp_seq ?_
 refine gI a0 s0 ok0 (gC (Ty.val (Value.slice none 0 0)) (gE ok0 fun a1 s1 ok1 D1 => ?_)); refine tn (wp_seq ?_)
 refine gI a1 s1 ok1 (gC (Ty.val (Value.slice none 0 0)) (gE ok1 fun a2 s2 ok2 D2 => ?_)); refine tn (wp_seq (wp_seq ?_))
 refine gI a2 s2 ok2 (gC (Ty.int (0 : Int)) (gE ok2 fun a3 s3 ok3 D3 => ?_)); refine tn (wp_block ?_)
 refine loop (fun n1 a4 w1 => ∃ (t1 : GW) (k : Nat), t1.w = w1 ∧ From s0 t1 ∧ Ok 24 [] a4 ∧ (Pr.own 2 3 1 (List.length (byL a (b.take k))) (List.map Ty.int (byL a (b.take k)))).has t1 (a4.eval (.tmp 5)) ∧ At (Ty.nat k) t1 a4 (.tmp 6) ∧ At (Ty.lst Ty.int a) t1 a4 (.tmp 0) ∧ At (Ty.lst Ty.int b) t1 a4 (.tmp 1) ∧ (k ≤ b.length) ∧ n1 = b.length - k) (b.length - (0)) ?_ ?_
 ·
  exact ⟨s3, 0, rfl, (((F0.step0 D1.stp).step0 D2.stp).step0 D3.stp), ok3, (by have e : a3.eval (.tmp 5) = _ := (D3.k (D2.m 0 rfl)); rw [e]; exact Own.nil _ _ _ _), (cJ (D3.m 0 rfl)), (D3.k (D2.k (D1.k p0))), (D3.k (D2.k (D1.k p1))), by omega, rfl⟩
 ·
  rintro n2 a5 w2 ⟨t2, k, rfl, F4, ok4, q10, q11, q12, q13, hk, rfl⟩
  have hp := byL_take_len a b k
  refine wp_seq (wp_seq ?_)
  refine gI a5 t2 ok4 (gM q11 (gM q13 (gS rfl (fun A B E H I d0 => rP (y_len Try.underlying22 (eI d0))) (gS rfl (fun A B E H I d0 d1 => rP (y_lss (eI d0) (eI d1))) (gE ok4 fun a6 s4 ok5 D4 => ?_))))); have F5 := F4.step0 D4.stp
  have q14 : (Pr.own 2 3 1 (List.length (byL a (b.take k))) (List.map Ty.int (byL a (b.take k)))).has s4 (a6.eval (.tmp 5)) := D4.ko q10 rfl
  have q15 := D4.k q11; have q16 := D4.k q12; have q17 := D4.k q13; refine tn ?_
  refine cond_p (p := (((k : Nat) : Int) < (((List.length b) : Nat) : Int))) (D4.m 3 rfl) (fun c1 => ?_) (fun c1 => ?_)
  ·
   have hq := hbd k oM
   refine wp_skip (tn (wp_seq (wp_block ?_)))
   refine gI a6 s4 ok5 (gT (Ty.val (a6.eval (.tmp 5))) rfl (fun A B E H I => rP (y_move (I 5 rfl))) (gM q16 (gM q17 (gM q15 (gT (Ty.ref [(Ty.int (b.getD k 0))]) rfl (fun A B E H I d0 d1 => rP (y_index1 Try.underlying22 Try.inf3 (eI d0) (eI d1) oM (lst_get Ty.int b 0 k oM))) (gS rfl (fun A B E H I d0 => rP (y_load Try.underlying3 rfl (eI d0) rfl)) (gT (Ty.ref [(Ty.int (a.getD ((b.getD k 0)).toNat 0))]) rfl (fun A B E H I d0 d1 => rP (y_index1 Try.underlying22 Try.inf3 (eI d0) (eI d1) oM (lst_get Ty.int a 0 ((b.getD k 0)).toNat oM))) (gS rfl (fun A B E H I d0 => rP (y_load Try.underlying3 rfl (eI d0) rfl)) (gT (Ty.sl 1 1 [(Ty.int (a.getD ((b.getD k 0)).toNat 0))]) rfl (fun A B E H I d0 => rP (y_build1o Try.underlying22 Try.inf3 rfl (one_val rfl) (eI d0))) (gE2 ok5 fun a7 s5 ok6 D5 => ?_)))))))))); have q19 := (Pr.own 2 3 1 (List.length (byL a (b.take k))) (List.map Ty.int (byL a (b.take k)))).up D5.stp q14
   have q20 : a7.eval (.tmp 5) = a6.eval (.tmp 5) := D5.same 5 rfl
   have q25 := D5.m 8 rfl
   refine tail_step (m := 2) (R := (fun v τ => Own τ 2 3 1 v ((List.length (byL a (b.take k))) + 1) ((List.map Ty.int (byL a (b.take k))) ++ [(Ty.int (a.getD ((b.getD k 0)).toNat 0))]))) rfl rfl dE ok6 (m_append Try.underlying22 Try.inf3 dE rfl dE (al (D5.m 0 rfl) q19) q25 (by intro U hU; simp at hU;  subst hU; exact one_val rfl) oM oM) (fun a8 s6 hs1 ok7 r1 sm1 => ?_)
   have F7 := (F5.step0 D5.stp).step hs1 dE
   have q26 : At (Ty.nat k) s6 a8 (.tmp 6) := kpm hs1 dE (sm1 6 dE) (D5.k q15)
   have q27 : At (Ty.lst Ty.int a) s6 a8 (.tmp 0) := kpm hs1 dE (sm1 0 dE) (D5.k q16)
   have q28 : At (Ty.lst Ty.int b) s6 a8 (.tmp 1) := kpm hs1 dE (sm1 1 dE) (D5.k q17)
   have q29 : At (Ty.sl 1 1 [(Ty.int (a.getD ((b.getD k 0)).toNat 0))]) s6 a8 (.tmp 21) := kpm hs1 dE (sm1 21 dE) q25
   have q30 : (Pr.own 2 3 1 (List.length ((byL a (b.take k)) ++ [(a.getD ((b.getD k 0)).toNat 0)])) (List.map Ty.int ((byL a (b.take k)) ++ [(a.getD ((b.getD k 0)).toNat 0)]))).has s6 (a8.eval (.tmp 22)) := (cvo (by simp) (by first | (rw [List.map_append]; rfl) | simp) r1)
   refine tail_step (m := 0) (R := (fun v τ => Pr.has (Pr.own 2 3 1 (List.length ((byL a (b.take k)) ++ [(a.getD ((b.getD k 0)).toNat 0)])) (List.map Ty.int ((byL a (b.take k)) ++ [(a.getD ((b.getD k 0)).toNat 0)]))) τ v)) rfl rfl dE ok7 (Yld.toM (y_assign q30)) (fun a9 s7 hs2 ok8 r2 sm2 => ?_)
   have F8 := F7.step hs2 dE
   have q31 : At (Ty.nat k) s7 a9 (.tmp 6) := kpm hs2 dE (sm2 6 dE) q26
   have q32 : At (Ty.lst Ty.int a) s7 a9 (.tmp 0) := kpm hs2 dE (sm2 0 dE) q27
   have q33 : At (Ty.lst Ty.int b) s7 a9 (.tmp 1) := kpm hs2 dE (sm2 1 dE) q28
   have q34 : At (Ty.sl 1 1 [(Ty.int (a.getD ((b.getD k 0)).toNat 0))]) s7 a9 (.tmp 21) := kpm hs2 dE (sm2 21 dE) q29
   have q35 : (Pr.own 2 3 1 (List.length ((byL a (b.take k)) ++ [(a.getD ((b.getD k 0)).toNat 0)])) (List.map Ty.int ((byL a (b.take k)) ++ [(a.getD ((b.getD k 0)).toNat 0)]))).has s7 (a9.eval (.tmp 22)) := kpmo hs2 dE (.inl rfl) (sm2 22 dE) q30
   have q36 : (Pr.own 2 3 1 (List.length ((byL a (b.take k)) ++ [(a.getD ((b.getD k 0)).toNat 0)])) (List.map Ty.int ((byL a (b.take k)) ++ [(a.getD ((b.getD k 0)).toNat 0)]))).has s7 (a9.eval (.tmp 5)) := r2
   refine wpList_nil (bn (tn ?_))
   refine gI a9 s7 ok8 (gM q31 (gT (Ty.int (((k : Nat) : Int) + (1 : Int))) rfl (fun A B E H I d0 => rP (y_add (eI d0) rfl wX)) (gB 0 (gE ok8 fun a10 s8 ok9 D6 => ?_))))
   have q39 : (Pr.own 2 3 1 (List.length ((byL a (b.take k)) ++ [(a.getD ((b.getD k 0)).toNat 0)])) (List.map Ty.int ((byL a (b.take k)) ++ [(a.getD ((b.getD k 0)).toNat 0)]))).has s8 (a10.eval (.tmp 5)) := D6.ko q36 rfl
   exact tn ⟨b.length - ((k+1)), by omega, s8, (k+1), rfl, (F8.step0 D6.stp), ok9, (cvo (by (rw [byL_snoc a b k oM])) (by (rw [byL_snoc a b k oM])) q39), (cJ (D6.m 2 rfl)), (D6.k q32), (D6.k q33), by omega, rfl⟩
  ·
   refine wp_exit (tx (tx (bx (tn (wp_seq ?_)))))
   refine gI a6 s4 ok5 (gT (Ty.val (a6.eval (.tmp 5))) rfl (fun A B E H I => rP (y_move (I 5 rfl))) (gB 0 (gE ok5 fun a11 s9 ok10 D7 => ?_)))
   have q41 : (Pr.own 2 3 1 (List.length (byL a (b.take k))) (List.map Ty.int (byL a (b.take k)))).has s9 (a11.eval (.tmp 4)) := al (show _ = _ from D7.done 1) ((Pr.own 2 3 1 (List.length (byL a (b.take k))) (List.map Ty.int (byL a (b.take k)))).up D7.stp q14)
   refine tn (wp_ret ?_)
   obtain ⟨t3, e1, h1, q42⟩ := Own.seal q41 dE
   rw [← e1]
   have F11 := (F5.step0 D7.stp).step h1 dE
   exact ret1 rfl ok10 F11 (cvt (by (obtain rfl : k = b.length := oM; rw [List.take_length])) q42)


set_option maxHeartbeats 4000000 in
set_option maxRecDepth 100000 in
theorem gFits_fn (gv : Value) (gs : Value) (cs : Value) (n : Nat) (r : List Int) (σ : GW) (hlow : Low [41] σ) (v0 v1 : Value) (hv0 : Ty.has (Ty.val gv) σ v0) (hv1 : Ty.has (Ty.lst Ty.int r) σ v1) (ho_gv : OwnP σ 41 gv [(Ty.nat n), (Ty.val gs), (Ty.val cs)])  :
    FnL Try.prog 76 #[v0, v1] σ [41] (fun v τ => (Ty.has (Ty.int (fitsE n r)) τ v) ∧ (OwnP τ 41 gv [(Ty.nat n), (Ty.val gs), (Ty.val cs)])) := by
 refine fn_introL hlow Try.func76 rfl Try.ntmps76 (Nat.le_of_ble_eq_true rfl) (fun a0 F0 ok0 hargs => ?_)
 have p0 := pB (hargs 0 _ rfl) hv0
 have p1 := pB (hargs 1 _ rfl) hv1
 have b1 := sl_le p1
 clear hargs; refine wp_seq ?_
 refine gI a0 σ ok0 (gC (Ty.int (0 : Int)) (gE ok0 fun a1 s1 ok1 D1 => ?_)); have q2 := D1.k p1; have o1 := OwnP.k0 ho_gv D1.stp; refine tn (wp_seq (wp_seq ?_))
 refine gI a1 s1 ok1 (gM q2 (gS rfl (fun A B E H I d0 => rP (y_call _ Try.func72 rfl rfl my1 (rowCheck_fn (r) _ _ (eI d0) ))) (gB 0 (gE ok1 fun a2 s2 ok2 D2 => ?_)))); have o2 := OwnP.k0 o1 D2.stp; have q5 := D2.m 2 rfl; refine tn (wp_seq ?_)
 refine gI a2 s2 ok2 (gM q5 (gS rfl (fun A B E H I d0 => rP (y_neq (eI d0) rfl)) (gE ok2 fun a3 s3 ok3 D3 => ?_))); have F3 := ((F0.step0 D1.stp).step0 D2.stp).step0 D3.stp; have o3 := OwnP.k0 o2 D3.stp; refine tn ?_
 refine cond_p (p := ((rowMay r) ≠ (0 : Int))) (D3.m 1 rfl) (fun c1 => ?_) (fun c1 => ?_)
 ·
  have h1 : rowMay r ≠ 0 := c1
  refine wp_seq ?_
  refine gI a3 s3 ok3 (gM (D3.k q5) (gB 0 (gE ok3 fun a4 s4 ok4 D4 => ?_))); have o4 := OwnP.k0 o3 D4.stp; refine tn (wp_ret (tr ?_))
  exact retL1 rfl ok4 (F3.step0 D4.stp) ⟨(cvi (by (unfold fitsE; rw [if_pos h1])) (D4.m 1 rfl)), o4⟩
 ·
  have h1 : ¬ rowMay r ≠ 0 := c1
  refine wp_skip (tn (wp_seq (wp_seq ?_)))
  refine gI a3 s3 ok3 (gM (D3.k (D2.k q2)) (gS rfl (fun A B E H I d0 => rP (y_len Try.underlying22 (eI d0))) (gM (D3.k (D2.k (D1.k p0))) (gT (Ty.val gv) rfl (fun A B E H I d0 => rP (y_nilp (OwnP.k0 o3 E) (eI d0))) (gT (Ty.val (ptrAt gv 0)) rfl (fun A B E H I d0 => rP (ownp_field Try.fld95_0 Try.inf3 dE (OwnP.k0 o3 E) (eI d0))) (gS rfl (fun A B E H I d0 => rP (ownp_load Try.underlying3 rfl (OwnP.k0 o3 E) (eI d0) rfl)) (gS rfl (fun A B E H I d0 d1 => rP (y_neq (eI d0) (eI d1))) (gE ok3 fun a5 s5 ok5 D5 => ?_)))))))); have F5 := F3.step0 D5.stp; have o5 := OwnP.k0 o3 D5.stp; refine tn ?_
  refine cond_p (p := ((((List.length r) : Nat) : Int) ≠ ((n : Nat) : Int))) (D5.m 6 rfl) (fun c2 => ?_) (fun c2 => ?_)
  ·
   have h2 : r.length ≠ n := oM
   refine wp_seq ?_
   refine gI a5 s5 ok5 (gC (Ty.int (1 : Int)) (gE ok5 fun a6 s6 ok6 D6 => ?_)); have o6 := OwnP.k0 o5 D6.stp; refine tn (wp_ret (tr ?_))
   exact retL1 rfl ok6 (F5.step0 D6.stp) ⟨(cvi (by (unfold fitsE; rw [if_neg h1, if_pos h2])) (D6.m 0 rfl)), o6⟩
  ·
   have h2 : ¬ r.length ≠ n := oM
   refine wp_skip (tn (wp_seq ?_))
   refine gI a5 s5 ok5 (gC (Ty.int (0 : Int)) (gE ok5 fun a7 s7 ok7 D7 => ?_)); have o7 := OwnP.k0 o5 D7.stp; refine tn (wp_ret ?_)
   exact retL1 rfl ok7 (F5.step0 D7.stp) ⟨(cvi (by (unfold fitsE; rw [if_neg h1, if_neg h2])) (D7.m 0 rfl)), o7⟩


set_option maxHeartbeats 4000000 in
set_option maxRecDepth 100000 in
theorem gHas_fn (gv : Value) (gs : Value) (cs : Value) (us : List Value) (n : Nat) (c : Nat → Lev) (r : List Int) (σ : GW) (hlow : Low [41, 42] σ) (v0 v1 : Value) (hv0 : Ty.has (Ty.val gv) σ v0) (hv1 : Ty.has (Ty.lst Ty.int r) σ v1) (ho_gv : OwnP σ 41 gv [(Ty.nat n), (Ty.val gs), (Ty.val cs)]) (ho_cs : ChnU σ 42 22 108 cs n c us) (hw : WC n c) :
    FnL Try.prog 46 #[v0, v1] σ [41, 42] (fun v τ => (Ty.has (Ty.tup2 (Ty.bool (hasB n c r)) (Ty.int (fitsE n r))) τ v) ∧ (OwnP τ 41 gv [(Ty.nat n), (Ty.val gs), (Ty.val cs)]) ∧ (ChnU τ 42 22 108 cs n c us)) := by
 refine fn_introL hlow Try.func46 rfl Try.ntmps46 (Nat.le_of_ble_eq_true rfl) (fun a0 F0 ok0 hargs => ?_)
 have p0 := pB (hargs 0 _ rfl) hv0
 have p1 := pB (hargs 1 _ rfl) hv1
 have b1 := sl_le p1
 clear hargs; refine wp_seq ?_
 refine gI a0 σ ok0 (gC (Ty.bool false) (gC (Ty.int (0 : Int)) (gE ok0 fun a1 s1 ok1 D1 => ?_))); have q1 := D1.k p0; have q2 := D1.k p1; have o1 := OwnP.k0 ho_gv D1.stp; have o2 := ChnU.k0 ho_cs D1.stp; refine tn (wp_seq (wp_seq ?_))
 refine gI a1 s1 ok1 (gM q1 (gM q2 (gE2 ok1 fun a2 s2 ok2 D2 => ?_))); have o3 := OwnP.k0 o1 D2.stp; have o4 := ChnU.k0 o2 D2.stp
 refine tL ok2 (y_callL (L := [41]) [(41, 41)] [(41, 41)] #[a2.eval (.tmp 9), a2.eval (.tmp 10)] rfl dE Try.func76 rfl rfl my2 (gFits_fn (gv) (gs) (cs) (n) (r) _ lW _ _ (uL (D2.m 0 rfl)) (uL (D2.m 1 rfl)) (OwnP.ren o3 (GW.ren_lend _ _ dE rfl)) )) fun a3 s3 hs1 ok3 r1 sm1 => ?_
 obtain ⟨t1, ⟨hT1, o5⟩, B1⟩ := r1
 have q9 : At (Ty.int (fitsE n r)) s3 a3 (.tmp 11) := Ty.up _ B1.le hT1
 have o6 : OwnP s3 41 gv [(Ty.nat n), (Ty.val gs), (Ty.val cs)] := OwnP.ren o5 (B1.ren dE rfl)
 refine tL ok3 (Yld.toL (y_as q9)) fun a4 s4 hs2 ok4 r2 sm2 => ?_
 have q12 : At (Ty.int (fitsE n r)) s4 a4 (.tmp 6) := r2
 clear r2; refine wpList_nil (tn (wp_seq ?_))
 refine gI a4 s4 ok4 (gM q12 (gS rfl (fun A B E H I d0 => rP (y_neq (eI d0) rfl)) (gE ok4 fun a5 s5 ok5 D3 => ?_))); have F5 := ((((F0.step0 D1.stp).step0 D2.stp).sl hs1).sl hs2).step0 D3.stp; have q13 := D3.k (kq hs2 sm2 0 (kq hs1 sm1 0 (D2.k q1))); have o10 := ChnU.k0 (ChnU.kl (ChnU.kl o4 hs1) hs2) D3.stp; have o11 := OwnP.k0 (OwnP.kl o6 hs2) D3.stp; refine tn ?_
 refine cond_p (p := ((fitsE n r) ≠ (0 : Int))) (D3.m 1 rfl) (fun c1 => ?_) (fun c1 => ?_)
 ·
  have h0 : fitsE n r ≠ 0 := c1
  refine wp_seq ?_
  refine gI a5 s5 ok5 (gM (D3.k q12) (gC (Ty.bool false) (gB 0 (gE ok5 fun a6 s6 ok6 D4 => ?_)))); have o12 := ChnU.k0 o10 D4.stp; have o13 := OwnP.k0 o11 D4.stp; refine tn (wp_ret (tr ?_))
  exact retL2 rfl ok6 (F5.step0 D4.stp) ⟨(hasT2 (cvb (by (rw [hasB_no h0])) (D4.m 1 rfl)) (D4.m 2 rfl)), o13, o12⟩
 ·
  have h0 : fitsE n r = 0 := oM; have hr := fits_ok.1 h0; have hf0 : Fx 0 r := (fun i hi => by omega)
  refine wp_skip (tn (wp_seq ?_))
  refine gI a5 s5 ok5 (gM q13 (gM (D3.k (kq hs2 sm2 1 (kq hs1 sm1 1 (D2.k q2)))) (gE2 ok5 fun a7 s7 ok7 D5 => ?_))); have o14 := ChnU.k0 o10 D5.stp; have o15 := OwnP.k0 o11 D5.stp
  refine tL ok7 (y_callL (L := [41, 42]) [(41, 41), (42, 42)] [(41, 41), (42, 42)] #[a7.eval (.tmp 16), a7.eval ((Operand.const (Value.int IntKind.i64 0))), a7.eval (.tmp 17)] rfl dE Try.func77 rfl rfl my3 (sift_fn (gv) (gs) (cs) (us) (n) (0) (c) (r) _ lW _ _ _ (uL (D5.m 0 rfl)) (uL (cvi (σ := s7) oX rfl)) (uL (D5.m 1 rfl)) (OwnP.ren o15 (GW.ren_lend _ _ dE rfl)) (ChnU.ren o14 (GW.ren_lend _ _ dE rfl)) oX oX oX oX)) fun a8 s8 hs3 ok8 r3 sm3 => ?_
  obtain ⟨t2, ⟨hT2, o16, o17⟩, B2⟩ := r3
  have q23 : At (Ty.tup2 (Ty.nat (sftL n c (0) r).1) (Ty.lst Ty.int (sftL n c (0) r).2)) s8 a8 (.tmp 18) := Ty.up _ B2.le hT2
  have o18 : OwnP s8 41 gv [(Ty.nat n), (Ty.val gs), (Ty.val cs)] := OwnP.ren o16 (B2.ren dE rfl)
  have o19 : ChnU s8 42 22 108 cs n c us := ChnU.ren o17 (B2.ren dE rfl)
  refine tL ok8 (Yld.toL (y_mv q23)) fun a9 s9 hs4 ok9 r4 sm4 => ?_
  have q25 : At (Ty.tup2 (Ty.nat (sftL n c (0) r).1) (Ty.lst Ty.int (sftL n c (0) r).2)) s9 a9 (.tmp 15) := r4
  clear r4
  refine tL (R := (fun v τ => Pr.has (Ty.pr (Ty.nat (sftL n c (0) r).1)) τ v)) ok9 (Yld.toL (y_ext2_0 q25)) fun a10 s10 hs5 ok10 r5 sm5 => ?_
  have q28 : At (Ty.nat (sftL n c (0) r).1) s10 a10 (.tmp 19) := r5
  clear r5
  refine tL (R := (fun v τ => Pr.has (Ty.pr (Ty.lst Ty.int (sftL n c (0) r).2)) τ v)) ok10 (Yld.toL (y_ext2_1 (kq hs5 sm5 15 q25))) fun a11 s11 hs6 ok11 r6 sm6 => ?_
  have q31 : At (Ty.lst Ty.int (sftL n c (0) r).2) s11 a11 (.tmp 20) := r6
  clear r6
  refine tL ok11 (Yld.toL (y_as (kq hs6 sm6 19 q28))) fun a12 s12 hs7 ok12 r7 sm7 => ?_
  have q34 : At (Ty.nat (sftL n c (0) r).1) s12 a12 (.tmp 7) := r7
  clear r7
  refine tL ok12 (Yld.toL (y_as (kq hs7 sm7 20 q31))) fun a13 s13 hs8 ok13 r8 sm8 => ?_
  have o28 := OwnP.kl (OwnP.kl (OwnP.kl (OwnP.kl (OwnP.kl o18 hs4) hs5) hs6) hs7) hs8
  have q37 : At (Ty.lst Ty.int (sftL n c (0) r).2) s13 a13 (.tmp 8) := r8
  clear r8; refine wpList_nil (tn (wp_seq ?_))
  refine gI a13 s13 ok13 (gM (kq hs8 sm8 7 q34) (gM (kq hs8 sm8 0 (kq hs7 sm7 0 (kq hs6 sm6 0 (kq hs5 sm5 0 (kq hs4 sm4 0 (kq hs3 sm3 0 (D5.k q13))))))) (gT (Ty.val gv) rfl (fun A B E H I d0 => rP (y_nilp (OwnP.k0 o28 E) (eI d0))) (gT (Ty.val (ptrAt gv 0)) rfl (fun A B E H I d0 => rP (ownp_field Try.fld95_0 Try.inf3 dE (OwnP.k0 o28 E) (eI d0))) (gS rfl (fun A B E H I d0 => rP (ownp_load Try.underlying3 rfl (OwnP.k0 o28 E) (eI d0) rfl)) (gS rfl (fun A B E H I d0 d1 => rP (y_eql (eI d0) (eI d1))) (gB 0 (gC (Ty.int (0 : Int)) (gE ok13 fun a14 s14 ok14 D6 => ?_))))))))); have o30 := OwnP.k0 o28 D6.stp; have o31 := ChnU.k0 (ChnU.kl (ChnU.kl (ChnU.kl (ChnU.kl (ChnU.kl o19 hs4) hs5) hs6) hs7) hs8) D6.stp; refine tn (wp_ret ?_)
  exact retL2 rfl ok14 ((((((((F5.step0 D5.stp).sl hs3).sl hs4).sl hs5).sl hs6).sl hs7).sl hs8).step0 D6.stp) ⟨(hasT2 (cvb (by (rw [hasB_yes h0]; exact decide_eq_decide.2 oM)) (D6.m 6 rfl)) (cvi (by (rw [h0])) (D6.m 7 rfl))), o30, o31⟩


set_option maxHeartbeats 4000000 in
set_option maxRecDepth 100000 in
theorem firstO_fn (n : Nat) (σ : GW) (hlow : Low [] σ) (v0 : Value) (hv0 : Ty.has (Ty.nat n) σ v0)  (hn : n ≤ 1000000) :
    FnL Try.prog 102 #[v0] σ [] (fun v τ => ∃ (z : Value), (Ty.has (Ty.val z) τ v) ∧ (Own τ 42 3 1 z (List.length (roundsL n)) (List.map Ty.int (roundsL n)))) := by
 refine fn_introL hlow Try.func102 rfl Try.ntmps102 (Nat.le_of_ble_eq_true rfl) (fun a0 F0 ok0 hargs => ?_)
 have p0 := pB (hargs 0 _ rfl) hv0
 clear hargs; refine wp_seq ?_
 refine gI a0 σ ok0 (gC (Ty.val (Value.slice none 0 0)) (gE ok0 fun a1 s1 ok1 D1 => ?_)); refine tn (wp_seq ?_)
 refine gI a1 s1 ok1 (gM (D1.k p0) (gR (Pr.own 42 3 1 n (List.map Ty.int (List.replicate n 0))) rfl (by intro A B E H I d0 d1; have e0 := ed d0 rfl rfl rfl; exact rP ((y_make (k := 42) (T := Ty.int 0) (n := n) Try.underlying22 Try.inf3 rfl (fun _ => rfl) e0 e0 oM oM).mono (fun _ _ h => cvo (by simp) (by simp) h))) (gE2 ok1 fun a2 s2 ok2 D2 => ?_)))
 obtain ⟨x1, hx1⟩ : ∃ x, a2.eval (.tmp 6) = x := ⟨_, rfl⟩
 have q2 : At (Ty.val x1) s2 a2 (.tmp 6) := hx1
 have o1 := al2 (R := (Pr.own 42 3 1 n (List.map Ty.int (List.replicate n 0)))) hx1 (D2.done 1 dE)
 refine tL ok2 (Yld.toL (y_as q2)) fun a3 s3 hs1 ok3 r1 sm1 => ?_
 have o2 := Own.kl o1 hs1
 have q3 : At (Ty.val x1) s3 a3 (.tmp 3) := r1
 clear r1; refine wpList_nil (tn (wp_seq (wp_seq ?_)))
 refine gI a3 s3 ok3 (gM q3 (gT (Ty.nat n) rfl (fun A B E H I d0 => rP (own_len Try.underlying22 (al (R := (Pr.own 42 3 1 n (List.map Ty.int (List.replicate n 0)))) (eI d0) (Own.k0 o2 E)))) (gT (Ty.int (0 : Int)) rfl (fun A B E H I => rP (y_move rfl)) (gE ok3 fun a4 s4 ok4 D3 => ?_)))); have o3 := Own.k0 o2 D3.stp; refine tn (wp_block ?_)
 refine loop (fun n1 a5 w1 => ∃ (t1 : GW) (k : Nat) (x3_0 : Value), t1.w = w1 ∧ FromL [] σ t1 ∧ Ok 18 [] a5 ∧ At (Ty.nat k) t1 a5 (.tmp 9) ∧ At (Ty.val x3_0) t1 a5 (.tmp 3) ∧ At (Ty.nat n) t1 a5 (.tmp 8) ∧ Own t1 42 3 1 x3_0 (List.length (firstTo n k)) (List.map Ty.int (firstTo n k)) ∧ (k ≤ n) ∧ n1 = n - k) (n - (0)) ?_ ?_
 ·
  exact ⟨s4, 0, x1, rfl, ((((F0.step0 D1.stp).step0 D2.stp).sl hs1).step0 D3.stp), ok4, (cJ (D3.m 2 rfl)), (D3.k q3), (D3.m 1 rfl), (cvo (by (simp [firstTo_zero])) (by (simp [firstTo_zero])) o3), by omega, rfl⟩
 ·
  rintro n2 a6 w2 ⟨t2, k, x3_0, rfl, F5, ok5, q7, q8, q9, o4, hk, rfl⟩
  have hp := firstTo_len n k
  refine wp_seq ?_
  refine gI a6 t2 ok5 (gS rfl (fun A B E H I => rP (y_lss (kp (I 9 rfl) E q7) (kp (I 8 rfl) E q9))) (gE ok5 fun a7 s5 ok6 D4 => ?_)); have F6 := F5.step0 D4.stp; have q10 := D4.k q7; have q11 := D4.k q8; have o5 := Own.k0 o4 D4.stp; refine tn (wp_seq ?_)
  refine cond_p (p := (((k : Nat) : Int) < ((n : Nat) : Int))) (D4.m 0 rfl) (fun c1 => ?_) (fun c1 => ?_)
  ·
   refine wp_skip (tn (wp_seq (wp_block (wp_seq ?_))))
   refine gI a7 s5 ok6 (gM q10 (gB 0 (gE ok6 fun a8 s6 ok7 D5 => ?_))); have q15 := D5.k q11; have o6 := Own.k0 o5 D5.stp; have q17 := D5.m 1 rfl; refine tn ?_
   refine gI a8 s6 ok7 (gM q15 (gM q17 (gM q17 (gT (Ty.val (cellPtr x3_0 k)) rfl (fun A B E H I d0 d1 d2 d3 d4 => rP (own_index1 (i := ((k : Nat) : Int)) Try.underlying22 Try.inf3 (Own.k0 o6 E) (eI d0) (eI d1) oM oM)) (gE2 ok7 fun a9 s7 ok8 D6 => ?_))))); have o7 := Own.k0 o6 D6.stp
   refine tailL0 (L := [42]) (R := (fun _ τ => Own τ 42 3 1 x3_0 (List.length (firstTo n k)) ((List.map Ty.int (firstTo n k)).set k (Ty.nat k)))) rfl rfl (YldM.toL (m_store Try.inf3 dE o7 (D6.m 3 rfl) (by simp only [List.length_map, List.length_set]; omega) (D6.m 2 rfl) (one_val rfl))) (fun v1 s8 hs2 r2 => ?_)
   have q23 := kpL hs2 dE rfl (D6.k (D5.k q10)); have q24 := kpL hs2 dE rfl (D6.k q15); have q25 := kpL hs2 dE rfl (D6.k (D5.k (D4.k q9)))
   have o8 : Own s8 42 3 1 x3_0 (List.length ((firstTo n k).set k ((k : Nat) : Int))) (List.map Ty.int ((firstTo n k).set k ((k : Nat) : Int))) := (cvo (by simp) (by first | (simp; done) | (rw [List.map_set]; done) | (rw [List.map_set]; rfl)) r2)
   clear r2; refine wpList_nil (bn (tn ?_))
   refine gI a9 s8 ok8 (gT (Ty.nat (k + 1)) rfl (fun A B E H I => rP ((y_add (kp (I 9 rfl) E q23) rfl wX).mono (fun τ _ h => cN (σ := τ) h))) (gS rfl (fun A B E H I d0 => rP (y_move (eI d0))) (gE ok8 fun a10 s9 ok9 D7 => ?_))); have o9 := Own.k0 o8 D7.stp
   exact tn ⟨n - ((k+1)), by omega, s9, (k+1), x3_0, rfl, ((((F6.step0 D5.stp).step0 D6.stp).sl hs2).step0 D7.stp), ok9, (cJ (D7.m 1 rfl)), (D7.k q24), (D7.k q25), (cvo (by (rw [firstTo_step n k])) (by (rw [firstTo_step n k])) o9), by omega, rfl⟩
  ·
   refine wp_exit (tx (tx (bx (tn (wp_seq ?_)))))
   refine gI a7 s5 ok6 (gM q11 (gB 0 (gE ok6 fun a11 s10 ok10 D8 => ?_))); have o10 := Own.k0 o5 D8.stp
   have q30 : At (Ty.val x3_0) s10 a11 (.tmp 2) := D8.done 1
   refine tn (wp_ret ?_)
   exact retL1 rfl ok10 (F6.step0 D8.stp) ⟨x3_0, q30, (cvo (by (obtain rfl : k = n := oM; rw [firstTo_all])) (by (obtain rfl : k = n := oM; rw [firstTo_all])) o10)⟩


set_option maxHeartbeats 4000000 in
set_option maxRecDepth 100000 in
theorem roundsO_fn (n : Nat) (σ : GW) (hlow : Low [] σ) (v0 : Value) (hv0 : Ty.has (Ty.nat n) σ v0)  (hn : 1 ≤ n ∧ n ≤ 12) :
    FnL Try.prog 74 #[v0] σ [] (fun v τ => ∃ (z : Value), (Ty.has (Ty.tup2 (Ty.val z) (Ty.int (0 : Int))) τ v) ∧ (Own τ 42 3 1 z (List.length (roundsL n)) (List.map Ty.int (roundsL n)))) := by
 refine fn_introL hlow Try.func74 rfl Try.ntmps74 (Nat.le_of_ble_eq_true rfl) (fun a0 F0 ok0 hargs => ?_)
 have p0 := pB (hargs 0 _ rfl) hv0
 clear hargs; refine wp_seq ?_
 refine gI a0 σ ok0 (gC (Ty.val (Value.slice none 0 0)) (gC (Ty.int (0 : Int)) (gE ok0 fun a1 s1 ok1 D1 => ?_))); have q1 := D1.k p0; refine tn (wp_seq (wp_seq ?_))
 refine gI a1 s1 ok1 (gM q1 (gS rfl (fun A B E H I d0 => rP (y_lss (eI d0) rfl)) (gS rfl (fun A B E H I d0 => rP (y_move (eI d0))) (gS rfl (fun A B E H I d0 => gu H (eI d0) fun hg => y_move (kp (I 0 rfl) E q1)) (gS rfl (fun A B E H I d0 d1 => gu H (eI d1) fun hg => y_gtr ((ef d0 rfl).1 hg) rfl) (gS rfl (fun A B E H I d0 d1 => rP (y_pick_or (eI d0) rfl (eI d1))) (gE ok1 fun a2 s2 ok2 D2 => ?_))))))); refine tn ?_
 refine cond_t (D2.m 5 rfl) (fun c1 => ?_) (fun c1 => ?_)
 ·
  exfalso
  simp only [Bool.or_eq_true, decide_eq_true_eq] at c1; omega
 ·
  obtain ⟨d1, d2⟩ := Bool.or_eq_false_iff.mp c1
  replace d1 := of_decide_eq_false d1
  replace d2 := of_decide_eq_false d2
  refine wp_skip (tn (wp_seq ?_))
  refine gI a2 s2 ok2 (gM (D2.k q1) (gE2 ok2 fun a3 s3 ok3 D3 => ?_))
  refine tL ok3 (y_callL (L := []) [] [(42, 61)] _ rfl dE Try.func102 rfl rfl my1 (firstO_fn (n) _ lW _ (uL (D3.m 0 rfl))  oM)) fun a4 s4 hs1 ok4 r1 sm1 => ?_
  obtain ⟨t1, ⟨x1, hT1, o1⟩, B1⟩ := r1
  have q5 : At (Ty.val x1) s4 a4 (.tmp 11) := Ty.up _ B1.le hT1
  have o2 : Own s4 61 3 1 x1 (List.length (roundsL n)) (List.map Ty.int (roundsL n)) := Own.ren o1 (B1.ren dE rfl)
  refine tL ok4 (Yld.toL (y_as q5)) fun a5 s5 hs2 ok5 r2 sm2 => ?_
  have q6 : At (Ty.val x1) s5 a5 (.tmp 2) := r2
  clear r2
  refine tL (R := (fun v τ => Pr.has (Ty.pr (Ty.int (0 : Int))) τ v)) ok5 (Yld.toL (y_assign rfl)) fun a6 s6 hs3 ok6 r3 sm3 => ?_
  have q8 : At (Ty.int (0 : Int)) s6 a6 (.tmp 3) := r3
  clear r3; refine wpList_nil (tn (wp_ret ?_))
  obtain ⟨t2, e1, h1, o5⟩ := Own.retag (k' := 42) (Own.kl (Own.kl o2 hs2) hs3) dE dE
  rw [← e1]
  have F7 := ((((((F0.step0 D1.stp).step0 D2.stp).step0 D3.stp).sl hs1).sl hs2).sl hs3).step h1 dE; have q9 := Ty.up (Ty.val x1) (h1.le dE) (kq hs3 sm3 2 q6); have q10 := Ty.up (Ty.int (0 : Int)) (h1.le dE) q8
  exact retL2 rfl ok6 F7 ⟨x1, (hasT2 q9 q10), o5⟩


set_option maxHeartbeats 4000000 in
set_option maxRecDepth 100000 in
theorem gTurn_fn (x : List Int) (sw : List Int) (n : Nat) (σ : GW)  (v0 v1 : Value) (hv0 : Ty.has (Ty.lst Ty.int x) σ v0) (hv1 : Ty.has (Ty.ref [(Ty.lst Ty.int sw)]) σ v1)  (E : RowN n sw) (hx : RowN n x) :
    FnC Try.prog 91 #[v0, v1] σ (Ty.lst Ty.int (byL sw (byL x sw))) := by
 have hnn := E.nn
 have hsl := E.len
 have hxl := hx.len
 have hsr := E.row
 have hxr := hx.row
 have hsb := E.bds hxl
 have hxs := hx.by E
 have hxsl := hxs.len
 have hxsr := hxs.row
 have hxsb := hxs.bds hsl
 refine fn_intro0 Try.func91 rfl Try.ntmps91 (Nat.le_of_ble_eq_true rfl) (fun s0 a0 hle F0 ok0 hargs => ?_)
 have p0 := pA hle (hargs 0 _ rfl) hv0
 have b1 := sl_le p0
 have p1 := pA hle (hargs 1 _ rfl) hv1
 clear hargs; refine wp_seq ?_
 refine gI a0 s0 ok0 (gC (Ty.val (Value.slice none 0 0)) (gE ok0 fun a1 s1 ok1 D1 => ?_)); have q2 := D1.k p1; refine tn (wp_seq ?_)
 refine gI a1 s1 ok1 (gS rfl (fun A B E H I => rP (y_load Try.underlying22 rfl (kp (I 1 rfl) E q2) rfl)) (gM (D1.k p0) (gS rfl (fun A B E H I => rP (y_load Try.underlying22 rfl (kp (I 1 rfl) E q2) rfl)) (gS rfl (fun A B E H I d0 d1 => rP (y_call _ Try.func64 rfl rfl my2 (product_fn (x) (sw) _ _ _ (eI d0) (eI d1) (by first | assumption | omega) (by first | assumption | omega) (by first | assumption | omega)))) (gS rfl (fun A B E H I d0 d1 d2 => rP (y_call _ Try.func64 rfl rfl my2 (product_fn (sw) ((byL (x) (sw))) _ _ _ (eI d0) (eI d1) (by first | assumption | omega) (by first | assumption | omega) (by first | assumption | omega)))) (gB 0 (gE ok1 fun a2 s2 ok2 D2 => ?_))))))); refine tn (wp_ret ?_)
 exact retL1 rfl ok2 ((F0.step0 D1.stp).step0 D2.stp) (cvt (by (first | rfl | omega | (simp_all; done) | (simp_all; omega))) (D2.m 5 rfl))


end Go.Proofs.Ytkjifbgofckfeaa
