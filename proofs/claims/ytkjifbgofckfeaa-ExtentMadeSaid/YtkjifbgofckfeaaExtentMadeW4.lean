/- The functions that the law ExtentMade reaches, each by its contract. Part 4. -/
import Derived.Test.YtkjifbgofckfeaaExtentMadeW3
namespace Go.Proofs.Ytkjifbgofckfeaa
open Go.KL

set_option maxHeartbeats 4000000 in
set_option maxRecDepth 100000 in
theorem gCheck_fn (n : Int) (l : List (List Int)) (σ : GW)  (v0 v1 : Value) (hv0 : Ty.has (Ty.int n) σ v0) (hv1 : Ty.has (Ty.lst Ty.ints l) σ v1)   :
    FnC Try.prog 41 #[v0, v1] σ (Ty.int (gensMay n l)) := by
 refine fn_intro0 Try.func41 rfl Try.ntmps41 (Nat.le_of_ble_eq_true rfl) (fun s0 a0 hle F0 ok0 hargs => ?_)
 have p0 := pA hle (hargs 0 _ rfl) hv0
 have p1 := pA hle (hargs 1 _ rfl) hv1
 have b1 := sl_le p1
 clear hargs; refine wp_seq ?_
 refine gI a0 s0 ok0 (gC (Ty.int (0 : Int)) (gE ok0 fun a1 s1 ok1 D1 => ?_)); have q1 := D1.kt p0 rfl; have q2 := D1.kt p1 rfl; refine tn (wp_seq (wp_seq ?_))
 refine gI a1 s1 ok1 (gM q1 (gS rfl (fun A B E G H d0 => rP (y_lss (ed d0 rfl rfl rfl) rfl)) (gS rfl (fun A B E G H d0 => rP (y_move (ed d0 rfl rfl rfl))) (gS rfl (fun A B E G H d0 => gu G (ed d0 rfl rfl rfl) fun hg => y_move (kp (H 0 rfl) E q1)) (gS rfl (fun A B E G H d0 d1 => gu G (ed d1 rfl rfl rfl) fun hg => y_gtr ((ed d0 rfl rfl rfl).1 hg) rfl) (gS rfl (fun A B E G H d0 d1 => rP (y_pick_or (ed d0 rfl rfl rfl) rfl (ed d1 rfl rfl rfl))) (gS rfl (fun A B E G H d0 d1 => rP (y_move (ed d0 rfl rfl rfl))) (gT (Ty.grd (((decide (n < (1 : Int))) || (decide ((12 : Int) < n))) = false) (Ty.lst Ty.ints l)) rfl (by intro A B E G H d0; refine run_guard G rfl rfl (by decide) (ed d0 rfl rfl rfl) (fun hg => ?_); obtain ⟨d1, d2⟩ := Bool.or_eq_false_iff.mp hg; have d1 := of_decide_eq_false d1; have d2 := of_decide_eq_false d2; exact y_move (kp (H 1 rfl) E q2)) (gT (Ty.grd (((decide (n < (1 : Int))) || (decide ((12 : Int) < n))) = false) (Ty.nat (List.length l))) rfl (by intro A B E G H d0 d1; refine run_guard G rfl rfl (by decide) (ed d1 rfl rfl rfl) (fun hg => ?_); obtain ⟨d3, d4⟩ := Bool.or_eq_false_iff.mp hg; have d3 := of_decide_eq_false d3; have d4 := of_decide_eq_false d4; exact y_len Try.underlying24 ((ed d0 rfl rfl rfl).1 hg)) (gT (Ty.grd (((decide (n < (1 : Int))) || (decide ((12 : Int) < n))) = false) (Ty.bool (decide ((8 : Int) < (((List.length l) : Nat) : Int))))) rfl (by intro A B E G H d0 d1; refine run_guard G rfl rfl (by decide) (ed d1 rfl rfl rfl) (fun hg => ?_); obtain ⟨d5, d6⟩ := Bool.or_eq_false_iff.mp hg; have d5 := of_decide_eq_false d5; have d6 := of_decide_eq_false d6; exact y_gtr ((ed d0 rfl rfl rfl).1 hg) rfl) (gS rfl (fun A B E G H d0 d1 => rP (y_pick_or (ed d0 rfl rfl rfl) rfl (ed d1 rfl rfl rfl))) (gE ok1 fun a2 s2 ok2 D2 => ?_)))))))))))); have F2 := (F0.step0 D1.stp).step0 D2.stp; refine tn ?_
 refine cond_t (D2.dn 10 rfl rfl) (fun c1 => ?_) (fun c1 => ?_)
 ·
  simp only [Bool.or_eq_true, decide_eq_true_eq] at c1
  refine wp_seq ?_
  refine gI a2 s2 ok2 (gC (Ty.int (1 : Int)) (gE ok2 fun a3 s3 ok3 D3 => ?_)); refine tn (wp_ret (tr ?_))
  exact retL1 rfl ok3 (F2.step0 D3.stp) (cvi (by (exact (gensMay_no (by omega)).symm)) (D3.dn 0 rfl rfl))
 ·
  obtain ⟨d7, d8⟩ := Bool.or_eq_false_iff.mp c1
  obtain ⟨d9, d10⟩ := Bool.or_eq_false_iff.mp d7
  replace d9 := of_decide_eq_false d9
  replace d10 := of_decide_eq_false d10
  replace d8 := of_decide_eq_false d8
  have hg := gensMay_to (n := n) (l := l) (by omega)
  refine wp_skip (tn (wp_seq (wp_seq ?_)))
  refine gI a2 s2 ok2 (gM (D2.kt q2 rfl) (gS rfl (fun A B E G H d0 => rP (y_len Try.underlying24 (ed d0 rfl rfl rfl))) (gT (Ty.int (0 : Int)) rfl (fun A B E G H => rP (y_move rfl)) (gE ok2 fun a4 s4 ok4 D4 => ?_)))); refine tn (wp_block ?_)
  refine loop (fun n1 a5 w1 => ∃ (t1 : GW) (k : Nat), t1.w = w1 ∧ FromL [] s0 t1 ∧ Ok 35 [] a5 ∧ At (Ty.nat k) t1 a5 (.tmp 21) ∧ At (Ty.int n) t1 a5 (.tmp 0) ∧ At (Ty.lst Ty.ints l) t1 a5 (.tmp 19) ∧ At (Ty.nat (List.length l)) t1 a5 (.tmp 20) ∧ (k ≤ l.length) ∧ (gensTo n (l.drop k) = gensMay n l) ∧ n1 = l.length - k) (l.length - (0)) ?_ ?_
  ·
   exact ⟨s4, 0, rfl, (F2.step0 D4.stp), ok4, (cvi (by (first | rfl | omega | (simp_all; done) | (simp_all; omega))) (D4.dn 2 rfl rfl)), (D4.kt (D2.kt q1 rfl) rfl), (D4.dn 0 rfl rfl), (D4.dn 1 rfl rfl), by omega, hg, rfl⟩
  ·
   rintro n2 a6 w2 ⟨t2, k, rfl, F5, ok5, q11, q12, q13, q14, hk, hg0, rfl⟩
   refine wp_seq ?_
   refine gI a6 t2 ok5 (gS rfl (fun A B E G H => rP (y_lss (kp (H 21 rfl) E q11) (kp (H 20 rfl) E q14))) (gE ok5 fun a7 s5 ok6 D5 => ?_)); have F6 := F5.step0 D5.stp; have q15 := D5.kt q11 rfl; have q17 := D5.kt q13 rfl; refine tn (wp_seq ?_)
   refine cond_p (p := (((k : Nat) : Int) < (((List.length l) : Nat) : Int))) (D5.dn 0 rfl rfl) (fun c2 => ?_) (fun c2 => ?_)
   ·
    refine wp_skip (tn (wp_seq (wp_block (wp_seq ?_))))
    refine gI a7 s5 ok6 (gT (Ty.ref [(Ty.lst Ty.int (l.getD k []))]) rfl (fun A B E G H => rP (y_index1 Try.underlying24 Try.inf22 (kp (H 19 rfl) E q17) (kp (H 21 rfl) E q15) (by omega) (lst_get Ty.ints l [] k (by omega)))) (gS rfl (fun A B E G H d0 => rP (y_load Try.underlying22 rfl (ed d0 rfl rfl rfl) rfl)) (gB 0 (gE ok6 fun a8 s6 ok7 D6 => ?_)))); have q24 := D6.dn 2 rfl rfl; refine tn (wp_seq (wp_seq ?_))
    refine gI a8 s6 ok7 (gM q24 (gS rfl (fun A B E G H d0 => rP (y_call _ Try.func72 rfl rfl my1 (rowCheck_fn ((l.getD k [])) _ _ (ed d0 rfl rfl rfl) ))) (gB 0 (gE ok7 fun a9 s7 ok8 D7 => ?_)))); have q30 := D7.dn 2 rfl rfl; refine tn (wp_seq ?_)
    refine gI a9 s7 ok8 (gM q30 (gS rfl (fun A B E G H d0 => rP (y_neq (ed d0 rfl rfl rfl) rfl)) (gE ok8 fun a10 s8 ok9 D8 => ?_))); have F9 := ((F6.step0 D6.stp).step0 D7.stp).step0 D8.stp; have q32 := D8.kt (D7.kt (D6.kt (D5.kt q12 rfl) rfl) rfl) rfl; refine tn ?_
    refine cond_p (p := ((rowMay ((l.getD k []))) ≠ (0 : Int))) (D8.dn 1 rfl rfl) (fun c3 => ?_) (fun c3 => ?_)
    ·
     refine wp_seq ?_
     refine gI a10 s8 ok9 (gM (D8.kt q30 rfl) (gB 0 (gE ok9 fun a11 s9 ok10 D9 => ?_))); refine tn (wp_ret (tr (br (tr (tr (br (tr ?_)))))))
     exact retL1 rfl ok10 (F9.step0 D9.stp) (cvi (by (exact gens_row hg0 (by omega) (by assumption))) (D9.dn 1 rfl rfl))
    ·
     refine wp_skip (tn (wp_seq ?_))
     refine gI a10 s8 ok9 (gM (D8.kt (D7.kt q24 rfl) rfl) (gS rfl (fun A B E G H d0 => rP (y_len Try.underlying22 (ed d0 rfl rfl rfl))) (gM q32 (gS rfl (fun A B E G H d0 d1 => rP (y_neq (ed d0 rfl rfl rfl) (ed d1 rfl rfl rfl))) (gE ok9 fun a12 s10 ok11 D10 => ?_))))); have F11 := F9.step0 D10.stp; refine tn ?_
     refine cond_p (p := ((((List.length (l.getD k [])) : Nat) : Int) ≠ n)) (D10.dn 3 rfl rfl) (fun c4 => ?_) (fun c4 => ?_)
     ·
      refine wp_seq ?_
      refine gI a12 s10 ok11 (gC (Ty.int (1 : Int)) (gE ok11 fun a13 s11 ok12 D11 => ?_)); refine tn (wp_ret (br (tr (tr (br (tr ?_))))))
      exact retL1 rfl ok12 (F11.step0 D11.stp) (cvi (by (exact gens_cnt hg0 (by omega) (by assumption) (by assumption))) (D11.dn 0 rfl rfl))
     ·
      refine wp_skip (bn (tn ?_))
      refine gI a12 s10 ok11 (gT (Ty.int (((k : Nat) : Int) + (1 : Int))) rfl (fun A B E G H => rP (y_add (kp (H 21 rfl) E (D10.kt (D8.kt (D7.kt (D6.kt q15 rfl) rfl) rfl) rfl)) rfl (w64 (by omega) (by omega)))) (gS rfl (fun A B E G H d0 => rP (y_move (ed d0 rfl rfl rfl))) (gE ok11 fun a14 s12 ok13 D12 => ?_)))
      exact tn ⟨l.length - ((k+1)), by omega, s12, (k+1), rfl, (F11.step0 D12.stp), ok13, (cvi (by (first | rfl | omega | (simp_all; done) | (simp_all; omega))) (D12.dn 1 rfl rfl)), (D12.kt (D10.kt q32 rfl) rfl), (D12.kt (D10.kt (D8.kt (D7.kt (D6.kt q17 rfl) rfl) rfl) rfl) rfl), (D12.kt (D10.kt (D8.kt (D7.kt (D6.kt (D5.kt q14 rfl) rfl) rfl) rfl) rfl) rfl), by omega, gens_step hg0 (by omega) (by assumption) (by assumption), rfl⟩
   ·
    refine wp_exit (tx (tx (bx (tn (wp_seq ?_)))))
    refine gI a7 s5 ok6 (gC (Ty.int (0 : Int)) (gE ok6 fun a15 s13 ok14 D13 => ?_)); refine tn (wp_ret ?_)
    exact retL1 rfl ok14 (F6.step0 D13.stp) (cvi (by (exact gens_end hg0 (by omega))) (D13.dn 0 rfl rfl))


set_option maxRecDepth 100000 in
theorem first_fn (n : Nat) (σ : GW) (v0 : Value) (hv0 : Ty.has (Ty.nat n) σ v0) (hn : n ≤ 1000000) :
    FnC Try.prog 102 #[v0] σ (Ty.lst Ty.int (roundsL n)) := by
 refine fn_intro Try.func102 rfl Try.ntmps102 (Nat.le_of_ble_eq_true rfl) (fun s0 a0 hle F0 ok0 hargs => ?_)
 have p0 := pA hle (hargs 0 _ rfl) hv0
 clear hargs; refine wp_seq ?_
 refine gI a0 s0 ok0 (gC (Ty.val (Value.slice none 0 0)) (gE ok0 fun a1 s1 ok1 D1 => ?_)); refine tn (wp_seq ?_)
 refine gI a1 s1 ok1 (gM (D1.kt p0 rfl) (gR (Pr.own 11 3 1 n (List.map Ty.int (List.replicate n 0))) rfl (by intro A B E G H d0 d1; have e0 := ed d0 rfl rfl rfl; exact rP ((y_make (k := 11) (T := Ty.int 0) (n := n) Try.underlying22 Try.inf3 rfl (fun _ => rfl) e0 e0 (by omega) (by omega)).mono (fun _ _ h => cvo (by simp) (by simp) h))) (gR (Pr.own 11 3 1 n (List.map Ty.int (List.replicate n 0))) rfl (by intro A B E G H d0 d1 d2; have e1 : (Pr.own 11 3 1 n (List.map Ty.int (List.replicate n 0))).has B (A.eval (.tmp 6)) := d0 rfl; exact rP (y_assign e1)) (gE ok1 fun a2 s2 ok2 D2 => ?_))))
 have q2 : (Pr.own 11 3 1 n (List.map Ty.int (List.replicate n 0))).has s2 (a2.eval (.tmp 3)) := D2.done 2
 refine tn (wp_seq (wp_seq ?_))
 refine gI a2 s2 ok2 (gT (Ty.val (a2.eval (.tmp 3))) rfl (fun A B E G H => rP (y_move (H 3 rfl))) (gT (Ty.nat n) rfl (fun A B E G H d0 => rP (own_len Try.underlying22 (al (ed d0 rfl rfl rfl) ((Pr.own 11 3 1 n (List.map Ty.int (List.replicate n 0))).up E q2)))) (gT (Ty.int (0 : Int)) rfl (fun A B E G H => rP (y_move rfl)) (gE ok2 fun a3 s3 ok3 D3 => ?_))))
 have q3 : (Pr.own 11 3 1 n (List.map Ty.int (List.replicate n 0))).has s3 (a3.eval (.tmp 3)) := D3.ko q2 rfl
 refine tn (wp_block ?_)
 refine loop (fun n1 a4 w1 => ∃ (t1 : GW) (k : Nat), t1.w = w1 ∧ From s0 t1 ∧ Ok 18 [] a4 ∧ At (Ty.nat k) t1 a4 (.tmp 9) ∧ (Pr.own 11 3 1 (List.length (firstTo n k)) (List.map Ty.int (firstTo n k))).has t1 (a4.eval (.tmp 3)) ∧ At (Ty.nat n) t1 a4 (.tmp 8) ∧ (k ≤ n) ∧ n1 = n - k) (n - (0)) ?_ ?_
 ·
  exact ⟨s3, 0, rfl, (((F0.step0 D1.stp).step0 D2.stp).step0 D3.stp), ok3, (cvi (by (first | rfl | omega | (simp_all; done) | (simp_all; omega))) (D3.dn 2 rfl rfl)), (cvo (by (simp [firstTo_zero])) (by (simp [firstTo_zero])) q3), (D3.dn 1 rfl rfl), by omega, rfl⟩
 ·
  rintro n2 a5 w2 ⟨t2, k, rfl, F4, ok4, q6, q7, q8, hk, rfl⟩
  have hp := firstTo_len n k
  refine wp_seq ?_
  refine gI a5 t2 ok4 (gS rfl (fun A B E G H => rP (y_lss (kp (H 9 rfl) E q6) (kp (H 8 rfl) E q8))) (gE ok4 fun a6 s4 ok5 D4 => ?_)); have F5 := F4.step0 D4.stp; have q9 := D4.kt q6 rfl
  have q10 : (Pr.own 11 3 1 (List.length (firstTo n k)) (List.map Ty.int (firstTo n k))).has s4 (a6.eval (.tmp 3)) := D4.ko q7 rfl
  refine tn (wp_seq ?_)
  refine cond_p (p := (((k : Nat) : Int) < ((n : Nat) : Int))) (D4.dn 0 rfl rfl) (fun c1 => ?_) (fun c1 => ?_)
  ·
   refine wp_skip (tn (wp_seq (wp_block (wp_seq ?_))))
   refine gI a6 s4 ok5 (gM q9 (gB 0 (gE ok5 fun a7 s5 ok6 D5 => ?_)))
   have q14 : (Pr.own 11 3 1 (List.length (firstTo n k)) (List.map Ty.int (firstTo n k))).has s5 (a7.eval (.tmp 3)) := D5.ko q10 rfl
   have q16 := D5.dn 1 rfl rfl; refine tn ?_
   refine gI a7 s5 ok6 (gT (Ty.val (a7.eval (.tmp 3))) rfl (fun A B E G H => rP (y_move (H 3 rfl))) (gM q16 (gM q16 (gT (Ty.val (cellPtr (a7.eval (.tmp 3)) k)) rfl (fun A B E G H d0 d1 d2 d3 d4 => rP (own_index1 (i := ((k : Nat) : Int)) Try.underlying22 Try.inf3 ((Pr.own 11 3 1 (List.length (firstTo n k)) (List.map Ty.int (firstTo n k))).up E q14) (ed d0 rfl rfl rfl) (ed d1 rfl rfl rfl) (by omega) (by omega))) (gE2 ok6 fun a8 s6 ok7 D6 => ?_))))); have q17 := (Pr.own 11 3 1 (List.length (firstTo n k)) (List.map Ty.int (firstTo n k))).up D6.stp q14
   have q19 : a8.eval (.tmp 3) = a7.eval (.tmp 3) := D6.same 3 rfl
   have q21 := D6.dn 2 (by decide) rfl rfl
   refine tail_step0 (m := 11) (R := (fun _ τ => Own τ 11 3 1 (a7.eval (.tmp 3)) (List.length (firstTo n k)) ((List.map Ty.int (firstTo n k)).set k (Ty.nat k)))) rfl rfl (m_store Try.inf3 (by decide) q17 (D6.dn 3 (by decide) rfl rfl) (by simp only [List.length_map, List.length_set]; omega) q21 (one_val rfl)) (fun v1 s7 hs1 r1 => ?_)
   have F8 := ((F5.step0 D5.stp).step0 D6.stp).step hs1 (by decide)
   have q23 : At (Ty.nat k) s7 a8 (.tmp 9) := kpm hs1 (by decide) rfl (D6.kt (D5.kt q9 rfl) rfl)
   have q24 : At (Ty.nat n) s7 a8 (.tmp 8) := kpm hs1 (by decide) rfl (D6.kt (D5.kt (D4.kt q8 rfl) rfl) rfl)
   have q25 : At (Ty.nat k) s7 a8 (.tmp 14) := kpm hs1 (by decide) rfl q21
   have q26 : (Pr.own 11 3 1 (List.length ((firstTo n k).set k ((k : Nat) : Int))) (List.map Ty.int ((firstTo n k).set k ((k : Nat) : Int)))).has s7 (a7.eval (.tmp 3)) := (cvo (by simp) (by simp) r1)
   refine wpList_nil ?_
   have q27 : (Pr.own 11 3 1 (List.length ((firstTo n k).set k ((k : Nat) : Int))) (List.map Ty.int ((firstTo n k).set k ((k : Nat) : Int)))).has s7 (a8.eval (.tmp 3)) := al q19 q26
   refine bn (tn ?_)
   refine gI a8 s7 ok7 (gT (Ty.int (((k : Nat) : Int) + (1 : Int))) rfl (fun A B E G H => rP (y_add (kp (H 9 rfl) E q23) rfl (w64 (by omega) (by omega)))) (gS rfl (fun A B E G H d0 => rP (y_move (ed d0 rfl rfl rfl))) (gE ok7 fun a10 s8 ok9 D7 => ?_)))
   have q28 : (Pr.own 11 3 1 (List.length ((firstTo n k).set k ((k : Nat) : Int))) (List.map Ty.int ((firstTo n k).set k ((k : Nat) : Int)))).has s8 (a10.eval (.tmp 3)) := D7.ko q27 rfl
   exact tn ⟨n - ((k+1)), by omega, s8, (k+1), rfl, (F8.step0 D7.stp), ok9, (cvi (by (first | rfl | omega | (simp_all; done) | (simp_all; omega))) (D7.dn 1 rfl rfl)), (cvo (by (rw [firstTo_step n k])) (by (rw [firstTo_step n k])) q28), (D7.kt q24 rfl), by omega, rfl⟩
  ·
   refine wp_exit (tx (tx (bx (tn (wp_seq ?_)))))
   refine gI a6 s4 ok5 (gT (Ty.val (a6.eval (.tmp 3))) rfl (fun A B E G H => rP (y_move (H 3 rfl))) (gB 0 (gE ok5 fun a11 s9 ok10 D8 => ?_)))
   have q31 : (Pr.own 11 3 1 (List.length (firstTo n k)) (List.map Ty.int (firstTo n k))).has s9 (a11.eval (.tmp 2)) := al (show _ = _ from D8.done 1) ((Pr.own 11 3 1 (List.length (firstTo n k)) (List.map Ty.int (firstTo n k))).up D8.stp q10)
   refine tn (wp_ret ?_)
   obtain ⟨t3, e1, h1, q32⟩ := Own.seal q31 (by decide)
   rw [← e1]
   have F11 := (F5.step0 D8.stp).step h1 (by decide)
   exact ret1 rfl ok10 F11 (cvt (by (obtain rfl : k = n := (by omega); rw [firstTo_all])) q32)


set_option maxRecDepth 100000 in
theorem rounds_fn (n : Nat) (σ : GW) (v0 : Value) (hv0 : Ty.has (Ty.nat n) σ v0) (hn : 1 ≤ n ∧ n ≤ 12) :
    FnC Try.prog 74 #[v0] σ (Ty.tup2 (Ty.lst Ty.int (roundsL n)) (Ty.int (0 : Int))) := by
 refine fn_intro Try.func74 rfl Try.ntmps74 (Nat.le_of_ble_eq_true rfl) (fun s0 a0 hle F0 ok0 hargs => ?_)
 have p0 := pA hle (hargs 0 _ rfl) hv0
 clear hargs; refine wp_seq ?_
 refine gI a0 s0 ok0 (gC (Ty.val (Value.slice none 0 0)) (gC (Ty.int (0 : Int)) (gE ok0 fun a1 s1 ok1 D1 => ?_))); have q1 := D1.kt p0 rfl; refine tn (wp_seq (wp_seq ?_))
 refine gI a1 s1 ok1 (gM q1 (gS rfl (fun A B E G H d0 => rP (y_lss (ed d0 rfl rfl rfl) rfl)) (gS rfl (fun A B E G H d0 => rP (y_move (ed d0 rfl rfl rfl))) (gS rfl (fun A B E G H d0 => gu G (ed d0 rfl rfl rfl) fun hg => y_move (kp (H 0 rfl) E q1)) (gS rfl (fun A B E G H d0 d1 => gu G (ed d1 rfl rfl rfl) fun hg => y_gtr ((ed d0 rfl rfl rfl).1 hg) rfl) (gS rfl (fun A B E G H d0 d1 => rP (y_pick_or (ed d0 rfl rfl rfl) rfl (ed d1 rfl rfl rfl))) (gE ok1 fun a2 s2 ok2 D2 => ?_))))))); refine tn ?_
 refine cond_t (D2.dn 5 rfl rfl) (fun c1 => ?_) (fun c1 => ?_)
 ·
  exfalso
  simp only [Bool.or_eq_true, decide_eq_true_eq] at c1; omega
 ·
  obtain ⟨d1, d2⟩ := Bool.or_eq_false_iff.mp c1
  replace d1 := of_decide_eq_false d1
  replace d2 := of_decide_eq_false d2
  refine wp_skip (tn (wp_seq ?_))
  refine gI a2 s2 ok2 (gM (D2.kt q1 rfl) (gS rfl (fun A B E G H d0 => rP (y_call _ Try.func102 rfl rfl my1 (first_fn (n) _ _ (ed d0 rfl rfl rfl) (by omega)))) (gB 0 (gC (Ty.int (0 : Int)) (gE ok2 fun a3 s3 ok3 D3 => ?_))))); refine tn (wp_ret ?_)
  exact ret2 rfl ok3 (((F0.step0 D1.stp).step0 D2.stp).step0 D3.stp) (D3.dn 2 rfl rfl) (D3.dn 3 rfl rfl)


set_option maxHeartbeats 4000000 in
set_option maxRecDepth 100000 in
theorem cloneS_fn (xs : List Int) (σ : GW)  (v0 : Value) (hv0 : Ty.has (Ty.lst Ty.int xs) σ v0)  (hx2 : xs.length ≤ 1000000) :
    FnC Try.prog 101 #[v0] σ (Ty.lst Ty.int xs) := by
 refine fn_intro0 Try.func101 rfl Try.ntmps101 (Nat.le_of_ble_eq_true rfl) (fun s0 a0 hle F0 ok0 hargs => ?_)
 have p0 := pA hle (hargs 0 _ rfl) hv0
 have b1 := sl_le p0
 clear hargs; refine wp_seq ?_
 refine gI a0 s0 ok0 (gC (Ty.val (Value.slice none 0 0)) (gE ok0 fun a1 s1 ok1 D1 => ?_)); have q1 := D1.kt p0 rfl; refine tn (wp_seq (wp_seq ?_))
 refine gI a1 s1 ok1 (gM q1 (gT (Ty.nilb xs) rfl (fun A B E G H d0 => rP (y_slnb Try.underlying22 (ed d0 rfl rfl rfl) rfl)) (gE ok1 fun a2 s2 ok2 D2 => ?_))); have F2 := (F0.step0 D1.stp).step0 D2.stp; refine tn ?_
 refine cond_nb (D2.dn 1 rfl rfl) (fun c1 => ?_) ?_
 ·
  have hxe := c1
  refine wp_seq ?_
  refine gI a2 s2 ok2 (gC (Ty.val (Value.slice none 0 0)) (gE ok2 fun a3 s3 ok3 D3 => ?_)); refine tn (wp_ret (tr ?_))
  exact retL1 rfl ok3 (F2.step0 D3.stp) (nil_lst (by (rw [hxe])) (D3.dn 0 rfl rfl))
 ·
  refine wp_skip (tn (wp_seq ?_))
  refine gI a2 s2 ok2 (gR (Pr.own 5 3 1 0 (List.map Ty.int ([] : List Int))) rfl (by intro A B E G H; exact rP ((y_lit0 (k := 5) Try.underlying22 Try.inf3).mono (fun _ _ h => cvo (by simp) (by simp) h))) (gM (D2.kt q1 rfl) (gE2 ok2 fun a4 s4 ok4 D4 => ?_)))
  obtain ⟨x1, hx1⟩ : ∃ x, a4.eval (.tmp 5) = x := ⟨_, rfl⟩
  have q5 : At (Ty.val x1) s4 a4 (.tmp 5) := hx1
  have o1 := al2 (R := (Pr.own 5 3 1 0 (List.map Ty.int ([] : List Int)))) hx1 (D4.done 0 (by decide))
  refine tL ok4 (YldM.toL (m_append Try.underlying22 Try.inf3 (by decide) rfl (by decide) (al (R := (Pr.own 5 3 1 0 (List.map Ty.int ([] : List Int)))) q5 o1) (D4.dn 1 (by decide) rfl rfl) (one_map (fun _ => one_val rfl)) (by omega) (by omega))) fun a5 s5 hs1 ok5 r1 sm1 => ?_
  have F5 := (F2.step0 D4.stp).stepL hs1 (by decide)
  obtain ⟨x2, hx2⟩ : ∃ x, a5.eval (.tmp 7) = x := ⟨_, rfl⟩
  have q7 : At (Ty.val x2) s5 a5 (.tmp 7) := hx2
  have o2 := al2 (R := (Pr.own 5 3 1 (List.length xs) (List.map Ty.int xs))) hx2 (cvo (by first | (simp; done) | (simp; omega)) (by first | (rw [List.map_append]; rfl) | simp) r1)
  clear r1
  refine tL ok5 (Yld.toL (y_as q7)) fun a6 s6 hs2 ok6 r2 sm2 => ?_
  have F6 := F5.stepL hs2 (by decide); have o3 := Own.keepL o2 hs2 (by decide) (by decide)
  have q8 : At (Ty.val x2) s6 a6 (.tmp 2) := r2
  clear r2; refine wpList_nil (tn (wp_ret ?_))
  obtain ⟨t1, e1, h1, q9⟩ := Own.seal o3 (by decide)
  rw [← e1]
  have F7 := F6.step h1 (by decide)
  have q10 : At (Ty.lst Ty.int xs) t1 a6 (.tmp 2) := by have e : a6.eval (.tmp 2) = x2 := q8; show Ty.has _ _ _; rw [e]; exact q9
  exact retL1 rfl ok6 F7 q10


set_option maxRecDepth 100000 in
theorem inverse_fn (r : List Int) (σ : GW) (v0 : Value) (hv0 : Ty.has (Ty.lst Ty.int r) σ v0) (hr : IsRow r) :
    FnC Try.prog 65 #[v0] σ (Ty.lst Ty.int (undoL r)) := by
 have hln := hr.le
 refine fn_intro Try.func65 rfl Try.ntmps65 (Nat.le_of_ble_eq_true rfl) (fun s0 a0 hle F0 ok0 hargs => ?_)
 have p0 := pA hle (hargs 0 _ rfl) hv0
 have b1 := sl_le p0
 clear hargs; refine wp_seq ?_
 refine gI a0 s0 ok0 (gC (Ty.val (Value.slice none 0 0)) (gE ok0 fun a1 s1 ok1 D1 => ?_)); have q1 := D1.kt p0 rfl; refine tn (wp_seq ?_)
 refine gI a1 s1 ok1 (gM q1 (gS rfl (fun A B E G H d0 => rP (y_len Try.underlying22 (ed d0 rfl rfl rfl))) (gR (Pr.own 11 3 1 (List.length r) (List.map Ty.int (List.replicate (List.length r) 0))) rfl (by intro A B E G H d0 d1; have e1 := ed d0 rfl rfl rfl; exact rP ((y_make (k := 11) (T := Ty.int 0) (n := (List.length r)) Try.underlying22 Try.inf3 rfl (fun _ => rfl) e1 e1 (by omega) (by omega)).mono (fun _ _ h => cvo (by simp) (by simp) h))) (gR (Pr.own 11 3 1 (List.length r) (List.map Ty.int (List.replicate (List.length r) 0))) rfl (by intro A B E G H d0 d1 d2 d3; have e2 : (Pr.own 11 3 1 (List.length r) (List.map Ty.int (List.replicate (List.length r) 0))).has B (A.eval (.tmp 8)) := d0 rfl; exact rP (y_assign e2)) (gE ok1 fun a2 s2 ok2 D2 => ?_)))))
 have q3 : (Pr.own 11 3 1 (List.length r) (List.map Ty.int (List.replicate (List.length r) 0))).has s2 (a2.eval (.tmp 3)) := D2.done 3
 refine tn (wp_seq (wp_seq ?_))
 refine gI a2 s2 ok2 (gM (D2.kt q1 rfl) (gS rfl (fun A B E G H d0 => rP (y_len Try.underlying22 (ed d0 rfl rfl rfl))) (gT (Ty.int (0 : Int)) rfl (fun A B E G H => rP (y_move rfl)) (gE ok2 fun a3 s3 ok3 D3 => ?_))))
 have q4 : (Pr.own 11 3 1 (List.length r) (List.map Ty.int (List.replicate (List.length r) 0))).has s3 (a3.eval (.tmp 3)) := D3.ko q3 rfl
 refine tn (wp_block ?_)
 refine loop (fun n1 a4 w1 => ∃ (t1 : GW) (k : Nat), t1.w = w1 ∧ From s0 t1 ∧ Ok 22 [] a4 ∧ At (Ty.nat k) t1 a4 (.tmp 11) ∧ (Pr.own 11 3 1 (List.length (undoTo r k)) (List.map Ty.int (undoTo r k))).has t1 (a4.eval (.tmp 3)) ∧ At (Ty.lst Ty.int r) t1 a4 (.tmp 9) ∧ At (Ty.nat (List.length r)) t1 a4 (.tmp 10) ∧ (k ≤ r.length) ∧ n1 = r.length - k) (r.length - (0)) ?_ ?_
 ·
  exact ⟨s3, 0, rfl, (((F0.step0 D1.stp).step0 D2.stp).step0 D3.stp), ok3, (cvi (by (first | rfl | omega | (simp_all; done) | (simp_all; omega))) (D3.dn 2 rfl rfl)), (cvo (by (simp [undoTo_zero])) (by (simp [undoTo_zero])) q4), (D3.dn 0 rfl rfl), (D3.dn 1 rfl rfl), by omega, rfl⟩
 ·
  rintro n2 a5 w2 ⟨t2, k, rfl, F4, ok4, q8, q9, q10, q11, hk, rfl⟩
  have hp := undoTo_len r k
  refine wp_seq ?_
  refine gI a5 t2 ok4 (gS rfl (fun A B E G H => rP (y_lss (kp (H 11 rfl) E q8) (kp (H 10 rfl) E q11))) (gE ok4 fun a6 s4 ok5 D4 => ?_)); have F5 := F4.step0 D4.stp; have q12 := D4.kt q8 rfl
  have q13 : (Pr.own 11 3 1 (List.length (undoTo r k)) (List.map Ty.int (undoTo r k))).has s4 (a6.eval (.tmp 3)) := D4.ko q9 rfl
  have q14 := D4.kt q10 rfl; refine tn (wp_seq ?_)
  refine cond_p (p := (((k : Nat) : Int) < (((List.length r) : Nat) : Int))) (D4.dn 0 rfl rfl) (fun c1 => ?_) (fun c1 => ?_)
  ·
   have hq := hr.at (i := k) (by omega)
   refine wp_skip (tn (wp_seq (wp_block (wp_seq ?_))))
   refine gI a6 s4 ok5 (gM q12 (gT (Ty.ref [(Ty.int (r.getD k 0))]) rfl (fun A B E G H => rP (y_index1 Try.underlying22 Try.inf3 (kp (H 9 rfl) E q14) (kp (H 11 rfl) E q12) (by omega) (lst_get Ty.int r 0 k (by omega)))) (gS rfl (fun A B E G H d0 => rP (y_load Try.underlying3 rfl (ed d0 rfl rfl rfl) rfl)) (gB 0 (gB 0 (gE ok5 fun a7 s5 ok6 D5 => ?_))))))
   have q18 : (Pr.own 11 3 1 (List.length (undoTo r k)) (List.map Ty.int (undoTo r k))).has s5 (a7.eval (.tmp 3)) := D5.ko q13 rfl
   refine tn ?_
   refine gI a7 s5 ok6 (gT (Ty.val (a7.eval (.tmp 3))) rfl (fun A B E G H => rP (y_move (H 3 rfl))) (gM (D5.dn 4 rfl rfl) (gM (D5.dn 3 rfl rfl) (gT (Ty.val (cellPtr (a7.eval (.tmp 3)) ((r.getD k 0)).toNat)) rfl (fun A B E G H d0 d1 d2 d3 d4 => rP (own_index1 (i := (r.getD k 0)) Try.underlying22 Try.inf3 ((Pr.own 11 3 1 (List.length (undoTo r k)) (List.map Ty.int (undoTo r k))).up E q18) (ed d0 rfl rfl rfl) (ed d1 rfl rfl rfl) (by omega) (by omega))) (gE2 ok6 fun a8 s6 ok7 D6 => ?_))))); have q23 := (Pr.own 11 3 1 (List.length (undoTo r k)) (List.map Ty.int (undoTo r k))).up D6.stp q18
   have q25 : a8.eval (.tmp 3) = a7.eval (.tmp 3) := D6.same 3 rfl
   have q28 := D6.dn 2 (by decide) rfl rfl
   refine tail_step0 (m := 11) (R := (fun _ τ => Own τ 11 3 1 (a7.eval (.tmp 3)) (List.length (undoTo r k)) ((List.map Ty.int (undoTo r k)).set ((r.getD k 0)).toNat (Ty.nat k)))) rfl rfl (m_store Try.inf3 (by decide) q23 (D6.dn 3 (by decide) rfl rfl) (by simp only [List.length_map, List.length_set]; omega) q28 (one_val rfl)) (fun v1 s7 hs1 r1 => ?_)
   have F8 := ((F5.step0 D5.stp).step0 D6.stp).step hs1 (by decide)
   have q30 : At (Ty.nat k) s7 a8 (.tmp 11) := kpm hs1 (by decide) rfl (D6.kt (D5.kt q12 rfl) rfl)
   have q31 : At (Ty.lst Ty.int r) s7 a8 (.tmp 9) := kpm hs1 (by decide) rfl (D6.kt (D5.kt q14 rfl) rfl)
   have q32 : At (Ty.nat (List.length r)) s7 a8 (.tmp 10) := kpm hs1 (by decide) rfl (D6.kt (D5.kt (D4.kt q11 rfl) rfl) rfl)
   have q33 : At (Ty.nat k) s7 a8 (.tmp 18) := kpm hs1 (by decide) rfl q28
   have q34 : (Pr.own 11 3 1 (List.length ((undoTo r k).set ((r.getD k 0)).toNat ((k : Nat) : Int))) (List.map Ty.int ((undoTo r k).set ((r.getD k 0)).toNat ((k : Nat) : Int)))).has s7 (a7.eval (.tmp 3)) := (cvo (by simp) (by simp) r1)
   refine wpList_nil ?_
   have q35 : (Pr.own 11 3 1 (List.length ((undoTo r k).set ((r.getD k 0)).toNat ((k : Nat) : Int))) (List.map Ty.int ((undoTo r k).set ((r.getD k 0)).toNat ((k : Nat) : Int)))).has s7 (a8.eval (.tmp 3)) := al q25 q34
   refine bn (tn ?_)
   refine gI a8 s7 ok7 (gT (Ty.int (((k : Nat) : Int) + (1 : Int))) rfl (fun A B E G H => rP (y_add (kp (H 11 rfl) E q30) rfl (w64 (by omega) (by omega)))) (gS rfl (fun A B E G H d0 => rP (y_move (ed d0 rfl rfl rfl))) (gE ok7 fun a10 s8 ok9 D7 => ?_)))
   have q36 : (Pr.own 11 3 1 (List.length ((undoTo r k).set ((r.getD k 0)).toNat ((k : Nat) : Int))) (List.map Ty.int ((undoTo r k).set ((r.getD k 0)).toNat ((k : Nat) : Int)))).has s8 (a10.eval (.tmp 3)) := D7.ko q35 rfl
   exact tn ⟨r.length - ((k+1)), by omega, s8, (k+1), rfl, (F8.step0 D7.stp), ok9, (cvi (by (first | rfl | omega | (simp_all; done) | (simp_all; omega))) (D7.dn 1 rfl rfl)), (cvo (by (rw [undoTo_step r k hr (by omega)])) (by (rw [undoTo_step r k hr (by omega)])) q36), (D7.kt q31 rfl), (D7.kt q32 rfl), by omega, rfl⟩
  ·
   refine wp_exit (tx (tx (bx (tn (wp_seq ?_)))))
   refine gI a6 s4 ok5 (gT (Ty.val (a6.eval (.tmp 3))) rfl (fun A B E G H => rP (y_move (H 3 rfl))) (gB 0 (gE ok5 fun a11 s9 ok10 D8 => ?_)))
   have q40 : (Pr.own 11 3 1 (List.length (undoTo r k)) (List.map Ty.int (undoTo r k))).has s9 (a11.eval (.tmp 2)) := al (show _ = _ from D8.done 1) ((Pr.own 11 3 1 (List.length (undoTo r k)) (List.map Ty.int (undoTo r k))).up D8.stp q13)
   refine tn (wp_ret ?_)
   obtain ⟨t3, e1, h1, q41⟩ := Own.seal q40 (by decide)
   rw [← e1]
   have F11 := (F5.step0 D8.stp).step h1 (by decide)
   exact ret1 rfl ok10 F11 (cvt (by (obtain rfl : k = r.length := (by omega); rw [undoTo_all r hr])) q41)


set_option maxRecDepth 100000 in
theorem product_fn (a : List Int) (b : List Int) (σ : GW) (v0 v1 : Value) (hv0 : Ty.has (Ty.lst Ty.int a) σ v0) (hv1 : Ty.has (Ty.lst Ty.int b) σ v1) (hl : a.length = b.length) (hbd : ∀ i, i < b.length → 0 ≤ b.getD i 0 ∧ b.getD i 0 < a.length) (E : a.length ≤ 1000000) :
    FnC Try.prog 64 #[v0, v1] σ (Ty.lst Ty.int (byL a b)) := by
 refine fn_intro Try.func64 rfl Try.ntmps64 (Nat.le_of_ble_eq_true rfl) (fun s0 a0 hle F0 ok0 hargs => ?_)
 have p0 := pA hle (hargs 0 _ rfl) hv0
 have b1 := sl_le p0
 have p1 := pA hle (hargs 1 _ rfl) hv1
 have b2 := sl_le p1
 clear hargs; refine wp_seq ?_
 refine gI a0 s0 ok0 (gC (Ty.val (Value.slice none 0 0)) (gE ok0 fun a1 s1 ok1 D1 => ?_)); have q1 := D1.kt p0 rfl; refine tn (wp_seq ?_)
 refine gI a1 s1 ok1 (gM q1 (gS rfl (fun A B E G H d0 => rP (y_len Try.underlying22 (ed d0 rfl rfl rfl))) (gR (Pr.own 11 3 1 (List.length a) (List.map Ty.int (List.replicate (List.length a) 0))) rfl (by intro A B E G H d0 d1; have e1 := ed d0 rfl rfl rfl; exact rP ((y_make (k := 11) (T := Ty.int 0) (n := (List.length a)) Try.underlying22 Try.inf3 rfl (fun _ => rfl) e1 e1 (by omega) (by omega)).mono (fun _ _ h => cvo (by simp) (by simp) h))) (gR (Pr.own 11 3 1 (List.length a) (List.map Ty.int (List.replicate (List.length a) 0))) rfl (by intro A B E G H d0 d1 d2 d3; have e2 : (Pr.own 11 3 1 (List.length a) (List.map Ty.int (List.replicate (List.length a) 0))).has B (A.eval (.tmp 10)) := d0 rfl; exact rP (y_assign e2)) (gE ok1 fun a2 s2 ok2 D2 => ?_)))))
 have q5 : (Pr.own 11 3 1 (List.length a) (List.map Ty.int (List.replicate (List.length a) 0))).has s2 (a2.eval (.tmp 5)) := D2.done 3
 refine tn (wp_seq (wp_seq ?_))
 refine gI a2 s2 ok2 (gM (D2.kt (D1.kt p1 rfl) rfl) (gS rfl (fun A B E G H d0 => rP (y_len Try.underlying22 (ed d0 rfl rfl rfl))) (gT (Ty.int (0 : Int)) rfl (fun A B E G H => rP (y_move rfl)) (gE ok2 fun a3 s3 ok3 D3 => ?_))))
 have q7 : (Pr.own 11 3 1 (List.length a) (List.map Ty.int (List.replicate (List.length a) 0))).has s3 (a3.eval (.tmp 5)) := D3.ko q5 rfl
 refine tn (wp_block ?_)
 refine loop (fun n1 a4 w1 => ∃ (t1 : GW) (k : Nat), t1.w = w1 ∧ From s0 t1 ∧ Ok 27 [] a4 ∧ At (Ty.nat k) t1 a4 (.tmp 13) ∧ (Pr.own 11 3 1 (List.length (byTo a b k)) (List.map Ty.int (byTo a b k))).has t1 (a4.eval (.tmp 5)) ∧ At (Ty.lst Ty.int a) t1 a4 (.tmp 0) ∧ At (Ty.lst Ty.int b) t1 a4 (.tmp 11) ∧ At (Ty.nat (List.length b)) t1 a4 (.tmp 12) ∧ (k ≤ b.length) ∧ n1 = b.length - k) (b.length - (0)) ?_ ?_
 ·
  exact ⟨s3, 0, rfl, (((F0.step0 D1.stp).step0 D2.stp).step0 D3.stp), ok3, (cvi (by (first | rfl | omega | (simp_all; done) | (simp_all; omega))) (D3.dn 2 rfl rfl)), (cvo (by (simp [byTo_zero])) (by (simp [byTo_zero])) q7), (D3.kt (D2.kt q1 rfl) rfl), (D3.dn 0 rfl rfl), (D3.dn 1 rfl rfl), by omega, rfl⟩
 ·
  rintro n2 a5 w2 ⟨t2, k, rfl, F4, ok4, q11, q12, q13, q14, q15, hk, rfl⟩
  have hp := byTo_len a b k
  refine wp_seq ?_
  refine gI a5 t2 ok4 (gS rfl (fun A B E G H => rP (y_lss (kp (H 13 rfl) E q11) (kp (H 12 rfl) E q15))) (gE ok4 fun a6 s4 ok5 D4 => ?_)); have F5 := F4.step0 D4.stp; have q16 := D4.kt q11 rfl
  have q17 : (Pr.own 11 3 1 (List.length (byTo a b k)) (List.map Ty.int (byTo a b k))).has s4 (a6.eval (.tmp 5)) := D4.ko q12 rfl
  have q19 := D4.kt q14 rfl; refine tn (wp_seq ?_)
  refine cond_p (p := (((k : Nat) : Int) < (((List.length b) : Nat) : Int))) (D4.dn 0 rfl rfl) (fun c1 => ?_) (fun c1 => ?_)
  ·
   have hq := hbd k (by omega)
   refine wp_skip (tn (wp_seq (wp_block (wp_seq ?_))))
   refine gI a6 s4 ok5 (gM q16 (gT (Ty.ref [(Ty.int (b.getD k 0))]) rfl (fun A B E G H => rP (y_index1 Try.underlying22 Try.inf3 (kp (H 11 rfl) E q19) (kp (H 13 rfl) E q16) (by omega) (lst_get Ty.int b 0 k (by omega)))) (gS rfl (fun A B E G H d0 => rP (y_load Try.underlying3 rfl (ed d0 rfl rfl rfl) rfl)) (gB 0 (gB 0 (gE ok5 fun a7 s5 ok6 D5 => ?_))))))
   have q23 : (Pr.own 11 3 1 (List.length (byTo a b k)) (List.map Ty.int (byTo a b k))).has s5 (a7.eval (.tmp 5)) := D5.ko q17 rfl
   have q24 := D5.kt (D4.kt q13 rfl) rfl; refine tn ?_
   refine gI a7 s5 ok6 (gT (Ty.val (a7.eval (.tmp 5))) rfl (fun A B E G H => rP (y_move (H 5 rfl))) (gM (D5.dn 3 rfl rfl) (gM q24 (gM (D5.dn 4 rfl rfl) (gT (Ty.ref [(Ty.int (a.getD ((b.getD k 0)).toNat 0))]) rfl (fun A B E G H d0 d1 => rP (y_index1 Try.underlying22 Try.inf3 (ed d0 rfl rfl rfl) (ed d1 rfl rfl rfl) (by omega) (lst_get Ty.int a 0 ((b.getD k 0)).toNat (by omega)))) (gS rfl (fun A B E G H d0 => rP (y_load Try.underlying3 rfl (ed d0 rfl rfl rfl) rfl)) (gT (Ty.val (cellPtr (a7.eval (.tmp 5)) k)) rfl (fun A B E G H d0 d1 d2 d3 d4 d5 d6 d7 => rP (own_index1 (i := ((k : Nat) : Int)) Try.underlying22 Try.inf3 ((Pr.own 11 3 1 (List.length (byTo a b k)) (List.map Ty.int (byTo a b k))).up E q23) (ed d0 rfl rfl rfl) (ed d1 rfl rfl rfl) (by omega) (by omega))) (gE2 ok6 fun a8 s6 ok7 D6 => ?_)))))))); have q29 := (Pr.own 11 3 1 (List.length (byTo a b k)) (List.map Ty.int (byTo a b k))).up D6.stp q23
   have q31 : a8.eval (.tmp 5) = a7.eval (.tmp 5) := D6.same 5 rfl
   have q35 := D6.dn 5 (by decide) rfl rfl
   refine tail_step0 (m := 11) (R := (fun _ τ => Own τ 11 3 1 (a7.eval (.tmp 5)) (List.length (byTo a b k)) ((List.map Ty.int (byTo a b k)).set k (Ty.int (a.getD ((b.getD k 0)).toNat 0))))) rfl rfl (m_store Try.inf3 (by decide) q29 (D6.dn 6 (by decide) rfl rfl) (by simp only [List.length_map, List.length_set]; omega) q35 (one_val rfl)) (fun v1 s7 hs1 r1 => ?_)
   have F8 := ((F5.step0 D5.stp).step0 D6.stp).step hs1 (by decide)
   have q37 : At (Ty.nat k) s7 a8 (.tmp 13) := kpm hs1 (by decide) rfl (D6.kt (D5.kt q16 rfl) rfl)
   have q38 : At (Ty.lst Ty.int a) s7 a8 (.tmp 0) := kpm hs1 (by decide) rfl (D6.kt q24 rfl)
   have q39 : At (Ty.lst Ty.int b) s7 a8 (.tmp 11) := kpm hs1 (by decide) rfl (D6.kt (D5.kt q19 rfl) rfl)
   have q40 : At (Ty.nat (List.length b)) s7 a8 (.tmp 12) := kpm hs1 (by decide) rfl (D6.kt (D5.kt (D4.kt q15 rfl) rfl) rfl)
   have q41 : At (Ty.int (a.getD ((b.getD k 0)).toNat 0)) s7 a8 (.tmp 23) := kpm hs1 (by decide) rfl q35
   have q42 : (Pr.own 11 3 1 (List.length ((byTo a b k).set k (a.getD ((b.getD k 0)).toNat 0))) (List.map Ty.int ((byTo a b k).set k (a.getD ((b.getD k 0)).toNat 0)))).has s7 (a7.eval (.tmp 5)) := (cvo (by simp) (by simp) r1)
   refine wpList_nil ?_
   have q43 : (Pr.own 11 3 1 (List.length ((byTo a b k).set k (a.getD ((b.getD k 0)).toNat 0))) (List.map Ty.int ((byTo a b k).set k (a.getD ((b.getD k 0)).toNat 0)))).has s7 (a8.eval (.tmp 5)) := al q31 q42
   refine bn (tn ?_)
   refine gI a8 s7 ok7 (gT (Ty.int (((k : Nat) : Int) + (1 : Int))) rfl (fun A B E G H => rP (y_add (kp (H 13 rfl) E q37) rfl (w64 (by omega) (by omega)))) (gS rfl (fun A B E G H d0 => rP (y_move (ed d0 rfl rfl rfl))) (gE ok7 fun a10 s8 ok9 D7 => ?_)))
   have q44 : (Pr.own 11 3 1 (List.length ((byTo a b k).set k (a.getD ((b.getD k 0)).toNat 0))) (List.map Ty.int ((byTo a b k).set k (a.getD ((b.getD k 0)).toNat 0)))).has s8 (a10.eval (.tmp 5)) := D7.ko q43 rfl
   exact tn ⟨b.length - ((k+1)), by omega, s8, (k+1), rfl, (F8.step0 D7.stp), ok9, (cvi (by (first | rfl | omega | (simp_all; done) | (simp_all; omega))) (D7.dn 1 rfl rfl)), (cvo (by (rw [byTo_step a b k])) (by (rw [byTo_step a b k])) q44), (D7.kt q38 rfl), (D7.kt q39 rfl), (D7.kt q40 rfl), by omega, rfl⟩
  ·
   refine wp_exit (tx (tx (bx (tn (wp_seq ?_)))))
   refine gI a6 s4 ok5 (gT (Ty.val (a6.eval (.tmp 5))) rfl (fun A B E G H => rP (y_move (H 5 rfl))) (gB 0 (gE ok5 fun a11 s9 ok10 D8 => ?_)))
   have q49 : (Pr.own 11 3 1 (List.length (byTo a b k)) (List.map Ty.int (byTo a b k))).has s9 (a11.eval (.tmp 4)) := al (show _ = _ from D8.done 1) ((Pr.own 11 3 1 (List.length (byTo a b k)) (List.map Ty.int (byTo a b k))).up D8.stp q17)
   refine tn (wp_ret ?_)
   obtain ⟨t3, e1, h1, q50⟩ := Own.seal q49 (by decide)
   rw [← e1]
   have F11 := (F5.step0 D8.stp).step h1 (by decide)
   exact ret1 rfl ok10 F11 (cvt (by (obtain rfl : k = b.length := (by omega); rw [byTo_all a b hl])) q50)

theorem Try.inf93 : Info Try.prog 93 (.slice none 0 0) 1 24 := by unfold Info; kernel_rfl
theorem Try.inf108 : Info Try.prog 108 (.pointer none) 1 8 := by unfold Info; kernel_rfl
theorem Try.inf109 : Info Try.prog 109 (.map none) 1 8 := by unfold Info; kernel_rfl
theorem Try.fld95_0 : fieldOf Try.prog 95 0 = some (3, 0) := by kernel_rfl
theorem Try.fld95_2 : fieldOf Try.prog 95 2 = some (93, 2) := by kernel_rfl
theorem Try.fld111_0 : fieldOf Try.prog 111 0 = some (3, 0) := by kernel_rfl
theorem Try.fld111_1 : fieldOf Try.prog 111 1 = some (109, 1) := by kernel_rfl
set_option maxHeartbeats 4000000 in
set_option maxRecDepth 100000 in
theorem sift_fn (gv : Value) (gs : Value) (cs : Value) (us : List Value) (n : Nat) (k : Nat) (c : Nat → Lev) (r : List Int) (σ : GW) (hlow : Low [41, 42] σ) (v0 v1 v2 : Value) (hv0 : Ty.has (Ty.val gv) σ v0) (hv1 : Ty.has (Ty.nat k) σ v1) (hv2 : Ty.has (Ty.lst Ty.int r) σ v2) (ho_gv : OwnP σ 41 gv [(Ty.nat n), (Ty.val gs), (Ty.val cs)]) (ho_cs : ChnU σ 42 22 108 cs n c us) (hw : WC n c) (hkn : k ≤ n) (hr : RowN n r) (hf : Fx k r) :
    FnL Try.prog 77 #[v0, v1, v2] σ [41, 42] (fun v τ => (Ty.has (Ty.tup2 (Ty.nat (sftL n c k r).1) (Ty.lst Ty.int (sftL n c k r).2)) τ v) ∧ (OwnP τ 41 gv [(Ty.nat n), (Ty.val gs), (Ty.val cs)]) ∧ (ChnU τ 42 22 108 cs n c us)) := by
 have hnn := hw.nn
 refine fn_introL hlow Try.func77 rfl Try.ntmps77 (Nat.le_of_ble_eq_true rfl) (fun a0 F0 ok0 hargs => ?_)
 have p0 := pB (hargs 0 _ rfl) hv0
 have p1 := pB (hargs 1 _ rfl) hv1
 have p2 := pB (hargs 2 _ rfl) hv2
 have b1 := sl_le p2
 clear hargs; refine wp_seq ?_
 refine gI a0 σ ok0 (gC (Ty.int (0 : Int)) (gC (Ty.val (Value.slice none 0 0)) (gE ok0 fun a1 s1 ok1 D1 => ?_))); have o1 := OwnP.k0 ho_gv D1.stp; have o2 := ChnU.k0 ho_cs D1.stp; refine tn (wp_seq (wp_block ?_))
 refine loop (fun n1 a2 w1 => ∃ (t1 : GW) (j : Nat) (q : (List Int)), t1.w = w1 ∧ FromL [41, 42] σ t1 ∧ Ok 49 [] a2 ∧ At (Ty.nat j) t1 a2 (.tmp 1) ∧ At (Ty.lst Ty.int q) t1 a2 (.tmp 2) ∧ At (Ty.val gv) t1 a2 (.tmp 0) ∧ OwnP t1 41 gv [(Ty.nat n), (Ty.val gs), (Ty.val cs)] ∧ ChnU t1 42 22 108 cs n c us ∧ (j ≤ n) ∧ (RowN n q) ∧ (Fx j q) ∧ (sftL n c j q = sftL n c k r) ∧ n1 = n - j) (n - (k)) ?_ ?_
 ·
  exact ⟨s1, k, r, rfl, (F0.step0 D1.stp), ok1, (cvi (by (first | rfl | omega | (simp_all; done) | (simp_all; omega))) (D1.kt p1 rfl)), (cvt (by (first | rfl | omega | (simp_all; done) | (simp_all; omega))) (D1.kt p2 rfl)), (D1.kt p0 rfl), o1, o2, hkn, hr, hf, rfl, rfl⟩
 ·
  rintro n2 a3 w2 ⟨t2, j, q, rfl, F2, ok2, q4, q5, q6, o3, o4, hj, hq, hfj, E, rfl⟩
  have hql := hq.len
  refine wp_seq (wp_seq ?_)
  refine gI a3 t2 ok2 (gM q4 (gM q6 (gT (Ty.val gv) rfl (fun A B E G H d0 => rP (y_nilp (OwnP.k0 o3 E) (ed d0 rfl rfl rfl))) (gT (Ty.val (ptrAt gv 0)) rfl (fun A B E G H d0 => rP (ownp_field Try.fld95_0 Try.inf3 (by decide) (OwnP.k0 o3 E) (ed d0 rfl rfl rfl))) (gS rfl (fun A B E G H d0 => rP (ownp_load Try.underlying3 rfl (OwnP.k0 o3 E) (ed d0 rfl rfl rfl) rfl)) (gS rfl (fun A B E G H d0 d1 => rP (y_lss (ed d0 rfl rfl rfl) (ed d1 rfl rfl rfl))) (gE ok2 fun a4 s2 ok3 D2 => ?_))))))); have F3 := F2.step0 D2.stp; have q7 := D2.kt q4 rfl; have q8 := D2.kt q5 rfl; have q9 := D2.kt q6 rfl; have o5 := OwnP.k0 o3 D2.stp; have o6 := ChnU.k0 o4 D2.stp; refine tn ?_
  refine cond_p (p := (((j : Nat) : Int) < ((n : Nat) : Int))) (D2.dn 5 rfl rfl) (fun c1 => ?_) (fun c1 => ?_)
  ·
   refine wp_skip (tn (wp_seq (wp_block (wp_seq ?_))))
   have o7 : Own s2 42 108 1 cs n (List.map Ty.val us) := ChnU.row o6
   have hul1 := ChnU.ul o6
   refine gI a4 s2 ok3 (gM q9 (gT (Ty.val gv) rfl (fun A B E G H d0 => rP (y_nilp (OwnP.k0 o5 E) (ed d0 rfl rfl rfl))) (gT (Ty.val (ptrAt gv 2)) rfl (fun A B E G H d0 => rP (ownp_field Try.fld95_2 Try.inf93 (by decide) (OwnP.k0 o5 E) (ed d0 rfl rfl rfl))) (gS rfl (fun A B E G H d0 => rP (ownp_load Try.underlying93 rfl (OwnP.k0 o5 E) (ed d0 rfl rfl rfl) rfl)) (gM q7 (gT (Ty.val (cellPtr cs j)) rfl (fun A B E G H d0 d1 => rP (own_index1 (i := ((j : Nat) : Int)) Try.underlying93 Try.inf108 (Own.k0 o7 E) (ed d0 rfl rfl rfl) (ed d1 rfl rfl rfl) (by omega) (by omega))) (gS rfl (fun A B E G H d0 => rP (own_load Try.underlying108 rfl (Own.k0 o7 E) (ed d0 rfl rfl rfl) (lst_get Ty.val us undef j (by omega)))) (gB 0 (gE ok3 fun a5 s3 ok4 D3 => ?_))))))))); have q12 := D3.kt q8 rfl; have o8 := OwnP.k0 o5 D3.stp; have o9 := Own.k0 o7 D3.stp; have o10 := ChnU.k0 o6 D3.stp; have q14 := D3.dn 7 rfl rfl
   obtain ⟨ms1, rs1, hN1⟩ := o10
   have o11 : ChnU s3 42 22 108 cs n c us := ⟨ms1, rs1, hN1⟩
   have hl1 := hN1.lev j (by omega)
   obtain ⟨mq1, hmq1⟩ : ∃ x_, ms1 j = x_ := ⟨_, rfl⟩
   obtain ⟨rq1, hrq1⟩ : ∃ x_, rs1 j = x_ := ⟨_, rfl⟩
   have o12 : OwnP s3 42 (us.getD j undef) [(Ty.nat j), (Ty.val mq1), (Ty.val rq1)] := by have h_ := hl1.p; simp only [hmq1, hrq1] at h_; exact h_
   have o13 : OwnM Ty.ints kI s3 42 mq1 (c j).orb := by have h_ := hl1.m; simp only [hmq1, hrq1] at h_; exact h_
   refine tn (wp_seq ?_)
   refine gI a5 s3 ok4 (gM q14 (gT (Ty.val (us.getD j undef)) rfl (fun A B E G H d0 => rP (y_nilp (OwnP.k0 o12 E) (ed d0 rfl rfl rfl))) (gT (Ty.val (ptrAt (us.getD j undef) 1)) rfl (fun A B E G H d0 => rP (ownp_field Try.fld111_1 Try.inf109 (by decide) (OwnP.k0 o12 E) (ed d0 rfl rfl rfl))) (gS rfl (fun A B E G H d0 => rP (ownp_load Try.underlying109 rfl (OwnP.k0 o12 E) (ed d0 rfl rfl rfl) rfl)) (gM q12 (gM q14 (gT (Ty.val (us.getD j undef)) rfl (fun A B E G H d0 => rP (y_nilp (OwnP.k0 o12 E) (ed d0 rfl rfl rfl))) (gT (Ty.val (ptrAt (us.getD j undef) 0)) rfl (fun A B E G H d0 => rP (ownp_field Try.fld111_0 Try.inf3 (by decide) (OwnP.k0 o12 E) (ed d0 rfl rfl rfl))) (gS rfl (fun A B E G H d0 => rP (ownp_load Try.underlying3 rfl (OwnP.k0 o12 E) (ed d0 rfl rfl rfl) rfl)) (gT (Ty.ref [(Ty.int (q.getD j 0))]) rfl (fun A B E G H d0 d1 => rP (y_index1 Try.underlying22 Try.inf3 (ed d0 rfl rfl rfl) (ed d1 rfl rfl rfl) (by omega) (lst_get Ty.int q 0 j (by omega)))) (gS rfl (fun A B E G H d0 => rP (y_load Try.underlying3 rfl (ed d0 rfl rfl rfl) rfl)) (gT (Ty.tup2 (Ty.lst Ty.int (((c j).orb (q.getD j 0)).getD [])) (Ty.bool (Option.isSome ((c j).orb (q.getD j 0))))) rfl (fun A B E G H d0 d1 => rP (y_lookup2 (i := (q.getD j 0)) (z := []) Try.underlying109 (keyInt Try.underlying3) Try.inf22 (fun _ => sl_nil) (OwnM.k0 o13 E) (ed d0 rfl rfl rfl) (ed d1 rfl rfl rfl))) (gS rfl (fun A B E G H d0 => rP (y_move (ed d0 rfl rfl rfl))) (gT (Ty.lst Ty.int (((c j).orb (q.getD j 0)).getD [])) rfl (fun A B E G H d0 => rP (y_ext2_0 (ed d0 rfl rfl rfl))) (gT (Ty.bool (Option.isSome ((c j).orb (q.getD j 0)))) rfl (fun A B E G H d0 d1 => rP (y_ext2_1 (ed d0 rfl rfl rfl))) (gB 0 (gB 0 (gE ok4 fun a6 s4 ok5 D4 => ?_)))))))))))))))))); have o14 := OwnP.k0 o8 D4.stp; have o15 := ChnU.k0 o11 D4.stp; have o16 := OwnP.k0 o12 D4.stp; have o17 := OwnM.k0 o13 D4.stp; refine tn (wp_seq (wp_seq ?_))
   refine gI a6 s4 ok5 (gM (D4.dn 16 rfl rfl) (gS rfl (fun A B E G H d0 => rP (y_not (ed d0 rfl rfl rfl))) (gE ok5 fun a7 s5 ok6 D5 => ?_))); have F6 := ((F3.step0 D3.stp).step0 D4.stp).step0 D5.stp; have q20 := D5.kt (D4.kt (D3.kt q7 rfl) rfl) rfl; have q21 := D5.kt (D4.kt q12 rfl) rfl; have o18 := OwnP.k0 o14 D5.stp; have o19 := ChnU.k0 o15 D5.stp; refine tn ?_
   refine cond_t (D5.dn 1 rfl rfl) (fun c2 => ?_) (fun c2 => ?_)
   ·
    have ho : ((c j).orb (q.getD j 0)) = none := (by cases h_ : ((c j).orb (q.getD j 0)) <;> simp_all); have hs2 := E; rw [sft_none (by omega) ho] at hs2
    refine wp_exit (tx ?_)
    refine bo (by decide) ?_
    refine tx (tx (bx (tn (wp_seq ?_))))
    refine gI a7 s5 ok6 (gM q20 (gM q21 (gB 0 (gB 0 (gE ok6 fun a8 s6 ok7 D6 => ?_))))); have o20 := OwnP.k0 o18 D6.stp; have o21 := ChnU.k0 o19 D6.stp; refine tn (wp_ret ?_)
    exact retL2 rfl ok7 (F6.step0 D6.stp) ⟨(hasT2 (cvi (by (rw [← hs2])) (D6.dn 2 rfl rfl)) (cvt (by (rw [← hs2])) (D6.dn 3 rfl rfl))), o20, o21⟩
   ·
    have ho : ((c j).orb (q.getD j 0)).isSome = true := (by cases h_ : ((c j).orb (q.getD j 0)) <;> simp_all); obtain ⟨hg1, hg2, hg3, hg4, hg5, hg6, hg7⟩ := sift_go hw (by omega) hq hfj ho
    refine wp_skip (tn ?_)
    refine gI a7 s5 ok6 (gM (D5.kt (D4.dn 15 rfl rfl) rfl) (gS rfl (fun A B E G H d0 => rP (y_call _ Try.func65 rfl rfl my1 (inverse_fn ((((c j).orb (q.getD j 0)).getD [])) _ _ (ed d0 rfl rfl rfl) (by assumption)))) (gM q21 (gS rfl (fun A B E G H d0 d1 d2 => rP (y_call _ Try.func64 rfl rfl my2 (product_fn ((undoL ((((c j).orb (q.getD j 0)).getD [])))) (q) _ _ _ (ed d0 rfl rfl rfl) (ed d1 rfl rfl rfl) (by first | assumption | omega) (by first | assumption | omega) (by first | assumption | omega)))) (gB 0 (gE ok6 fun a9 s7 ok8 D7 => ?_)))))); have o22 := OwnP.k0 o18 D7.stp; have o23 := ChnU.k0 o19 D7.stp; refine bn (tn ?_)
    refine gI a9 s7 ok8 (gM (D7.kt q20 rfl) (gT (Ty.nat (j + 1)) rfl (fun A B E G H d0 => rP ((y_add (ed d0 rfl rfl rfl) rfl (w64 (by omega) (by omega))).mono (fun τ _ h => cvi (σ := τ) (by first | omega | exact (Int.natCast_mul _ _).symm) h))) (gB 0 (gE ok8 fun a10 s8 ok9 D8 => ?_)))); have o24 := OwnP.k0 o22 D8.stp; have o25 := ChnU.k0 o23 D8.stp
    exact tn ⟨n - ((j + 1)), by omega, s8, (j + 1), (byL (undoL (((c j).orb (q.getD j 0)).getD [])) q), rfl, ((F6.step0 D7.stp).step0 D8.stp), ok9, (cvi (by (first | rfl | omega | (simp_all; done) | (simp_all; omega))) (D8.dn 2 rfl rfl)), (cvt (by (first | rfl | omega | (simp_all; done) | (simp_all; omega))) (D8.kt (D7.dn 4 rfl rfl) rfl)), (D8.kt (D7.kt (D5.kt (D4.kt (D3.kt q9 rfl) rfl) rfl) rfl) rfl), o24, o25, by omega, hg5, hg6, hg7.trans E, rfl⟩
  ·
   have hs2 := E; rw [show j = n by omega, sft_end (Nat.le_refl n)] at hs2; have ejn : j = n := (by omega)
   refine wp_exit (tx (tx (bx (tn (wp_seq ?_)))))
   refine gI a4 s2 ok3 (gM q7 (gM q8 (gB 0 (gB 0 (gE ok3 fun a11 s9 ok10 D9 => ?_))))); have o26 := OwnP.k0 o5 D9.stp; have o27 := ChnU.k0 o6 D9.stp; refine tn (wp_ret ?_)
   exact retL2 rfl ok10 (F3.step0 D9.stp) ⟨(hasT2 (cvi (by (rw [← hs2]; show ((j : Nat) : Int) = ((n : Nat) : Int); omega)) (D9.dn 2 rfl rfl)) (cvt (by (rw [← hs2])) (D9.dn 3 rfl rfl))), o26, o27⟩


set_option maxHeartbeats 4000000 in
set_option maxRecDepth 100000 in
theorem cloneRO_fn (x : Value) (xs : List (List Int)) (σ : GW) (hlow : Low [40] σ) (v0 : Value) (hv0 : Ty.has (Ty.val x) σ v0) (ho_x : Own σ 40 22 1 x (List.length xs) (List.map Ty.ints xs)) (hx1 : 1 ≤ xs.length) (hx2 : xs.length ≤ 1000000) :
    FnL Try.prog 115 #[v0] σ [40] (fun v τ => ∃ (z : Value), (Ty.has (Ty.val z) τ v) ∧ (Own τ 40 22 1 x (List.length xs) (List.map Ty.ints xs)) ∧ (Own τ 41 22 1 z (List.length xs) (List.map Ty.ints xs))) := by
 refine fn_introL hlow Try.func115 rfl Try.ntmps115 (Nat.le_of_ble_eq_true rfl) (fun a0 F0 ok0 hargs => ?_)
 have p0 := pB (hargs 0 _ rfl) hv0
 clear hargs; refine wp_seq ?_
 refine gI a0 σ ok0 (gC (Ty.val (Value.slice none 0 0)) (gE ok0 fun a1 s1 ok1 D1 => ?_)); have q1 := D1.kt p0 rfl; have o1 := Own.k0 ho_x D1.stp; refine tn (wp_seq (wp_seq ?_))
 refine gI a1 s1 ok1 (gM q1 (gT (Ty.bool false) rfl (fun A B E G H d0 => rP (y_ownnil Try.underlying24 (Own.k0 o1 E) (by omega) (ed d0 rfl rfl rfl) rfl)) (gE ok1 fun a2 s2 ok2 D2 => ?_))); have o2 := Own.k0 o1 D2.stp; refine tn ?_
 refine cond_t (D2.dn 1 rfl rfl) (fun c1 => (by cases c1)) (fun _ => ?_)
 refine wp_skip (tn (wp_seq ?_))
 refine gI a2 s2 ok2 (gR (Pr.own 41 22 1 0 (List.map Ty.ints ([] : List (List Int)))) rfl (by intro A B E G H; exact rP ((y_lit0 (k := 41) Try.underlying24 Try.inf22).mono (fun _ _ h => cvo (by simp) (by simp) h))) (gM (D2.kt q1 rfl) (gE2 ok2 fun a3 s3 ok3 D3 => ?_))); have o3 := Own.k0 o2 D3.stp
 obtain ⟨x1, hx1⟩ : ∃ x, a3.eval (.tmp 5) = x := ⟨_, rfl⟩
 have q4 : At (Ty.val x1) s3 a3 (.tmp 5) := hx1
 have o4 := al2 (R := (Pr.own 41 22 1 0 (List.map Ty.ints ([] : List (List Int))))) hx1 (D3.done 0 (by decide))
 have q5 : At (Ty.val x) s3 a3 (.tmp 6) := D3.done 1 (by decide)
 refine tL (R := (fun v τ => Own τ 41 22 1 v (0 + (List.length xs)) ((List.map Ty.ints ([] : List (List Int))) ++ (List.map Ty.ints xs)))) ok3 (YldM.toL (m_appendo Try.underlying24 Try.inf22 (by decide) rfl (by decide) (al (R := (Pr.own 41 22 1 0 (List.map Ty.ints ([] : List (List Int))))) q4 o4) (al (R := (Pr.own 40 22 1 (List.length xs) (List.map Ty.ints xs))) q5 o3) (one_map (fun _ => one_sl)) (by omega) (by omega))) fun a4 s4 hs1 ok4 r1 sm1 => ?_
 have F4 := (((F0.step0 D1.stp).step0 D2.stp).step0 D3.stp).stepL hs1 (by decide); have o6 := Own.keepL o3 hs1 (by decide) (by decide)
 obtain ⟨x2, hx2⟩ : ∃ x, a4.eval (.tmp 7) = x := ⟨_, rfl⟩
 have q6 : At (Ty.val x2) s4 a4 (.tmp 7) := hx2
 have o5 := al2 (R := (Pr.own 41 22 1 (List.length xs) (List.map Ty.ints xs))) hx2 (cvo (by first | (simp; done) | (simp; omega)) (by first | (rw [List.map_append]; rfl) | simp) r1)
 clear r1
 refine tL ok4 (Yld.toL (y_as q6)) fun a5 s5 hs2 ok5 r2 sm2 => ?_
 have F5 := F4.stepL hs2 (by decide); have o7 := Own.keepL o6 hs2 (by decide) (by decide); have o8 := Own.keepL o5 hs2 (by decide) (by decide)
 have q7 : At (Ty.val x2) s5 a5 (.tmp 2) := r2
 clear r2; refine wpList_nil (tn (wp_ret ?_))
 exact retL1 rfl ok5 F5 ⟨x2, q7, o7, o8⟩

theorem Try.inf24 : Info Try.prog 24 (.slice none 0 0) 1 24 := by unfold Info; kernel_rfl
theorem Try.fld111_2 : fieldOf Try.prog 111 2 = some (24, 2) := by kernel_rfl
def GAddAt (d : Nat) : Prop := ∀ (gv : Value) (gs : Value) (cs : Value) (us : List Value) (n : Nat) (k : Nat) (c : Nat → Lev) (r : List Int) (σ : GW) (hlow : Low [41, 42] σ) (v0 v1 v2 : Value) (hv0 : Ty.has (Ty.val gv) σ v0) (hv1 : Ty.has (Ty.nat k) σ v1) (hv2 : Ty.has (Ty.lst Ty.int r) σ v2) (ho_gv : OwnP σ 41 gv [(Ty.nat n), (Ty.val gs), (Ty.val cs)]) (ho_cs : ChnU σ 42 22 108 cs n c us) (hd : d + k = n) (hp : AddPre n k r c), FnL Try.prog 92 #[v0, v1, v2] σ [41, 42] (fun v τ => ∃ (c2 : Nat → Lev), True ∧ (OwnP τ 41 gv [(Ty.nat n), (Ty.val gs), (Ty.val cs)]) ∧ (ChnU τ 42 22 108 cs n c2 us) ∧ (AddP n k r c c2))
set_option maxHeartbeats 4000000 in
set_option maxRecDepth 100000 in
theorem gExt_fn (d : Nat) (gv : Value) (gs : Value) (cs : Value) (us : List Value) (n : Nat) (k : Nat) (c : Nat → Lev) (r : List Int) (σ : GW) (hlow : Low [41, 42] σ) (v0 v1 v2 : Value) (hv0 : Ty.has (Ty.val gv) σ v0) (hv1 : Ty.has (Ty.nat k) σ v1) (hv2 : Ty.has (Ty.lst Ty.int r) σ v2) (ho_gv : OwnP σ 41 gv [(Ty.nat n), (Ty.val gs), (Ty.val cs)]) (ho_cs : ChnU σ 42 22 108 cs n c us) (hd : d + (k + 1) = n) (hp : ExtPre n k r c) (hOn : GAddAt d) :
    FnL Try.prog 106 #[v0, v1, v2] σ [41, 42] (fun v τ => ∃ (c2 : Nat → Lev), True ∧ (OwnP τ 41 gv [(Ty.nat n), (Ty.val gs), (Ty.val cs)]) ∧ (ChnU τ 42 22 108 cs n c2 us) ∧ (ExtP n k r c c2)) := by
 have hnn := hp.wc.nn
 have hkn := hp.lt
 have hgl := hp.gl
 have hgn := hp.gensN
 have hGl : ((c k).gens ++ [r]).length ≤ 1000000 := by (rw [List.length_append, List.length_singleton]; omega)
 refine fn_introL hlow Try.func106 rfl Try.ntmps106 (Nat.le_of_ble_eq_true rfl) (fun a0 F0 ok0 hargs => ?_)
 have p0 := pB (hargs 0 _ rfl) hv0
 have p1 := pB (hargs 1 _ rfl) hv1
 have p2 := pB (hargs 2 _ rfl) hv2
 have b1 := sl_le p2
 clear hargs; refine wp_seq ?_
 have o1 : Own σ 42 108 1 cs n (List.map Ty.val us) := ChnU.row ho_cs
 have hul1 := ChnU.ul ho_cs
 refine gI a0 σ ok0 (gM p0 (gT (Ty.val gv) rfl (fun A B E G H d0 => rP (y_nilp (OwnP.k0 ho_gv E) (ed d0 rfl rfl rfl))) (gT (Ty.val (ptrAt gv 2)) rfl (fun A B E G H d0 => rP (ownp_field Try.fld95_2 Try.inf93 (by decide) (OwnP.k0 ho_gv E) (ed d0 rfl rfl rfl))) (gS rfl (fun A B E G H d0 => rP (ownp_load Try.underlying93 rfl (OwnP.k0 ho_gv E) (ed d0 rfl rfl rfl) rfl)) (gM p1 (gT (Ty.val (cellPtr cs k)) rfl (fun A B E G H d0 d1 => rP (own_index1 (i := ((k : Nat) : Int)) Try.underlying93 Try.inf108 (Own.k0 o1 E) (ed d0 rfl rfl rfl) (ed d1 rfl rfl rfl) (by omega) (by omega))) (gS rfl (fun A B E G H d0 => rP (own_load Try.underlying108 rfl (Own.k0 o1 E) (ed d0 rfl rfl rfl) (lst_get Ty.val us undef k (by omega)))) (gB 0 (gE ok0 fun a1 s1 ok1 D1 => ?_))))))))); have o2 := OwnP.k0 ho_gv D1.stp; have o3 := Own.k0 o1 D1.stp; have o4 := ChnU.k0 ho_cs D1.stp; refine tn (wp_seq ?_)
 obtain ⟨ms1, rs1, hN1⟩ := o4
 obtain ⟨t1, e1, h1, o5, o6, o7, o8⟩ := ChnN.focus hN1 (i := k) (by omega) (by decide) 43 44 45
 rw [← e1]
 have F2 := (F0.step0 D1.stp).step h1 (by decide)
 have q5 : At (Ty.val gv) t1 a1 (.tmp 0) := Ty.up _ (h1.le (by decide)) (D1.kt p0 rfl)
 have q6 : At (Ty.nat k) t1 a1 (.tmp 1) := Ty.up _ (h1.le (by decide)) (D1.kt p1 rfl)
 have q7 : At (Ty.lst Ty.int r) t1 a1 (.tmp 2) := Ty.up _ (h1.le (by decide)) (D1.kt p2 rfl)
 have q8 : At (Ty.val (us.getD k undef)) t1 a1 (.tmp 6) := Ty.up _ (h1.le (by decide)) (D1.dn 7 rfl rfl)
 have o9 := OwnP.keepL o2 (h1.toL (L := [42]) (by simp)) (by decide) (by decide)
 obtain ⟨mq1, hmq1⟩ : ∃ x_, ms1 k = x_ := ⟨_, rfl⟩
 obtain ⟨rq1, hrq1⟩ : ∃ x_, rs1 k = x_ := ⟨_, rfl⟩
 rw [hmq1, hrq1] at o5
 rw [hmq1] at o6
 rw [hrq1] at o7
 have hmk1 : ∃ b, mq1 = Value.map (some b) := by obtain ⟨b_, _, _, e_, _⟩ := o6; exact ⟨b_, e_⟩
 refine gI a1 t1 ok1 (gM q8 (gM q8 (gT (Ty.val (us.getD k undef)) rfl (fun A B E G H d0 => rP (y_nilp (OwnP.k0 o5 E) (ed d0 rfl rfl rfl))) (gT (Ty.val (ptrAt (us.getD k undef) 2)) rfl (fun A B E G H d0 => rP (ownp_field Try.fld111_2 Try.inf24 (by decide) (OwnP.k0 o5 E) (ed d0 rfl rfl rfl))) (gS rfl (fun A B E G H d0 => rP (ownp_load Try.underlying24 rfl (OwnP.k0 o5 E) (ed d0 rfl rfl rfl) rfl)) (gM q7 (gT (Ty.sl 1 1 [(Ty.lst Ty.int r)]) rfl (fun A B E G H d0 => rP (y_build1o Try.underlying24 Try.inf22 rfl (one_sl) (ed d0 rfl rfl rfl))) (gE2 ok1 fun a2 s2 ok2 D2 => ?_)))))))); have o10 := OwnP.k0 o9 D2.stp; have o11 := ChnR.k0 o8 D2.stp; have o12 := OwnP.k0 o5 D2.stp; have o13 := OwnM.k0 o6 D2.stp; have o14 := Own.k0 o7 D2.stp; have q14 := D2.dn 6 (by decide) rfl rfl
 have b2 := sl_le q14
 refine tL ok2 (YldM.toL (m_append Try.underlying24 Try.inf22 (by decide) rfl (by decide) (al (R := (Pr.own 45 22 1 (List.length (c k).gens) (List.map Ty.ints (c k).gens))) (D2.dn 4 (by decide) rfl rfl) o14) q14 (by intro U hU; simp at hU; subst hU; exact one_sl) (by omega) (by omega))) fun a3 s3 hs1 ok3 r1 sm1 => ?_
 have F4 := (F2.step0 D2.stp).stepL hs1 (by decide); have q15 := kpL hs1 (by decide) (sm1 0 (by decide)) (D2.kt q5 rfl); have q16 := kpL hs1 (by decide) (sm1 1 (by decide)) (D2.kt q6 rfl); have q17 := kpL hs1 (by decide) (sm1 6 (by decide)) (D2.kt q8 rfl); have q18 := kpL hs1 (by decide) (sm1 24 (by decide)) (D2.dn 0 (by decide) rfl rfl); have o16 := OwnP.keepL o10 hs1 (by decide) (by decide); have o17 := ChnR.keepL o11 hs1 (by decide) (by decide); have o18 := OwnP.keepL o12 hs1 (by decide) (by decide); have o19 := OwnM.keepL o13 hs1 (by decide) (by decide)
 obtain ⟨x1, hx1⟩ : ∃ x, a3.eval (.tmp 31) = x := ⟨_, rfl⟩
 have q19 : At (Ty.val x1) s3 a3 (.tmp 31) := hx1
 have o15 := al2 (R := (Pr.own 45 22 1 (List.length ((c k).gens ++ [r])) (List.map Ty.ints ((c k).gens ++ [r])))) hx1 (cvo (by simp) (by first | (rw [List.map_append]; rfl) | simp) r1)
 clear r1
 refine tL (R := (fun v τ => Pr.has (Ty.pr (Ty.val (us.getD k undef))) τ v)) ok3 (Yld.toL (y_nilp o18 q18)) fun a4 s4 hs2 ok4 r2 sm2 => ?_
 have F5 := F4.stepL hs2 (by decide); have q20 := kpL hs2 (by decide) (sm2 0 (by decide)) q15; have q21 := kpL hs2 (by decide) (sm2 1 (by decide)) q16; have q22 := kpL hs2 (by decide) (sm2 6 (by decide)) q17; have q23 := kpL hs2 (by decide) (sm2 31 (by decide)) q19; have o20 := OwnP.keepL o16 hs2 (by decide) (by decide); have o21 := ChnR.keepL o17 hs2 (by decide) (by decide); have o22 := OwnP.keepL o18 hs2 (by decide) (by decide); have o23 := OwnM.keepL o19 hs2 (by decide) (by decide); have o24 := Own.keepL o15 hs2 (by decide) (by decide)
 have q24 : At (Ty.val (us.getD k undef)) s4 a4 (.tmp 32) := r2
 clear r2
 refine tL (R := (fun v τ => Pr.has (Ty.pr (Ty.val (ptrAt (us.getD k undef) 2))) τ v)) ok4 (Yld.toL (ownp_field Try.fld111_2 Try.inf24 (by decide) o22 q24)) fun a5 s5 hs3 ok5 r3 sm3 => ?_
 have F6 := F5.stepL hs3 (by decide); have q25 := kpL hs3 (by decide) (sm3 0 (by decide)) q20; have q26 := kpL hs3 (by decide) (sm3 1 (by decide)) q21; have q27 := kpL hs3 (by decide) (sm3 6 (by decide)) q22; have q28 := kpL hs3 (by decide) (sm3 31 (by decide)) q23; have o25 := OwnP.keepL o20 hs3 (by decide) (by decide); have o26 := ChnR.keepL o21 hs3 (by decide) (by decide); have o27 := OwnP.keepL o22 hs3 (by decide) (by decide); have o28 := OwnM.keepL o23 hs3 (by decide) (by decide); have o29 := Own.keepL o24 hs3 (by decide) (by decide)
 have q29 : At (Ty.val (ptrAt (us.getD k undef) 2)) s5 a5 (.tmp 33) := r3
 clear r3
 refine tailL0 (L := [43]) (R := (fun _ τ => OwnP τ 43 (us.getD k undef) ([(Ty.nat k), (Ty.val mq1), (Ty.val rq1)].set 2 (Ty.val x1)))) rfl rfl (YldM.toL (m_storep Try.inf24 (by decide) o27 q29 (Nat.le_of_ble_eq_true rfl) q28 (one_val (Own.one o29)))) (fun v1 s6 hs4 r4 => ?_)
 have F7 := F6.stepL hs4 (by decide); have q30 := kpL hs4 (by decide) rfl q25; have q31 := kpL hs4 (by decide) rfl q26; have q32 := kpL hs4 (by decide) rfl q27; have o31 := OwnP.keepL o25 hs4 (by decide) (by decide); have o32 := ChnR.keepL o26 hs4 (by decide) (by decide); have o33 := OwnM.keepL o28 hs4 (by decide) (by decide); have o34 := Own.keepL o29 hs4 (by decide) (by decide)
 have o30 : OwnP s6 43 (us.getD k undef) [(Ty.nat k), (Ty.val mq1), (Ty.val x1)] := r4
 clear r4; refine wpList_nil (tn (wp_seq ?_))
 refine gI a5 s6 ok5 (gM q32 (gT (Ty.val (us.getD k undef)) rfl (fun A B E G H d0 => rP (y_nilp (OwnP.k0 o30 E) (ed d0 rfl rfl rfl))) (gT (Ty.val (ptrAt (us.getD k undef) 1)) rfl (fun A B E G H d0 => rP (ownp_field Try.fld111_1 Try.inf109 (by decide) (OwnP.k0 o30 E) (ed d0 rfl rfl rfl))) (gS rfl (fun A B E G H d0 => rP (ownp_load Try.underlying109 rfl (OwnP.k0 o30 E) (ed d0 rfl rfl rfl) rfl)) (gS rfl (fun A B E G H d0 => rP (y_call _ Try.func114 rfl rfl my1 (keysK_fn (mq1) _ _ (ed d0 rfl rfl rfl) (by first | assumption | omega)))) (gE2 ok5 fun a6 s7 ok6 D3 => ?_)))))); have o35 := OwnP.k0 o31 D3.stp; have o36 := ChnR.k0 o32 D3.stp; have o37 := OwnM.k0 o33 D3.stp; have o38 := Own.k0 o34 D3.stp; have o39 := OwnP.k0 o30 D3.stp
 refine tL ok6 (y_callL (L := [41]) [(44, 41)] [(41, 44), (42, 46)] #[a6.eval (.tmp 38)] rfl (by decide) Try.func113 rfl rfl my1 (sortedK_fn (mq1) ((c k).orb) _ (GW.low_lend _ (by decide)) _ (Ty.up _ (GW.le_lend _ _) (D3.dn 4 (by decide) rfl rfl)) (OwnM.ren (cvm (by (rfl)) o37) (GW.ren_lend _ _ (by decide) rfl)) (by first | assumption | exact hp.fin | exact hfn | omega))) fun a7 s8 hs5 ok7 r5 sm4 => ?_
 have F9 := (F7.step0 D3.stp).stepL hs5 (by decide); have q38 := kpL hs5 (by decide) (sm4 0 (by decide)) (D3.kt q30 rfl); have q39 := kpL hs5 (by decide) (sm4 1 (by decide)) (D3.kt q31 rfl); have q40 := kpL hs5 (by decide) (sm4 6 (by decide)) (D3.kt q32 rfl); have o44 := OwnP.keepL o35 hs5 (by decide) (by decide); have o45 := ChnR.keepL o36 hs5 (by decide) (by decide); have o46 := Own.keepL o38 hs5 (by decide) (by decide); have o47 := OwnP.keepL o39 hs5 (by decide) (by decide)
 obtain ⟨t2, ⟨g1, x2, hT1, o40, o41, hp1, hp2⟩, B1⟩ := r5
 have q41 : At (Ty.val x2) s8 a7 (.tmp 39) := Ty.up _ B1.le hT1
 have o42 : OwnM Ty.ints kI s8 44 mq1 ((c k).orb) := OwnM.ren o40 (B1.ren (by decide) rfl)
 have o43 : Own s8 46 3 1 x2 (List.length (g1)) (List.map Ty.int (g1)) := Own.ren o41 (B1.ren (by decide) rfl)
 refine tL ok7 (Yld.toL (y_as q41)) fun a8 s9 hs6 ok8 r6 sm5 => ?_
 have F10 := F9.stepL hs6 (by decide); have q42 := kpL hs6 (by decide) (sm5 0 (by decide)) q38; have q43 := kpL hs6 (by decide) (sm5 1 (by decide)) q39; have q44 := kpL hs6 (by decide) (sm5 6 (by decide)) q40; have o48 := OwnP.keepL o44 hs6 (by decide) (by decide); have o49 := ChnR.keepL o45 hs6 (by decide) (by decide); have o50 := Own.keepL o46 hs6 (by decide) (by decide); have o51 := OwnP.keepL o47 hs6 (by decide) (by decide); have o52 := OwnM.keepL o42 hs6 (by decide) (by decide); have o53 := Own.keepL o43 hs6 (by decide) (by decide)
 have q45 : At (Ty.val x2) s9 a8 (.tmp 7) := r6
 clear r6; refine wpList_nil ?_
 have o54 : OwnQ s9 46 3 x2 (List.length (g1)) (List.map Ty.int (g1)) := OwnQ.of o53 (by exact hp.ne hp2)
 have hB0 := hp.bfs hp1 hp2
 refine tn (wp_seq (wp_block ?_))
 refine loop (fun n1 a9 w1 => ∃ (t3 : GW) (f : (Int → Option (List Int))) (op : (List Int)) (qv : Value), t3.w = w1 ∧ FromL [41, 42] σ t3 ∧ Ok 141 [] a9 ∧ At (Ty.val qv) t3 a9 (.tmp 7) ∧ At (Ty.val gv) t3 a9 (.tmp 0) ∧ At (Ty.nat k) t3 a9 (.tmp 1) ∧ At (Ty.val (us.getD k undef)) t3 a9 (.tmp 6) ∧ OwnQ t3 46 3 qv (List.length op) (List.map Ty.int op) ∧ OwnM Ty.ints kI t3 44 mq1 f ∧ OwnP t3 41 gv [(Ty.nat n), (Ty.val gs), (Ty.val cs)] ∧ ChnR t3 42 22 108 cs n c us ms1 rs1 k ∧ Own t3 45 22 1 x1 (List.length ((c k).gens ++ [r])) (List.map Ty.ints ((c k).gens ++ [r])) ∧ OwnP t3 43 (us.getD k undef) [(Ty.nat k), (Ty.val mq1), (Ty.val x1)] ∧ (Bfs n k ((c k).gens ++ [r]) (c k).orb f op) ∧ n1 = op.length + noO n f) ((g1).length + noO n ((c k).orb)) ?_ ?_
 ·
  exact ⟨s9, (c k).orb, g1, x2, rfl, F10, ok8, q45, q42, q43, q44, o54, o52, o48, o49, o50, o51, hB0, rfl⟩
 ·
  rintro n2 a10 w2 ⟨t4, f, op, qv, rfl, F11, ok9, q46, q47, q48, q49, o55, o56, o57, o58, o59, o60, hB, rfl⟩
  have hBl := hB.len
  refine wp_seq (wp_seq ?_)
  refine gI a10 t4 ok9 (gM q46 (gT (Ty.nat (List.length op)) rfl (fun A B E G H d0 => rP (q_len Try.underlying22 (OwnQ.k0 o55 E) (ed d0 rfl rfl rfl))) (gS rfl (fun A B E G H d0 => rP (y_gtr (ed d0 rfl rfl rfl) rfl)) (gE ok9 fun a11 s10 ok10 D4 => ?_)))); have F12 := F11.step0 D4.stp; have q50 := D4.kt q46 rfl; have q51 := D4.kt q47 rfl; have q52 := D4.kt q48 rfl; have q53 := D4.kt q49 rfl; have o61 := OwnQ.k0 o55 D4.stp; have o62 := OwnM.k0 o56 D4.stp; have o63 := OwnP.k0 o57 D4.stp; have o64 := ChnR.k0 o58 D4.stp; have o65 := Own.k0 o59 D4.stp; have o66 := OwnP.k0 o60 D4.stp; refine tn ?_
  refine cond_p (p := ((0 : Int) < (((List.length op) : Nat) : Int))) (D4.dn 2 rfl rfl) (fun c1 => ?_) (fun c1 => ?_)
  ·
   have hBf := hB.first (by omega)
   refine wp_skip (tn (wp_block (wp_seq ?_)))
   refine gI a11 s10 ok10 (gM q50 (gT (Ty.val (qPtr qv)) rfl (fun A B E G H d0 => rP (q_index Try.underlying22 Try.inf3 (OwnQ.k0 o61 E) (ed d0 rfl rfl rfl) rfl (by omega))) (gT (Ty.int (op.getD 0 0)) rfl (fun A B E G H d0 => rP (q_load Try.underlying3 rfl (OwnQ.k0 o61 E) (ed d0 rfl rfl rfl) (lst_get Ty.int op 0 0 (by omega)))) (gB 0 (gE ok10 fun a12 s11 ok11 D5 => ?_))))); have o67 := OwnQ.k0 o61 D5.stp; have o68 := OwnM.k0 o62 D5.stp; have o69 := OwnP.k0 o63 D5.stp; have o70 := ChnR.k0 o64 D5.stp; have o71 := Own.k0 o65 D5.stp; have o72 := OwnP.k0 o66 D5.stp; refine tn (wp_seq ?_)
   refine gI a12 s11 ok11 (gM (D5.kt q50 rfl) (gT (Ty.val (qDrop qv)) rfl (fun A B E G H d0 => rP (q_drop1 Try.underlying22 Try.inf3 (OwnQ.k0 o67 E) (ed d0 rfl rfl rfl) rfl (by omega))) (gE2 ok11 fun a13 s12 ok12 D6 => ?_))); have o73 := OwnQ.k0 o67 D6.stp; have o74 := OwnM.k0 o68 D6.stp; have o75 := OwnP.k0 o69 D6.stp; have o76 := ChnR.k0 o70 D6.stp; have o77 := Own.k0 o71 D6.stp; have o78 := OwnP.k0 o72 D6.stp
   refine tL ok12 (Yld.toL (y_as (D6.dn 1 (by decide) rfl rfl))) fun a14 s13 hs7 ok13 r7 sm6 => ?_
   have F15 := ((F12.step0 D5.stp).step0 D6.stp).stepL hs7 (by decide); have q66 := kpL hs7 (by decide) (sm6 0 (by decide)) (D6.kt (D5.kt q51 rfl) rfl); have q67 := kpL hs7 (by decide) (sm6 1 (by decide)) (D6.kt (D5.kt q52 rfl) rfl); have q68 := kpL hs7 (by decide) (sm6 6 (by decide)) (D6.kt (D5.kt q53 rfl) rfl); have q69 := kpL hs7 (by decide) (sm6 8 (by decide)) (D6.kt (D5.dn 3 rfl rfl) rfl); have o79 := OwnQ.keepL o73 hs7 (by decide) (by decide); have o80 := OwnM.keepL o74 hs7 (by decide) (by decide); have o81 := OwnP.keepL o75 hs7 (by decide) (by decide); have o82 := ChnR.keepL o76 hs7 (by decide) (by decide); have o83 := Own.keepL o77 hs7 (by decide) (by decide); have o84 := OwnP.keepL o78 hs7 (by decide) (by decide)
   have q70 : At (Ty.val (qDrop qv)) s13 a14 (.tmp 7) := r7
   clear r7; refine wpList_nil ?_
   have o85 : OwnQ s13 46 3 (qDrop qv) (List.length (op.drop 1)) (List.map Ty.int (op.drop 1)) := cvq (by simp) (by rw [List.map_drop]) (OwnQ.drop o79 (by omega))
   refine tn (wp_seq ?_)
   refine gI a14 s13 ok13 (gM q68 (gT (Ty.val (us.getD k undef)) rfl (fun A B E G H d0 => rP (y_nilp (OwnP.k0 o84 E) (ed d0 rfl rfl rfl))) (gT (Ty.val (ptrAt (us.getD k undef) 2)) rfl (fun A B E G H d0 => rP (ownp_field Try.fld111_2 Try.inf24 (by decide) (OwnP.k0 o84 E) (ed d0 rfl rfl rfl))) (gS rfl (fun A B E G H d0 => rP (ownp_load Try.underlying24 rfl (OwnP.k0 o84 E) (ed d0 rfl rfl rfl) rfl)) (gT (Ty.nat (List.length ((c k).gens ++ [r]))) rfl (fun A B E G H d0 => rP (own_len Try.underlying24 (al (R := (Pr.own 45 22 1 (List.length ((c k).gens ++ [r])) (List.map Ty.ints ((c k).gens ++ [r])))) (ed d0 rfl rfl rfl) (Own.k0 o83 E)))) (gT (Ty.int (0 : Int)) rfl (fun A B E G H => rP (y_move rfl)) (gE ok13 fun a15 s14 ok14 D7 => ?_))))))); have o86 := OwnM.k0 o80 D7.stp; have o87 := OwnP.k0 o81 D7.stp; have o88 := ChnR.k0 o82 D7.stp; have o89 := Own.k0 o83 D7.stp; have o90 := OwnP.k0 o84 D7.stp; have o91 := OwnQ.k0 o85 D7.stp
   have q76 : At (Ty.val x1) s14 a15 (.tmp 51) := D7.done 3
   refine tn (wp_block ?_)
   refine loop (fun n3 a16 w3 => ∃ (t5 : GW) (m : Nat) (f2 : (Int → Option (List Int))) (op2 : (List Int)) (qw : Value), t5.w = w3 ∧ FromL [41, 42] σ t5 ∧ Ok 141 [] a16 ∧ At (Ty.nat m) t5 a16 (.tmp 53) ∧ At (Ty.val qw) t5 a16 (.tmp 7) ∧ At (Ty.val gv) t5 a16 (.tmp 0) ∧ At (Ty.nat k) t5 a16 (.tmp 1) ∧ At (Ty.val (us.getD k undef)) t5 a16 (.tmp 6) ∧ At (Ty.int (op.getD 0 0)) t5 a16 (.tmp 8) ∧ At (Ty.val x1) t5 a16 (.tmp 51) ∧ At (Ty.nat (List.length ((c k).gens ++ [r]))) t5 a16 (.tmp 52) ∧ OwnQ t5 46 3 qw (List.length op2) (List.map Ty.int op2) ∧ OwnM Ty.ints kI t5 44 mq1 f2 ∧ OwnP t5 41 gv [(Ty.nat n), (Ty.val gs), (Ty.val cs)] ∧ ChnR t5 42 22 108 cs n c us ms1 rs1 k ∧ Own t5 45 22 1 x1 (List.length ((c k).gens ++ [r])) (List.map Ty.ints ((c k).gens ++ [r])) ∧ OwnP t5 43 (us.getD k undef) [(Ty.nat k), (Ty.val mq1), (Ty.val x1)] ∧ (m ≤ ((c k).gens ++ [r]).length) ∧ (BfsP n k ((c k).gens ++ [r]) (c k).orb (op.length + noO n f) (op.getD 0 0) m f2 op2) ∧ n3 = ((c k).gens ++ [r]).length - m) (((c k).gens ++ [r]).length - (0)) ?_ ?_
   ·
    exact ⟨s14, 0, f, (op.drop 1), (qDrop qv), rfl, (F15.step0 D7.stp), ok14, (cvi (by (first | rfl | omega | (simp_all; done) | (simp_all; omega))) (D7.dn 5 rfl rfl)), (D7.kt q70 rfl), (D7.kt q66 rfl), (D7.kt q67 rfl), (D7.kt q68 rfl), (D7.kt q69 rfl), q76, (D7.dn 4 rfl rfl), (cvq (by (simp)) (by (simp)) o91), (cvm (by (rfl)) o86), o87, o88, o89, o90, by omega, hBf, rfl⟩
   ·
    rintro n4 a17 w4 ⟨t6, m, f2, op2, qw, rfl, F17, ok15, q79, q80, q81, q82, q83, q84, q85, q86, o92, o93, o94, o95, o96, o97, hm, hI, rfl⟩
    have hIl_ := hI.len
    refine wp_seq ?_
    refine gI a17 t6 ok15 (gS rfl (fun A B E G H => rP (y_lss (kp (H 53 rfl) E q79) (kp (H 52 rfl) E q86))) (gE ok15 fun a18 s15 ok16 D8 => ?_)); have F18 := F17.step0 D8.stp; have q87 := D8.kt q79 rfl; have q88 := D8.kt q80 rfl; have q89 := D8.kt q81 rfl; have q90 := D8.kt q82 rfl; have q91 := D8.kt q83 rfl; have q93 := D8.kt q85 rfl; have o98 := OwnQ.k0 o92 D8.stp; have o99 := OwnM.k0 o93 D8.stp; have o100 := OwnP.k0 o94 D8.stp; have o101 := ChnR.k0 o95 D8.stp; have o102 := Own.k0 o96 D8.stp; have o103 := OwnP.k0 o97 D8.stp; refine tn (wp_seq ?_)
    refine cond_p (p := (((m : Nat) : Int) < (((List.length ((c k).gens ++ [r])) : Nat) : Int))) (D8.dn 0 rfl rfl) (fun c2 => ?_) (fun c2 => ?_)
    ·
     obtain ⟨hg1, hg2, hg3, hg4, hg5, hg6⟩ := hI.go hkn hgn (by omega)
     refine wp_skip (tn (wp_seq (wp_block (wp_seq ?_))))
     refine gI a18 s15 ok16 (gT (Ty.val (cellPtr x1 m)) rfl (fun A B E G H => rP (own_index1 (i := ((m : Nat) : Int)) Try.underlying24 Try.inf22 (Own.k0 o102 E) (kp (H 51 rfl) E q93) (kp (H 53 rfl) E q87) (by omega) (by omega))) (gS rfl (fun A B E G H d0 => rP (own_load Try.underlying22 rfl (Own.k0 o102 E) (ed d0 rfl rfl rfl) (lst_get Ty.ints ((c k).gens ++ [r]) [] m (by omega)))) (gB 0 (gE ok16 fun a19 s16 ok17 D9 => ?_)))); have q100 := D9.kt q91 rfl; have q101 := D9.kt (D8.kt q84 rfl) rfl; have o104 := OwnQ.k0 o98 D9.stp; have o105 := OwnM.k0 o99 D9.stp; have o106 := OwnP.k0 o100 D9.stp; have o107 := ChnR.k0 o101 D9.stp; have o108 := Own.k0 o102 D9.stp; have o109 := OwnP.k0 o103 D9.stp; have q104 := D9.dn 2 rfl rfl; refine tn (wp_seq ?_)
     refine gI a19 s16 ok17 (gM q100 (gT (Ty.val (us.getD k undef)) rfl (fun A B E G H d0 => rP (y_nilp (OwnP.k0 o109 E) (ed d0 rfl rfl rfl))) (gT (Ty.val (ptrAt (us.getD k undef) 1)) rfl (fun A B E G H d0 => rP (ownp_field Try.fld111_1 Try.inf109 (by decide) (OwnP.k0 o109 E) (ed d0 rfl rfl rfl))) (gS rfl (fun A B E G H d0 => rP (ownp_load Try.underlying109 rfl (OwnP.k0 o109 E) (ed d0 rfl rfl rfl) rfl)) (gM q104 (gM q101 (gT (Ty.ref [(Ty.int ((((c k).gens ++ [r]).getD m []).getD ((op.getD 0 0)).toNat 0))]) rfl (fun A B E G H d0 d1 => rP (y_index1 Try.underlying22 Try.inf3 (ed d0 rfl rfl rfl) (ed d1 rfl rfl rfl) (by omega) (lst_get Ty.int (((c k).gens ++ [r]).getD m []) 0 ((op.getD 0 0)).toNat (by omega)))) (gS rfl (fun A B E G H d0 => rP (y_load Try.underlying3 rfl (ed d0 rfl rfl rfl) rfl)) (gT (Ty.tup2 (Ty.lst Ty.int ((f2 ((((c k).gens ++ [r]).getD m []).getD ((op.getD 0 0)).toNat 0)).getD [])) (Ty.bool (Option.isSome (f2 ((((c k).gens ++ [r]).getD m []).getD ((op.getD 0 0)).toNat 0))))) rfl (fun A B E G H d0 d1 => rP (y_lookup2 (i := ((((c k).gens ++ [r]).getD m []).getD ((op.getD 0 0)).toNat 0)) (z := []) Try.underlying109 (keyInt Try.underlying3) Try.inf22 (fun _ => sl_nil) (OwnM.k0 o105 E) (ed d0 rfl rfl rfl) (ed d1 rfl rfl rfl))) (gS rfl (fun A B E G H d0 => rP (y_move (ed d0 rfl rfl rfl))) (gT (Ty.lst Ty.int ((f2 ((((c k).gens ++ [r]).getD m []).getD ((op.getD 0 0)).toNat 0)).getD [])) rfl (fun A B E G H d0 => rP (y_ext2_0 (ed d0 rfl rfl rfl))) (gT (Ty.bool (Option.isSome (f2 ((((c k).gens ++ [r]).getD m []).getD ((op.getD 0 0)).toNat 0)))) rfl (fun A B E G H d0 d1 => rP (y_ext2_1 (ed d0 rfl rfl rfl))) (gB 0 (gB 0 (gE ok17 fun a20 s17 ok18 D10 => ?_))))))))))))))); have o110 := OwnQ.k0 o104 D10.stp; have o111 := OwnM.k0 o105 D10.stp; have o112 := OwnP.k0 o106 D10.stp; have o113 := ChnR.k0 o107 D10.stp; have o114 := Own.k0 o108 D10.stp; have o115 := OwnP.k0 o109 D10.stp; refine tn (wp_seq ?_)
     refine gI a20 s17 ok18 (gM (D10.dn 13 rfl rfl) (gS rfl (fun A B E G H d0 => rP (y_not (ed d0 rfl rfl rfl))) (gE ok18 fun a21 s18 ok19 D11 => ?_))); have F21 := ((F18.step0 D9.stp).step0 D10.stp).step0 D11.stp; have q115 := D11.kt (D10.kt (D9.kt q87 rfl) rfl) rfl; have q116 := D11.kt (D10.kt (D9.kt q88 rfl) rfl) rfl; have q117 := D11.kt (D10.kt (D9.kt q89 rfl) rfl) rfl; have q118 := D11.kt (D10.kt (D9.kt q90 rfl) rfl) rfl; have q119 := D11.kt (D10.kt q100 rfl) rfl; have q120 := D11.kt (D10.kt q101 rfl) rfl; have q121 := D11.kt (D10.kt (D9.kt q93 rfl) rfl) rfl; have q122 := D11.kt (D10.kt (D9.kt (D8.kt q86 rfl) rfl) rfl) rfl; have q123 := D11.kt (D10.kt q104 rfl) rfl; have o116 := OwnQ.k0 o110 D11.stp; have o117 := OwnM.k0 o111 D11.stp; have o118 := OwnP.k0 o112 D11.stp; have o119 := ChnR.k0 o113 D11.stp; have o120 := Own.k0 o114 D11.stp; have o121 := OwnP.k0 o115 D11.stp; refine tn ?_
     refine cond_t (D11.dn 1 rfl rfl) (fun c3 => ?_) (fun c3 => ?_)
     ·
      have ho : f2 ((((c k).gens ++ [r]).getD m []).getD (op.getD 0 0).toNat 0) = none := (by cases h_ : f2 ((((c k).gens ++ [r]).getD m []).getD (op.getD 0 0).toNat 0) <;> simp_all)
      refine wp_seq ?_
      refine gI a21 s18 ok19 (gM q119 (gT (Ty.val (us.getD k undef)) rfl (fun A B E G H d0 => rP (y_nilp (OwnP.k0 o121 E) (ed d0 rfl rfl rfl))) (gT (Ty.val (ptrAt (us.getD k undef) 1)) rfl (fun A B E G H d0 => rP (ownp_field Try.fld111_1 Try.inf109 (by decide) (OwnP.k0 o121 E) (ed d0 rfl rfl rfl))) (gS rfl (fun A B E G H d0 => rP (ownp_load Try.underlying109 rfl (OwnP.k0 o121 E) (ed d0 rfl rfl rfl) rfl)) (gM q123 (gM q120 (gT (Ty.ref [(Ty.int ((((c k).gens ++ [r]).getD m []).getD ((op.getD 0 0)).toNat 0))]) rfl (fun A B E G H d0 d1 => rP (y_index1 Try.underlying22 Try.inf3 (ed d0 rfl rfl rfl) (ed d1 rfl rfl rfl) (by omega) (lst_get Ty.int (((c k).gens ++ [r]).getD m []) 0 ((op.getD 0 0)).toNat (by omega)))) (gS rfl (fun A B E G H d0 => rP (y_load Try.underlying3 rfl (ed d0 rfl rfl rfl) rfl)) (gM q123 (gM q119 (gT (Ty.val (us.getD k undef)) rfl (fun A B E G H d0 => rP (y_nilp (OwnP.k0 o121 E) (ed d0 rfl rfl rfl))) (gT (Ty.val (ptrAt (us.getD k undef) 1)) rfl (fun A B E G H d0 => rP (ownp_field Try.fld111_1 Try.inf109 (by decide) (OwnP.k0 o121 E) (ed d0 rfl rfl rfl))) (gS rfl (fun A B E G H d0 => rP (ownp_load Try.underlying109 rfl (OwnP.k0 o121 E) (ed d0 rfl rfl rfl) rfl)) (gM q120 (gT (Ty.lst Ty.int ((f2 (op.getD 0 0)).getD [])) rfl (fun A B E G H d0 d1 => rP (y_lookup (i := (op.getD 0 0)) (z := []) Try.underlying109 (keyInt Try.underlying3) Try.inf22 (fun _ => sl_nil) (OwnM.k0 o117 E) (ed d0 rfl rfl rfl) (ed d1 rfl rfl rfl))) (gS rfl (fun A B E G H d0 d1 => rP (y_call _ Try.func64 rfl rfl my2 (product_fn ((((c k).gens ++ [r]).getD m [])) (((f2 (op.getD 0 0)).getD [])) _ _ _ (ed d0 rfl rfl rfl) (ed d1 rfl rfl rfl) (by first | assumption | omega) (by first | assumption | omega) (by first | assumption | omega)))) ?_))))))))))))))))
      refine gE2 ok19 fun a22 s19 ok20 D12 => ?_; have o122 := OwnQ.k0 o116 D12.stp; have o123 := OwnM.k0 o117 D12.stp; have o124 := OwnP.k0 o118 D12.stp; have o125 := ChnR.k0 o119 D12.stp; have o126 := Own.k0 o120 D12.stp; have o127 := OwnP.k0 o121 D12.stp; have q136 := D12.dn 15 (by decide) rfl rfl
      have b3 := sl_le q136
      refine tailL0 (L := [44]) (R := (fun _ τ => OwnM Ty.ints kI τ 44 mq1 (fun x_ => if x_ = ((((c k).gens ++ [r]).getD m []).getD ((op.getD 0 0)).toNat 0) then some (byL ((((c k).gens ++ [r]).getD m [])) (((f2 (op.getD 0 0)).getD []))) else f2 x_))) rfl rfl (YldM.toL (m_mapset (i := ((((c k).gens ++ [r]).getD m []).getD ((op.getD 0 0)).toNat 0)) Try.underlying109 (keyInt Try.underlying3) (by decide) o123 (D12.dn 3 (by decide) rfl rfl) (D12.dn 7 (by decide) rfl rfl) q136)) (fun v2 s20 hs8 r8 => ?_)
      have F23 := (F21.step0 D12.stp).stepL hs8 (by decide); have q137 := kpL hs8 (by decide) rfl (D12.kt q115 rfl); have q138 := kpL hs8 (by decide) rfl (D12.kt q116 rfl); have q139 := kpL hs8 (by decide) rfl (D12.kt q117 rfl); have q140 := kpL hs8 (by decide) rfl (D12.kt q118 rfl); have q141 := kpL hs8 (by decide) rfl (D12.kt q119 rfl); have q142 := kpL hs8 (by decide) rfl (D12.kt q120 rfl); have q143 := kpL hs8 (by decide) rfl (D12.kt q121 rfl); have q144 := kpL hs8 (by decide) rfl (D12.kt q122 rfl); have q145 := kpL hs8 (by decide) rfl (D12.kt q123 rfl); have o129 := OwnQ.keepL o122 hs8 (by decide) (by decide); have o130 := OwnP.keepL o124 hs8 (by decide) (by decide); have o131 := ChnR.keepL o125 hs8 (by decide) (by decide); have o132 := Own.keepL o126 hs8 (by decide) (by decide); have o133 := OwnP.keepL o127 hs8 (by decide) (by decide)
      have o128 : OwnM Ty.ints kI s20 44 mq1 (fun x_ => if x_ = ((((c k).gens ++ [r]).getD m []).getD ((op.getD 0 0)).toNat 0) then some (byL ((((c k).gens ++ [r]).getD m [])) (((f2 (op.getD 0 0)).getD []))) else f2 x_) := r8
      clear r8; refine wpList_nil (tn ?_)
      refine gI a22 s20 ok20 (gM q138 (gM q145 (gM q142 (gT (Ty.ref [(Ty.int ((((c k).gens ++ [r]).getD m []).getD ((op.getD 0 0)).toNat 0))]) rfl (fun A B E G H d0 d1 => rP (y_index1 Try.underlying22 Try.inf3 (ed d0 rfl rfl rfl) (ed d1 rfl rfl rfl) (by omega) (lst_get Ty.int (((c k).gens ++ [r]).getD m []) 0 ((op.getD 0 0)).toNat (by omega)))) (gS rfl (fun A B E G H d0 => rP (y_load Try.underlying3 rfl (ed d0 rfl rfl rfl) rfl)) (gT (Ty.sl 1 1 [(Ty.int ((((c k).gens ++ [r]).getD m []).getD ((op.getD 0 0)).toNat 0))]) rfl (fun A B E G H d0 => rP (y_build1o Try.underlying22 Try.inf3 rfl (one_val rfl) (ed d0 rfl rfl rfl))) (gE2 ok20 fun a23 s21 ok21 D13 => ?_))))))); have o134 := OwnQ.k0 o129 D13.stp; have o135 := OwnP.k0 o130 D13.stp; have o136 := ChnR.k0 o131 D13.stp; have o137 := Own.k0 o132 D13.stp; have o138 := OwnP.k0 o133 D13.stp; have o139 := OwnM.k0 o128 D13.stp; have q156 := D13.dn 5 (by decide) rfl rfl
      have b4 := sl_le q156
      refine tL (R := (fun v τ => OwnQ τ 46 3 v ((List.length op2) + 1) ((List.map Ty.int op2) ++ [(Ty.int ((((c k).gens ++ [r]).getD m []).getD ((op.getD 0 0)).toNat 0))]))) ok21 (YldM.toL (m_appendq Try.underlying22 Try.inf3 (by decide) rfl (al (R := (Pr.ownq 46 3 (List.length op2) (List.map Ty.int op2))) (D13.dn 0 (by decide) rfl rfl) o134) q156 (one_val rfl) (by omega) (by omega))) fun a24 s22 hs9 ok22 r9 sm7 => ?_
      have F25 := (F23.step0 D13.stp).stepL hs9 (by decide); have q157 := kpL hs9 (by decide) (sm7 53 (by decide)) (D13.kt q137 rfl); have q158 := kpL hs9 (by decide) (sm7 7 (by decide)) (D13.kt q138 rfl); have q159 := kpL hs9 (by decide) (sm7 0 (by decide)) (D13.kt q139 rfl); have q160 := kpL hs9 (by decide) (sm7 1 (by decide)) (D13.kt q140 rfl); have q161 := kpL hs9 (by decide) (sm7 6 (by decide)) (D13.kt q141 rfl); have q162 := kpL hs9 (by decide) (sm7 8 (by decide)) (D13.kt q142 rfl); have q163 := kpL hs9 (by decide) (sm7 51 (by decide)) (D13.kt q143 rfl); have q164 := kpL hs9 (by decide) (sm7 52 (by decide)) (D13.kt q144 rfl); have o141 := OwnP.keepL o135 hs9 (by decide) (by decide); have o142 := ChnR.keepL o136 hs9 (by decide) (by decide); have o143 := Own.keepL o137 hs9 (by decide) (by decide); have o144 := OwnP.keepL o138 hs9 (by decide) (by decide); have o145 := OwnM.keepL o139 hs9 (by decide) (by decide)
      obtain ⟨x3, hx2⟩ : ∃ x, a24.eval (.tmp 93) = x := ⟨_, rfl⟩
      have q165 : At (Ty.val x3) s22 a24 (.tmp 93) := hx2
      have o140 : OwnQ s22 46 3 x3 (List.length (op2 ++ [((((c k).gens ++ [r]).getD m []).getD ((op.getD 0 0)).toNat 0)])) (List.map Ty.int (op2 ++ [((((c k).gens ++ [r]).getD m []).getD ((op.getD 0 0)).toNat 0)])) := al2 (R := (Pr.ownq 46 3 (List.length (op2 ++ [((((c k).gens ++ [r]).getD m []).getD ((op.getD 0 0)).toNat 0)])) (List.map Ty.int (op2 ++ [((((c k).gens ++ [r]).getD m []).getD ((op.getD 0 0)).toNat 0)])))) hx2 (cvq (by simp) (by simp) r9)
      clear r9
      refine tL ok22 (Yld.toL (y_as q165)) fun a25 s23 hs10 ok23 r10 sm8 => ?_
      have F26 := F25.stepL hs10 (by decide); have q166 := kpL hs10 (by decide) (sm8 53 (by decide)) q157; have q167 := kpL hs10 (by decide) (sm8 0 (by decide)) q159; have q168 := kpL hs10 (by decide) (sm8 1 (by decide)) q160; have q169 := kpL hs10 (by decide) (sm8 6 (by decide)) q161; have q170 := kpL hs10 (by decide) (sm8 8 (by decide)) q162; have q171 := kpL hs10 (by decide) (sm8 51 (by decide)) q163; have q172 := kpL hs10 (by decide) (sm8 52 (by decide)) q164; have o146 := OwnP.keepL o141 hs10 (by decide) (by decide); have o147 := ChnR.keepL o142 hs10 (by decide) (by decide); have o148 := Own.keepL o143 hs10 (by decide) (by decide); have o149 := OwnP.keepL o144 hs10 (by decide) (by decide); have o150 := OwnM.keepL o145 hs10 (by decide) (by decide); have o151 := OwnQ.keepL o140 hs10 (by decide) (by decide)
      have q173 : At (Ty.val x3) s23 a25 (.tmp 7) := r10
      clear r10; refine wpList_nil (bn (tn ?_))
      refine gI a25 s23 ok23 (gT (Ty.nat (m + 1)) rfl (fun A B E G H => rP ((y_add (kp (H 53 rfl) E q166) rfl (w64 (by omega) (by omega))).mono (fun τ _ h => cvi (σ := τ) (by first | omega | exact (Int.natCast_mul _ _).symm) h))) (gS rfl (fun A B E G H d0 => rP (y_move (ed d0 rfl rfl rfl))) (gE ok23 fun a26 s24 ok24 D14 => ?_))); have o152 := OwnP.k0 o146 D14.stp; have o153 := ChnR.k0 o147 D14.stp; have o154 := Own.k0 o148 D14.stp; have o155 := OwnP.k0 o149 D14.stp; have o156 := OwnM.k0 o150 D14.stp; have o157 := OwnQ.k0 o151 D14.stp
      exact tn ⟨((c k).gens ++ [r]).length - ((m+1)), by omega, s24, (m+1), (fun q => if q = ((((c k).gens ++ [r]).getD m []).getD (op.getD 0 0).toNat 0) then some (byL (((c k).gens ++ [r]).getD m []) ((f2 (op.getD 0 0)).getD [])) else f2 q), (op2 ++ [((((c k).gens ++ [r]).getD m []).getD (op.getD 0 0).toNat 0)]), x3, rfl, (F26.step0 D14.stp), ok24, (cvi (by (first | rfl | omega | (simp_all; done) | (simp_all; omega))) (D14.dn 1 rfl rfl)), (D14.kt q173 rfl), (D14.kt q167 rfl), (D14.kt q168 rfl), (D14.kt q169 rfl), (D14.kt q170 rfl), (D14.kt q171 rfl), (D14.kt q172 rfl), (cvq (by (simp)) (by (simp)) o157), (cvm (by (rfl)) o156), o152, o153, o154, o155, by omega, hI.new2 hkn hgn (by omega) ho, rfl⟩
     ·
      have ho : (f2 ((((c k).gens ++ [r]).getD m []).getD (op.getD 0 0).toNat 0)).isSome = true := (by cases h_ : f2 ((((c k).gens ++ [r]).getD m []).getD (op.getD 0 0).toNat 0) <;> simp_all)
      refine wp_skip (bn (tn ?_))
      refine gI a21 s18 ok19 (gT (Ty.nat (m + 1)) rfl (fun A B E G H => rP ((y_add (kp (H 53 rfl) E q115) rfl (w64 (by omega) (by omega))).mono (fun τ _ h => cvi (σ := τ) (by first | omega | exact (Int.natCast_mul _ _).symm) h))) (gS rfl (fun A B E G H d0 => rP (y_move (ed d0 rfl rfl rfl))) (gE ok19 fun a27 s25 ok25 D15 => ?_))); have o158 := OwnQ.k0 o116 D15.stp; have o159 := OwnM.k0 o117 D15.stp; have o160 := OwnP.k0 o118 D15.stp; have o161 := ChnR.k0 o119 D15.stp; have o162 := Own.k0 o120 D15.stp; have o163 := OwnP.k0 o121 D15.stp
      exact tn ⟨((c k).gens ++ [r]).length - ((m+1)), by omega, s25, (m+1), f2, op2, qw, rfl, (F21.step0 D15.stp), ok25, (cvi (by (first | rfl | omega | (simp_all; done) | (simp_all; omega))) (D15.dn 1 rfl rfl)), (D15.kt q116 rfl), (D15.kt q117 rfl), (D15.kt q118 rfl), (D15.kt q119 rfl), (D15.kt q120 rfl), (D15.kt q121 rfl), (D15.kt q122 rfl), o158, o159, o160, o161, o162, o163, by omega, hI.old ho, rfl⟩
    ·
     have em : m = ((c k).gens ++ [r]).length := (by omega); have hB2 : Bfs n k ((c k).gens ++ [r]) (c k).orb f2 op2 := BfsP.done (em ▸ hI) hBl; have hIl := hI.len
     refine wp_exit (tx (tx (bx (bn ?_))))
     exact tn ⟨(op2).length + noO n (f2), by omega, s15, f2, op2, qw, rfl, F18, ok16, q88, q89, q90, q91, (cvq (by (simp)) (by (simp)) o98), (cvm (by (rfl)) o99), o100, o101, o102, o103, hB2, rfl⟩
  ·
   have hop0 : op = [] := List.eq_nil_of_length_eq_zero (by omega); have hBe : Bfs n k ((c k).gens ++ [r]) (c k).orb f [] := hop0 ▸ hB; have hfn := hBe.fin hkn hnn.2
   refine wp_exit (tx (tx (bx (tn (wp_seq ?_)))))
   refine gI a11 s10 ok10 (gM q53 (gT (Ty.val (us.getD k undef)) rfl (fun A B E G H d0 => rP (y_nilp (OwnP.k0 o66 E) (ed d0 rfl rfl rfl))) (gT (Ty.val (ptrAt (us.getD k undef) 1)) rfl (fun A B E G H d0 => rP (ownp_field Try.fld111_1 Try.inf109 (by decide) (OwnP.k0 o66 E) (ed d0 rfl rfl rfl))) (gS rfl (fun A B E G H d0 => rP (ownp_load Try.underlying109 rfl (OwnP.k0 o66 E) (ed d0 rfl rfl rfl) rfl)) (gS rfl (fun A B E G H d0 => rP (y_call _ Try.func114 rfl rfl my1 (keysK_fn (mq1) _ _ (ed d0 rfl rfl rfl) (by first | assumption | omega)))) (gE2 ok10 fun a28 s26 ok26 D16 => ?_)))))); have o164 := OwnQ.k0 o61 D16.stp; have o165 := OwnM.k0 o62 D16.stp; have o166 := OwnP.k0 o63 D16.stp; have o167 := ChnR.k0 o64 D16.stp; have o168 := Own.k0 o65 D16.stp; have o169 := OwnP.k0 o66 D16.stp
   refine tL ok26 (y_callL (L := [41]) [(44, 41)] [(41, 44), (42, 47)] #[a28.eval (.tmp 99)] rfl (by decide) Try.func113 rfl rfl my1 (sortedK_fn (mq1) (f) _ (GW.low_lend _ (by decide)) _ (Ty.up _ (GW.le_lend _ _) (D16.dn 4 (by decide) rfl rfl)) (OwnM.ren o165 (GW.ren_lend _ _ (by decide) rfl)) (by first | assumption | exact hp.fin | exact hfn | omega))) fun a29 s27 hs11 ok27 r11 sm9 => ?_
   have F30 := (F12.step0 D16.stp).stepL hs11 (by decide); have q194 := kpL hs11 (by decide) (sm9 0 (by decide)) (D16.kt q51 rfl); have q195 := kpL hs11 (by decide) (sm9 1 (by decide)) (D16.kt q52 rfl); have q196 := kpL hs11 (by decide) (sm9 6 (by decide)) (D16.kt q53 rfl); have o174 := OwnQ.keepL o164 hs11 (by decide) (by decide); have o175 := OwnP.keepL o166 hs11 (by decide) (by decide); have o176 := ChnR.keepL o167 hs11 (by decide) (by decide); have o177 := Own.keepL o168 hs11 (by decide) (by decide); have o178 := OwnP.keepL o169 hs11 (by decide) (by decide)
   obtain ⟨t7, ⟨g2, x4, hT2, o170, o171, hp3, hp4⟩, B2⟩ := r11
   have q197 : At (Ty.val x4) s27 a29 (.tmp 100) := Ty.up _ B2.le hT2
   have o172 : OwnM Ty.ints kI s27 44 mq1 f := OwnM.ren o170 (B2.ren (by decide) rfl)
   have o173 : Own s27 47 3 1 x4 (List.length (g2)) (List.map Ty.int (g2)) := Own.ren o171 (B2.ren (by decide) rfl)
   refine tL (R := (fun v τ => Pr.has (Ty.pr (Ty.nat (List.length (g2)))) τ v)) ok27 (Yld.toL (own_len Try.underlying22 (al (R := (Pr.own 47 3 1 (List.length (g2)) (List.map Ty.int (g2)))) q197 o173))) fun a30 s28 hs12 ok28 r12 sm10 => ?_
   have F31 := F30.stepL hs12 (by decide); have q198 := kpL hs12 (by decide) (sm10 0 (by decide)) q194; have q199 := kpL hs12 (by decide) (sm10 1 (by decide)) q195; have q200 := kpL hs12 (by decide) (sm10 6 (by decide)) q196; have q201 := kpL hs12 (by decide) (sm10 100 (by decide)) q197; have o179 := OwnQ.keepL o174 hs12 (by decide) (by decide); have o180 := OwnP.keepL o175 hs12 (by decide) (by decide); have o181 := ChnR.keepL o176 hs12 (by decide) (by decide); have o182 := Own.keepL o177 hs12 (by decide) (by decide); have o183 := OwnP.keepL o178 hs12 (by decide) (by decide); have o184 := OwnM.keepL o172 hs12 (by decide) (by decide); have o185 := Own.keepL o173 hs12 (by decide) (by decide)
   have q202 : At (Ty.nat (List.length (g2))) s28 a30 (.tmp 101) := r12
   clear r12
   refine tL (R := (fun v τ => Pr.has (Ty.pr (Ty.int (0 : Int))) τ v)) ok28 (Yld.toL (y_move rfl)) fun a31 s29 hs13 ok29 r13 sm11 => ?_
   have F32 := F31.stepL hs13 (by decide); have q203 := kpL hs13 (by decide) (sm11 0 (by decide)) q198; have q204 := kpL hs13 (by decide) (sm11 1 (by decide)) q199; have q205 := kpL hs13 (by decide) (sm11 6 (by decide)) q200; have q206 := kpL hs13 (by decide) (sm11 100 (by decide)) q201; have q207 := kpL hs13 (by decide) (sm11 101 (by decide)) q202; have o186 := OwnQ.keepL o179 hs13 (by decide) (by decide); have o187 := OwnP.keepL o180 hs13 (by decide) (by decide); have o188 := ChnR.keepL o181 hs13 (by decide) (by decide); have o189 := Own.keepL o182 hs13 (by decide) (by decide); have o190 := OwnP.keepL o183 hs13 (by decide) (by decide); have o191 := OwnM.keepL o184 hs13 (by decide) (by decide); have o192 := Own.keepL o185 hs13 (by decide) (by decide)
   have q208 : At (Ty.int (0 : Int)) s29 a31 (.tmp 102) := r13
   clear r13; refine wpList_nil ?_
   obtain ⟨t8, e2, h2, o193⟩ := ChnR.unfocus o188 o190 o191 o189 (by first | rfl | simp) (by first | rfl | simp) (by decide) (by decide) (by decide) (by decide) (by decide)
   rw [← e2]
   have F33 := F32.stepL h2 (by decide)
   have q209 : At (Ty.val gv) t8 a31 (.tmp 0) := Ty.up _ (h2.le (by decide)) q203
   have q210 : At (Ty.nat k) t8 a31 (.tmp 1) := Ty.up _ (h2.le (by decide)) q204
   have q211 : At (Ty.val (us.getD k undef)) t8 a31 (.tmp 6) := Ty.up _ (h2.le (by decide)) q205
   have q212 : At (Ty.val x4) t8 a31 (.tmp 100) := Ty.up _ (h2.le (by decide)) q206
   have q213 : At (Ty.nat (List.length (g2))) t8 a31 (.tmp 101) := Ty.up _ (h2.le (by decide)) q207
   have q214 : At (Ty.int (0 : Int)) t8 a31 (.tmp 102) := Ty.up _ (h2.le (by decide)) q208
   have o194 := OwnQ.keepL o186 h2 (by decide) (by decide); have o195 := OwnP.keepL o187 h2 (by decide) (by decide); have o196 := Own.keepL o192 h2 (by decide) (by decide)
   have o197 : ChnU t8 42 22 108 cs n (upd c k ⟨f, ((c k).gens ++ [r])⟩) us := o193
   obtain ⟨c1, hc1⟩ : ∃ c1, c1 = (upd c k ⟨f, ((c k).gens ++ [r])⟩) := ⟨_, rfl⟩
   have o198 : ChnU t8 42 22 108 cs n c1 us := by rw [hc1]; exact o197
   have hC : ExtC n k r c c1 g2 := by rw [hc1]; exact Bfs.ext hp hBe hp4
   have hD0 := ExtC.start hp hC
   have hg2l : g2.length ≤ n := by (have h_ := keys_len (n := n) (f := f) (K := g2) hp3 (fun p h => (hp4 p).1 h) (fun p t e => by (obtain ⟨a1, _, a3, _⟩ := hBe.pts p t e; have h5_ := a1.at hkn; rw [a3] at h5_; exact h5_)); omega)
   have hcg : (c1 k).gens.length = (c k).gens.length + 1 := by rw [hC.gens]; simp
   refine tn (wp_block ?_)
   refine loop (fun n5 a32 w5 => ∃ (t9 : GW) (i : Nat) (d1 : (Nat → Lev)), t9.w = w5 ∧ FromL [41, 42] σ t9 ∧ Ok 141 [] a32 ∧ At (Ty.nat i) t9 a32 (.tmp 102) ∧ At (Ty.val gv) t9 a32 (.tmp 0) ∧ At (Ty.nat k) t9 a32 (.tmp 1) ∧ At (Ty.val (us.getD k undef)) t9 a32 (.tmp 6) ∧ At (Ty.val x4) t9 a32 (.tmp 100) ∧ At (Ty.nat (List.length (g2))) t9 a32 (.tmp 101) ∧ ChnU t9 42 22 108 cs n d1 us ∧ OwnP t9 41 gv [(Ty.nat n), (Ty.val gs), (Ty.val cs)] ∧ Own t9 47 3 1 x4 (List.length (g2)) (List.map Ty.int (g2)) ∧ (i ≤ g2.length) ∧ (ExtI n k c1 g2 i 0 d1) ∧ n5 = g2.length - i) (g2.length - (0)) ?_ ?_
   ·
    exact ⟨t8, 0, c1, rfl, F33, ok29, (cvi (by (first | rfl | omega | (simp_all; done) | (simp_all; omega))) q214), q209, q210, q211, q212, q213, (cvch (by (rfl)) o198), o195, o196, by omega, hD0, rfl⟩
   ·
    rintro n6 a33 w6 ⟨t10, i, d1, rfl, F34, ok30, q215, q216, q217, q218, q219, q220, o199, o200, o201, hi, hD, rfl⟩
    refine wp_seq ?_
    refine gI a33 t10 ok30 (gS rfl (fun A B E G H => rP (y_lss (kp (H 102 rfl) E q215) (kp (H 101 rfl) E q220))) (gE ok30 fun a34 s30 ok31 D17 => ?_)); have F35 := F34.step0 D17.stp; have q221 := D17.kt q215 rfl; have q225 := D17.kt q219 rfl; have o202 := ChnU.k0 o199 D17.stp; have o203 := OwnP.k0 o200 D17.stp; have o204 := Own.k0 o201 D17.stp; refine tn (wp_seq ?_)
    refine cond_p (p := (((i : Nat) : Int) < (((List.length (g2)) : Nat) : Int))) (D17.dn 0 rfl rfl) (fun c4 => ?_) (fun c4 => ?_)
    ·
     refine wp_skip (tn (wp_seq (wp_block (wp_seq ?_))))
     refine gI a34 s30 ok31 (gT (Ty.val (cellPtr x4 i)) rfl (fun A B E G H => rP (own_index1 (i := ((i : Nat) : Int)) Try.underlying22 Try.inf3 (Own.k0 o204 E) (kp (H 100 rfl) E q225) (kp (H 102 rfl) E q221) (by omega) (by omega))) (gS rfl (fun A B E G H d0 => rP (own_load Try.underlying3 rfl (Own.k0 o204 E) (ed d0 rfl rfl rfl) (lst_get Ty.int (g2) 0 i (by omega)))) (gB 0 (gE ok31 fun a35 s31 ok32 D18 => ?_)))); have o205 := ChnU.k0 o202 D18.stp; have o206 := OwnP.k0 o203 D18.stp; have o207 := Own.k0 o204 D18.stp; refine tn (wp_seq ?_)
     obtain ⟨ms2, rs2, hN2⟩ := o205
     obtain ⟨t11, e3, h3, o208, o209, o210, o211⟩ := ChnN.focus hN2 (i := k) (by omega) (by decide) 43 44 45
     rw [← e3]
     have F37 := (F35.step0 D18.stp).step h3 (by decide)
     have q235 : At (Ty.nat i) t11 a35 (.tmp 102) := Ty.up _ (h3.le (by decide)) (D18.kt q221 rfl)
     have q236 : At (Ty.val gv) t11 a35 (.tmp 0) := Ty.up _ (h3.le (by decide)) (D18.kt (D17.kt q216 rfl) rfl)
     have q237 : At (Ty.nat k) t11 a35 (.tmp 1) := Ty.up _ (h3.le (by decide)) (D18.kt (D17.kt q217 rfl) rfl)
     have q238 : At (Ty.val (us.getD k undef)) t11 a35 (.tmp 6) := Ty.up _ (h3.le (by decide)) (D18.kt (D17.kt q218 rfl) rfl)
     have q239 : At (Ty.val x4) t11 a35 (.tmp 100) := Ty.up _ (h3.le (by decide)) (D18.kt q225 rfl)
     have q240 : At (Ty.nat (List.length (g2))) t11 a35 (.tmp 101) := Ty.up _ (h3.le (by decide)) (D18.kt (D17.kt q220 rfl) rfl)
     have q241 : At (Ty.int ((g2).getD i 0)) t11 a35 (.tmp 14) := Ty.up _ (h3.le (by decide)) (D18.dn 2 rfl rfl)
     have o212 := OwnP.keepL o206 (h3.toL (L := [42]) (by simp)) (by decide) (by decide); have o213 := Own.keepL o207 (h3.toL (L := [42]) (by simp)) (by decide) (by decide)
     obtain ⟨mq2, hmq2⟩ : ∃ x_, ms2 k = x_ := ⟨_, rfl⟩
     obtain ⟨rq2, hrq2⟩ : ∃ x_, rs2 k = x_ := ⟨_, rfl⟩
     rw [hmq2, hrq2] at o208
     rw [hmq2] at o209
     rw [hrq2] at o210
     have hmk2 : ∃ b, mq2 = Value.map (some b) := by obtain ⟨b_, _, _, e_, _⟩ := o209; exact ⟨b_, e_⟩
     have o214 : OwnM Ty.ints kI t11 44 mq2 (c1 k).orb := by have h_ := o209; rw [hD.same k (by omega)] at h_; exact h_
     have o215 : Own t11 45 22 1 rq2 (List.length (c1 k).gens) (List.map Ty.ints (c1 k).gens) := by have h_ := o210; rw [hD.same k (by omega)] at h_; exact h_
     refine gI a35 t11 ok32 (gM q238 (gT (Ty.val (us.getD k undef)) rfl (fun A B E G H d0 => rP (y_nilp (OwnP.k0 o208 E) (ed d0 rfl rfl rfl))) (gT (Ty.val (ptrAt (us.getD k undef) 2)) rfl (fun A B E G H d0 => rP (ownp_field Try.fld111_2 Try.inf24 (by decide) (OwnP.k0 o208 E) (ed d0 rfl rfl rfl))) (gS rfl (fun A B E G H d0 => rP (ownp_load Try.underlying24 rfl (OwnP.k0 o208 E) (ed d0 rfl rfl rfl) rfl)) (gE2 ok32 fun a36 s32 ok33 D19 => ?_))))); have o216 := OwnP.k0 o212 D19.stp; have o217 := Own.k0 o213 D19.stp; have o218 := ChnR.k0 o211 D19.stp; have o219 := OwnP.k0 o208 D19.stp; have o220 := OwnM.k0 o214 D19.stp; have o221 := Own.k0 o215 D19.stp
     refine tL ok33 (y_callL (L := [40]) [(45, 40)] [(40, 45), (41, 48)] #[a36.eval (.tmp 109)] rfl (by decide) Try.func115 rfl rfl my1 (cloneRO_fn (rq2) ((c1 k).gens) _ (GW.low_lend _ (by decide)) _ (Ty.up _ (GW.le_lend _ _) (D19.dn 3 (by decide) rfl rfl)) (Own.ren (cvo (by (simp)) (by (simp)) o221) (GW.ren_lend _ _ (by decide) rfl)) (by first | assumption | omega) (by first | assumption | omega))) fun a37 s33 hs14 ok34 r14 sm12 => ?_
     have F39 := (F37.step0 D19.stp).stepL hs14 (by decide); have q250 := kpL hs14 (by decide) (sm12 102 (by decide)) (D19.kt q235 rfl); have q251 := kpL hs14 (by decide) (sm12 0 (by decide)) (D19.kt q236 rfl); have q252 := kpL hs14 (by decide) (sm12 1 (by decide)) (D19.kt q237 rfl); have q253 := kpL hs14 (by decide) (sm12 6 (by decide)) (D19.kt q238 rfl); have q254 := kpL hs14 (by decide) (sm12 100 (by decide)) (D19.kt q239 rfl); have q255 := kpL hs14 (by decide) (sm12 101 (by decide)) (D19.kt q240 rfl); have q256 := kpL hs14 (by decide) (sm12 14 (by decide)) (D19.kt q241 rfl); have o226 := OwnP.keepL o216 hs14 (by decide) (by decide); have o227 := Own.keepL o217 hs14 (by decide) (by decide); have o228 := ChnR.keepL o218 hs14 (by decide) (by decide); have o229 := OwnP.keepL o219 hs14 (by decide) (by decide); have o230 := OwnM.keepL o220 hs14 (by decide) (by decide)
     obtain ⟨t12, ⟨x5, hT3, o222, o223⟩, B3⟩ := r14
     have q257 : At (Ty.val x5) s33 a37 (.tmp 110) := Ty.up _ B3.le hT3
     have o224 : Own s33 45 22 1 rq2 (List.length ((c1 k).gens)) (List.map Ty.ints ((c1 k).gens)) := Own.ren o222 (B3.ren (by decide) rfl)
     have o225 : Own s33 48 22 1 x5 (List.length ((c1 k).gens)) (List.map Ty.ints ((c1 k).gens)) := Own.ren o223 (B3.ren (by decide) rfl)
     refine tL (R := (fun v τ => Pr.has (Ty.pr (Ty.nat (List.length ((c1 k).gens)))) τ v)) ok34 (Yld.toL (own_len Try.underlying24 (al (R := (Pr.own 48 22 1 (List.length ((c1 k).gens)) (List.map Ty.ints ((c1 k).gens)))) q257 o225))) fun a38 s34 hs15 ok35 r15 sm13 => ?_
     have F40 := F39.stepL hs15 (by decide); have q258 := kpL hs15 (by decide) (sm13 102 (by decide)) q250; have q259 := kpL hs15 (by decide) (sm13 0 (by decide)) q251; have q260 := kpL hs15 (by decide) (sm13 1 (by decide)) q252; have q261 := kpL hs15 (by decide) (sm13 6 (by decide)) q253; have q262 := kpL hs15 (by decide) (sm13 100 (by decide)) q254; have q263 := kpL hs15 (by decide) (sm13 101 (by decide)) q255; have q264 := kpL hs15 (by decide) (sm13 14 (by decide)) q256; have q265 := kpL hs15 (by decide) (sm13 110 (by decide)) q257; have o231 := OwnP.keepL o226 hs15 (by decide) (by decide); have o232 := Own.keepL o227 hs15 (by decide) (by decide); have o233 := ChnR.keepL o228 hs15 (by decide) (by decide); have o234 := OwnP.keepL o229 hs15 (by decide) (by decide); have o235 := OwnM.keepL o230 hs15 (by decide) (by decide); have o236 := Own.keepL o224 hs15 (by decide) (by decide)
     have o237 := Own.keepL o225 hs15 (by decide) (by decide)
     have q266 : At (Ty.nat (List.length ((c1 k).gens))) s34 a38 (.tmp 111) := r15
     clear r15
     refine tL (R := (fun v τ => Pr.has (Ty.pr (Ty.int (0 : Int))) τ v)) ok35 (Yld.toL (y_move rfl)) fun a39 s35 hs16 ok36 r16 sm14 => ?_
     have F41 := F40.stepL hs16 (by decide); have q267 := kpL hs16 (by decide) (sm14 102 (by decide)) q258; have q268 := kpL hs16 (by decide) (sm14 0 (by decide)) q259; have q269 := kpL hs16 (by decide) (sm14 1 (by decide)) q260; have q270 := kpL hs16 (by decide) (sm14 6 (by decide)) q261; have q271 := kpL hs16 (by decide) (sm14 100 (by decide)) q262; have q272 := kpL hs16 (by decide) (sm14 101 (by decide)) q263; have q273 := kpL hs16 (by decide) (sm14 14 (by decide)) q264; have q274 := kpL hs16 (by decide) (sm14 110 (by decide)) q265; have q275 := kpL hs16 (by decide) (sm14 111 (by decide)) q266; have o238 := OwnP.keepL o231 hs16 (by decide) (by decide); have o239 := Own.keepL o232 hs16 (by decide) (by decide); have o240 := ChnR.keepL o233 hs16 (by decide) (by decide); have o241 := OwnP.keepL o234 hs16 (by decide) (by decide); have o242 := OwnM.keepL o235 hs16 (by decide) (by decide)
     have o243 := Own.keepL o236 hs16 (by decide) (by decide); have o244 := Own.keepL o237 hs16 (by decide) (by decide)
     have q276 : At (Ty.int (0 : Int)) s35 a39 (.tmp 112) := r16
     clear r16; refine wpList_nil ?_
     obtain ⟨t13, e4, h4, o245⟩ := ChnR.unfocus o240 o241 o242 o243 (by first | rfl | simp) (by first | rfl | simp) (by decide) (by decide) (by decide) (by decide) (by decide)
     rw [← e4]
     have F42 := F41.stepL h4 (by decide)
     have q277 : At (Ty.nat i) t13 a39 (.tmp 102) := Ty.up _ (h4.le (by decide)) q267
     have q278 : At (Ty.val gv) t13 a39 (.tmp 0) := Ty.up _ (h4.le (by decide)) q268
     have q279 : At (Ty.nat k) t13 a39 (.tmp 1) := Ty.up _ (h4.le (by decide)) q269
     have q280 : At (Ty.val (us.getD k undef)) t13 a39 (.tmp 6) := Ty.up _ (h4.le (by decide)) q270
     have q281 : At (Ty.val x4) t13 a39 (.tmp 100) := Ty.up _ (h4.le (by decide)) q271
     have q282 : At (Ty.nat (List.length (g2))) t13 a39 (.tmp 101) := Ty.up _ (h4.le (by decide)) q272
     have q283 : At (Ty.int ((g2).getD i 0)) t13 a39 (.tmp 14) := Ty.up _ (h4.le (by decide)) q273
     have q284 : At (Ty.val x5) t13 a39 (.tmp 110) := Ty.up _ (h4.le (by decide)) q274
     have q285 : At (Ty.nat (List.length ((c1 k).gens))) t13 a39 (.tmp 111) := Ty.up _ (h4.le (by decide)) q275
     have q286 : At (Ty.int (0 : Int)) t13 a39 (.tmp 112) := Ty.up _ (h4.le (by decide)) q276
     have o246 := OwnP.keepL o238 h4 (by decide) (by decide); have o247 := Own.keepL o239 h4 (by decide) (by decide); have o248 := Own.keepL o244 h4 (by decide) (by decide)
     have o249 : ChnU t13 42 22 108 cs n d1 us := cvch (by exact upd_back (hD.same k (by omega))) o245
     refine tn (wp_block ?_)
     refine loop (fun n7 a40 w7 => ∃ (t14 : GW) (j : Nat) (d2 : (Nat → Lev)), t14.w = w7 ∧ FromL [41, 42] σ t14 ∧ Ok 141 [] a40 ∧ At (Ty.nat j) t14 a40 (.tmp 112) ∧ At (Ty.nat i) t14 a40 (.tmp 102) ∧ At (Ty.val gv) t14 a40 (.tmp 0) ∧ At (Ty.nat k) t14 a40 (.tmp 1) ∧ At (Ty.val (us.getD k undef)) t14 a40 (.tmp 6) ∧ At (Ty.val x4) t14 a40 (.tmp 100) ∧ At (Ty.nat (List.length (g2))) t14 a40 (.tmp 101) ∧ At (Ty.int ((g2).getD i 0)) t14 a40 (.tmp 14) ∧ At (Ty.val x5) t14 a40 (.tmp 110) ∧ At (Ty.nat (List.length ((c1 k).gens))) t14 a40 (.tmp 111) ∧ ChnU t14 42 22 108 cs n d2 us ∧ OwnP t14 41 gv [(Ty.nat n), (Ty.val gs), (Ty.val cs)] ∧ Own t14 47 3 1 x4 (List.length (g2)) (List.map Ty.int (g2)) ∧ Own t14 48 22 1 x5 (List.length ((c1 k).gens)) (List.map Ty.ints ((c1 k).gens)) ∧ (j ≤ (c1 k).gens.length) ∧ (ExtI n k c1 g2 i j d2) ∧ n7 = (c1 k).gens.length - j) ((c1 k).gens.length - (0)) ?_ ?_
     ·
      exact ⟨t13, 0, d1, rfl, F42, ok36, (cvi (by (first | rfl | omega | (simp_all; done) | (simp_all; omega))) q286), q277, q278, q279, q280, q281, q282, q283, q284, q285, (cvch (by (rfl)) o249), o246, o247, o248, by omega, hD, rfl⟩
     ·
      rintro n8 a41 w8 ⟨t15, j, d2, rfl, F43, ok37, q287, q288, q289, q290, q291, q292, q293, q294, q295, q296, o250, o251, o252, o253, hj, hD2, rfl⟩
      refine wp_seq ?_
      refine gI a41 t15 ok37 (gS rfl (fun A B E G H => rP (y_lss (kp (H 112 rfl) E q287) (kp (H 111 rfl) E q296))) (gE ok37 fun a42 s36 ok38 D20 => ?_)); have F44 := F43.step0 D20.stp; have q297 := D20.kt q287 rfl; have q298 := D20.kt q288 rfl; have q299 := D20.kt q289 rfl; have q300 := D20.kt q290 rfl; have q301 := D20.kt q291 rfl; have q302 := D20.kt q292 rfl; have q303 := D20.kt q293 rfl; have q305 := D20.kt q295 rfl; have o254 := ChnU.k0 o250 D20.stp; have o255 := OwnP.k0 o251 D20.stp; have o256 := Own.k0 o252 D20.stp; have o257 := Own.k0 o253 D20.stp; refine tn (wp_seq ?_)
      refine cond_p (p := (((j : Nat) : Int) < (((List.length ((c1 k).gens)) : Nat) : Int))) (D20.dn 0 rfl rfl) (fun c5 => ?_) (fun c5 => ?_)
      ·
       obtain ⟨hg1, hg2, hg3, hg4, hg5, hg6, hg7, hg8, hg9, hg10, hg11, hg12⟩ := hC.go hkn (i := i) (j := j) (by omega) (by omega); have hAP := ExtI.pre hp hC hD2 (by omega) (by omega)
       refine wp_skip (tn (wp_seq (wp_block (wp_seq ?_))))
       refine gI a42 s36 ok38 (gT (Ty.val (cellPtr x5 j)) rfl (fun A B E G H => rP (own_index1 (i := ((j : Nat) : Int)) Try.underlying24 Try.inf22 (Own.k0 o257 E) (kp (H 110 rfl) E q305) (kp (H 112 rfl) E q297) (by omega) (by omega))) (gS rfl (fun A B E G H d0 => rP (own_load Try.underlying22 rfl (Own.k0 o257 E) (ed d0 rfl rfl rfl) (lst_get Ty.ints ((c1 k).gens) [] j (by omega)))) (gB 0 (gE ok38 fun a43 s37 ok39 D21 => ?_)))); have q310 := D21.kt q299 rfl; have q311 := D21.kt q300 rfl; have q312 := D21.kt q301 rfl; have q315 := D21.kt (D20.kt q294 rfl) rfl; have o258 := ChnU.k0 o254 D21.stp; have o259 := OwnP.k0 o255 D21.stp; have o260 := Own.k0 o256 D21.stp; have o261 := Own.k0 o257 D21.stp; have q318 := D21.dn 2 rfl rfl; refine tn ?_
       obtain ⟨ms3, rs3, hN3⟩ := o258
       have o262 : ChnU s37 42 22 108 cs n d2 us := ⟨ms3, rs3, hN3⟩
       have hl1 := hN3.lev k (by omega)
       obtain ⟨mq3, hmq3⟩ : ∃ x_, ms3 k = x_ := ⟨_, rfl⟩
       obtain ⟨rq3, hrq3⟩ : ∃ x_, rs3 k = x_ := ⟨_, rfl⟩
       rw [hD2.same k (by omega)] at hl1
       have o263 : OwnP s37 42 (us.getD k undef) [(Ty.nat k), (Ty.val mq3), (Ty.val rq3)] := by have h_ := hl1.p; simp only [hmq3, hrq3] at h_; exact h_
       have o264 : OwnM Ty.ints kI s37 42 mq3 (c1 k).orb := by have h_ := hl1.m; simp only [hmq3, hrq3] at h_; exact h_
       refine gI a43 s37 ok39 (gM q310 (gM q311 (gT (Ty.nat (k + 1)) rfl (fun A B E G H d0 => rP ((y_add (ed d0 rfl rfl rfl) rfl (w64 (by omega) (by omega))).mono (fun τ _ h => cvi (σ := τ) (by first | omega | exact (Int.natCast_mul _ _).symm) h))) (gM q312 (gT (Ty.val (us.getD k undef)) rfl (fun A B E G H d0 => rP (y_nilp (OwnP.k0 o263 E) (ed d0 rfl rfl rfl))) (gT (Ty.val (ptrAt (us.getD k undef) 1)) rfl (fun A B E G H d0 => rP (ownp_field Try.fld111_1 Try.inf109 (by decide) (OwnP.k0 o263 E) (ed d0 rfl rfl rfl))) (gS rfl (fun A B E G H d0 => rP (ownp_load Try.underlying109 rfl (OwnP.k0 o263 E) (ed d0 rfl rfl rfl) rfl)) (gM q318 (gM q315 (gT (Ty.ref [(Ty.int ((((c1 k).gens).getD j []).getD (((g2).getD i 0)).toNat 0))]) rfl (fun A B E G H d0 d1 => rP (y_index1 Try.underlying22 Try.inf3 (ed d0 rfl rfl rfl) (ed d1 rfl rfl rfl) (by omega) (lst_get Ty.int (((c1 k).gens).getD j []) 0 (((g2).getD i 0)).toNat (by omega)))) (gS rfl (fun A B E G H d0 => rP (y_load Try.underlying3 rfl (ed d0 rfl rfl rfl) rfl)) (gT (Ty.lst Ty.int (((c1 k).orb ((((c1 k).gens).getD j []).getD (((g2).getD i 0)).toNat 0)).getD [])) rfl (fun A B E G H d0 d1 => rP (y_lookup (i := ((((c1 k).gens).getD j []).getD (((g2).getD i 0)).toNat 0)) (z := []) Try.underlying109 (keyInt Try.underlying3) Try.inf22 (fun _ => sl_nil) (OwnM.k0 o264 E) (ed d0 rfl rfl rfl) (ed d1 rfl rfl rfl))) (gS rfl (fun A B E G H d0 => rP (y_call _ Try.func65 rfl rfl my1 (inverse_fn ((((c1 k).orb ((((c1 k).gens).getD j []).getD (((g2).getD i 0)).toNat 0)).getD [])) _ _ (ed d0 rfl rfl rfl) (by assumption)))) (gM q318 (gM q312 (gT (Ty.val (us.getD k undef)) rfl (fun A B E G H d0 => rP (y_nilp (OwnP.k0 o263 E) (ed d0 rfl rfl rfl))) ?_))))))))))))))))
       refine gT (Ty.val (ptrAt (us.getD k undef) 1)) rfl (fun A B E G H d0 => rP (ownp_field Try.fld111_1 Try.inf109 (by decide) (OwnP.k0 o263 E) (ed d0 rfl rfl rfl))) (gS rfl (fun A B E G H d0 => rP (ownp_load Try.underlying109 rfl (OwnP.k0 o263 E) (ed d0 rfl rfl rfl) rfl)) (gM q315 (gT (Ty.lst Ty.int (((c1 k).orb ((g2).getD i 0)).getD [])) rfl (fun A B E G H d0 d1 => rP (y_lookup (i := ((g2).getD i 0)) (z := []) Try.underlying109 (keyInt Try.underlying3) Try.inf22 (fun _ => sl_nil) (OwnM.k0 o264 E) (ed d0 rfl rfl rfl) (ed d1 rfl rfl rfl))) (gS rfl (fun A B E G H d0 d1 d2 => rP (y_call _ Try.func64 rfl rfl my2 (product_fn ((((c1 k).gens).getD j [])) ((((c1 k).orb ((g2).getD i 0)).getD [])) _ _ _ (ed d0 rfl rfl rfl) (ed d1 rfl rfl rfl) (by first | assumption | omega) (by first | assumption | omega) (by first | assumption | omega)))) (gS rfl (fun A B E G H d0 d1 d2 => rP (y_call _ Try.func64 rfl rfl my2 (product_fn ((undoL ((((c1 k).orb ((((c1 k).gens).getD j []).getD (((g2).getD i 0)).toNat 0)).getD [])))) ((byL ((((c1 k).gens).getD j [])) ((((c1 k).orb ((g2).getD i 0)).getD [])))) _ _ _ (ed d0 rfl rfl rfl) (ed d1 rfl rfl rfl) (by first | assumption | omega) (by first | assumption | omega) (by first | assumption | omega)))) (gE2 ok39 fun a44 s38 ok40 D22 => ?_)))))); have o265 := ChnU.k0 o262 D22.stp; have o266 := OwnP.k0 o259 D22.stp; have o267 := Own.k0 o260 D22.stp; have o268 := Own.k0 o261 D22.stp; have o269 := OwnP.k0 o263 D22.stp; have o270 := OwnM.k0 o264 D22.stp; have q331 := D22.dn 21 (by decide) rfl rfl
       have b5 := sl_le q331
       refine tL ok40 (y_callL (L := [41, 42]) [(41, 41), (42, 42)] [(41, 41), (42, 42)] #[a44.eval (.tmp 116), a44.eval (.tmp 118), a44.eval (.tmp 137)] rfl (by decide) Try.func92 rfl rfl my3 (hOn (gv) (gs) (cs) (us) (n) ((k + 1)) (d2) ((byL ((undoL ((((c1 k).orb ((((c1 k).gens).getD j []).getD (((g2).getD i 0)).toNat 0)).getD [])))) ((byL ((((c1 k).gens).getD j [])) ((((c1 k).orb ((g2).getD i 0)).getD [])))))) _ (GW.low_lend _ (by decide)) _ _ _ (Ty.up _ (GW.le_lend _ _) (D22.dn 0 (by decide) rfl rfl)) (Ty.up _ (GW.le_lend _ _) (cvi (σ := s38) (by first | omega | assumption | exact hAP | exact hp.wc | exact hp.le | exact hp.row | exact hp.fx) (D22.dn 2 (by decide) rfl rfl))) (Ty.up _ (GW.le_lend _ _) q331) (OwnP.ren o266 (GW.ren_lend _ _ (by decide) rfl)) (ChnU.ren (cvch (by (rfl)) o265) (GW.ren_lend _ _ (by decide) rfl)) (by first | omega | assumption | exact hAP | exact hp.wc | exact hp.le | exact hp.row | exact hp.fx) (by first | omega | assumption | exact hAP | exact hp.wc | exact hp.le | exact hp.row | exact hp.fx))) fun a45 s39 hs17 ok41 r17 sm15 => ?_
       have F47 := ((F44.step0 D21.stp).step0 D22.stp).stepL hs17 (by decide); have q332 := kpL hs17 (by decide) (sm15 112 (by decide)) (D22.kt (D21.kt q297 rfl) rfl); have q333 := kpL hs17 (by decide) (sm15 102 (by decide)) (D22.kt (D21.kt q298 rfl) rfl); have q334 := kpL hs17 (by decide) (sm15 0 (by decide)) (D22.kt q310 rfl); have q335 := kpL hs17 (by decide) (sm15 1 (by decide)) (D22.kt q311 rfl); have q336 := kpL hs17 (by decide) (sm15 6 (by decide)) (D22.kt q312 rfl); have q337 := kpL hs17 (by decide) (sm15 100 (by decide)) (D22.kt (D21.kt q302 rfl) rfl); have q338 := kpL hs17 (by decide) (sm15 101 (by decide)) (D22.kt (D21.kt q303 rfl) rfl); have q339 := kpL hs17 (by decide) (sm15 14 (by decide)) (D22.kt q315 rfl); have q340 := kpL hs17 (by decide) (sm15 110 (by decide)) (D22.kt (D21.kt q305 rfl) rfl); have q341 := kpL hs17 (by decide) (sm15 111 (by decide)) (D22.kt (D21.kt (D20.kt q296 rfl) rfl) rfl); have o275 := Own.keepL o267 hs17 (by decide) (by decide); have o276 := Own.keepL o268 hs17 (by decide) (by decide)
       obtain ⟨t16, ⟨g3, hT4, o271, o272, hp5⟩, B4⟩ := r17
       have o273 : OwnP s39 41 gv [(Ty.nat n), (Ty.val gs), (Ty.val cs)] := OwnP.ren o271 (B4.ren (by decide) rfl)
       have o274 : ChnU s39 42 22 108 cs n (g3) us := ChnU.ren o272 (B4.ren (by decide) rfl)
       refine wpList_nil (bn (tn ?_))
       refine gI a45 s39 ok41 (gT (Ty.nat (j + 1)) rfl (fun A B E G H => rP ((y_add (kp (H 112 rfl) E q332) rfl (w64 (by omega) (by omega))).mono (fun τ _ h => cvi (σ := τ) (by first | omega | exact (Int.natCast_mul _ _).symm) h))) (gS rfl (fun A B E G H d0 => rP (y_move (ed d0 rfl rfl rfl))) (gE ok41 fun a46 s40 ok42 D23 => ?_))); have o277 := Own.k0 o275 D23.stp; have o278 := Own.k0 o276 D23.stp; have o279 := OwnP.k0 o273 D23.stp; have o280 := ChnU.k0 o274 D23.stp
       exact tn ⟨(c1 k).gens.length - ((j+1)), by omega, s40, (j+1), g3, rfl, (F47.step0 D23.stp), ok42, (cvi (by (first | rfl | omega | (simp_all; done) | (simp_all; omega))) (D23.dn 1 rfl rfl)), (D23.kt q333 rfl), (D23.kt q334 rfl), (D23.kt q335 rfl), (D23.kt q336 rfl), (D23.kt q337 rfl), (D23.kt q338 rfl), (D23.kt q339 rfl), (D23.kt q340 rfl), (D23.kt q341 rfl), o280, o279, o277, o278, by omega, ExtI.step hC hkn (by omega) (by omega) hD2 hp5, rfl⟩
      ·
       have ej : j = (c1 k).gens.length := (by omega); have hD3 := ExtI.next (ej ▸ hD2)
       refine wp_exit (tx (tx (bx (bn (tn ?_)))))
       refine gI a42 s36 ok38 (gT (Ty.nat (i + 1)) rfl (fun A B E G H => rP ((y_add (kp (H 102 rfl) E q298) rfl (w64 (by omega) (by omega))).mono (fun τ _ h => cvi (σ := τ) (by first | omega | exact (Int.natCast_mul _ _).symm) h))) (gS rfl (fun A B E G H d0 => rP (y_move (ed d0 rfl rfl rfl))) (gE ok38 fun a47 s41 ok43 D24 => ?_))); have o281 := ChnU.k0 o254 D24.stp; have o282 := OwnP.k0 o255 D24.stp; have o283 := Own.k0 o256 D24.stp; have o284 := Own.k0 o257 D24.stp
       exact tn ⟨g2.length - ((i+1)), by omega, s41, (i+1), d2, rfl, (F44.step0 D24.stp), ok43, (cvi (by (first | rfl | omega | (simp_all; done) | (simp_all; omega))) (D24.dn 1 rfl rfl)), (D24.kt q299 rfl), (D24.kt q300 rfl), (D24.kt q301 rfl), (D24.kt q302 rfl), (D24.kt q303 rfl), (cvch (by (rfl)) o281), o282, o283, by omega, hD3, rfl⟩
    ·
     have ei : i = g2.length := (by omega); have hEx := ExtI.done hp hC (m := 0) (ei ▸ hD)
     refine wp_exit (tx (tx (bx ?_)))
     exact nL0 rfl ok31 F35 ⟨d1, trivial, o203, (cvch (by (rfl)) o202), (by exact hEx)⟩


end Go.Proofs.Ytkjifbgofckfeaa
