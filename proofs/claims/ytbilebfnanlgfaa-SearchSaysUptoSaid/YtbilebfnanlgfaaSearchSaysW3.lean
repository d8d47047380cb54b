/- The functions that the law SearchSays reaches, each by its contract. Part 3. -/
import Derived.Test.YtbilebfnanlgfaaSearchSaysW2
namespace Go.Proofs.Ytbilebfnanlgfaa
open Go.KL

set_option maxHeartbeats 4000000 in
set_option maxRecDepth 100000 in
theorem rowPlace_fn (r : List Int) (σ : GW)  (v0 : Value) (hv0 : Ty.has (Ty.lst Ty.int r) σ v0)  (hr : r.length ≤ 12) :
    FnC Try.prog 55 #[v0] σ (Ty.nat (rankL r)) := by
 refine fn_intro0 Try.func55 rfl Try.ntmps55 (Nat.le_of_ble_eq_true rfl) (fun s0 a0 hle F0 ok0 hargs => ?_)
 have p0 : At (Ty.lst Ty.int r) s0 a0 (.tmp 0) := by have e := hargs 0 _ rfl; show Ty.has _ _ _; rw [e]; exact Ty.up _ hle hv0
 have b1 := sl_le p0
 clear hargs
 refine wp_seq ?_
 refine reg (a := a0) (σ := s0) rfl (fun i_ => List.getD [(Ty.pr (Ty.int (0 : Int)))] i_ Pr.any) ok0 rfl ⟨?_, trivial⟩ ?_
 · intro ax tx hs okx sm
   exact run_plain rfl (y_assign rfl)
 intro a1 s1 D1
 have ok1 := D1.ok
 have F1 := F0.step0 D1.stp
 have q1 := D1.kt p0 rfl
 clear D1
 refine tn ?_
 refine wp_seq ?_
 refine reg (a := a1) (σ := s1) rfl (fun i_ => List.getD [(Ty.pr (Ty.int (0 : Int)))] i_ Pr.any) ok1 rfl ⟨?_, trivial⟩ ?_
 · intro ax tx hs okx sm
   exact run_plain rfl (y_assign rfl)
 intro a2 s2 D2
 have ok2 := D2.ok
 have F2 := F1.step0 D2.stp
 have q2 := D2.kt q1 rfl
 have q3 : At (Ty.int (0 : Int)) s2 a2 (.tmp 3) := D2.done 0
 clear D2
 refine tn ?_
 refine wp_seq ?_
 refine wp_seq ?_
 refine reg (a := a2) (σ := s2) rfl (fun i_ => List.getD [(Ty.pr (Ty.lst Ty.int r)), (Ty.pr (Ty.nat (List.length r))), (Ty.pr (Ty.int (0 : Int)))] i_ Pr.any) ok2 rfl ⟨?_, ?_, ?_, trivial⟩ ?_
 · intro ax tx hs okx sm
   exact run_plain rfl (y_move (kp (sm 0 rfl) hs q2))
 · intro ax tx hs okx sm d0
   have e0 := ed d0 rfl rfl rfl
   exact run_plain rfl (y_len Try.underlying23 e0)
 · intro ax tx hs okx sm
   exact run_plain rfl (y_move rfl)
 intro a3 s3 D3
 have ok3 := D3.ok
 have F3 := F2.step0 D3.stp
 have q4 := D3.kt q2 rfl
 have q5 := D3.kt q3 rfl
 have q6 : At (Ty.lst Ty.int r) s3 a3 (.tmp 9) := D3.done 0
 have q7 : At (Ty.nat (List.length r)) s3 a3 (.tmp 10) := D3.done 1
 have q8 : At (Ty.int (0 : Int)) s3 a3 (.tmp 11) := D3.done 2
 clear D3
 refine tn ?_
 refine wp_block ?_
 refine loop (fun n1 a4 w1 => ∃ (t1 : GW) (i : Nat) (q : Nat), t1.w = w1 ∧ FromL [] s0 t1 ∧ Ok 41 a4 ∧ At (Ty.nat i) t1 a4 (.tmp 11) ∧ At (Ty.nat q) t1 a4 (.tmp 3) ∧ At (Ty.lst Ty.int r) t1 a4 (.tmp 0) ∧ At (Ty.lst Ty.int r) t1 a4 (.tmp 9) ∧ At (Ty.nat (List.length r)) t1 a4 (.tmp 10) ∧ (i ≤ r.length) ∧ (q * fct (r.length - i) + rankL (r.drop i) = rankL r) ∧ n1 = r.length - i) (r.length - (0)) ?_ ?_
 ·
  exact ⟨s3, 0, 0, rfl, F3, ok3, (cvi (by (first | rfl | omega | (simp_all; done) | (simp_all; omega))) q8), (cvi (by (first | rfl | omega | (simp_all; done) | (simp_all; omega))) q5), q4, q6, q7, by omega, by simp, rfl⟩
 ·
  rintro n2 a5 w2 ⟨t2, i, q, rfl, F4, ok4, q9, q10, q11, q12, q13, hi, hq, rfl⟩
  have hpl := place_le hq
  have hrl := rank_le12 hr
  refine wp_seq ?_
  refine reg (a := a5) (σ := t2) rfl (fun i_ => List.getD [(Ty.pr (Ty.bool (decide (((i : Nat) : Int) < (((List.length r) : Nat) : Int)))))] i_ Pr.any) ok4 rfl ⟨?_, trivial⟩ ?_
  · intro ax tx hs okx sm
    exact run_plain rfl (y_lss (kp (sm 11 rfl) hs q9) (kp (sm 10 rfl) hs q13))
  intro a6 s4 D4
  have ok5 := D4.ok
  have F5 := F4.step0 D4.stp
  have q14 := D4.kt q9 rfl
  have q15 := D4.kt q10 rfl
  have q16 := D4.kt q11 rfl
  have q17 := D4.kt q12 rfl
  have q18 := D4.kt q13 rfl
  have q19 : At (Ty.bool (decide (((i : Nat) : Int) < (((List.length r) : Nat) : Int)))) s4 a6 (.tmp 12) := D4.done 0
  clear D4
  refine tn ?_
  refine wp_seq ?_
  refine cond_p (p := (((i : Nat) : Int) < (((List.length r) : Nat) : Int))) q19 (fun c1 => ?_) (fun c1 => ?_)
  ·
   have hmb := place_mul hr (by omega) hq
   refine wp_skip ?_
   refine tn ?_
   refine wp_seq ?_
   refine wp_block ?_
   refine wp_seq ?_
   refine reg (a := a6) (σ := s4) rfl (fun i_ => List.getD [(Ty.pr (Ty.nat i)), (Ty.pr (Ty.ref [(Ty.int (r.getD i 0))])), (Ty.pr (Ty.int (r.getD i 0))), (Ty.pr (Ty.nat i)), (Ty.pr (Ty.int (r.getD i 0)))] i_ Pr.any) ok5 rfl ⟨?_, ?_, ?_, ?_, ?_, trivial⟩ ?_
   · intro ax tx hs okx sm
     exact run_plain rfl (y_move (kp (sm 11 rfl) hs q14))
   · intro ax tx hs okx sm
     exact run_plain rfl (y_index1 Try.underlying23 Try.inf3 (kp (sm 9 rfl) hs q17) (kp (sm 11 rfl) hs q14) (by omega) (lst_get Ty.int r 0 i (by omega)))
   · intro ax tx hs okx sm d0
     have e1 := ed d0 rfl rfl rfl
     exact run_plain rfl (y_load Try.underlying3 rfl e1 rfl)
   · intro ax tx hs okx sm d0 d1 d2 d3
     have e0 := ed d0 rfl rfl rfl
     exact run_plain rfl (y_assign e0)
   · intro ax tx hs okx sm d0 d1 d2 d3 d4 d5
     have e2 := ed d0 rfl rfl rfl
     exact run_plain rfl (y_assign e2)
   intro a7 s5 D5
   have ok6 := D5.ok
   have F6 := F5.step0 D5.stp
   have q20 := D5.kt q14 rfl
   have q21 := D5.kt q15 rfl
   have q22 := D5.kt q16 rfl
   have q23 := D5.kt q17 rfl
   have q24 := D5.kt q18 rfl
   have q25 : At (Ty.nat i) s5 a7 (.tmp 4) := D5.done 3
   have q26 : At (Ty.int (r.getD i 0)) s5 a7 (.tmp 5) := D5.done 4
   clear D5
   refine tn ?_
   refine wp_seq ?_
   refine reg (a := a7) (σ := s5) rfl (fun i_ => List.getD [(Ty.pr (Ty.int (0 : Int)))] i_ Pr.any) ok6 rfl ⟨?_, trivial⟩ ?_
   · intro ax tx hs okx sm
     exact run_plain rfl (y_assign rfl)
   intro a8 s6 D6
   have ok7 := D6.ok
   have F7 := F6.step0 D6.stp
   have q27 := D6.kt q20 rfl
   have q28 := D6.kt q21 rfl
   have q29 := D6.kt q22 rfl
   have q30 := D6.kt q23 rfl
   have q31 := D6.kt q24 rfl
   have q32 := D6.kt q25 rfl
   have q33 := D6.kt q26 rfl
   have q34 : At (Ty.int (0 : Int)) s6 a8 (.tmp 6) := D6.done 0
   clear D6
   refine tn ?_
   refine wp_seq ?_
   refine wp_seq ?_
   refine reg (a := a8) (σ := s6) rfl (fun i_ => List.getD [(Ty.pr (Ty.lst Ty.int r)), (Ty.pr (Ty.nat i)), (Ty.pr (Ty.nat (i + 1))), (Ty.pr (Ty.lst Ty.int (r.drop (i + 1)))), (Ty.pr (Ty.nat (List.length (r.drop (i + 1))))), (Ty.pr (Ty.int (0 : Int)))] i_ Pr.any) ok7 rfl ⟨?_, ?_, ?_, ?_, ?_, ?_, trivial⟩ ?_
   · intro ax tx hs okx sm
     exact run_plain rfl (y_move (kp (sm 0 rfl) hs q29))
   · intro ax tx hs okx sm
     exact run_plain rfl (y_move (kp (sm 4 rfl) hs q32))
   · intro ax tx hs okx sm d0
     have e1 := ed d0 rfl rfl rfl
     exact run_plain rfl ((y_add e1 rfl (w64 (by omega) (by omega))).mono (fun τ _ h => cvi (σ := τ) (by first | omega | exact (Int.natCast_mul _ _).symm) h))
   · intro ax tx hs okx sm d0 d1
     have e0 := ed d0 rfl rfl rfl
     have e2 := ed d1 rfl rfl rfl
     exact run_plain rfl (y_drop Try.underlying23 Try.inf3 e0 e2 (by omega))
   · intro ax tx hs okx sm d0
     have e3 := ed d0 rfl rfl rfl
     exact run_plain rfl (y_len Try.underlying23 e3)
   · intro ax tx hs okx sm
     exact run_plain rfl (y_move rfl)
   intro a9 s7 D7
   have ok8 := D7.ok
   have F8 := F7.step0 D7.stp
   have q35 := D7.kt q27 rfl
   have q36 := D7.kt q28 rfl
   have q37 := D7.kt q29 rfl
   have q38 := D7.kt q30 rfl
   have q39 := D7.kt q31 rfl
   have q40 := D7.kt q32 rfl
   have q41 := D7.kt q33 rfl
   have q42 := D7.kt q34 rfl
   have q43 : At (Ty.lst Ty.int (r.drop (i + 1))) s7 a9 (.tmp 19) := D7.done 3
   have b2 := sl_le q43
   have q44 : At (Ty.nat (List.length (r.drop (i + 1)))) s7 a9 (.tmp 20) := D7.done 4
   have q45 : At (Ty.int (0 : Int)) s7 a9 (.tmp 21) := D7.done 5
   clear D7
   refine tn ?_
   refine wp_block ?_
   refine loop (fun n3 a10 w3 => ∃ (t3 : GW) (j : Nat), t3.w = w3 ∧ FromL [] s0 t3 ∧ Ok 41 a10 ∧ At (Ty.nat j) t3 a10 (.tmp 21) ∧ At (Ty.nat (lessN (r.getD i 0) ((r.drop (i + 1)).take j))) t3 a10 (.tmp 6) ∧ At (Ty.nat i) t3 a10 (.tmp 11) ∧ At (Ty.nat q) t3 a10 (.tmp 3) ∧ At (Ty.lst Ty.int r) t3 a10 (.tmp 0) ∧ At (Ty.lst Ty.int r) t3 a10 (.tmp 9) ∧ At (Ty.nat (List.length r)) t3 a10 (.tmp 10) ∧ At (Ty.nat i) t3 a10 (.tmp 4) ∧ At (Ty.int (r.getD i 0)) t3 a10 (.tmp 5) ∧ At (Ty.lst Ty.int (r.drop (i + 1))) t3 a10 (.tmp 19) ∧ At (Ty.nat (List.length (r.drop (i + 1)))) t3 a10 (.tmp 20) ∧ (j ≤ (r.drop (i + 1)).length) ∧ n3 = (r.drop (i + 1)).length - j) ((r.drop (i + 1)).length - (0)) ?_ ?_
   ·
    exact ⟨s7, 0, rfl, F8, ok8, (cvi (by (first | rfl | omega | (simp_all; done) | (simp_all; omega))) q45), (cvi (by (simp [lessN])) q42), q35, q36, q37, q38, q39, q40, q41, q43, q44, by omega, rfl⟩
   ·
    rintro n4 a11 w4 ⟨t4, j, rfl, F9, ok9, q46, q47, q48, q49, q50, q51, q52, q53, q54, q55, q56, hj, rfl⟩
    have hll := lessN_le (r.getD i 0) ((r.drop (i + 1)).take j)
    have htl := List.length_take_le j (r.drop (i + 1))
    have hdl : (r.drop (i + 1)).length = r.length - (i + 1) := List.length_drop
    refine wp_seq ?_
    refine reg (a := a11) (σ := t4) rfl (fun i_ => List.getD [(Ty.pr (Ty.bool (decide (((j : Nat) : Int) < (((List.length (r.drop (i + 1))) : Nat) : Int)))))] i_ Pr.any) ok9 rfl ⟨?_, trivial⟩ ?_
    · intro ax tx hs okx sm
      exact run_plain rfl (y_lss (kp (sm 21 rfl) hs q46) (kp (sm 20 rfl) hs q56))
    intro a12 s8 D8
    have ok10 := D8.ok
    have F10 := F9.step0 D8.stp
    have q57 := D8.kt q46 rfl
    have q58 := D8.kt q47 rfl
    have q59 := D8.kt q48 rfl
    have q60 := D8.kt q49 rfl
    have q61 := D8.kt q50 rfl
    have q62 := D8.kt q51 rfl
    have q63 := D8.kt q52 rfl
    have q64 := D8.kt q53 rfl
    have q65 := D8.kt q54 rfl
    have q66 := D8.kt q55 rfl
    have q67 := D8.kt q56 rfl
    have q68 : At (Ty.bool (decide (((j : Nat) : Int) < (((List.length (r.drop (i + 1))) : Nat) : Int)))) s8 a12 (.tmp 22) := D8.done 0
    clear D8
    refine tn ?_
    refine wp_seq ?_
    refine cond_p (p := (((j : Nat) : Int) < (((List.length (r.drop (i + 1))) : Nat) : Int))) q68 (fun c2 => ?_) (fun c2 => ?_)
    ·
     refine wp_skip ?_
     refine tn ?_
     refine wp_seq ?_
     refine wp_block ?_
     refine wp_seq ?_
     refine reg (a := a12) (σ := s8) rfl (fun i_ => List.getD [(Ty.pr (Ty.ref [(Ty.int ((r.drop (i + 1)).getD j 0))])), (Ty.pr (Ty.int ((r.drop (i + 1)).getD j 0))), (Ty.pr (Ty.int ((r.drop (i + 1)).getD j 0)))] i_ Pr.any) ok10 rfl ⟨?_, ?_, ?_, trivial⟩ ?_
     · intro ax tx hs okx sm
       exact run_plain rfl (y_index1 Try.underlying23 Try.inf3 (kp (sm 19 rfl) hs q66) (kp (sm 21 rfl) hs q57) (by omega) (lst_get Ty.int (r.drop (i + 1)) 0 j (by omega)))
     · intro ax tx hs okx sm d0
       have e0 := ed d0 rfl rfl rfl
       exact run_plain rfl (y_load Try.underlying3 rfl e0 rfl)
     · intro ax tx hs okx sm d0 d1 d2
       have e1 := ed d0 rfl rfl rfl
       exact run_plain rfl (y_assign e1)
     intro a13 s9 D9
     have ok11 := D9.ok
     have F11 := F10.step0 D9.stp
     have q69 := D9.kt q57 rfl
     have q70 := D9.kt q58 rfl
     have q71 := D9.kt q59 rfl
     have q72 := D9.kt q60 rfl
     have q73 := D9.kt q61 rfl
     have q74 := D9.kt q62 rfl
     have q75 := D9.kt q63 rfl
     have q76 := D9.kt q64 rfl
     have q77 := D9.kt q65 rfl
     have q78 := D9.kt q66 rfl
     have q79 := D9.kt q67 rfl
     have q80 : At (Ty.int ((r.drop (i + 1)).getD j 0)) s9 a13 (.tmp 8) := D9.done 2
     clear D9
     refine tn ?_
     refine wp_seq ?_
     refine reg (a := a13) (σ := s9) rfl (fun i_ => List.getD [(Ty.pr (Ty.int ((r.drop (i + 1)).getD j 0))), (Ty.pr (Ty.int (r.getD i 0))), (Ty.pr (Ty.bool (decide (((r.drop (i + 1)).getD j 0) < (r.getD i 0)))))] i_ Pr.any) ok11 rfl ⟨?_, ?_, ?_, trivial⟩ ?_
     · intro ax tx hs okx sm
       exact run_plain rfl (y_move (kp (sm 8 rfl) hs q80))
     · intro ax tx hs okx sm
       exact run_plain rfl (y_move (kp (sm 5 rfl) hs q77))
     · intro ax tx hs okx sm d0 d1
       have e0 := ed d0 rfl rfl rfl
       have e1 := ed d1 rfl rfl rfl
       exact run_plain rfl (y_lss e0 e1)
     intro a14 s10 D10
     have ok12 := D10.ok
     have F12 := F11.step0 D10.stp
     have q81 := D10.kt q69 rfl
     have q82 := D10.kt q70 rfl
     have q83 := D10.kt q71 rfl
     have q84 := D10.kt q72 rfl
     have q85 := D10.kt q73 rfl
     have q86 := D10.kt q74 rfl
     have q87 := D10.kt q75 rfl
     have q88 := D10.kt q76 rfl
     have q89 := D10.kt q77 rfl
     have q90 := D10.kt q78 rfl
     have q91 := D10.kt q79 rfl
     have q92 : At (Ty.bool (decide (((r.drop (i + 1)).getD j 0) < (r.getD i 0)))) s10 a14 (.tmp 27) := D10.done 2
     clear D10
     refine tn ?_
     refine cond_p (p := (((r.drop (i + 1)).getD j 0) < (r.getD i 0))) q92 (fun c3 => ?_) (fun c3 => ?_)
     ·
      refine reg (a := a14) (σ := s10) rfl (fun i_ => List.getD [(Ty.pr (Ty.nat (lessN (r.getD i 0) ((r.drop (i + 1)).take j)))), (Ty.pr (Ty.nat ((lessN (r.getD i 0) ((r.drop (i + 1)).take j)) + 1))), (Ty.pr (Ty.nat ((lessN (r.getD i 0) ((r.drop (i + 1)).take j)) + 1)))] i_ Pr.any) ok12 rfl ⟨?_, ?_, ?_, trivial⟩ ?_
      · intro ax tx hs okx sm
        exact run_plain rfl (y_move (kp (sm 6 rfl) hs q82))
      · intro ax tx hs okx sm d0
        have e0 := ed d0 rfl rfl rfl
        exact run_plain rfl ((y_add e0 rfl (w64 (by omega) (by omega))).mono (fun τ _ h => cvi (σ := τ) (by first | omega | exact (Int.natCast_mul _ _).symm) h))
      · intro ax tx hs okx sm d0 d1 d2
        have e1 := ed d0 rfl rfl rfl
        exact run_plain rfl (y_assign e1)
      intro a15 s11 D11
      have ok13 := D11.ok
      have F13 := F12.step0 D11.stp
      have q93 := D11.kt q81 rfl
      have q94 := D11.kt q83 rfl
      have q95 := D11.kt q84 rfl
      have q96 := D11.kt q85 rfl
      have q97 := D11.kt q86 rfl
      have q98 := D11.kt q87 rfl
      have q99 := D11.kt q88 rfl
      have q100 := D11.kt q89 rfl
      have q101 := D11.kt q90 rfl
      have q102 := D11.kt q91 rfl
      have q103 : At (Ty.nat ((lessN (r.getD i 0) ((r.drop (i + 1)).take j)) + 1)) s11 a15 (.tmp 6) := D11.done 2
      clear D11
      refine bn ?_
      refine tn ?_
      refine reg (a := a15) (σ := s11) rfl (fun i_ => List.getD [(Ty.pr (Ty.nat (j + 1))), (Ty.pr (Ty.nat (j + 1)))] i_ Pr.any) ok13 rfl ⟨?_, ?_, trivial⟩ ?_
      · intro ax tx hs okx sm
        exact run_plain rfl ((y_add (kp (sm 21 rfl) hs q93) rfl (w64 (by omega) (by omega))).mono (fun τ _ h => cvi (σ := τ) (by first | omega | exact (Int.natCast_mul _ _).symm) h))
      · intro ax tx hs okx sm d0
        have e0 := ed d0 rfl rfl rfl
        exact run_plain rfl (y_move e0)
      intro a16 s12 D12
      have ok14 := D12.ok
      have F14 := F13.step0 D12.stp
      have q104 := D12.kt q94 rfl
      have q105 := D12.kt q95 rfl
      have q106 := D12.kt q96 rfl
      have q107 := D12.kt q97 rfl
      have q108 := D12.kt q98 rfl
      have q109 := D12.kt q99 rfl
      have q110 := D12.kt q100 rfl
      have q111 := D12.kt q101 rfl
      have q112 := D12.kt q102 rfl
      have q113 := D12.kt q103 rfl
      have q114 : At (Ty.nat (j + 1)) s12 a16 (.tmp 21) := D12.done 1
      clear D12
      exact tn ⟨(r.drop (i + 1)).length - ((j+1)), by omega, s12, (j+1), rfl, F14, ok14, (cvi (by (first | rfl | omega | (simp_all; done) | (simp_all; omega))) q114), (cvi (by (rw [lessN_snoc _ _ _ (by omega), if_pos (by assumption)])) q113), q104, q105, q106, q107, q108, q109, q110, q111, q112, by omega, rfl⟩
     ·
      refine wp_skip ?_
      refine bn ?_
      refine tn ?_
      refine reg (a := a14) (σ := s10) rfl (fun i_ => List.getD [(Ty.pr (Ty.nat (j + 1))), (Ty.pr (Ty.nat (j + 1)))] i_ Pr.any) ok12 rfl ⟨?_, ?_, trivial⟩ ?_
      · intro ax tx hs okx sm
        exact run_plain rfl ((y_add (kp (sm 21 rfl) hs q81) rfl (w64 (by omega) (by omega))).mono (fun τ _ h => cvi (σ := τ) (by first | omega | exact (Int.natCast_mul _ _).symm) h))
      · intro ax tx hs okx sm d0
        have e0 := ed d0 rfl rfl rfl
        exact run_plain rfl (y_move e0)
      intro a17 s13 D13
      have ok15 := D13.ok
      have F15 := F12.step0 D13.stp
      have q115 := D13.kt q82 rfl
      have q116 := D13.kt q83 rfl
      have q117 := D13.kt q84 rfl
      have q118 := D13.kt q85 rfl
      have q119 := D13.kt q86 rfl
      have q120 := D13.kt q87 rfl
      have q121 := D13.kt q88 rfl
      have q122 := D13.kt q89 rfl
      have q123 := D13.kt q90 rfl
      have q124 := D13.kt q91 rfl
      have q125 : At (Ty.nat (j + 1)) s13 a17 (.tmp 21) := D13.done 1
      clear D13
      exact tn ⟨(r.drop (i + 1)).length - ((j+1)), by omega, s13, (j+1), rfl, F15, ok15, (cvi (by (first | rfl | omega | (simp_all; done) | (simp_all; omega))) q125), (cvi (by (rw [lessN_snoc _ _ _ (by omega), if_neg (by assumption)]; rfl)) q115), q116, q117, q118, q119, q120, q121, q122, q123, q124, by omega, rfl⟩
    ·
     refine wp_exit ?_
     refine tx ?_
     refine tx ?_
     refine bx ?_
     refine tn ?_
     refine reg (a := a12) (σ := s8) rfl (fun i_ => List.getD [(Ty.pr (Ty.nat q)), (Ty.pr (Ty.lst Ty.int r)), (Ty.pr (Ty.nat (List.length r))), (Ty.pr (Ty.nat i)), (Ty.pr (Ty.nat ((List.length r) - i))), (Ty.pr (Ty.nat (q * ((List.length r) - i)))), (Ty.pr (Ty.nat (lessN (r.getD i 0) ((r.drop (i + 1)).take j)))), (Ty.pr (Ty.nat ((q * ((List.length r) - i)) + (lessN (r.getD i 0) ((r.drop (i + 1)).take j))))), (Ty.pr (Ty.nat ((q * ((List.length r) - i)) + (lessN (r.getD i 0) ((r.drop (i + 1)).take j)))))] i_ Pr.any) ok10 rfl ⟨?_, ?_, ?_, ?_, ?_, ?_, ?_, ?_, ?_, trivial⟩ ?_
     · intro ax tx hs okx sm
       exact run_plain rfl (y_move (kp (sm 3 rfl) hs q60))
     · intro ax tx hs okx sm
       exact run_plain rfl (y_move (kp (sm 0 rfl) hs q61))
     · intro ax tx hs okx sm d0
       have e1 := ed d0 rfl rfl rfl
       exact run_plain rfl (y_len Try.underlying23 e1)
     · intro ax tx hs okx sm
       exact run_plain rfl (y_move (kp (sm 4 rfl) hs q64))
     · intro ax tx hs okx sm d0 d1
       have e2 := ed d0 rfl rfl rfl
       have e3 := ed d1 rfl rfl rfl
       exact run_plain rfl ((y_sub e2 e3 (w64 (by omega) (by omega))).mono (fun τ _ h => cvi (σ := τ) (by omega) h))
     · intro ax tx hs okx sm d0 d1
       have e0 := ed d0 rfl rfl rfl
       have e4 := ed d1 rfl rfl rfl
       exact run_plain rfl ((y_mul e0 e4 (w64 (by omega) (by omega))).mono (fun τ _ h => cvi (σ := τ) (by first | omega | exact (Int.natCast_mul _ _).symm) h))
     · intro ax tx hs okx sm
       exact run_plain rfl (y_move (kp (sm 6 rfl) hs q58))
     · intro ax tx hs okx sm d0 d1
       have e5 := ed d0 rfl rfl rfl
       have e6 := ed d1 rfl rfl rfl
       exact run_plain rfl ((y_add e5 e6 (w64 (by omega) (by omega))).mono (fun τ _ h => cvi (σ := τ) (by first | omega | exact (Int.natCast_mul _ _).symm) h))
     · intro ax tx hs okx sm d0 d1 d2 d3 d4 d5 d6 d7 d8
       have e7 := ed d0 rfl rfl rfl
       exact run_plain rfl (y_assign e7)
     intro a18 s14 D14
     have ok16 := D14.ok
     have F16 := F10.step0 D14.stp
     have q126 := D14.kt q59 rfl
     have q127 := D14.kt q61 rfl
     have q128 := D14.kt q62 rfl
     have q129 := D14.kt q63 rfl
     have q130 : At (Ty.nat ((q * ((List.length r) - i)) + (lessN (r.getD i 0) ((r.drop (i + 1)).take j)))) s14 a18 (.tmp 3) := D14.done 8
     clear D14
     refine bn ?_
     refine tn ?_
     refine reg (a := a18) (σ := s14) rfl (fun i_ => List.getD [(Ty.pr (Ty.nat (i + 1))), (Ty.pr (Ty.nat (i + 1)))] i_ Pr.any) ok16 rfl ⟨?_, ?_, trivial⟩ ?_
     · intro ax tx hs okx sm
       exact run_plain rfl ((y_add (kp (sm 11 rfl) hs q126) rfl (w64 (by omega) (by omega))).mono (fun τ _ h => cvi (σ := τ) (by first | omega | exact (Int.natCast_mul _ _).symm) h))
     · intro ax tx hs okx sm d0
       have e0 := ed d0 rfl rfl rfl
       exact run_plain rfl (y_move e0)
     intro a19 s15 D15
     have ok17 := D15.ok
     have F17 := F16.step0 D15.stp
     have q131 := D15.kt q127 rfl
     have q132 := D15.kt q128 rfl
     have q133 := D15.kt q129 rfl
     have q134 := D15.kt q130 rfl
     have q135 : At (Ty.nat (i + 1)) s15 a19 (.tmp 11) := D15.done 1
     clear D15
     obtain rfl : j = (r.drop (i + 1)).length := (by omega)
     exact tn ⟨r.length - ((i+1)), by omega, s15, (i+1), (q * (r.length - i) + lessN (r.getD i 0) (r.drop (i + 1))), rfl, F17, ok17, (cvi (by (first | rfl | omega | (simp_all; done) | (simp_all; omega))) q135), (cvi (by (rw [List.take_length])) q134), q131, q132, q133, by omega, place_step (by omega) hq, rfl⟩
  ·
   refine wp_exit ?_
   refine tx ?_
   refine tx ?_
   refine bx ?_
   refine tn ?_
   refine wp_seq ?_
   refine reg (a := a6) (σ := s4) rfl (fun i_ => List.getD [(Ty.pr (Ty.nat q)), (Ty.pr (Ty.nat q))] i_ Pr.any) ok5 rfl ⟨?_, ?_, trivial⟩ ?_
   · intro ax tx hs okx sm
     exact run_plain rfl (y_move (kp (sm 3 rfl) hs q15))
   · intro ax tx hs okx sm d0 d1
     have e0 := ed d0 rfl rfl rfl
     exact run_plain rfl (y_assign e0)
   intro a20 s16 D16
   have ok18 := D16.ok
   have F18 := F5.step0 D16.stp
   have q136 : At (Ty.nat q) s16 a20 (.tmp 2) := D16.done 1
   clear D16
   refine tn ?_
   refine wp_ret ?_
   exact retL1 rfl ok18 F18 (cvi (by (obtain rfl : i = r.length := (by omega); exact congrArg _ (place_end hq))) q136)

theorem Try.inf86 : Info Try.prog 86 (.map none) 1 8 := by unfold Info; kernel_rfl
theorem Try.fld89_4 : fieldOf Try.prog 89 4 = some (86, 6) := by kernel_rfl
set_option maxHeartbeats 4000000 in
set_option maxRecDepth 100000 in
theorem ring_fn (q : Value) (mp : Value) (pt : Value) (fd : Value) (nm : ByteArray) (n : Int) (l : List (List Int)) (lines : List (List (List Int))) (leads : Nat) (many : Nat) (met : Nat) (full : Bool) (S : List Int) (rows : List (List Int)) (σ : GW) (hlow : Low [40, 41] σ) (v0 v1 : Value) (hv0 : Ty.has (Ty.val q) σ v0) (hv1 : Ty.has (Ty.lst Ty.ints rows) σ v1) (ho_q : OwnP σ 40 q [(Ty.val (Value.string nm)), (Ty.int n), (Ty.lst Ty.ints l), (Ty.lst Ty.rows lines), (Ty.nat leads), (Ty.nat many), (Ty.val mp), (Ty.val pt), (Ty.nat met), (Ty.val fd), (Ty.bool full)]) (ho_mp : OwnM Ty.int kI σ 41 mp (seenS S)) (hrw : ∀ i, i < rows.length → (rows.getD i []).length ≤ 12) :
    FnL Try.prog 84 #[v0, v1] σ [40, 41] (fun v τ => (Ty.has (Ty.nat (ringN S rows)) τ v) ∧ (OwnP τ 40 q [(Ty.val (Value.string nm)), (Ty.int n), (Ty.lst Ty.ints l), (Ty.lst Ty.rows lines), (Ty.nat leads), (Ty.nat many), (Ty.val mp), (Ty.val pt), (Ty.nat met), (Ty.val fd), (Ty.bool full)]) ∧ (OwnM Ty.int kI τ 41 mp (seenS (addS S (rows.take (ringN S rows)))))) := by
 refine fn_introL hlow Try.func84 rfl Try.ntmps84 (Nat.le_of_ble_eq_true rfl) (fun a0 F0 ok0 hargs => ?_)
 have p0 : At (Ty.val q) σ a0 (.tmp 0) := by have e := hargs 0 _ rfl; show Ty.has _ _ _; rw [e]; exact hv0
 have p1 : At (Ty.lst Ty.ints rows) σ a0 (.tmp 1) := by have e := hargs 1 _ rfl; show Ty.has _ _ _; rw [e]; exact hv1
 have b1 := sl_le p1
 clear hargs
 refine wp_seq ?_
 refine reg (a := a0) (σ := σ) rfl (fun i_ => List.getD [(Ty.pr (Ty.int (0 : Int)))] i_ Pr.any) ok0 rfl ⟨?_, trivial⟩ ?_
 · intro ax tx hs okx sm
   exact run_plain rfl (y_assign rfl)
 intro a1 s1 D1
 have ok1 := D1.ok
 have F1 := F0.step0 D1.stp
 have q1 := D1.kt p0 rfl
 have q2 := D1.kt p1 rfl
 have o1 := OwnP.k0 ho_q D1.stp
 have o2 := OwnM.k0 ho_mp D1.stp
 clear D1
 refine tn ?_
 refine wp_seq ?_
 refine wp_seq ?_
 refine reg (a := a1) (σ := s1) rfl (fun i_ => List.getD [(Ty.pr (Ty.lst Ty.ints rows)), (Ty.pr (Ty.nat (List.length rows))), (Ty.pr (Ty.int (0 : Int)))] i_ Pr.any) ok1 rfl ⟨?_, ?_, ?_, trivial⟩ ?_
 · intro ax tx hs okx sm
   exact run_plain rfl (y_move (kp (sm 1 rfl) hs q2))
 · intro ax tx hs okx sm d0
   have e0 := ed d0 rfl rfl rfl
   exact run_plain rfl (y_len Try.underlying29 e0)
 · intro ax tx hs okx sm
   exact run_plain rfl (y_move rfl)
 intro a2 s2 D2
 have ok2 := D2.ok
 have F2 := F1.step0 D2.stp
 have q3 := D2.kt q1 rfl
 have q4 := D2.kt q2 rfl
 have o3 := OwnP.k0 o1 D2.stp
 have o4 := OwnM.k0 o2 D2.stp
 have q5 : At (Ty.lst Ty.ints rows) s2 a2 (.tmp 8) := D2.done 0
 have q6 : At (Ty.nat (List.length rows)) s2 a2 (.tmp 9) := D2.done 1
 have q7 : At (Ty.int (0 : Int)) s2 a2 (.tmp 10) := D2.done 2
 clear D2
 refine tn ?_
 refine wp_block ?_
 refine loop (fun n1 a3 w1 => ∃ (t1 : GW) (k : Nat), t1.w = w1 ∧ FromL [40, 41] σ t1 ∧ Ok 33 a3 ∧ At (Ty.nat k) t1 a3 (.tmp 10) ∧ At (Ty.val q) t1 a3 (.tmp 0) ∧ At (Ty.lst Ty.ints rows) t1 a3 (.tmp 1) ∧ At (Ty.lst Ty.ints rows) t1 a3 (.tmp 8) ∧ At (Ty.nat (List.length rows)) t1 a3 (.tmp 9) ∧ OwnP t1 40 q [(Ty.val (Value.string nm)), (Ty.int n), (Ty.lst Ty.ints l), (Ty.lst Ty.rows lines), (Ty.nat leads), (Ty.nat many), (Ty.val mp), (Ty.val pt), (Ty.nat met), (Ty.val fd), (Ty.bool full)] ∧ OwnM Ty.int kI t1 41 mp (seenS (addS S (rows.take k))) ∧ (k ≤ rows.length) ∧ (k + ringN (addS S (rows.take k)) (rows.drop k) = ringN S rows) ∧ n1 = rows.length - k) (rows.length - (0)) ?_ ?_
 ·
  exact ⟨s2, 0, rfl, F2, ok2, (cvi (by (first | rfl | omega | (simp_all; done) | (simp_all; omega))) q7), q3, q4, q5, q6, o3, (cvm (by (rfl)) o4), by omega, by rw [Nat.zero_add]; rfl, rfl⟩
 ·
  rintro n2 a4 w2 ⟨t2, k, rfl, F3, ok3, q8, q9, q10, q11, q12, o5, o6, hk, hr, rfl⟩
  refine wp_seq ?_
  refine reg (a := a4) (σ := t2) rfl (fun i_ => List.getD [(Ty.pr (Ty.bool (decide (((k : Nat) : Int) < (((List.length rows) : Nat) : Int)))))] i_ Pr.any) ok3 rfl ⟨?_, trivial⟩ ?_
  · intro ax tx hs okx sm
    exact run_plain rfl (y_lss (kp (sm 10 rfl) hs q8) (kp (sm 9 rfl) hs q12))
  intro a5 s3 D3
  have ok4 := D3.ok
  have F4 := F3.step0 D3.stp
  have q13 := D3.kt q8 rfl
  have q14 := D3.kt q9 rfl
  have q15 := D3.kt q10 rfl
  have q16 := D3.kt q11 rfl
  have q17 := D3.kt q12 rfl
  have o7 := OwnP.k0 o5 D3.stp
  have o8 := OwnM.k0 o6 D3.stp
  have q18 : At (Ty.bool (decide (((k : Nat) : Int) < (((List.length rows) : Nat) : Int)))) s3 a5 (.tmp 11) := D3.done 0
  clear D3
  refine tn ?_
  refine wp_seq ?_
  refine cond_p (p := (((k : Nat) : Int) < (((List.length rows) : Nat) : Int))) q18 (fun c1 => ?_) (fun c1 => ?_)
  ·
   have hrk := hrw k (by omega)
   refine wp_skip ?_
   refine tn ?_
   refine wp_seq ?_
   refine wp_block ?_
   refine wp_seq ?_
   refine reg (a := a5) (σ := s3) rfl (fun i_ => List.getD [(Ty.pr (Ty.nat k)), (Ty.pr (Ty.ref [(Ty.lst Ty.int (rows.getD k []))])), (Ty.pr (Ty.lst Ty.int (rows.getD k []))), (Ty.pr (Ty.nat k)), (Ty.pr (Ty.lst Ty.int (rows.getD k [])))] i_ Pr.any) ok4 rfl ⟨?_, ?_, ?_, ?_, ?_, trivial⟩ ?_
   · intro ax tx hs okx sm
     exact run_plain rfl (y_move (kp (sm 10 rfl) hs q13))
   · intro ax tx hs okx sm
     exact run_plain rfl (y_index1 Try.underlying29 Try.inf23 (kp (sm 8 rfl) hs q16) (kp (sm 10 rfl) hs q13) (by omega) (lst_get Ty.ints rows [] k (by omega)))
   · intro ax tx hs okx sm d0
     have e1 := ed d0 rfl rfl rfl
     exact run_plain rfl (y_load Try.underlying23 rfl e1 rfl)
   · intro ax tx hs okx sm d0 d1 d2 d3
     have e0 := ed d0 rfl rfl rfl
     exact run_plain rfl (y_assign e0)
   · intro ax tx hs okx sm d0 d1 d2 d3 d4 d5
     have e2 := ed d0 rfl rfl rfl
     exact run_plain rfl (y_assign e2)
   intro a6 s4 D4
   have ok5 := D4.ok
   have F5 := F4.step0 D4.stp
   have q19 := D4.kt q13 rfl
   have q20 := D4.kt q14 rfl
   have q21 := D4.kt q15 rfl
   have q22 := D4.kt q16 rfl
   have q23 := D4.kt q17 rfl
   have o9 := OwnP.k0 o7 D4.stp
   have o10 := OwnM.k0 o8 D4.stp
   have q24 : At (Ty.nat k) s4 a6 (.tmp 5) := D4.done 3
   have q25 : At (Ty.lst Ty.int (rows.getD k [])) s4 a6 (.tmp 6) := D4.done 4
   clear D4
   refine tn ?_
   refine wp_seq ?_
   refine reg (a := a6) (σ := s4) rfl (fun i_ => List.getD [(Ty.pr (Ty.lst Ty.int (rows.getD k []))), (Ty.pr (Ty.nat (rankL ((rows.getD k []))))), (Ty.pr (Ty.nat (rankL ((rows.getD k [])))))] i_ Pr.any) ok5 rfl ⟨?_, ?_, ?_, trivial⟩ ?_
   · intro ax tx hs okx sm
     exact run_plain rfl (y_move (kp (sm 6 rfl) hs q25))
   · intro ax tx hs okx sm d0
     have e0 := ed d0 rfl rfl rfl
     exact run_plain rfl (y_call #[ax.eval (.tmp 15)] Try.func55 rfl rfl (by simp only [List.map_toArray, List.map_cons, List.map_nil]) (rowPlace_fn ((rows.getD k [])) _ _ e0 (by omega)))
   · intro ax tx hs okx sm d0 d1 d2 d3
     have e1 := ed d0 rfl rfl rfl
     exact run_plain rfl (y_assign e1)
   intro a7 s5 D5
   have ok6 := D5.ok
   have F6 := F5.step0 D5.stp
   have q26 := D5.kt q19 rfl
   have q27 := D5.kt q20 rfl
   have q28 := D5.kt q21 rfl
   have q29 := D5.kt q22 rfl
   have q30 := D5.kt q23 rfl
   have q31 := D5.kt q24 rfl
   have o11 := OwnP.k0 o9 D5.stp
   have o12 := OwnM.k0 o10 D5.stp
   have q32 : At (Ty.nat (rankL ((rows.getD k [])))) s5 a7 (.tmp 7) := D5.done 2
   clear D5
   refine tn ?_
   refine wp_seq ?_
   refine wp_seq ?_
   refine reg (a := a7) (σ := s5) rfl (fun i_ => List.getD [(Ty.pr (Ty.val q)), (Ty.pr (Ty.val q)), (Ty.pr (Ty.val (ptrAt q 6))), (Ty.pr (Ty.val mp)), (Ty.pr (Ty.nat (rankL ((rows.getD k []))))), (Ty.pr (Ty.int (((seenS (addS S (rows.take k))) (((rankL ((rows.getD k []))) : Nat) : Int)).getD 0))), (Ty.pr (Ty.bool (decide ((0 : Int) < (((seenS (addS S (rows.take k))) (((rankL ((rows.getD k []))) : Nat) : Int)).getD 0)))))] i_ Pr.any) ok6 rfl ⟨?_, ?_, ?_, ?_, ?_, ?_, ?_, trivial⟩ ?_
   · intro ax tx hs okx sm
     exact run_plain rfl (y_move (kp (sm 0 rfl) hs q27))
   · intro ax tx hs okx sm d0
     have e0 := ed d0 rfl rfl rfl
     exact run_plain rfl (y_nilp (OwnP.k0 o11 hs) e0)
   · intro ax tx hs okx sm d0
     have e1 := ed d0 rfl rfl rfl
     exact run_plain rfl (ownp_field Try.fld89_4 Try.inf86 (by decide) (OwnP.k0 o11 hs) e1)
   · intro ax tx hs okx sm d0
     have e2 := ed d0 rfl rfl rfl
     exact run_plain rfl (ownp_load Try.underlying86 rfl (OwnP.k0 o11 hs) e2 rfl)
   · intro ax tx hs okx sm
     exact run_plain rfl (y_move (kp (sm 7 rfl) hs q32))
   · intro ax tx hs okx sm d0 d1
     have e3 := ed d0 rfl rfl rfl
     have e4 := ed d1 rfl rfl rfl
     exact run_plain rfl (y_lookup (i := (((rankL ((rows.getD k []))) : Nat) : Int)) (z := 0) Try.underlying86 (keyInt Try.underlying3) Try.inf3 (fun _ => rfl) (OwnM.k0 o12 hs) e3 e4)
   · intro ax tx hs okx sm d0
     have e5 := ed d0 rfl rfl rfl
     exact run_plain rfl (y_gtr e5 rfl)
   intro a8 s6 D6
   have ok7 := D6.ok
   have F7 := F6.step0 D6.stp
   have q33 := D6.kt q26 rfl
   have q34 := D6.kt q27 rfl
   have q35 := D6.kt q28 rfl
   have q36 := D6.kt q29 rfl
   have q37 := D6.kt q30 rfl
   have q38 := D6.kt q31 rfl
   have q39 := D6.kt q32 rfl
   have o13 := OwnP.k0 o11 D6.stp
   have o14 := OwnM.k0 o12 D6.stp
   have q40 : At (Ty.bool (decide ((0 : Int) < (((seenS (addS S (rows.take k))) (((rankL ((rows.getD k []))) : Nat) : Int)).getD 0)))) s6 a8 (.tmp 23) := D6.done 6
   clear D6
   refine tn ?_
   refine cond_p (p := ((0 : Int) < (((seenS (addS S (rows.take k))) (((rankL ((rows.getD k []))) : Nat) : Int)).getD 0))) q40 (fun c2 => ?_) (fun c2 => ?_)
   ·
    have hN := ring_hit hr (by omega) (seen_pos.1 c2)
    refine wp_seq ?_
    refine reg (a := a8) (σ := s6) rfl (fun i_ => List.getD [(Ty.pr (Ty.nat k)), (Ty.pr (Ty.nat k))] i_ Pr.any) ok7 rfl ⟨?_, ?_, trivial⟩ ?_
    · intro ax tx hs okx sm
      exact run_plain rfl (y_move (kp (sm 5 rfl) hs q38))
    · intro ax tx hs okx sm d0 d1
      have e0 := ed d0 rfl rfl rfl
      exact run_plain rfl (y_assign e0)
    intro a9 s7 D7
    have ok8 := D7.ok
    have F8 := F7.step0 D7.stp
    have o15 := OwnP.k0 o13 D7.stp
    have o16 := OwnM.k0 o14 D7.stp
    have q41 : At (Ty.nat k) s7 a9 (.tmp 4) := D7.done 1
    clear D7
    refine tn ?_
    refine wp_ret ?_
    refine tr ?_
    refine br ?_
    refine tr ?_
    refine tr ?_
    refine br ?_
    refine tr ?_
    exact retL1 rfl ok8 F8 ⟨(cvi (by (rw [hN])) q41), o15, (cvm (by (rw [hN])) o16)⟩
   ·
    have hnm := fun h_ => c2 (seen_pos.2 h_)
    refine wp_skip ?_
    refine tn ?_
    refine reg2 (a := a8) (σ := s6) rfl 5 (fun i_ => List.getD [(Ty.pr (Ty.val q)), (Ty.pr (Ty.val q)), (Ty.pr (Ty.val (ptrAt q 6))), (Ty.pr (Ty.val mp)), (Ty.pr (Ty.nat (rankL ((rows.getD k [])))))] i_ Pr.any) ok7 rfl (by decide) rfl ⟨?_, ?_, ?_, ?_, ?_, trivial⟩ ?_
    · intro ax tx hs okx sm
      exact run_plain rfl (y_move (kp (sm 0 rfl) hs q34))
    · intro ax tx hs okx sm d0
      have e0 := ed d0 rfl rfl rfl
      exact run_plain rfl (y_nilp (OwnP.k0 o13 hs) e0)
    · intro ax tx hs okx sm d0
      have e1 := ed d0 rfl rfl rfl
      exact run_plain rfl (ownp_field Try.fld89_4 Try.inf86 (by decide) (OwnP.k0 o13 hs) e1)
    · intro ax tx hs okx sm d0
      have e2 := ed d0 rfl rfl rfl
      exact run_plain rfl (ownp_load Try.underlying86 rfl (OwnP.k0 o13 hs) e2 rfl)
    · intro ax tx hs okx sm
      exact run_plain rfl (y_move (kp (sm 7 rfl) hs q39))
    intro a10 s8 D8
    have ok9 := D8.ok
    have F9 := F7.step0 D8.stp
    have q42 := D8.kt q33 rfl
    have q43 := D8.kt q34 rfl
    have q44 := D8.kt q35 rfl
    have q45 := D8.kt q36 rfl
    have q46 := D8.kt q37 rfl
    have o17 := OwnP.k0 o13 D8.stp
    have o18 := OwnM.k0 o14 D8.stp
    have q47 : At (Ty.val mp) s8 a10 (.tmp 28) := D8.done 3 (by decide)
    have q48 : At (Ty.nat (rankL ((rows.getD k [])))) s8 a10 (.tmp 29) := D8.done 4 (by decide)
    clear D8
    refine tailL0 (L := [41]) (R := (fun _ τ => OwnM Ty.int kI τ 41 mp (fun x_ => if x_ = (((rankL ((rows.getD k []))) : Nat) : Int) then some (1 : Int) else (seenS (addS S (rows.take k))) x_))) rfl rfl (YldM.toL (m_mapset (i := (((rankL ((rows.getD k []))) : Nat) : Int)) Try.underlying86 (keyInt Try.underlying3) (by decide) o18 q47 q48 rfl)) (fun v1 s9 hs1 r1 => ?_)
    have F10 := F9.stepL hs1 (by decide)
    have q49 := kpL hs1 (by decide) rfl q42
    have q50 := kpL hs1 (by decide) rfl q43
    have q51 := kpL hs1 (by decide) rfl q44
    have q52 := kpL hs1 (by decide) rfl q45
    have q53 := kpL hs1 (by decide) rfl q46
    have o20 := OwnP.keepL o17 hs1 (by decide) (by decide)
    have o19 : OwnM Ty.int kI s9 41 mp (fun x_ => if x_ = (((rankL ((rows.getD k []))) : Nat) : Int) then some (1 : Int) else (seenS (addS S (rows.take k))) x_) := r1
    clear r1
    refine wpList_nil ?_
    refine bn ?_
    refine tn ?_
    refine reg (a := a10) (σ := s9) rfl (fun i_ => List.getD [(Ty.pr (Ty.nat (k + 1))), (Ty.pr (Ty.nat (k + 1)))] i_ Pr.any) ok9 rfl ⟨?_, ?_, trivial⟩ ?_
    · intro ax tx hs okx sm
      exact run_plain rfl ((y_add (kp (sm 10 rfl) hs q49) rfl (w64 (by omega) (by omega))).mono (fun τ _ h => cvi (σ := τ) (by first | omega | exact (Int.natCast_mul _ _).symm) h))
    · intro ax tx hs okx sm d0
      have e0 := ed d0 rfl rfl rfl
      exact run_plain rfl (y_move e0)
    intro a11 s10 D9
    have ok10 := D9.ok
    have F11 := F10.step0 D9.stp
    have q55 := D9.kt q50 rfl
    have q56 := D9.kt q51 rfl
    have q57 := D9.kt q52 rfl
    have q58 := D9.kt q53 rfl
    have o21 := OwnP.k0 o20 D9.stp
    have o22 := OwnM.k0 o19 D9.stp
    have q59 : At (Ty.nat (k + 1)) s10 a11 (.tmp 10) := D9.done 1
    clear D9
    exact tn ⟨rows.length - ((k+1)), by omega, s10, (k+1), rfl, F11, ok10, (cvi (by (first | rfl | omega | (simp_all; done) | (simp_all; omega))) q59), q55, q56, q57, q58, o21, (cvm (by (rw [seenS_cons, ← addS_snoc, ← take_snocD [] (by omega)])) o22), by omega, ring_step hr (by omega) hnm, rfl⟩
  ·
   have hN := ring_end hr (by omega)
   refine wp_exit ?_
   refine tx ?_
   refine tx ?_
   refine bx ?_
   refine tn ?_
   refine wp_seq ?_
   refine reg (a := a5) (σ := s3) rfl (fun i_ => List.getD [(Ty.pr (Ty.lst Ty.ints rows)), (Ty.pr (Ty.nat (List.length rows))), (Ty.pr (Ty.nat (List.length rows)))] i_ Pr.any) ok4 rfl ⟨?_, ?_, ?_, trivial⟩ ?_
   · intro ax tx hs okx sm
     exact run_plain rfl (y_move (kp (sm 1 rfl) hs q15))
   · intro ax tx hs okx sm d0
     have e0 := ed d0 rfl rfl rfl
     exact run_plain rfl (y_len Try.underlying29 e0)
   · intro ax tx hs okx sm d0 d1 d2
     have e1 := ed d0 rfl rfl rfl
     exact run_plain rfl (y_assign e1)
   intro a12 s11 D10
   have ok11 := D10.ok
   have F12 := F4.step0 D10.stp
   have o23 := OwnP.k0 o7 D10.stp
   have o24 := OwnM.k0 o8 D10.stp
   have q60 : At (Ty.nat (List.length rows)) s11 a12 (.tmp 4) := D10.done 2
   clear D10
   refine tn ?_
   refine wp_ret ?_
   exact retL1 rfl ok11 F12 ⟨(cvi (by (rw [hN]; omega)) q60), o23, (cvm (by (rw [hN, show k = rows.length by omega])) o24)⟩


set_option maxHeartbeats 4000000 in
set_option maxRecDepth 100000 in
theorem clone_fn (xs : List Int) (σ : GW)  (v0 : Value) (hv0 : Ty.has (Ty.lst Ty.int xs) σ v0)  (hx1 : 1 ≤ xs.length) (hx2 : xs.length ≤ 1000000) :
    FnC Try.prog 102 #[v0] σ (Ty.frsh (GW.w σ).heap.size xs) := by
 refine fn_intro0w Try.func102 rfl Try.ntmps102 (Nat.le_of_ble_eq_true rfl) (fun s0 a0 hw0 hle F0 ok0 hargs => ?_)
 have p0 : At (Ty.lst Ty.int xs) s0 a0 (.tmp 0) := by have e := hargs 0 _ rfl; show Ty.has _ _ _; rw [e]; exact Ty.up _ hle hv0
 have b1 := sl_le p0
 clear hargs
 refine wp_seq ?_
 refine reg (a := a0) (σ := s0) rfl (fun i_ => List.getD [(Ty.pr (Ty.val (Value.slice none 0 0)))] i_ Pr.any) ok0 rfl ⟨?_, trivial⟩ ?_
 · intro ax tx hs okx sm
   exact run_plain rfl (y_assign rfl)
 intro a1 s1 D1
 have ok1 := D1.ok
 have F1 := F0.step0 D1.stp
 have q1 := D1.kt p0 rfl
 clear D1
 refine tn ?_
 refine wp_seq ?_
 refine wp_seq ?_
 refine reg (a := a1) (σ := s1) rfl (fun i_ => List.getD [(Ty.pr (Ty.lst Ty.int xs)), (Ty.pr (Ty.bool false))] i_ Pr.any) ok1 rfl ⟨?_, ?_, trivial⟩ ?_
 · intro ax tx hs okx sm
   exact run_plain rfl (y_move (kp (sm 0 rfl) hs q1))
 · intro ax tx hs okx sm d0
   have e0 := ed d0 rfl rfl rfl
   exact run_plain rfl (y_slnil Try.underlying23 e0 (by intro e_; have e2_ := congrArg List.length e_; simp only [List.length_map, List.length_nil] at e2_; omega) rfl)
 intro a2 s2 D2
 have ok2 := D2.ok
 have F2 := F1.step0 D2.stp
 have q2 := D2.kt q1 rfl
 have q3 : At (Ty.bool false) s2 a2 (.tmp 4) := D2.done 1
 clear D2
 refine tn ?_
 refine cond_t q3 (fun c1 => (by cases c1)) (fun _ => ?_)
 refine wp_skip ?_
 refine tn ?_
 refine wp_seq ?_
 refine reg2 (a := a2) (σ := s2) rfl 2 (fun i_ => List.getD [(Pr.own 5 3 1 0 (List.map Ty.int ([] : List Int))), (Ty.pr (Ty.lst Ty.int xs))] i_ Pr.any) ok2 rfl (by decide) rfl ⟨?_, ?_, trivial⟩ ?_
 · intro ax tx hs okx sm
   exact run_plain rfl ((y_lit0 (k := 5) Try.underlying23 Try.inf3).mono (fun _ _ h => cvo (by simp) (by simp) h))
 · intro ax tx hs okx sm
   exact run_plain rfl (y_move (kp (sm 0 rfl) hs q2))
 intro a3 s3 D3
 have ok3 := D3.ok
 have F3 := F2.step0 D3.stp
 obtain ⟨x1, hx1⟩ : ∃ x, a3.eval (.tmp 5) = x := ⟨_, rfl⟩
 have q4 : At (Ty.val x1) s3 a3 (.tmp 5) := hx1
 have o1 : Own s3 5 3 1 x1 0 (List.map Ty.int ([] : List Int)) := al2 (R := (Pr.own 5 3 1 0 (List.map Ty.int ([] : List Int)))) hx1 (D3.done 0 (by decide))
 have q5 : At (Ty.lst Ty.int xs) s3 a3 (.tmp 6) := D3.done 1 (by decide)
 clear D3
 refine tailL (L := [5]) (R := (fun v τ => Own τ 5 3 1 v (0 + (List.length xs)) ((List.map Ty.int ([] : List Int)) ++ (List.map Ty.int xs)))) rfl rfl (by decide) ok3 (YldM.toL (m_append Try.underlying23 Try.inf3 (by decide) rfl (by decide) (al (R := (Pr.own 5 3 1 0 (List.map Ty.int ([] : List Int)))) q4 o1) q5 (one_map (fun _ => one_val rfl)) (by omega) (by omega))) (fun a4 s4 hs1 ok4 r1 sm1 => ?_)
 have F4 := F3.stepL hs1 (by decide)
 obtain ⟨x2, hx2⟩ : ∃ x, a4.eval (.tmp 7) = x := ⟨_, rfl⟩
 have q6 : At (Ty.val x2) s4 a4 (.tmp 7) := hx2
 have o2 : Own s4 5 3 1 x2 (List.length xs) (List.map Ty.int xs) := al2 (R := (Pr.own 5 3 1 (List.length xs) (List.map Ty.int xs))) hx2 (cvo (by simp) (by first | (rw [List.map_append]; rfl) | simp) r1)
 clear r1
 refine tailL (L := []) (R := (fun v τ => Pr.has (Ty.pr (Ty.val x2)) τ v)) rfl rfl (by decide) ok4 (Yld.toL (y_assign q6)) (fun a5 s5 hs2 ok5 r2 sm2 => ?_)
 have F5 := F4.stepL hs2 (by decide)
 have o3 := Own.keepL o2 hs2 (by decide) (by decide)
 have q7 : At (Ty.val x2) s5 a5 (.tmp 2) := r2
 clear r2
 refine wpList_nil ?_
 refine tn ?_
 refine wp_ret ?_
 have hfr_ := own_fresh F5 o3 (by decide)
 obtain ⟨t1, e1, h1, q8⟩ := Own.seal o3 (by decide)
 rw [← e1]
 have F6 := F5.step h1 (by decide)
 have q9 : At (Ty.lst Ty.int xs) t1 a5 (.tmp 2) := by have e : a5.eval (.tmp 2) = x2 := q7; show Ty.has _ _ _; rw [e]; exact q8
 exact retL1 rfl ok5 F6 (frs_of hw0 q9 q7 hfr_)


theorem Try.fld89_2 : fieldOf Try.prog 89 2 = some (3, 4) := by kernel_rfl
theorem Try.fld89_5 : fieldOf Try.prog 89 5 = some (23, 7) := by kernel_rfl
theorem Try.fld89_6 : fieldOf Try.prog 89 6 = some (3, 8) := by kernel_rfl
def OnwardAt (d : Nat) : Prop := ∀ (q : Value) (mp : Value) (pt : Value) (fd : Value) (nm : ByteArray) (n : Int) (l : List (List Int)) (lines : List (List (List Int))) (leads : Nat) (many : Nat) (met : Nat) (found : List (List Int)) (full : Bool) (cs : List BCall) (path : List Int) (S : List Int) (r : List Int) (σ : GW) (hlow : Low [40, 41, 42, 43] σ) (v0 v1 : Value) (hv0 : Ty.has (Ty.val q) σ v0) (hv1 : Ty.has (Ty.lst Ty.int r) σ v1) (ho_q : OwnP σ 40 q [(Ty.val (Value.string nm)), (Ty.int n), (Ty.lst Ty.ints l), (Ty.lst Ty.rows lines), (Ty.nat leads), (Ty.nat many), (Ty.val mp), (Ty.val pt), (Ty.nat met), (Ty.val fd), (Ty.bool full)]) (ho_mp : OwnM Ty.int kI σ 41 mp (seenS S)) (ho_pt : Own σ 42 3 1 pt (List.length path) (List.map Ty.int path)) (ho_fd : Own σ 43 23 1 fd (List.length found) (List.map Ty.ints found)) (hd : d + path.length = leads) (hd1 : 1 ≤ d) (h0 : callsMay nm n l cs = 0) (hic : inCalls cs path) (hq : QOk many (Qst.mk met found full)) (hm50 : many ≤ 50) (hl24 : leads ≤ 24) (hli : lines = cs.map (endsL l)) (hr : r = tHd n.toNat l cs path path.length) (htp : trueP n.toNat l cs path = true) (hv : VisOk n.toNat l cs path S) (hnm : nm.size ≤ 1099511627776) (hn : -9223372036854775808 ≤ n ∧ n ≤ 9223372036854775807), FnL Try.prog 50 #[v0, v1] σ [40, 41, 42, 43] (fun v τ => ∃ (pz : Value), ∃ (fz : Value), True ∧ (OwnP τ 40 q [(Ty.val (Value.string nm)), (Ty.int n), (Ty.lst Ty.ints l), (Ty.lst Ty.rows lines), (Ty.nat leads), (Ty.nat many), (Ty.val mp), (Ty.val pz), (Ty.nat (goQ n.toNat l cs leads many d path (Qst.mk met found full)).met), (Ty.val fz), (Ty.bool (goQ n.toNat l cs leads many d path (Qst.mk met found full)).full)]) ∧ (OwnM Ty.int kI τ 41 mp (seenS S)) ∧ (Own τ 42 3 1 pz (List.length path) (List.map Ty.int path)) ∧ (Own τ 43 23 1 fz (List.length (goQ n.toNat l cs leads many d path (Qst.mk met found full)).found) (List.map Ty.ints (goQ n.toNat l cs leads many d path (Qst.mk met found full)).found)))
set_option maxHeartbeats 4000000 in
set_option maxRecDepth 100000 in
theorem take_fn (d : Nat) (q : Value) (mp : Value) (pt : Value) (fd : Value) (nm : ByteArray) (n : Int) (l : List (List Int)) (lines : List (List (List Int))) (leads : Nat) (many : Nat) (met : Nat) (found : List (List Int)) (full : Bool) (cs : List BCall) (path : List Int) (S : List Int) (r : List Int) (σ : GW) (hlow : Low [40, 41, 42, 43] σ) (v0 v1 : Value) (hv0 : Ty.has (Ty.val q) σ v0) (hv1 : Ty.has (Ty.lst Ty.int r) σ v1) (ho_q : OwnP σ 40 q [(Ty.val (Value.string nm)), (Ty.int n), (Ty.lst Ty.ints l), (Ty.lst Ty.rows lines), (Ty.nat leads), (Ty.nat many), (Ty.val mp), (Ty.val pt), (Ty.nat met), (Ty.val fd), (Ty.bool full)]) (ho_mp : OwnM Ty.int kI σ 41 mp (seenS S)) (ho_pt : Own σ 42 3 1 pt (List.length path) (List.map Ty.int path)) (ho_fd : Own σ 43 23 1 fd (List.length found) (List.map Ty.ints found)) (hd : d + path.length = leads) (hp1 : 1 ≤ path.length) (hfu : full = false) (h0 : callsMay nm n l cs = 0) (hic : inCalls cs path) (hq : QOk many (Qst.mk met found full)) (hm50 : many ≤ 50) (hl24 : leads ≤ 24) (hli : lines = cs.map (endsL l)) (hr : r = tHd n.toNat l cs path path.length) (htp : trueP n.toNat l cs path = true) (hv : VisOk n.toNat l cs path S) (hnm : nm.size ≤ 1099511627776) (hn : -9223372036854775808 ≤ n ∧ n ≤ 9223372036854775807) (hOn : OnwardAt d) :
    FnL Try.prog 85 #[v0, v1] σ [40, 41, 42, 43] (fun v τ => ∃ (pz : Value), ∃ (fz : Value), True ∧ (OwnP τ 40 q [(Ty.val (Value.string nm)), (Ty.int n), (Ty.lst Ty.ints l), (Ty.lst Ty.rows lines), (Ty.nat leads), (Ty.nat many), (Ty.val mp), (Ty.val pz), (Ty.nat (takeQ n.toNat l cs leads (goQ n.toNat l cs leads many d) path (Qst.mk met found full)).met), (Ty.val fz), (Ty.bool (takeQ n.toNat l cs leads (goQ n.toNat l cs leads many d) path (Qst.mk met found full)).full)]) ∧ (OwnM Ty.int kI τ 41 mp (seenS S)) ∧ (Own τ 42 3 1 pz (List.length path) (List.map Ty.int path)) ∧ (Own τ 43 23 1 fz (List.length (takeQ n.toNat l cs leads (goQ n.toNat l cs leads many d) path (Qst.mk met found full)).found) (List.map Ty.ints (takeQ n.toNat l cs leads (goQ n.toNat l cs leads many d) path (Qst.mk met found full)).found))) := by
 obtain ⟨hok, hnn⟩ := callsMay_ok h0
 have hq1 : found.length ≤ many := hq.1
 have hq2 : met ≤ 20001 := hq.2.1
 obtain ⟨hHr, hHl⟩ := tHd_row hok hic _ (Nat.le_refl _)
 rw [← hr] at hHr hHl
 have hln := hHr.le
 have hrd := round_hd hok hic
 rw [← hr] at hrd
 refine fn_introL hlow Try.func85 rfl Try.ntmps85 (Nat.le_of_ble_eq_true rfl) (fun a0 F0 ok0 hargs => ?_)
 have p0 : At (Ty.val q) σ a0 (.tmp 0) := by have e := hargs 0 _ rfl; show Ty.has _ _ _; rw [e]; exact hv0
 have p1 : At (Ty.lst Ty.int r) σ a0 (.tmp 1) := by have e := hargs 1 _ rfl; show Ty.has _ _ _; rw [e]; exact hv1
 have b1 := sl_le p1
 clear hargs
 refine wp_seq ?_
 refine wp_seq ?_
 refine reg2 (a := a0) (σ := σ) rfl 7 (fun i_ => List.getD [(Ty.pr (Ty.val q)), (Ty.pr (Ty.val q)), (Ty.pr (Ty.val (ptrAt q 8))), (Ty.pr (Ty.nat met)), (Ty.pr (Ty.nat (met + 1))), (Ty.pr (Ty.val q)), (Ty.pr (Ty.val (ptrAt q 8)))] i_ Pr.any) ok0 rfl (by decide) rfl ⟨?_, ?_, ?_, ?_, ?_, ?_, ?_, trivial⟩ ?_
 · intro ax tx hs okx sm
   exact run_plain rfl (y_move (kp (sm 0 rfl) hs p0))
 · intro ax tx hs okx sm d0
   have e0 := ed d0 rfl rfl rfl
   exact run_plain rfl (y_nilp (OwnP.k0 ho_q hs) e0)
 · intro ax tx hs okx sm d0
   have e1 := ed d0 rfl rfl rfl
   exact run_plain rfl (ownp_field Try.fld89_6 Try.inf3 (by decide) (OwnP.k0 ho_q hs) e1)
 · intro ax tx hs okx sm d0
   have e2 := ed d0 rfl rfl rfl
   exact run_plain rfl (ownp_load Try.underlying3 rfl (OwnP.k0 ho_q hs) e2 rfl)
 · intro ax tx hs okx sm d0
   have e3 := ed d0 rfl rfl rfl
   exact run_plain rfl ((y_add e3 rfl (w64 (by omega) (by omega))).mono (fun τ _ h => cvi (σ := τ) (by first | omega | exact (Int.natCast_mul _ _).symm) h))
 · intro ax tx hs okx sm d0 d1 d2 d3 d4 d5
   have e0 := ed d0 rfl rfl rfl
   exact run_plain rfl (y_nilp (OwnP.k0 ho_q hs) e0)
 · intro ax tx hs okx sm d0 d1 d2 d3 d4 d5
   have e5 := ed d0 rfl rfl rfl
   exact run_plain rfl (ownp_field Try.fld89_6 Try.inf3 (by decide) (OwnP.k0 ho_q hs) e5)
 intro a1 s1 D1
 have ok1 := D1.ok
 have F1 := F0.step0 D1.stp
 have q1 := D1.kt p0 rfl
 have q2 := D1.kt p1 rfl
 have o1 := OwnP.k0 ho_q D1.stp
 have o2 := OwnM.k0 ho_mp D1.stp
 have o3 := Own.k0 ho_pt D1.stp
 have o4 := Own.k0 ho_fd D1.stp
 have q3 : At (Ty.nat (met + 1)) s1 a1 (.tmp 8) := D1.done 4 (by decide)
 have q4 : At (Ty.val (ptrAt q 8)) s1 a1 (.tmp 10) := D1.done 6 (by decide)
 clear D1
 refine tailL0 (L := [40]) (R := (fun _ τ => OwnP τ 40 q ([(Ty.val (Value.string nm)), (Ty.int n), (Ty.lst Ty.ints l), (Ty.lst Ty.rows lines), (Ty.nat leads), (Ty.nat many), (Ty.val mp), (Ty.val pt), (Ty.nat met), (Ty.val fd), (Ty.bool full)].set 8 (Ty.nat (met + 1))))) rfl rfl (YldM.toL (m_storep Try.inf3 (by decide) o1 q4 (Nat.le_of_ble_eq_true rfl) q3 (one_val rfl))) (fun v1 s2 hs1 r1 => ?_)
 have F2 := F1.stepL hs1 (by decide)
 have q5 := kpL hs1 (by decide) rfl q1
 have q6 := kpL hs1 (by decide) rfl q2
 have o6 := OwnM.keepL o2 hs1 (by decide) (by decide)
 have o7 := Own.keepL o3 hs1 (by decide) (by decide)
 have o8 := Own.keepL o4 hs1 (by decide) (by decide)
 have o5 : OwnP s2 40 q [(Ty.val (Value.string nm)), (Ty.int n), (Ty.lst Ty.ints l), (Ty.lst Ty.rows lines), (Ty.nat leads), (Ty.nat many), (Ty.val mp), (Ty.val pt), (Ty.nat (met + 1)), (Ty.val fd), (Ty.bool full)] := r1
 clear r1
 refine wpList_nil ?_
 refine tn ?_
 refine wp_seq ?_
 refine reg (a := a1) (σ := s2) rfl (fun i_ => List.getD [(Ty.pr (Ty.val q)), (Ty.pr (Ty.val q)), (Ty.pr (Ty.val (ptrAt q 8))), (Ty.pr (Ty.nat (met + 1))), (Ty.pr (Ty.bool (decide ((20000 : Int) < (((met + 1) : Nat) : Int)))))] i_ Pr.any) ok1 rfl ⟨?_, ?_, ?_, ?_, ?_, trivial⟩ ?_
 · intro ax tx hs okx sm
   exact run_plain rfl (y_move (kp (sm 0 rfl) hs q5))
 · intro ax tx hs okx sm d0
   have e0 := ed d0 rfl rfl rfl
   exact run_plain rfl (y_nilp (OwnP.k0 o5 hs) e0)
 · intro ax tx hs okx sm d0
   have e1 := ed d0 rfl rfl rfl
   exact run_plain rfl (ownp_field Try.fld89_6 Try.inf3 (by decide) (OwnP.k0 o5 hs) e1)
 · intro ax tx hs okx sm d0
   have e2 := ed d0 rfl rfl rfl
   exact run_plain rfl (ownp_load Try.underlying3 rfl (OwnP.k0 o5 hs) e2 rfl)
 · intro ax tx hs okx sm d0
   have e3 := ed d0 rfl rfl rfl
   exact run_plain rfl (y_gtr e3 rfl)
 intro a2 s3 D2
 have ok2 := D2.ok
 have F3 := F2.step0 D2.stp
 have q8 := D2.kt q5 rfl
 have q9 := D2.kt q6 rfl
 have o9 := OwnM.k0 o6 D2.stp
 have o10 := Own.k0 o7 D2.stp
 have o11 := Own.k0 o8 D2.stp
 have o12 := OwnP.k0 o5 D2.stp
 have q10 : At (Ty.bool (decide ((20000 : Int) < (((met + 1) : Nat) : Int)))) s3 a2 (.tmp 15) := D2.done 4
 clear D2
 refine tn ?_
 refine cond_p (p := ((20000 : Int) < (((met + 1) : Nat) : Int))) q10 (fun c1 => ?_) (fun c1 => ?_)
 ·
  have hT := take_full (n := n.toNat) (l := l) (cs := cs) (leads := leads) (F := goQ n.toNat l cs leads many d) (p := path) (s := (Qst.mk met found full)) (show 20000 < met + 1 by omega)
  refine wp_seq ?_
  refine reg2 (a := a2) (σ := s3) rfl 3 (fun i_ => List.getD [(Ty.pr (Ty.val q)), (Ty.pr (Ty.val q)), (Ty.pr (Ty.val (ptrAt q 10)))] i_ Pr.any) ok2 rfl (by decide) rfl ⟨?_, ?_, ?_, trivial⟩ ?_
  · intro ax tx hs okx sm
    exact run_plain rfl (y_move (kp (sm 0 rfl) hs q8))
  · intro ax tx hs okx sm d0 d1
    have e0 := ed d0 rfl rfl rfl
    exact run_plain rfl (y_nilp (OwnP.k0 o12 hs) e0)
  · intro ax tx hs okx sm d0 d1
    have e1 := ed d0 rfl rfl rfl
    exact run_plain rfl (ownp_field Try.fld89_8 Try.inf4 (by decide) (OwnP.k0 o12 hs) e1)
  intro a3 s4 D3
  have ok3 := D3.ok
  have F4 := F3.step0 D3.stp
  have o13 := OwnM.k0 o9 D3.stp
  have o14 := Own.k0 o10 D3.stp
  have o15 := Own.k0 o11 D3.stp
  have o16 := OwnP.k0 o12 D3.stp
  have q11 : At (Ty.val (ptrAt q 10)) s4 a3 (.tmp 18) := D3.done 2 (by decide)
  clear D3
  refine tailL0 (L := [40]) (R := (fun _ τ => OwnP τ 40 q ([(Ty.val (Value.string nm)), (Ty.int n), (Ty.lst Ty.ints l), (Ty.lst Ty.rows lines), (Ty.nat leads), (Ty.nat many), (Ty.val mp), (Ty.val pt), (Ty.nat (met + 1)), (Ty.val fd), (Ty.bool full)].set 10 (Ty.bool true)))) rfl rfl (YldM.toL (m_storep Try.inf4 (by decide) o16 q11 (Nat.le_of_ble_eq_true rfl) rfl (one_val rfl))) (fun v2 s5 hs2 r2 => ?_)
  have F5 := F4.stepL hs2 (by decide)
  have o18 := OwnM.keepL o13 hs2 (by decide) (by decide)
  have o19 := Own.keepL o14 hs2 (by decide) (by decide)
  have o20 := Own.keepL o15 hs2 (by decide) (by decide)
  have o17 : OwnP s5 40 q [(Ty.val (Value.string nm)), (Ty.int n), (Ty.lst Ty.ints l), (Ty.lst Ty.rows lines), (Ty.nat leads), (Ty.nat many), (Ty.val mp), (Ty.val pt), (Ty.nat (met + 1)), (Ty.val fd), (Ty.bool true)] := r2
  clear r2
  refine wpList_nil ?_
  refine tn ?_
  refine wp_ret ?_
  refine tr ?_
  exact retL0 rfl ok3 F5 ⟨pt, fd, trivial, (ownp_cell 10 (Ty.bool (takeQ n.toNat l cs leads (goQ n.toNat l cs leads many d) path (Qst.mk met found full)).full) (ownp_cell 8 (Ty.nat (takeQ n.toNat l cs leads (goQ n.toNat l cs leads many d) path (Qst.mk met found full)).met) o17 rfl (fun _ _ h => (cvi (by (rw [hT])) h))) rfl (fun _ _ h => (cvb (by (rw [hT])) h))), o18, o19, (cvo (by (rw [hT])) (by (rw [hT])) o20)⟩
 ·
  have hme : ¬ 20000 < met + 1 := (by omega); have hqn := qok_next (s := (Qst.mk met found full)) hq hfu hme
  refine wp_skip ?_
  refine tn ?_
  refine wp_seq ?_
  refine wp_seq ?_
  refine reg (a := a2) (σ := s3) rfl (fun i_ => List.getD [(Ty.pr (Ty.val q)), (Ty.pr (Ty.val q)), (Ty.pr (Ty.val (ptrAt q 7))), (Ty.pr (Ty.val pt)), (Ty.pr (Ty.nat (List.length path))), (Ty.pr (Ty.val q)), (Ty.pr (Ty.val q)), (Ty.pr (Ty.val (ptrAt q 4))), (Ty.pr (Ty.nat leads)), (Ty.pr (Ty.bool (decide ((((List.length path) : Nat) : Int) < ((leads : Nat) : Int)))))] i_ Pr.any) ok2 rfl ⟨?_, ?_, ?_, ?_, ?_, ?_, ?_, ?_, ?_, ?_, trivial⟩ ?_
  · intro ax tx hs okx sm
    exact run_plain rfl (y_move (kp (sm 0 rfl) hs q8))
  · intro ax tx hs okx sm d0
    have e0 := ed d0 rfl rfl rfl
    exact run_plain rfl (y_nilp (OwnP.k0 o12 hs) e0)
  · intro ax tx hs okx sm d0
    have e1 := ed d0 rfl rfl rfl
    exact run_plain rfl (ownp_field Try.fld89_5 Try.inf23 (by decide) (OwnP.k0 o12 hs) e1)
  · intro ax tx hs okx sm d0
    have e2 := ed d0 rfl rfl rfl
    exact run_plain rfl (ownp_load Try.underlying23 rfl (OwnP.k0 o12 hs) e2 rfl)
  · intro ax tx hs okx sm d0
    have e3 := ed d0 rfl rfl rfl
    exact run_plain rfl (own_len Try.underlying23 (al (R := (Pr.own 42 3 1 (List.length path) (List.map Ty.int path))) e3 (Own.k0 o10 hs)))
  · intro ax tx hs okx sm
    exact run_plain rfl (y_move (kp (sm 0 rfl) hs q8))
  · intro ax tx hs okx sm d0
    have e5 := ed d0 rfl rfl rfl
    exact run_plain rfl (y_nilp (OwnP.k0 o12 hs) e5)
  · intro ax tx hs okx sm d0
    have e6 := ed d0 rfl rfl rfl
    exact run_plain rfl (ownp_field Try.fld89_2 Try.inf3 (by decide) (OwnP.k0 o12 hs) e6)
  · intro ax tx hs okx sm d0
    have e7 := ed d0 rfl rfl rfl
    exact run_plain rfl (ownp_load Try.underlying3 rfl (OwnP.k0 o12 hs) e7 rfl)
  · intro ax tx hs okx sm d0 d1
    have e4 := ed d0 rfl rfl rfl
    have e8 := ed d1 rfl rfl rfl
    exact run_plain rfl (y_lss e4 e8)
  intro a4 s6 D4
  have ok4 := D4.ok
  have F6 := F3.step0 D4.stp
  have q13 := D4.kt q8 rfl
  have q14 := D4.kt q9 rfl
  have o21 := OwnM.k0 o9 D4.stp
  have o22 := Own.k0 o10 D4.stp
  have o23 := Own.k0 o11 D4.stp
  have o24 := OwnP.k0 o12 D4.stp
  have q15 : At (Ty.bool (decide ((((List.length path) : Nat) : Int) < ((leads : Nat) : Int)))) s6 a4 (.tmp 28) := D4.done 9
  clear D4
  refine tn ?_
  refine cond_p (p := ((((List.length path) : Nat) : Int) < ((leads : Nat) : Int))) q15 (fun c2 => ?_) (fun c2 => ?_)
  ·
   have hT := take_on (n := n.toNat) (l := l) (cs := cs) (F := goQ n.toNat l cs leads many d) (s := (Qst.mk met found full)) hme (show path.length < leads by omega)
   refine wp_seq ?_
   refine reg2 (a := a4) (σ := s6) rfl 2 (fun i_ => List.getD [(Ty.pr (Ty.val q)), (Ty.pr (Ty.lst Ty.int r))] i_ Pr.any) ok4 rfl (by decide) rfl ⟨?_, ?_, trivial⟩ ?_
   · intro ax tx hs okx sm
     exact run_plain rfl (y_move (kp (sm 0 rfl) hs q13))
   · intro ax tx hs okx sm
     exact run_plain rfl (y_move (kp (sm 1 rfl) hs q14))
   intro a5 s7 D5
   have ok5 := D5.ok
   have F7 := F6.step0 D5.stp
   have o25 := OwnM.k0 o21 D5.stp
   have o26 := Own.k0 o22 D5.stp
   have o27 := Own.k0 o23 D5.stp
   have o28 := OwnP.k0 o24 D5.stp
   have q16 : At (Ty.val q) s7 a5 (.tmp 29) := D5.done 0 (by decide)
   have q17 : At (Ty.lst Ty.int r) s7 a5 (.tmp 30) := D5.done 1 (by decide)
   clear D5
   refine tailL (L := [40, 41, 42, 43]) (R := (fun v τ' => ∃ τ, (fun v τ => ∃ (pz : Value), ∃ (fz : Value), True ∧ (OwnP τ 40 q [(Ty.val (Value.string nm)), (Ty.int n), (Ty.lst Ty.ints l), (Ty.lst Ty.rows lines), (Ty.nat leads), (Ty.nat many), (Ty.val mp), (Ty.val pz), (Ty.nat (goQ n.toNat l cs leads many d path (Qst.mk ((met + 1)) found full)).met), (Ty.val fz), (Ty.bool (goQ n.toNat l cs leads many d path (Qst.mk ((met + 1)) found full)).full)]) ∧ (OwnM Ty.int kI τ 41 mp (seenS S)) ∧ (Own τ 42 3 1 pz (List.length path) (List.map Ty.int path)) ∧ (Own τ 43 23 1 fz (List.length (goQ n.toNat l cs leads many d path (Qst.mk ((met + 1)) found full)).found) (List.map Ty.ints (goQ n.toNat l cs leads many d path (Qst.mk ((met + 1)) found full)).found))) v τ ∧ Back [(40, 40), (41, 41), (42, 42), (43, 43)] τ τ')) rfl rfl (by decide) ok5 (y_callL (L := [40, 41, 42, 43]) [(40, 40), (41, 41), (42, 42), (43, 43)] [(40, 40), (41, 41), (42, 42), (43, 43)] #[a5.eval (.tmp 29), a5.eval (.tmp 30)] rfl (by decide) Try.func50 rfl rfl (by simp only [List.map_toArray, List.map_cons, List.map_nil]) (hOn (q) (mp) (pt) (fd) (nm) (n) (l) (lines) (leads) (many) ((met + 1)) (found) (full) (_) (path) (_) (r) _ (GW.low_lend _ (by decide)) _ _ (Ty.up _ (GW.le_lend _ _) q16) (Ty.up _ (GW.le_lend _ _) q17) (OwnP.ren (ownp_cell 8 (Ty.nat ((met + 1))) o28 rfl (fun _ _ h => (cvi (by (first | rfl | omega | (simp_all; done) | (simp_all; omega))) h))) (GW.ren_lend _ _ (by decide) rfl)) (OwnM.ren o25 (GW.ren_lend _ _ (by decide) rfl)) (Own.ren o26 (GW.ren_lend _ _ (by decide) rfl)) (Own.ren o27 (GW.ren_lend _ _ (by decide) rfl)) (by first | omega | assumption) (by first | omega | assumption) (by first | omega | assumption) (by first | omega | assumption) (by first | omega | assumption) (by first | omega | assumption) (by first | omega | assumption) (by first | omega | assumption) (by first | omega | assumption) (by first | omega | assumption) (by first | omega | assumption) (by first | omega | assumption) (by first | omega | assumption))) (fun a6 s8 hs3 ok6 r3 sm1 => ?_)
   have F8 := F7.stepL hs3 (by decide)
   obtain ⟨t1, ⟨x1, x2, hT1, o29, o30, o31, o32⟩, B1⟩ := r3
   have o33 : OwnP s8 40 q [(Ty.val (Value.string nm)), (Ty.int n), (Ty.lst Ty.ints l), (Ty.lst Ty.rows lines), (Ty.nat leads), (Ty.nat many), (Ty.val mp), (Ty.val x1), (Ty.nat (goQ n.toNat l cs leads many d path (Qst.mk ((met + 1)) found full)).met), (Ty.val x2), (Ty.bool (goQ n.toNat l cs leads many d path (Qst.mk ((met + 1)) found full)).full)] := OwnP.ren o29 (B1.ren (by decide) rfl)
   have o34 : OwnM Ty.int kI s8 41 mp (seenS S) := OwnM.ren o30 (B1.ren (by decide) rfl)
   have o35 : Own s8 42 3 1 x1 (List.length path) (List.map Ty.int path) := Own.ren o31 (B1.ren (by decide) rfl)
   have o36 : Own s8 43 23 1 x2 (List.length (goQ n.toNat l cs leads many d path (Qst.mk ((met + 1)) found full)).found) (List.map Ty.ints (goQ n.toNat l cs leads many d path (Qst.mk ((met + 1)) found full)).found) := Own.ren o32 (B1.ren (by decide) rfl)
   refine wpList_nil ?_
   refine tn ?_
   refine wp_ret ?_
   refine tr ?_
   exact retL0 rfl ok6 F8 ⟨x1, x2, trivial, (ownp_cell 10 (Ty.bool (takeQ n.toNat l cs leads (goQ n.toNat l cs leads many d) path (Qst.mk met found full)).full) (ownp_cell 8 (Ty.nat (takeQ n.toNat l cs leads (goQ n.toNat l cs leads many d) path (Qst.mk met found full)).met) o33 rfl (fun _ _ h => (cvi (by (rw [hT])) h))) rfl (fun _ _ h => (cvb (by (rw [hT])) h))), o34, o35, (cvo (by (rw [hT])) (by (rw [hT])) o36)⟩
  ·
   refine wp_skip ?_
   refine tn ?_
   refine wp_seq ?_
   refine reg (a := a4) (σ := s6) rfl (fun i_ => List.getD [(Ty.pr (Ty.lst Ty.int r)), (Ty.pr (Ty.nat (rankL r))), (Ty.pr (Ty.bool (decide ((((rankL r) : Nat) : Int) = (0 : Int)))))] i_ Pr.any) ok4 rfl ⟨?_, ?_, ?_, trivial⟩ ?_
   · intro ax tx hs okx sm
     exact run_plain rfl (y_move (kp (sm 1 rfl) hs q14))
   · intro ax tx hs okx sm d0
     have e0 := ed d0 rfl rfl rfl
     exact run_plain rfl (y_call #[ax.eval (.tmp 32)] Try.func55 rfl rfl (by simp only [List.map_toArray, List.map_cons, List.map_nil]) (rowPlace_fn (r) _ _ e0 (by omega)))
   · intro ax tx hs okx sm d0
     have e1 := ed d0 rfl rfl rfl
     exact run_plain rfl (y_eql e1 rfl)
   intro a7 s9 D6
   have ok7 := D6.ok
   have F9 := F6.step0 D6.stp
   have q19 := D6.kt q13 rfl
   have o37 := OwnM.k0 o21 D6.stp
   have o38 := Own.k0 o22 D6.stp
   have o39 := Own.k0 o23 D6.stp
   have o40 := OwnP.k0 o24 D6.stp
   have q20 : At (Ty.bool (decide ((((rankL r) : Nat) : Int) = (0 : Int)))) s9 a7 (.tmp 34) := D6.done 2
   clear D6
   refine tn ?_
   refine cond_p (p := ((((rankL r) : Nat) : Int) = (0 : Int))) q20 (fun c3 => ?_) (fun c3 => ?_)
   ·
    have hT := take_yes (n := n.toNat) (l := l) (cs := cs) (F := goQ n.toNat l cs leads many d) (s := (Qst.mk met found full)) hme (show ¬ path.length < leads by omega) (by rw [hrd]; exact decide_eq_true c3)
    refine reg3 (a := a7) (σ := s9) rfl 12 11 46 [43] (by decide) (Pr.own 43 23 1 ((List.length found) + 1) ((List.map Ty.ints found) ++ [(Ty.lst Ty.int path)])) (fun i_ => List.getD [(Ty.val q), (Ty.val q), (Ty.val q), (Ty.val (ptrAt q 9)), (Ty.val fd), (Ty.val q), (Ty.val q), (Ty.val (ptrAt q 7)), (Ty.val pt), (Ty.lst Ty.int path), (Ty.sl 1 1 [(Ty.lst Ty.int path)]), Ty.any] i_ Ty.any) ok7 rfl (by decide) rfl (by decide) rfl (fun _ _ => trivial) rfl ⟨?_, ?_, ?_, ?_, ?_, ?_, ?_, ?_, ?_, ?_, ?_, ?_, trivial⟩ ?_
    · refine obR3 (by decide) ?_
      intro ax tx hs okx sm
      exact run_plain rfl (y_move (kpL hs (by decide) (sm 0 rfl) q19))
    · refine obR3 (by decide) ?_
      intro ax tx hs okx sm
      exact run_plain rfl (y_move (kpL hs (by decide) (sm 0 rfl) q19))
    · refine obR3 (by decide) ?_
      intro ax tx hs okx sm d0
      have e1 : At (Ty.val q) tx ax (.tmp 36) := d0 rfl
      exact run_plain rfl (y_nilp (OwnP.keepL o40 hs (by decide) (by decide)) e1)
    · refine obR3 (by decide) ?_
      intro ax tx hs okx sm d0
      have e2 : At (Ty.val q) tx ax (.tmp 37) := d0 rfl
      exact run_plain rfl (ownp_field Try.fld89_7 Try.inf29 (by decide) (OwnP.keepL o40 hs (by decide) (by decide)) e2)
    · refine obR3 (by decide) ?_
      intro ax tx hs okx sm d0
      have e3 : At (Ty.val (ptrAt q 9)) tx ax (.tmp 38) := d0 rfl
      exact run_plain rfl (ownp_load Try.underlying29 rfl (OwnP.keepL o40 hs (by decide) (by decide)) e3 rfl)
    · refine obR3 (by decide) ?_
      intro ax tx hs okx sm
      exact run_plain rfl (y_move (kpL hs (by decide) (sm 0 rfl) q19))
    · refine obR3 (by decide) ?_
      intro ax tx hs okx sm d0
      have e5 : At (Ty.val q) tx ax (.tmp 40) := d0 rfl
      exact run_plain rfl (y_nilp (OwnP.keepL o40 hs (by decide) (by decide)) e5)
    · refine obR3 (by decide) ?_
      intro ax tx hs okx sm d0
      have e6 : At (Ty.val q) tx ax (.tmp 41) := d0 rfl
      exact run_plain rfl (ownp_field Try.fld89_5 Try.inf23 (by decide) (OwnP.keepL o40 hs (by decide) (by decide)) e6)
    · refine obR3 (by decide) ?_
      intro ax tx hs okx sm d0
      have e7 : At (Ty.val (ptrAt q 7)) tx ax (.tmp 42) := d0 rfl
      exact run_plain rfl (ownp_load Try.underlying23 rfl (OwnP.keepL o40 hs (by decide) (by decide)) e7 rfl)
    · refine obR3 (by decide) ?_
      intro ax tx hs okx sm d0
      have e8 : At (Ty.val pt) tx ax (.tmp 43) := d0 rfl
      exact run_plain rfl (y_callo (by decide) (Own.keepL o38 hs (by decide) (by decide)) e8 Try.func102 rfl rfl (fun s_ hs_ => clone_fn (path) s_ _ hs_ (by first | omega | (simp only [List.length_append, List.length_singleton]; omega)) (by first | omega | (simp only [List.length_append, List.length_singleton]; omega))))
    · refine obR3 (by decide) ?_
      intro ax tx hs okx sm d0
      have e9 : At (Ty.lst Ty.int path) tx ax (.tmp 44) := d0 rfl
      exact run_plain rfl (y_build1o Try.underlying29 Try.inf23 rfl (one_sl) e9)
    · refine obR3w rfl ?_
      intro ax tx hs okx sm d0 d1 d2
      have e4 : At (Ty.val fd) tx ax (.tmp 39) := d0 rfl
      have e10 : At (Ty.sl 1 1 [(Ty.lst Ty.int path)]) tx ax (.tmp 45) := d1 rfl
      exact YldM.toL (m_append Try.underlying29 Try.inf23 (by decide) rfl (by decide) (al (R := (Pr.own 43 23 1 (List.length found) (List.map Ty.ints found))) e4 (Own.k0 o39 hs)) e10 (by intro U hU; simp at hU; subst hU; exact one_sl) (by omega) (by omega))
    intro a8 s10 D7
    have ok8 := D7.ok
    have F10 := F9.stepL D7.stp (by decide)
    have o42 := OwnM.keepL o37 D7.stp (by decide) (by decide)
    have o43 := Own.keepL o38 D7.stp (by decide) (by decide)
    have o44 := OwnP.keepL o40 D7.stp (by decide) (by decide)
    have q21 : At (Ty.val q) s10 a8 (.tmp 35) := D7.done 0 (by decide)
    obtain ⟨x3, hx1⟩ : ∃ x, a8.eval (.tmp 46) = x := ⟨_, rfl⟩
    have q22 : At (Ty.val x3) s10 a8 (.tmp 46) := hx1
    have o41 : Own s10 43 23 1 x3 (List.length (found ++ [path])) (List.map Ty.ints (found ++ [path])) := al2 (R := (Pr.own 43 23 1 (List.length (found ++ [path])) (List.map Ty.ints (found ++ [path])))) hx1 (cvo (by simp) (by first | (rw [List.map_append]; rfl) | simp) D7.donep)
    clear D7
    refine tailL (L := []) (R := (fun v τ => Pr.has (Ty.pr (Ty.val q)) τ v)) rfl rfl (by decide) ok8 (Yld.toL (y_nilp o44 q21)) (fun a9 s11 hs4 ok9 r4 sm2 => ?_)
    have F11 := F10.stepL hs4 (by decide)
    have q23 := kpL hs4 (by decide) (sm2 46 (by decide)) q22
    have o45 := OwnM.keepL o42 hs4 (by decide) (by decide)
    have o46 := Own.keepL o43 hs4 (by decide) (by decide)
    have o47 := OwnP.keepL o44 hs4 (by decide) (by decide)
    have o48 := Own.keepL o41 hs4 (by decide) (by decide)
    have q24 : At (Ty.val q) s11 a9 (.tmp 47) := r4
    clear r4
    refine tailL (L := []) (R := (fun v τ => Pr.has (Ty.pr (Ty.val (ptrAt q 9))) τ v)) rfl rfl (by decide) ok9 (Yld.toL (ownp_field Try.fld89_7 Try.inf29 (by decide) o47 q24)) (fun a10 s12 hs5 ok10 r5 sm3 => ?_)
    have F12 := F11.stepL hs5 (by decide)
    have q25 := kpL hs5 (by decide) (sm3 46 (by decide)) q23
    have o49 := OwnM.keepL o45 hs5 (by decide) (by decide)
    have o50 := Own.keepL o46 hs5 (by decide) (by decide)
    have o51 := OwnP.keepL o47 hs5 (by decide) (by decide)
    have o52 := Own.keepL o48 hs5 (by decide) (by decide)
    have q26 : At (Ty.val (ptrAt q 9)) s12 a10 (.tmp 48) := r5
    clear r5
    refine tailL0 (L := [40]) (R := (fun _ τ => OwnP τ 40 q ([(Ty.val (Value.string nm)), (Ty.int n), (Ty.lst Ty.ints l), (Ty.lst Ty.rows lines), (Ty.nat leads), (Ty.nat many), (Ty.val mp), (Ty.val pt), (Ty.nat (met + 1)), (Ty.val fd), (Ty.bool full)].set 9 (Ty.val x3)))) rfl rfl (YldM.toL (m_storep Try.inf29 (by decide) o51 q26 (Nat.le_of_ble_eq_true rfl) q25 (one_val (Own.one o52)))) (fun v3 s13 hs6 r6 => ?_)
    have F13 := F12.stepL hs6 (by decide)
    have o54 := OwnM.keepL o49 hs6 (by decide) (by decide)
    have o55 := Own.keepL o50 hs6 (by decide) (by decide)
    have o56 := Own.keepL o52 hs6 (by decide) (by decide)
    have o53 : OwnP s13 40 q [(Ty.val (Value.string nm)), (Ty.int n), (Ty.lst Ty.ints l), (Ty.lst Ty.rows lines), (Ty.nat leads), (Ty.nat many), (Ty.val mp), (Ty.val pt), (Ty.nat (met + 1)), (Ty.val x3), (Ty.bool full)] := r6
    clear r6
    refine wpList_nil ?_
    exact nL0 rfl ok10 F13 ⟨pt, x3, trivial, (ownp_cell 10 (Ty.bool (takeQ n.toNat l cs leads (goQ n.toNat l cs leads many d) path (Qst.mk met found full)).full) (ownp_cell 8 (Ty.nat (takeQ n.toNat l cs leads (goQ n.toNat l cs leads many d) path (Qst.mk met found full)).met) o53 rfl (fun _ _ h => (cvi (by (rw [hT])) h))) rfl (fun _ _ h => (cvb (by (rw [hT])) h))), o54, o55, (cvo (by (rw [hT])) (by (rw [hT])) o56)⟩
   ·
    have hT := take_no (n := n.toNat) (l := l) (cs := cs) (F := goQ n.toNat l cs leads many d) (s := (Qst.mk met found full)) hme (show ¬ path.length < leads by omega) (by rw [hrd]; exact decide_eq_false c3)
    refine wp_skip ?_
    exact nL0 rfl ok7 F9 ⟨pt, fd, trivial, (ownp_cell 10 (Ty.bool (takeQ n.toNat l cs leads (goQ n.toNat l cs leads many d) path (Qst.mk met found full)).full) (ownp_cell 8 (Ty.nat (takeQ n.toNat l cs leads (goQ n.toNat l cs leads many d) path (Qst.mk met found full)).met) o40 rfl (fun _ _ h => (cvi (by (rw [hT])) h))) rfl (fun _ _ h => (cvb (by (rw [hT])) h))), o37, o38, (cvo (by (rw [hT])) (by (rw [hT])) o39)⟩

theorem Try.inf87 : Info Try.prog 87 (.slice none 0 0) 1 24 := by unfold Info; kernel_rfl
theorem Try.fld89_1 : fieldOf Try.prog 89 1 = some (87, 3) := by kernel_rfl
set_option maxHeartbeats 4000000 in
set_option maxRecDepth 100000 in
theorem onward_fn : ∀ (d : Nat), OnwardAt d := by
 intro d
 induction d using Nat.strongRecOn with
 | _ d ih =>
 intro q mp pt fd nm n l lines leads many met found full cs path S r σ hlow v0 v1 hv0 hv1 ho_q ho_mp ho_pt ho_fd hd hd1 h0 hic hq hm50 hl24 hli hr htp hv hnm hn
 obtain ⟨f, hf⟩ : ∃ f, d = f + 1 := ⟨d - 1, by omega⟩
 obtain ⟨s0, hs0⟩ : ∃ s0 : Qst, s0 = (Qst.mk met found full) := ⟨_, rfl⟩
 have e1_ : met = s0.met := by rw [hs0]
 have e2_ : found = s0.found := by rw [hs0]
 have e3_ : full = s0.full := by rw [hs0]
 rw [← hs0] at hq
 obtain ⟨hok, hnn⟩ := callsMay_ok h0
 have hc8 := hok.c8
 have hll : lines.length = cs.length := by rw [hli, List.length_map]
 have hl1 := hok.meth.l1
 have hl2 := hok.meth.l2
 have hn2 := hok.meth.n2
 obtain ⟨hHr, hHl⟩ := tHd_row hok hic _ (Nat.le_refl _)
 rw [← hr] at hHr hHl
 have hln := hHr.le
 refine fn_introL hlow Try.func50 rfl Try.ntmps50 (Nat.le_of_ble_eq_true rfl) (fun a0 F0 ok0 hargs => ?_)
 have p0 : At (Ty.val q) σ a0 (.tmp 0) := by have e := hargs 0 _ rfl; show Ty.has _ _ _; rw [e]; exact hv0
 have p1 : At (Ty.lst Ty.int r) σ a0 (.tmp 1) := by have e := hargs 1 _ rfl; show Ty.has _ _ _; rw [e]; exact hv1
 have b1 := sl_le p1
 clear hargs
 refine wp_seq ?_
 refine reg (a := a0) (σ := σ) rfl (fun i_ => List.getD [(Ty.pr (Ty.val q)), (Ty.pr (Ty.val q)), (Ty.pr (Ty.val (ptrAt q 3))), (Ty.pr (Ty.lst Ty.rows lines)), (Ty.pr (Ty.nat (List.length lines))), (Ty.pr (Ty.int (0 : Int)))] i_ Pr.any) ok0 rfl ⟨?_, ?_, ?_, ?_, ?_, ?_, trivial⟩ ?_
 · intro ax tx hs okx sm
   exact run_plain rfl (y_move (kp (sm 0 rfl) hs p0))
 · intro ax tx hs okx sm d0
   have e0 := ed d0 rfl rfl rfl
   exact run_plain rfl (y_nilp (OwnP.k0 ho_q hs) e0)
 · intro ax tx hs okx sm d0
   have e1 := ed d0 rfl rfl rfl
   exact run_plain rfl (ownp_field Try.fld89_1 Try.inf87 (by decide) (OwnP.k0 ho_q hs) e1)
 · intro ax tx hs okx sm d0
   have e2 := ed d0 rfl rfl rfl
   exact run_plain rfl (ownp_load Try.underlying87 rfl (OwnP.k0 ho_q hs) e2 rfl)
 · intro ax tx hs okx sm d0
   have e3 := ed d0 rfl rfl rfl
   exact run_plain rfl (y_len Try.underlying87 e3)
 · intro ax tx hs okx sm
   exact run_plain rfl (y_move rfl)
 intro a1 s1 D1
 have ok1 := D1.ok
 have F1 := F0.step0 D1.stp
 have q1 := D1.kt p0 rfl
 have q2 := D1.kt p1 rfl
 have o1 := OwnP.k0 ho_q D1.stp
 have o2 := OwnM.k0 ho_mp D1.stp
 have o3 := Own.k0 ho_pt D1.stp
 have o4 := Own.k0 ho_fd D1.stp
 have q3 : At (Ty.nat (List.length lines)) s1 a1 (.tmp 13) := D1.done 4
 have q4 : At (Ty.int (0 : Int)) s1 a1 (.tmp 14) := D1.done 5
 clear D1
 refine tn ?_
 refine wp_block ?_
 refine loop (fun n1 a2 w1 => ∃ (t1 : GW) (k : Nat) (s : Qst) (pt fk : Value), t1.w = w1 ∧ FromL [40, 41, 42, 43] σ t1 ∧ Ok 88 a2 ∧ At (Ty.nat k) t1 a2 (.tmp 14) ∧ At (Ty.val q) t1 a2 (.tmp 0) ∧ At (Ty.lst Ty.int r) t1 a2 (.tmp 1) ∧ At (Ty.nat (List.length lines)) t1 a2 (.tmp 13) ∧ OwnP t1 40 q [(Ty.val (Value.string nm)), (Ty.int n), (Ty.lst Ty.ints l), (Ty.lst Ty.rows lines), (Ty.nat leads), (Ty.nat many), (Ty.val mp), (Ty.val pt), (Ty.nat s.met), (Ty.val fk), (Ty.bool s.full)] ∧ OwnM Ty.int kI t1 41 mp (seenS S) ∧ Own t1 42 3 1 pt (List.length path) (List.map Ty.int path) ∧ Own t1 43 23 1 fk (List.length s.found) (List.map Ty.ints s.found) ∧ (k ≤ lines.length) ∧ (s = lpQ n.toNat l cs leads many f path s0 k) ∧ n1 = lines.length - k) (lines.length - (0)) ?_ ?_
 ·
  exact ⟨s1, 0, s0, pt, fd, rfl, F1, ok1, (cvi (by (first | rfl | omega | (simp_all; done) | (simp_all; omega))) q4), q1, q2, q3, (ownp_cell 10 (Ty.bool (s0).full) (ownp_cell 8 (Ty.nat (s0).met) o1 rfl (fun _ _ h => (cvi (by (rw [e1_])) h))) rfl (fun _ _ h => (cvb (by (rw [e3_])) h))), o2, o3, (cvo (by (rw [e2_])) (by (rw [e2_])) o4), by omega, rfl, rfl⟩
 ·
  rintro n2 a3 w2 ⟨t2, k, s, pt, fk, rfl, F2, ok2, q5, q6, q7, q8, o5, o6, o7, o8, hk, hs, rfl⟩
  have hqs : QOk many s := (by rw [hs]; exact lpQ_ok hq k)
  have hq1 := hqs.1
  have hq2 := hqs.2.1
  refine wp_seq ?_
  refine reg (a := a3) (σ := t2) rfl (fun i_ => List.getD [(Ty.pr (Ty.bool (decide (((k : Nat) : Int) < (((List.length lines) : Nat) : Int)))))] i_ Pr.any) ok2 rfl ⟨?_, trivial⟩ ?_
  · intro ax tx hs okx sm
    exact run_plain rfl (y_lss (kp (sm 14 rfl) hs q5) (kp (sm 13 rfl) hs q8))
  intro a4 s2 D2
  have ok3 := D2.ok
  have F3 := F2.step0 D2.stp
  have q9 := D2.kt q5 rfl
  have q10 := D2.kt q6 rfl
  have q11 := D2.kt q7 rfl
  have q12 := D2.kt q8 rfl
  have o9 := OwnP.k0 o5 D2.stp
  have o10 := OwnM.k0 o6 D2.stp
  have o11 := Own.k0 o7 D2.stp
  have o12 := Own.k0 o8 D2.stp
  have q13 : At (Ty.bool (decide (((k : Nat) : Int) < (((List.length lines) : Nat) : Int)))) s2 a4 (.tmp 15) := D2.done 0
  clear D2
  refine tn ?_
  refine wp_seq ?_
  refine cond_p (p := (((k : Nat) : Int) < (((List.length lines) : Nat) : Int))) q13 (fun c1 => ?_) (fun c1 => ?_)
  ·
   have hkc : k < cs.length := (by omega)
   refine wp_skip ?_
   refine tn ?_
   refine wp_seq ?_
   refine wp_block ?_
   refine wp_seq ?_
   refine reg (a := a4) (σ := s2) rfl (fun i_ => List.getD [(Ty.pr (Ty.nat k)), (Ty.pr (Ty.nat k))] i_ Pr.any) ok3 rfl ⟨?_, ?_, trivial⟩ ?_
   · intro ax tx hs okx sm
     exact run_plain rfl (y_move (kp (sm 14 rfl) hs q9))
   · intro ax tx hs okx sm d0 d1
     have e0 := ed d0 rfl rfl rfl
     exact run_plain rfl (y_assign e0)
   intro a5 s3 D3
   have ok4 := D3.ok
   have F4 := F3.step0 D3.stp
   have q14 := D3.kt q9 rfl
   have q15 := D3.kt q10 rfl
   have q16 := D3.kt q11 rfl
   have q17 := D3.kt q12 rfl
   have o13 := OwnP.k0 o9 D3.stp
   have o14 := OwnM.k0 o10 D3.stp
   have o15 := Own.k0 o11 D3.stp
   have o16 := Own.k0 o12 D3.stp
   have q18 : At (Ty.nat k) s3 a5 (.tmp 4) := D3.done 1
   clear D3
   refine tn ?_
   refine wp_seq ?_
   refine wp_seq ?_
   refine reg2 (a := a5) (σ := s3) rfl 1 (fun i_ => List.getD [(Ty.pr (Ty.val q))] i_ Pr.any) ok4 rfl (by decide) rfl ⟨?_, trivial⟩ ?_
   · intro ax tx hs okx sm
     exact run_plain rfl (y_move (kp (sm 0 rfl) hs q15))
   intro a6 s4 D4
   have ok5 := D4.ok
   have F5 := F4.step0 D4.stp
   have q19 := D4.kt q14 rfl
   have q20 := D4.kt q15 rfl
   have q21 := D4.kt q16 rfl
   have q22 := D4.kt q17 rfl
   have q23 := D4.kt q18 rfl
   have o17 := OwnP.k0 o13 D4.stp
   have o18 := OwnM.k0 o14 D4.stp
   have o19 := Own.k0 o15 D4.stp
   have o20 := Own.k0 o16 D4.stp
   have q24 : At (Ty.val q) s4 a6 (.tmp 17) := D4.done 0 (by decide)
   clear D4
   refine tailL (L := [40, 43]) (R := (fun v τ' => ∃ τ, (fun v τ => (Ty.has (Ty.bool ((s.full) || (decide ((((List.length (s.found)) : Nat) : Int) = ((many : Nat) : Int))))) τ v) ∧ (OwnP τ 40 q [(Ty.val (Value.string nm)), (Ty.int n), (Ty.lst Ty.ints l), (Ty.lst Ty.rows lines), (Ty.nat leads), (Ty.nat many), (Ty.val mp), (Ty.val pt), (Ty.nat (s.met)), (Ty.val fk), (Ty.bool (s.full))]) ∧ (Own τ 43 23 1 fk (List.length (s.found)) (List.map Ty.ints (s.found)))) v τ ∧ Back [(40, 40), (43, 43)] τ τ')) rfl rfl (by decide) ok5 (y_callL (L := [40, 43]) [(40, 40), (43, 43)] [(40, 40), (43, 43)] #[a6.eval (.tmp 17)] rfl (by decide) Try.func82 rfl rfl (by simp only [List.map_toArray, List.map_cons, List.map_nil]) (over_fn (q) (mp) (pt) (fk) (nm) (n) (l) (lines) (leads) (many) (s.met) (s.found) (s.full) _ (GW.low_lend _ (by decide)) _ (Ty.up _ (GW.le_lend _ _) q24) (OwnP.ren (ownp_cell 10 (Ty.bool (s.full)) (ownp_cell 8 (Ty.nat (s.met)) o17 rfl (fun _ _ h => (cvi (by (first | rfl | omega | (simp_all; done) | (simp_all; omega))) h))) rfl (fun _ _ h => (cvb (by (first | rfl | omega | (simp_all; done) | (simp_all; omega))) h))) (GW.ren_lend _ _ (by decide) rfl)) (Own.ren (cvo (by (simp)) (by (simp)) o20) (GW.ren_lend _ _ (by decide) rfl)) )) (fun a7 s5 hs1 ok6 r1 sm1 => ?_)
   have F6 := F5.stepL hs1 (by decide)
   have q25 := kpL hs1 (by decide) (sm1 14 (by decide)) q19
   have q26 := kpL hs1 (by decide) (sm1 0 (by decide)) q20
   have q27 := kpL hs1 (by decide) (sm1 1 (by decide)) q21
   have q28 := kpL hs1 (by decide) (sm1 13 (by decide)) q22
   have q29 := kpL hs1 (by decide) (sm1 4 (by decide)) q23
   have o25 := OwnM.keepL o18 hs1 (by decide) (by decide)
   have o26 := Own.keepL o19 hs1 (by decide) (by decide)
   obtain ⟨t3, ⟨hT1, o21, o22⟩, B1⟩ := r1
   have q30 : At (Ty.bool ((s.full) || (decide ((((List.length (s.found)) : Nat) : Int) = ((many : Nat) : Int))))) s5 a7 (.tmp 18) := Ty.up _ B1.le hT1
   have o23 : OwnP s5 40 q [(Ty.val (Value.string nm)), (Ty.int n), (Ty.lst Ty.ints l), (Ty.lst Ty.rows lines), (Ty.nat leads), (Ty.nat many), (Ty.val mp), (Ty.val pt), (Ty.nat (s.met)), (Ty.val fk), (Ty.bool (s.full))] := OwnP.ren o21 (B1.ren (by decide) rfl)
   have o24 : Own s5 43 23 1 fk (List.length (s.found)) (List.map Ty.ints (s.found)) := Own.ren o22 (B1.ren (by decide) rfl)
   refine wpList_nil ?_
   refine tn ?_
   refine cond_t q30 (fun c2 => ?_) (fun c2 => ?_)
   ·
    have hfin := over_yes hs (by omega) c2
    refine wp_ret ?_
    refine tr ?_
    refine br ?_
    refine tr ?_
    refine tr ?_
    refine br ?_
    exact retL0 rfl ok6 F6 ⟨pt, fk, trivial, (ownp_cell 10 (Ty.bool (goQ n.toNat l cs leads many d path (Qst.mk met found full)).full) (ownp_cell 8 (Ty.nat (goQ n.toNat l cs leads many d path (Qst.mk met found full)).met) o23 rfl (fun _ _ h => (cvi (by (rw [hf, ← hs0, hfin])) h))) rfl (fun _ _ h => (cvb (by (rw [hf, ← hs0, hfin])) h))), o25, o26, (cvo (by (rw [hf, ← hs0, hfin])) (by (rw [hf, ← hs0, hfin])) o24)⟩
   ·
    have hov := over_no hq1 (by simpa using c2); have hlk : lines.getD k [] = endsL l (cs.getD k D0) := (by rw [hli]; exact lines_get hkc); obtain ⟨F, hF⟩ : ∃ F, F = nextF n.toNat l cs path k := ⟨_, rfl⟩; have hFl : F.length = l.length + 1 := (by rw [hF]; exact nextF_len hok hkc); have hFr : ∀ j, j < F.length → IsRow (F.getD j []) ∧ (F.getD j []).length = n.toNat := (fun j hj => by rw [hF]; exact next_row hok hic hkc (by omega)); have hshk := hok.short k hkc; have hEl := endsL_len hshk; have hokE : ∀ j, j < (lines.getD k []).length → okL 0 ((lines.getD k []).getD j []) r.length := (by rw [hlk, hHl]; exact endsL_ok hshk hok.meth.ok (hok.ok k hkc)); have hEl2 : (lines.getD k []).length ≤ 200 := (by rw [hlk, hEl]; exact hl2)
    refine wp_skip ?_
    refine tn ?_
    refine wp_seq ?_
    refine reg (a := a7) (σ := s5) rfl (fun i_ => List.getD [(Ty.pr (Ty.lst Ty.int r)), (Ty.pr (Ty.val q)), (Ty.pr (Ty.val q)), (Ty.pr (Ty.val (ptrAt q 3))), (Ty.pr (Ty.lst Ty.rows lines)), (Ty.pr (Ty.nat k)), (Ty.pr (Ty.ref [(Ty.lst Ty.ints (lines.getD k []))])), (Ty.pr (Ty.lst Ty.ints (lines.getD k []))), (Ty.pr (Ty.lst Ty.ints F)), (Ty.pr (Ty.lst Ty.ints F))] i_ Pr.any) ok6 rfl ⟨?_, ?_, ?_, ?_, ?_, ?_, ?_, ?_, ?_, ?_, trivial⟩ ?_
    · intro ax tx hs okx sm
      exact run_plain rfl (y_move (kp (sm 1 rfl) hs q27))
    · intro ax tx hs okx sm
      exact run_plain rfl (y_move (kp (sm 0 rfl) hs q26))
    · intro ax tx hs okx sm d0
      have e1 := ed d0 rfl rfl rfl
      exact run_plain rfl (y_nilp (OwnP.k0 o23 hs) e1)
    · intro ax tx hs okx sm d0
      have e2 := ed d0 rfl rfl rfl
      exact run_plain rfl (ownp_field Try.fld89_1 Try.inf87 (by decide) (OwnP.k0 o23 hs) e2)
    · intro ax tx hs okx sm d0
      have e3 := ed d0 rfl rfl rfl
      exact run_plain rfl (ownp_load Try.underlying87 rfl (OwnP.k0 o23 hs) e3 rfl)
    · intro ax tx hs okx sm
      exact run_plain rfl (y_move (kp (sm 4 rfl) hs q29))
    · intro ax tx hs okx sm d0 d1
      have e4 := ed d0 rfl rfl rfl
      have e5 := ed d1 rfl rfl rfl
      exact run_plain rfl (y_index1 Try.underlying87 Try.inf29 e4 e5 (by omega) (lst_get Ty.rows lines [] k (by omega)))
    · intro ax tx hs okx sm d0
      have e6 := ed d0 rfl rfl rfl
      exact run_plain rfl (y_load Try.underlying29 rfl e6 rfl)
    · intro ax tx hs okx sm d0 d1
      have e0 := ed d0 rfl rfl rfl
      have e7 := ed d1 rfl rfl rfl
      exact run_plain rfl ((y_call #[ax.eval (.tmp 19), ax.eval (.tmp 26)] Try.func83 rfl rfl (by simp only [List.map_toArray, List.map_cons, List.map_nil]) (from_fn (r) ((lines.getD k [])) _ _ _ e0 e7 (by first | omega | assumption) (by first | omega | assumption) (by first | omega | assumption))).mono (fun τ _ h => cvt (σ := τ) (T := (Ty.lst Ty.ints (fromL r ((lines.getD k []))))) (U := (Ty.lst Ty.ints F)) (by rw [hF, hr, hlk]; rfl) h))
    · intro ax tx hs okx sm d0 d1 d2 d3 d4 d5 d6 d7 d8 d9 d10
      have e8 := ed d0 rfl rfl rfl
      exact run_plain rfl (y_assign e8)
    intro a8 s6 D5
    have ok7 := D5.ok
    have F7 := F6.step0 D5.stp
    have q31 := D5.kt q25 rfl
    have q32 := D5.kt q26 rfl
    have q33 := D5.kt q27 rfl
    have q34 := D5.kt q28 rfl
    have q35 := D5.kt q29 rfl
    have o27 := OwnM.k0 o25 D5.stp
    have o28 := Own.k0 o26 D5.stp
    have o29 := OwnP.k0 o23 D5.stp
    have o30 := Own.k0 o24 D5.stp
    have q36 : At (Ty.lst Ty.ints F) s6 a8 (.tmp 5) := D5.done 9
    clear D5
    refine tn ?_
    refine wp_seq ?_
    obtain ⟨A, hA⟩ : ∃ A, A = ringN S (List.take (List.length F - 1) F) := ⟨_, rfl⟩
    have hAl := ringN_le (List.take (List.length F - 1) F) S
    have hLl : (List.take (List.length F - 1) F).length = l.length := by rw [List.length_take]; omega
    have hrw : ∀ i, i < (List.take (List.length F - 1) F).length → ((List.take (List.length F - 1) F).getD i []).length ≤ 12 := fun i hi => by rw [getD_takeD [] (by omega), (hFr i (by omega)).2]; exact hn2
    have hTT : List.take A (List.take (List.length F - 1) F) = F.take A := by rw [List.take_take, Nat.min_eq_left (by omega)]
    have hnew : NewR S (F.take A) := by rw [← hTT, hA]; exact newR_ring _ _
    have hAL : (F.take A).length = A := by rw [List.length_take]; omega
    refine reg2 (a := a8) (σ := s6) rfl 6 (fun i_ => List.getD [(Ty.pr (Ty.val q)), (Ty.pr (Ty.lst Ty.ints F)), (Ty.pr (Ty.lst Ty.ints F)), (Ty.pr (Ty.nat (List.length F))), (Ty.pr (Ty.nat ((List.length F) - 1))), (Ty.pr (Ty.lst Ty.ints (F.take ((List.length F) - 1))))] i_ Pr.any) ok7 rfl (by decide) rfl ⟨?_, ?_, ?_, ?_, ?_, ?_, trivial⟩ ?_
    · intro ax tx hs okx sm
      exact run_plain rfl (y_move (kp (sm 0 rfl) hs q32))
    · intro ax tx hs okx sm
      exact run_plain rfl (y_move (kp (sm 5 rfl) hs q36))
    · intro ax tx hs okx sm
      exact run_plain rfl (y_move (kp (sm 5 rfl) hs q36))
    · intro ax tx hs okx sm d0
      have e2 := ed d0 rfl rfl rfl
      exact run_plain rfl (y_len Try.underlying29 e2)
    · intro ax tx hs okx sm d0
      have e3 := ed d0 rfl rfl rfl
      exact run_plain rfl ((y_sub e3 rfl (w64 (by omega) (by omega))).mono (fun τ _ h => cvi (σ := τ) (by omega) h))
    · intro ax tx hs okx sm d0 d1
      have e1 := ed d0 rfl rfl rfl
      have e4 := ed d1 rfl rfl rfl
      exact run_plain rfl (y_take Try.underlying29 Try.inf23 e1 e4 (by omega))
    intro a9 s7 D6
    have ok8 := D6.ok
    have F8 := F7.step0 D6.stp
    have q37 := D6.kt q31 rfl
    have q38 := D6.kt q32 rfl
    have q39 := D6.kt q33 rfl
    have q40 := D6.kt q34 rfl
    have q41 := D6.kt q35 rfl
    have q42 := D6.kt q36 rfl
    have o31 := OwnM.k0 o27 D6.stp
    have o32 := Own.k0 o28 D6.stp
    have o33 := OwnP.k0 o29 D6.stp
    have o34 := Own.k0 o30 D6.stp
    have q43 : At (Ty.val q) s7 a9 (.tmp 28) := D6.done 0 (by decide)
    have q44 : At (Ty.lst Ty.ints (F.take ((List.length F) - 1))) s7 a9 (.tmp 33) := D6.done 5 (by decide)
    have b2 := sl_le q44
    clear D6
    refine tailL (L := [40, 41]) (R := (fun v τ' => ∃ τ, (fun v τ => (Ty.has (Ty.nat (ringN S ((F.take ((List.length F) - 1))))) τ v) ∧ (OwnP τ 40 q [(Ty.val (Value.string nm)), (Ty.int n), (Ty.lst Ty.ints l), (Ty.lst Ty.rows lines), (Ty.nat leads), (Ty.nat many), (Ty.val mp), (Ty.val pt), (Ty.nat ((s.met))), (Ty.val fk), (Ty.bool ((s.full)))]) ∧ (OwnM Ty.int kI τ 41 mp (seenS (addS S (((F.take ((List.length F) - 1))).take (ringN S ((F.take ((List.length F) - 1))))))))) v τ ∧ Back [(40, 40), (41, 41)] τ τ')) rfl rfl (by decide) ok8 (y_callL (L := [40, 41]) [(40, 40), (41, 41)] [(40, 40), (41, 41)] #[a9.eval (.tmp 28), a9.eval (.tmp 33)] rfl (by decide) Try.func84 rfl rfl (by simp only [List.map_toArray, List.map_cons, List.map_nil]) (ring_fn (q) (mp) (pt) (fk) (nm) (n) (l) (lines) (leads) (many) ((s.met)) ((s.full)) (S) ((F.take ((List.length F) - 1))) _ (GW.low_lend _ (by decide)) _ _ (Ty.up _ (GW.le_lend _ _) q43) (Ty.up _ (GW.le_lend _ _) q44) (OwnP.ren (ownp_cell 10 (Ty.bool ((s.full))) (ownp_cell 8 (Ty.nat ((s.met))) o33 rfl (fun _ _ h => (cvi (by (first | rfl | omega | (simp_all; done) | (simp_all; omega))) h))) rfl (fun _ _ h => (cvb (by (first | rfl | omega | (simp_all; done) | (simp_all; omega))) h))) (GW.ren_lend _ _ (by decide) rfl)) (OwnM.ren o31 (GW.ren_lend _ _ (by decide) rfl)) (by first | omega | assumption))) (fun a10 s8 hs2 ok9 r2 sm2 => ?_)
    have F9 := F8.stepL hs2 (by decide)
    have q45 := kpL hs2 (by decide) (sm2 14 (by decide)) q37
    have q46 := kpL hs2 (by decide) (sm2 0 (by decide)) q38
    have q47 := kpL hs2 (by decide) (sm2 1 (by decide)) q39
    have q48 := kpL hs2 (by decide) (sm2 13 (by decide)) q40
    have q49 := kpL hs2 (by decide) (sm2 4 (by decide)) q41
    have q50 := kpL hs2 (by decide) (sm2 5 (by decide)) q42
    have o39 := Own.keepL o32 hs2 (by decide) (by decide)
    have o40 := Own.keepL o34 hs2 (by decide) (by decide)
    obtain ⟨t4, ⟨hT2, o35, o36⟩, B2⟩ := r2
    have q51 : At (Ty.nat (ringN S ((F.take ((List.length F) - 1))))) s8 a10 (.tmp 34) := Ty.up _ B2.le hT2
    have o37 : OwnP s8 40 q [(Ty.val (Value.string nm)), (Ty.int n), (Ty.lst Ty.ints l), (Ty.lst Ty.rows lines), (Ty.nat leads), (Ty.nat many), (Ty.val mp), (Ty.val pt), (Ty.nat ((s.met))), (Ty.val fk), (Ty.bool ((s.full)))] := OwnP.ren o35 (B2.ren (by decide) rfl)
    have o38 : OwnM Ty.int kI s8 41 mp (seenS (addS S (((F.take ((List.length F) - 1))).take (ringN S ((F.take ((List.length F) - 1))))))) := OwnM.ren o36 (B2.ren (by decide) rfl)
    refine tailL (L := []) (R := (fun v τ => Pr.has (Ty.pr (Ty.nat (ringN S ((F.take ((List.length F) - 1)))))) τ v)) rfl rfl (by decide) ok9 (Yld.toL (y_assign q51)) (fun a11 s9 hs3 ok10 r3 sm3 => ?_)
    have F10 := F9.stepL hs3 (by decide)
    have q52 := kpL hs3 (by decide) (sm3 14 (by decide)) q45
    have q53 := kpL hs3 (by decide) (sm3 0 (by decide)) q46
    have q54 := kpL hs3 (by decide) (sm3 1 (by decide)) q47
    have q55 := kpL hs3 (by decide) (sm3 13 (by decide)) q48
    have q56 := kpL hs3 (by decide) (sm3 4 (by decide)) q49
    have q57 := kpL hs3 (by decide) (sm3 5 (by decide)) q50
    have o41 := Own.keepL o39 hs3 (by decide) (by decide)
    have o42 := Own.keepL o40 hs3 (by decide) (by decide)
    have o43 := OwnP.keepL o37 hs3 (by decide) (by decide)
    have o44 := OwnM.keepL o38 hs3 (by decide) (by decide)
    have q58 : At (Ty.nat (ringN S ((F.take ((List.length F) - 1))))) s9 a11 (.tmp 6) := r3
    clear r3
    refine wpList_nil ?_
    have q59 : At (Ty.nat A) s9 a11 (.tmp 6) := (cvi (by (rw [hA])) q58)
    have o45 : OwnM Ty.int kI s9 41 mp (seenS (addS S (F.take A))) := (cvm (by (rw [← hA, hTT])) o44)
    refine tn ?_
    refine wp_seq ?_
    refine wp_seq ?_
    refine reg (a := a11) (σ := s9) rfl (fun i_ => List.getD [(Ty.pr (Ty.nat A)), (Ty.pr (Ty.lst Ty.ints F)), (Ty.pr (Ty.nat (List.length F))), (Ty.pr (Ty.nat ((List.length F) - 1))), (Ty.pr (Ty.bool (decide (((A : Nat) : Int) = ((((List.length F) - 1) : Nat) : Int)))))] i_ Pr.any) ok10 rfl ⟨?_, ?_, ?_, ?_, ?_, trivial⟩ ?_
    · intro ax tx hs okx sm
      exact run_plain rfl (y_move (kp (sm 6 rfl) hs q59))
    · intro ax tx hs okx sm
      exact run_plain rfl (y_move (kp (sm 5 rfl) hs q57))
    · intro ax tx hs okx sm d0
      have e1 := ed d0 rfl rfl rfl
      exact run_plain rfl (y_len Try.underlying29 e1)
    · intro ax tx hs okx sm d0
      have e2 := ed d0 rfl rfl rfl
      exact run_plain rfl ((y_sub e2 rfl (w64 (by omega) (by omega))).mono (fun τ _ h => cvi (σ := τ) (by omega) h))
    · intro ax tx hs okx sm d0 d1
      have e0 := ed d0 rfl rfl rfl
      have e3 := ed d1 rfl rfl rfl
      exact run_plain rfl (y_eql e0 e3)
    intro a12 s10 D7
    have ok11 := D7.ok
    have F11 := F10.step0 D7.stp
    have q60 := D7.kt q52 rfl
    have q61 := D7.kt q53 rfl
    have q62 := D7.kt q54 rfl
    have q63 := D7.kt q55 rfl
    have q64 := D7.kt q56 rfl
    have q65 := D7.kt q57 rfl
    have q66 := D7.kt q59 rfl
    have o46 := Own.k0 o41 D7.stp
    have o47 := Own.k0 o42 D7.stp
    have o48 := OwnP.k0 o43 D7.stp
    have o49 := OwnM.k0 o45 D7.stp
    have q67 : At (Ty.bool (decide (((A : Nat) : Int) = ((((List.length F) - 1) : Nat) : Int)))) s10 a12 (.tmp 39) := D7.done 4
    clear D7
    refine tn ?_
    refine cond_p (p := (((A : Nat) : Int) = ((((List.length F) - 1) : Nat) : Int))) q67 (fun c3 => ?_) (fun c3 => ?_)
    ·
     have ht : trueP n.toNat l cs (path ++ [((k : Nat) : Int)]) = true := (true_ring hok hic htp hv hkc).2 (by rw [← hF, show l.length = F.length - 1 by omega, ← hA]; omega); have hpl : (path ++ [((k : Nat) : Int)]).length = path.length + 1 := (by rw [List.length_append, List.length_singleton]); have hicn := inCalls_next hic hkc; have hvn : VisOk n.toNat l cs (path ++ [((k : Nat) : Int)]) (addS S (F.take A)) := (by have h_ := vis_next hok hic hv hkc; rw [← hF] at h_; rw [show A = l.length by omega]; exact h_); have hfu := hov.2.1; have hrn : F.getD (F.length - 1) [] = tHd n.toNat l cs (path ++ [((k : Nat) : Int)]) (path ++ [((k : Nat) : Int)]).length := (by rw [hF, show (nextF n.toNat l cs path k).length - 1 = l.length by rw [← hF]; omega]; exact next_last hok hkc)
     refine wp_seq ?_
     refine reg2 (a := a12) (σ := s10) rfl 7 (fun i_ => List.getD [(Ty.pr (Ty.val q)), (Ty.pr (Ty.val q)), (Ty.pr (Ty.val q)), (Ty.pr (Ty.val (ptrAt q 7))), (Ty.pr (Ty.val pt)), (Ty.pr (Ty.nat k)), (Ty.pr (Ty.sl 1 1 [(Ty.nat k)]))] i_ Pr.any) ok11 rfl (by decide) rfl ⟨?_, ?_, ?_, ?_, ?_, ?_, ?_, trivial⟩ ?_
     · intro ax tx hs okx sm
       exact run_plain rfl (y_move (kp (sm 0 rfl) hs q61))
     · intro ax tx hs okx sm
       exact run_plain rfl (y_move (kp (sm 0 rfl) hs q61))
     · intro ax tx hs okx sm d0
       have e1 := ed d0 rfl rfl rfl
       exact run_plain rfl (y_nilp (OwnP.k0 o48 hs) e1)
     · intro ax tx hs okx sm d0
       have e2 := ed d0 rfl rfl rfl
       exact run_plain rfl (ownp_field Try.fld89_5 Try.inf23 (by decide) (OwnP.k0 o48 hs) e2)
     · intro ax tx hs okx sm d0
       have e3 := ed d0 rfl rfl rfl
       exact run_plain rfl (ownp_load Try.underlying23 rfl (OwnP.k0 o48 hs) e3 rfl)
     · intro ax tx hs okx sm
       exact run_plain rfl (y_move (kp (sm 4 rfl) hs q64))
     · intro ax tx hs okx sm d0
       have e5 := ed d0 rfl rfl rfl
       exact run_plain rfl (y_build1o Try.underlying23 Try.inf3 rfl (one_val rfl) e5)
     intro a13 s11 D8
     have ok12 := D8.ok
     have F12 := F11.step0 D8.stp
     have q68 := D8.kt q60 rfl
     have q69 := D8.kt q61 rfl
     have q70 := D8.kt q62 rfl
     have q71 := D8.kt q63 rfl
     have q72 := D8.kt q65 rfl
     have q73 := D8.kt q66 rfl
     have o50 := Own.k0 o46 D8.stp
     have o51 := Own.k0 o47 D8.stp
     have o52 := OwnP.k0 o48 D8.stp
     have o53 := OwnM.k0 o49 D8.stp
     have q74 : At (Ty.val q) s11 a13 (.tmp 40) := D8.done 0 (by decide)
     have q75 : At (Ty.val pt) s11 a13 (.tmp 44) := D8.done 4 (by decide)
     have q76 : At (Ty.sl 1 1 [(Ty.nat k)]) s11 a13 (.tmp 46) := D8.done 6 (by decide)
     have b3 := sl_le q76
     clear D8
     refine tailL (L := [42]) (R := (fun v τ => Own τ 42 3 1 v ((List.length path) + 1) ((List.map Ty.int path) ++ [(Ty.nat k)]))) rfl rfl (by decide) ok12 (YldM.toL (m_append Try.underlying23 Try.inf3 (by decide) rfl (by decide) (al (R := (Pr.own 42 3 1 (List.length path) (List.map Ty.int path))) q75 o50) q76 (by intro U hU; simp at hU; subst hU; exact one_val rfl) (by omega) (by omega))) (fun a14 s12 hs4 ok13 r4 sm4 => ?_)
     have F13 := F12.stepL hs4 (by decide)
     have q77 := kpL hs4 (by decide) (sm4 14 (by decide)) q68
     have q78 := kpL hs4 (by decide) (sm4 0 (by decide)) q69
     have q79 := kpL hs4 (by decide) (sm4 1 (by decide)) q70
     have q80 := kpL hs4 (by decide) (sm4 13 (by decide)) q71
     have q81 := kpL hs4 (by decide) (sm4 5 (by decide)) q72
     have q82 := kpL hs4 (by decide) (sm4 6 (by decide)) q73
     have q83 := kpL hs4 (by decide) (sm4 40 (by decide)) q74
     have o55 := Own.keepL o51 hs4 (by decide) (by decide)
     have o56 := OwnP.keepL o52 hs4 (by decide) (by decide)
     have o57 := OwnM.keepL o53 hs4 (by decide) (by decide)
     obtain ⟨x1, hx1⟩ : ∃ x, a14.eval (.tmp 47) = x := ⟨_, rfl⟩
     have q84 : At (Ty.val x1) s12 a14 (.tmp 47) := hx1
     have o54 : Own s12 42 3 1 x1 (List.length (path ++ [((k : Nat) : Int)])) (List.map Ty.int (path ++ [((k : Nat) : Int)])) := al2 (R := (Pr.own 42 3 1 (List.length (path ++ [((k : Nat) : Int)])) (List.map Ty.int (path ++ [((k : Nat) : Int)])))) hx1 (cvo (by simp) (by first | (rw [List.map_append]; rfl) | simp) r4)
     clear r4
     refine tailL (L := []) (R := (fun v τ => Pr.has (Ty.pr (Ty.val q)) τ v)) rfl rfl (by decide) ok13 (Yld.toL (y_nilp o56 q83)) (fun a15 s13 hs5 ok14 r5 sm5 => ?_)
     have F14 := F13.stepL hs5 (by decide)
     have q85 := kpL hs5 (by decide) (sm5 14 (by decide)) q77
     have q86 := kpL hs5 (by decide) (sm5 0 (by decide)) q78
     have q87 := kpL hs5 (by decide) (sm5 1 (by decide)) q79
     have q88 := kpL hs5 (by decide) (sm5 13 (by decide)) q80
     have q89 := kpL hs5 (by decide) (sm5 5 (by decide)) q81
     have q90 := kpL hs5 (by decide) (sm5 6 (by decide)) q82
     have q91 := kpL hs5 (by decide) (sm5 47 (by decide)) q84
     have o58 := Own.keepL o55 hs5 (by decide) (by decide)
     have o59 := OwnP.keepL o56 hs5 (by decide) (by decide)
     have o60 := OwnM.keepL o57 hs5 (by decide) (by decide)
     have o61 := Own.keepL o54 hs5 (by decide) (by decide)
     have q92 : At (Ty.val q) s13 a15 (.tmp 48) := r5
     clear r5
     refine tailL (L := []) (R := (fun v τ => Pr.has (Ty.pr (Ty.val (ptrAt q 7))) τ v)) rfl rfl (by decide) ok14 (Yld.toL (ownp_field Try.fld89_5 Try.inf23 (by decide) o59 q92)) (fun a16 s14 hs6 ok15 r6 sm6 => ?_)
     have F15 := F14.stepL hs6 (by decide)
     have q93 := kpL hs6 (by decide) (sm6 14 (by decide)) q85
     have q94 := kpL hs6 (by decide) (sm6 0 (by decide)) q86
     have q95 := kpL hs6 (by decide) (sm6 1 (by decide)) q87
     have q96 := kpL hs6 (by decide) (sm6 13 (by decide)) q88
     have q97 := kpL hs6 (by decide) (sm6 5 (by decide)) q89
     have q98 := kpL hs6 (by decide) (sm6 6 (by decide)) q90
     have q99 := kpL hs6 (by decide) (sm6 47 (by decide)) q91
     have o62 := Own.keepL o58 hs6 (by decide) (by decide)
     have o63 := OwnP.keepL o59 hs6 (by decide) (by decide)
     have o64 := OwnM.keepL o60 hs6 (by decide) (by decide)
     have o65 := Own.keepL o61 hs6 (by decide) (by decide)
     have q100 : At (Ty.val (ptrAt q 7)) s14 a16 (.tmp 49) := r6
     clear r6
     refine tailL0 (L := [40]) (R := (fun _ τ => OwnP τ 40 q ([(Ty.val (Value.string nm)), (Ty.int n), (Ty.lst Ty.ints l), (Ty.lst Ty.rows lines), (Ty.nat leads), (Ty.nat many), (Ty.val mp), (Ty.val pt), (Ty.nat ((s.met))), (Ty.val fk), (Ty.bool ((s.full)))].set 7 (Ty.val x1)))) rfl rfl (YldM.toL (m_storep Try.inf23 (by decide) o63 q100 (Nat.le_of_ble_eq_true rfl) q99 (one_val (Own.one o65)))) (fun v1 s15 hs7 r7 => ?_)
     have F16 := F15.stepL hs7 (by decide)
     have q101 := kpL hs7 (by decide) rfl q93
     have q102 := kpL hs7 (by decide) rfl q94
     have q103 := kpL hs7 (by decide) rfl q95
     have q104 := kpL hs7 (by decide) rfl q96
     have q105 := kpL hs7 (by decide) rfl q97
     have q106 := kpL hs7 (by decide) rfl q98
     have o67 := Own.keepL o62 hs7 (by decide) (by decide)
     have o68 := OwnM.keepL o64 hs7 (by decide) (by decide)
     have o69 := Own.keepL o65 hs7 (by decide) (by decide)
     have o66 : OwnP s15 40 q [(Ty.val (Value.string nm)), (Ty.int n), (Ty.lst Ty.ints l), (Ty.lst Ty.rows lines), (Ty.nat leads), (Ty.nat many), (Ty.val mp), (Ty.val x1), (Ty.nat ((s.met))), (Ty.val fk), (Ty.bool ((s.full)))] := r7
     clear r7
     refine wpList_nil ?_
     refine tn ?_
     refine wp_seq ?_
     refine reg2 (a := a16) (σ := s15) rfl 7 (fun i_ => List.getD [(Ty.pr (Ty.val q)), (Ty.pr (Ty.lst Ty.ints F)), (Ty.pr (Ty.lst Ty.ints F)), (Ty.pr (Ty.nat (List.length F))), (Ty.pr (Ty.nat ((List.length F) - 1))), (Ty.pr (Ty.ref [(Ty.lst Ty.int (F.getD ((List.length F) - 1) []))])), (Ty.pr (Ty.lst Ty.int (F.getD ((List.length F) - 1) [])))] i_ Pr.any) ok15 rfl (by decide) rfl ⟨?_, ?_, ?_, ?_, ?_, ?_, ?_, trivial⟩ ?_
     · intro ax tx hs okx sm
       exact run_plain rfl (y_move (kp (sm 0 rfl) hs q102))
     · intro ax tx hs okx sm
       exact run_plain rfl (y_move (kp (sm 5 rfl) hs q105))
     · intro ax tx hs okx sm
       exact run_plain rfl (y_move (kp (sm 5 rfl) hs q105))
     · intro ax tx hs okx sm d0
       have e2 := ed d0 rfl rfl rfl
       exact run_plain rfl (y_len Try.underlying29 e2)
     · intro ax tx hs okx sm d0
       have e3 := ed d0 rfl rfl rfl
       exact run_plain rfl ((y_sub e3 rfl (w64 (by omega) (by omega))).mono (fun τ _ h => cvi (σ := τ) (by omega) h))
     · intro ax tx hs okx sm d0 d1
       have e1 := ed d0 rfl rfl rfl
       have e4 := ed d1 rfl rfl rfl
       exact run_plain rfl (y_index1 Try.underlying29 Try.inf23 e1 e4 (by omega) (lst_get Ty.ints F [] ((List.length F) - 1) (by omega)))
     · intro ax tx hs okx sm d0
       have e5 := ed d0 rfl rfl rfl
       exact run_plain rfl (y_load Try.underlying23 rfl e5 rfl)
     intro a17 s16 D9
     have ok16 := D9.ok
     have F17 := F16.step0 D9.stp
     have q108 := D9.kt q101 rfl
     have q109 := D9.kt q102 rfl
     have q110 := D9.kt q103 rfl
     have q111 := D9.kt q104 rfl
     have q112 := D9.kt q105 rfl
     have q113 := D9.kt q106 rfl
     have o70 := Own.k0 o67 D9.stp
     have o71 := OwnM.k0 o68 D9.stp
     have o72 := Own.k0 o69 D9.stp
     have o73 := OwnP.k0 o66 D9.stp
     have q114 : At (Ty.val q) s16 a17 (.tmp 50) := D9.done 0 (by decide)
     have q115 : At (Ty.lst Ty.int (F.getD ((List.length F) - 1) [])) s16 a17 (.tmp 56) := D9.done 6 (by decide)
     have b4 := sl_le q115
     clear D9
     refine tailL (L := [40, 41, 42, 43]) (R := (fun v τ' => ∃ τ, (fun v τ => ∃ (pz : Value), ∃ (fz : Value), True ∧ (OwnP τ 40 q [(Ty.val (Value.string nm)), (Ty.int n), (Ty.lst Ty.ints l), (Ty.lst Ty.rows lines), (Ty.nat leads), (Ty.nat many), (Ty.val mp), (Ty.val pz), (Ty.nat (takeQ n.toNat l cs leads (goQ n.toNat l cs leads many (f)) ((path ++ [((k : Nat) : Int)])) (Qst.mk (((s.met))) ((s.found)) (((s.full))))).met), (Ty.val fz), (Ty.bool (takeQ n.toNat l cs leads (goQ n.toNat l cs leads many (f)) ((path ++ [((k : Nat) : Int)])) (Qst.mk (((s.met))) ((s.found)) (((s.full))))).full)]) ∧ (OwnM Ty.int kI τ 41 mp (seenS ((addS S (F.take A))))) ∧ (Own τ 42 3 1 pz (List.length ((path ++ [((k : Nat) : Int)]))) (List.map Ty.int ((path ++ [((k : Nat) : Int)])))) ∧ (Own τ 43 23 1 fz (List.length (takeQ n.toNat l cs leads (goQ n.toNat l cs leads many (f)) ((path ++ [((k : Nat) : Int)])) (Qst.mk (((s.met))) ((s.found)) (((s.full))))).found) (List.map Ty.ints (takeQ n.toNat l cs leads (goQ n.toNat l cs leads many (f)) ((path ++ [((k : Nat) : Int)])) (Qst.mk (((s.met))) ((s.found)) (((s.full))))).found))) v τ ∧ Back [(40, 40), (41, 41), (42, 42), (43, 43)] τ τ')) rfl rfl (by decide) ok16 (y_callL (L := [40, 41, 42, 43]) [(40, 40), (41, 41), (42, 42), (43, 43)] [(40, 40), (41, 41), (42, 42), (43, 43)] #[a17.eval (.tmp 50), a17.eval (.tmp 56)] rfl (by decide) Try.func85 rfl rfl (by simp only [List.map_toArray, List.map_cons, List.map_nil]) (take_fn (f) (q) (mp) (x1) (fk) (nm) (n) (l) (lines) (leads) (many) (((s.met))) ((s.found)) (((s.full))) (_) ((path ++ [((k : Nat) : Int)])) ((addS S (F.take A))) ((F.getD ((List.length F) - 1) [])) _ (GW.low_lend _ (by decide)) _ _ (Ty.up _ (GW.le_lend _ _) q114) (Ty.up _ (GW.le_lend _ _) q115) (OwnP.ren (ownp_cell 10 (Ty.bool (((s.full)))) (ownp_cell 8 (Ty.nat (((s.met)))) o73 rfl (fun _ _ h => (cvi (by (first | rfl | omega | (simp_all; done) | (simp_all; omega))) h))) rfl (fun _ _ h => (cvb (by (first | rfl | omega | (simp_all; done) | (simp_all; omega))) h))) (GW.ren_lend _ _ (by decide) rfl)) (OwnM.ren (cvm (by (rfl)) o71) (GW.ren_lend _ _ (by decide) rfl)) (Own.ren (cvo (by (simp)) (by (simp)) o72) (GW.ren_lend _ _ (by decide) rfl)) (Own.ren (cvo (by (simp)) (by (simp)) o70) (GW.ren_lend _ _ (by decide) rfl)) (by first | omega | assumption | exact ih _ (by omega) | rfl) (by first | omega | assumption | exact ih _ (by omega) | rfl) (by first | omega | assumption | exact ih _ (by omega) | rfl) (by first | omega | assumption | exact ih _ (by omega) | rfl) (by first | omega | assumption | exact ih _ (by omega) | rfl) (by first | omega | assumption | exact ih _ (by omega) | rfl) (by first | omega | assumption | exact ih _ (by omega) | rfl) (by first | omega | assumption | exact ih _ (by omega) | rfl) (by first | omega | assumption | exact ih _ (by omega) | rfl) (by first | omega | assumption | exact ih _ (by omega) | rfl) (by first | omega | assumption | exact ih _ (by omega) | rfl) (by first | omega | assumption | exact ih _ (by omega) | rfl) (by first | omega | assumption | exact ih _ (by omega) | rfl) (by first | omega | assumption | exact ih _ (by omega) | rfl) (by first | omega | assumption | exact ih _ (by omega) | rfl))) (fun a18 s17 hs8 ok17 r8 sm7 => ?_)
     have F18 := F17.stepL hs8 (by decide)
     have q116 := kpL hs8 (by decide) (sm7 14 (by decide)) q108
     have q117 := kpL hs8 (by decide) (sm7 0 (by decide)) q109
     have q118 := kpL hs8 (by decide) (sm7 1 (by decide)) q110
     have q119 := kpL hs8 (by decide) (sm7 13 (by decide)) q111
     have q120 := kpL hs8 (by decide) (sm7 5 (by decide)) q112
     have q121 := kpL hs8 (by decide) (sm7 6 (by decide)) q113
     obtain ⟨t5, ⟨x2, x3, hT3, o74, o75, o76, o77⟩, B3⟩ := r8
     have o78 : OwnP s17 40 q [(Ty.val (Value.string nm)), (Ty.int n), (Ty.lst Ty.ints l), (Ty.lst Ty.rows lines), (Ty.nat leads), (Ty.nat many), (Ty.val mp), (Ty.val x2), (Ty.nat (takeQ n.toNat l cs leads (goQ n.toNat l cs leads many (f)) ((path ++ [((k : Nat) : Int)])) (Qst.mk (((s.met))) ((s.found)) (((s.full))))).met), (Ty.val x3), (Ty.bool (takeQ n.toNat l cs leads (goQ n.toNat l cs leads many (f)) ((path ++ [((k : Nat) : Int)])) (Qst.mk (((s.met))) ((s.found)) (((s.full))))).full)] := OwnP.ren o74 (B3.ren (by decide) rfl)
     have o79 : OwnM Ty.int kI s17 41 mp (seenS ((addS S (F.take A)))) := OwnM.ren o75 (B3.ren (by decide) rfl)
     have o80 : Own s17 42 3 1 x2 (List.length ((path ++ [((k : Nat) : Int)]))) (List.map Ty.int ((path ++ [((k : Nat) : Int)]))) := Own.ren o76 (B3.ren (by decide) rfl)
     have o81 : Own s17 43 23 1 x3 (List.length (takeQ n.toNat l cs leads (goQ n.toNat l cs leads many (f)) ((path ++ [((k : Nat) : Int)])) (Qst.mk (((s.met))) ((s.found)) (((s.full))))).found) (List.map Ty.ints (takeQ n.toNat l cs leads (goQ n.toNat l cs leads many (f)) ((path ++ [((k : Nat) : Int)])) (Qst.mk (((s.met))) ((s.found)) (((s.full))))).found) := Own.ren o77 (B3.ren (by decide) rfl)
     refine wpList_nil ?_
     refine tn ?_
     refine reg2 (a := a18) (σ := s17) rfl 14 (fun i_ => List.getD [(Ty.pr (Ty.val q)), (Ty.pr (Ty.val q)), (Ty.pr (Ty.val q)), (Ty.pr (Ty.val (ptrAt q 7))), (Ty.pr (Ty.val x2)), (Ty.pr (Ty.val q)), (Ty.pr (Ty.val q)), (Ty.pr (Ty.val (ptrAt q 7))), (Ty.pr (Ty.val x2)), (Ty.pr (Ty.nat (List.length ((path ++ [((k : Nat) : Int)]))))), (Ty.pr (Ty.nat ((List.length ((path ++ [((k : Nat) : Int)]))) - 1))), (Pr.own 42 3 1 (List.length (((path ++ [((k : Nat) : Int)])).take ((List.length ((path ++ [((k : Nat) : Int)]))) - 1))) (List.map Ty.int (((path ++ [((k : Nat) : Int)])).take ((List.length ((path ++ [((k : Nat) : Int)]))) - 1)))), (Ty.pr (Ty.val q)), (Ty.pr (Ty.val (ptrAt q 7)))] i_ Pr.any) ok17 rfl (by decide) rfl ⟨?_, ?_, ?_, ?_, ?_, ?_, ?_, ?_, ?_, ?_, ?_, ?_, ?_, ?_, trivial⟩ ?_
     · intro ax tx hs okx sm
       exact run_plain rfl (y_move (kp (sm 0 rfl) hs q117))
     · intro ax tx hs okx sm
       exact run_plain rfl (y_move (kp (sm 0 rfl) hs q117))
     · intro ax tx hs okx sm d0
       have e1 := ed d0 rfl rfl rfl
       exact run_plain rfl (y_nilp (OwnP.k0 o78 hs) e1)
     · intro ax tx hs okx sm d0
       have e2 := ed d0 rfl rfl rfl
       exact run_plain rfl (ownp_field Try.fld89_5 Try.inf23 (by decide) (OwnP.k0 o78 hs) e2)
     · intro ax tx hs okx sm d0
       have e3 := ed d0 rfl rfl rfl
       exact run_plain rfl (ownp_load Try.underlying23 rfl (OwnP.k0 o78 hs) e3 rfl)
     · intro ax tx hs okx sm
       exact run_plain rfl (y_move (kp (sm 0 rfl) hs q117))
     · intro ax tx hs okx sm d0
       have e5 := ed d0 rfl rfl rfl
       exact run_plain rfl (y_nilp (OwnP.k0 o78 hs) e5)
     · intro ax tx hs okx sm d0
       have e6 := ed d0 rfl rfl rfl
       exact run_plain rfl (ownp_field Try.fld89_5 Try.inf23 (by decide) (OwnP.k0 o78 hs) e6)
     · intro ax tx hs okx sm d0
       have e7 := ed d0 rfl rfl rfl
       exact run_plain rfl (ownp_load Try.underlying23 rfl (OwnP.k0 o78 hs) e7 rfl)
     · intro ax tx hs okx sm d0
       have e8 := ed d0 rfl rfl rfl
       exact run_plain rfl (own_len Try.underlying23 (al (R := (Pr.own 42 3 1 (List.length ((path ++ [((k : Nat) : Int)]))) (List.map Ty.int ((path ++ [((k : Nat) : Int)]))))) e8 (Own.k0 o80 hs)))
     · intro ax tx hs okx sm d0
       have e9 := ed d0 rfl rfl rfl
       exact run_plain rfl ((y_sub e9 rfl (w64 (by omega) (by omega))).mono (fun τ _ h => cvi (σ := τ) (by omega) h))
     · intro ax tx hs okx sm d0 d1
       have e4 := ed d0 rfl rfl rfl
       have e10 := ed d1 rfl rfl rfl
       exact run_plain rfl ((y_otake (h := ((List.length ((path ++ [((k : Nat) : Int)]))) - 1)) Try.underlying23 Try.inf3 (Own.k0 o80 hs) e4 e10 (by omega)).mono (fun _ _ h => own_lst_take (by omega) h))
     · intro ax tx hs okx sm d0 d1 d2 d3 d4 d5 d6 d7 d8 d9 d10 d11 d12
       have e0 := ed d0 rfl rfl rfl
       exact run_plain rfl (y_nilp (OwnP.k0 o78 hs) e0)
     · intro ax tx hs okx sm d0 d1 d2 d3 d4 d5 d6 d7 d8 d9 d10 d11 d12
       have e12 := ed d0 rfl rfl rfl
       exact run_plain rfl (ownp_field Try.fld89_5 Try.inf23 (by decide) (OwnP.k0 o78 hs) e12)
     intro a19 s18 D10
     have ok18 := D10.ok
     have F19 := F18.step0 D10.stp
     have q123 := D10.kt q116 rfl
     have q124 := D10.kt q117 rfl
     have q125 := D10.kt q118 rfl
     have q126 := D10.kt q119 rfl
     have q127 := D10.kt q120 rfl
     have q128 := D10.kt q121 rfl
     have o82 := OwnP.k0 o78 D10.stp
     have o83 := OwnM.k0 o79 D10.stp
     have o84 := Own.k0 o80 D10.stp
     have o85 := Own.k0 o81 D10.stp
     obtain ⟨x4, hx2⟩ : ∃ x, a19.eval (.tmp 69) = x := ⟨_, rfl⟩
     have q129 : At (Ty.val x4) s18 a19 (.tmp 69) := hx2
     have o86 : Own s18 42 3 1 x4 (List.length (((path ++ [((k : Nat) : Int)])).take ((List.length ((path ++ [((k : Nat) : Int)]))) - 1))) (List.map Ty.int (((path ++ [((k : Nat) : Int)])).take ((List.length ((path ++ [((k : Nat) : Int)]))) - 1))) := al2 (R := (Pr.own 42 3 1 (List.length (((path ++ [((k : Nat) : Int)])).take ((List.length ((path ++ [((k : Nat) : Int)]))) - 1))) (List.map Ty.int (((path ++ [((k : Nat) : Int)])).take ((List.length ((path ++ [((k : Nat) : Int)]))) - 1))))) hx2 (D10.done 11 (by decide))
     have q130 : At (Ty.val (ptrAt q 7)) s18 a19 (.tmp 71) := D10.done 13 (by decide)
     clear D10
     refine tailL0 (L := [40]) (R := (fun _ τ => OwnP τ 40 q ([(Ty.val (Value.string nm)), (Ty.int n), (Ty.lst Ty.ints l), (Ty.lst Ty.rows lines), (Ty.nat leads), (Ty.nat many), (Ty.val mp), (Ty.val x2), (Ty.nat (takeQ n.toNat l cs leads (goQ n.toNat l cs leads many (f)) ((path ++ [((k : Nat) : Int)])) (Qst.mk (((s.met))) ((s.found)) (((s.full))))).met), (Ty.val x3), (Ty.bool (takeQ n.toNat l cs leads (goQ n.toNat l cs leads many (f)) ((path ++ [((k : Nat) : Int)])) (Qst.mk (((s.met))) ((s.found)) (((s.full))))).full)].set 7 (Ty.val x4)))) rfl rfl (YldM.toL (m_storep Try.inf23 (by decide) o82 q130 (Nat.le_of_ble_eq_true rfl) q129 (one_val (Own.one o86)))) (fun v2 s19 hs9 r9 => ?_)
     have F20 := F19.stepL hs9 (by decide)
     have q131 := kpL hs9 (by decide) rfl q123
     have q132 := kpL hs9 (by decide) rfl q124
     have q133 := kpL hs9 (by decide) rfl q125
     have q134 := kpL hs9 (by decide) rfl q126
     have q135 := kpL hs9 (by decide) rfl q127
     have q136 := kpL hs9 (by decide) rfl q128
     have o88 := OwnM.keepL o83 hs9 (by decide) (by decide)
     have o89 := Own.keepL o84 hs9 (by decide) (by decide)
     have o90 := Own.keepL o85 hs9 (by decide) (by decide)
     have o91 := Own.keepL o86 hs9 (by decide) (by decide)
     have o87 : OwnP s19 40 q [(Ty.val (Value.string nm)), (Ty.int n), (Ty.lst Ty.ints l), (Ty.lst Ty.rows lines), (Ty.nat leads), (Ty.nat many), (Ty.val mp), (Ty.val x4), (Ty.nat (takeQ n.toNat l cs leads (goQ n.toNat l cs leads many (f)) ((path ++ [((k : Nat) : Int)])) (Qst.mk (((s.met))) ((s.found)) (((s.full))))).met), (Ty.val x3), (Ty.bool (takeQ n.toNat l cs leads (goQ n.toNat l cs leads many (f)) ((path ++ [((k : Nat) : Int)])) (Qst.mk (((s.met))) ((s.found)) (((s.full))))).full)] := r9
     clear r9
     refine wpList_nil ?_
     refine tn ?_
     refine wp_seq ?_
     refine reg (a := a19) (σ := s19) rfl (fun i_ => List.getD [(Ty.pr (Ty.lst Ty.ints F)), (Ty.pr (Ty.nat A)), (Ty.pr (Ty.lst Ty.ints (F.take A))), (Ty.pr (Ty.nat (List.length (F.take A)))), (Ty.pr (Ty.int (0 : Int)))] i_ Pr.any) ok18 rfl ⟨?_, ?_, ?_, ?_, ?_, trivial⟩ ?_
     · intro ax tx hs okx sm
       exact run_plain rfl (y_move (kp (sm 5 rfl) hs q135))
     · intro ax tx hs okx sm
       exact run_plain rfl (y_move (kp (sm 6 rfl) hs q136))
     · intro ax tx hs okx sm d0 d1
       have e0 := ed d0 rfl rfl rfl
       have e1 := ed d1 rfl rfl rfl
       exact run_plain rfl (y_take Try.underlying29 Try.inf23 e0 e1 (by omega))
     · intro ax tx hs okx sm d0
       have e2 := ed d0 rfl rfl rfl
       exact run_plain rfl (y_len Try.underlying29 e2)
     · intro ax tx hs okx sm
       exact run_plain rfl (y_move rfl)
     intro a20 s20 D11
     have ok19 := D11.ok
     have F21 := F20.step0 D11.stp
     have q138 := D11.kt q131 rfl
     have q139 := D11.kt q132 rfl
     have q140 := D11.kt q133 rfl
     have q141 := D11.kt q134 rfl
     have o92 := OwnM.k0 o88 D11.stp
     have o93 := Own.k0 o90 D11.stp
     have o94 := Own.k0 o91 D11.stp
     have o95 := OwnP.k0 o87 D11.stp
     have q142 : At (Ty.lst Ty.ints (F.take A)) s20 a20 (.tmp 74) := D11.done 2
     have b5 := sl_le q142
     have q143 : At (Ty.nat (List.length (F.take A))) s20 a20 (.tmp 75) := D11.done 3
     have q144 : At (Ty.int (0 : Int)) s20 a20 (.tmp 76) := D11.done 4
     clear D11
     refine tn ?_
     refine wp_block ?_
     refine loop (fun n3 a21 w3 => ∃ (t6 : GW) (j : Nat), t6.w = w3 ∧ FromL [40, 41, 42, 43] σ t6 ∧ Ok 88 a21 ∧ At (Ty.nat j) t6 a21 (.tmp 76) ∧ At (Ty.nat k) t6 a21 (.tmp 14) ∧ At (Ty.val q) t6 a21 (.tmp 0) ∧ At (Ty.lst Ty.int r) t6 a21 (.tmp 1) ∧ At (Ty.nat (List.length lines)) t6 a21 (.tmp 13) ∧ At (Ty.lst Ty.ints (F.take A)) t6 a21 (.tmp 74) ∧ At (Ty.nat (List.length (F.take A))) t6 a21 (.tmp 75) ∧ OwnM Ty.int kI t6 41 mp (seenS (addS S ((F.take A).drop j))) ∧ Own t6 43 23 1 x3 (List.length (takeQ n.toNat l cs leads (goQ n.toNat l cs leads many (f)) ((path ++ [((k : Nat) : Int)])) (Qst.mk (((s.met))) ((s.found)) (((s.full))))).found) (List.map Ty.ints (takeQ n.toNat l cs leads (goQ n.toNat l cs leads many (f)) ((path ++ [((k : Nat) : Int)])) (Qst.mk (((s.met))) ((s.found)) (((s.full))))).found) ∧ Own t6 42 3 1 x4 (List.length (((path ++ [((k : Nat) : Int)])).take ((List.length ((path ++ [((k : Nat) : Int)]))) - 1))) (List.map Ty.int (((path ++ [((k : Nat) : Int)])).take ((List.length ((path ++ [((k : Nat) : Int)]))) - 1))) ∧ OwnP t6 40 q [(Ty.val (Value.string nm)), (Ty.int n), (Ty.lst Ty.ints l), (Ty.lst Ty.rows lines), (Ty.nat leads), (Ty.nat many), (Ty.val mp), (Ty.val x4), (Ty.nat (takeQ n.toNat l cs leads (goQ n.toNat l cs leads many (f)) ((path ++ [((k : Nat) : Int)])) (Qst.mk (((s.met))) ((s.found)) (((s.full))))).met), (Ty.val x3), (Ty.bool (takeQ n.toNat l cs leads (goQ n.toNat l cs leads many (f)) ((path ++ [((k : Nat) : Int)])) (Qst.mk (((s.met))) ((s.found)) (((s.full))))).full)] ∧ (j ≤ (List.take A F).length) ∧ n3 = (List.take A F).length - j) ((List.take A F).length - (0)) ?_ ?_
     ·
      exact ⟨s20, 0, rfl, F21, ok19, (cvi (by (first | rfl | omega | (simp_all; done) | (simp_all; omega))) q144), q138, q139, q140, q141, q142, q143, (cvm (by (rw [List.drop_zero])) o92), o93, o94, o95, by omega, rfl⟩
     ·
      rintro n4 a22 w4 ⟨t7, j, rfl, F22, ok20, q145, q146, q147, q148, q149, q150, q151, o96, o97, o98, o99, hj, rfl⟩
      refine wp_seq ?_
      refine reg (a := a22) (σ := t7) rfl (fun i_ => List.getD [(Ty.pr (Ty.bool (decide (((j : Nat) : Int) < (((List.length (F.take A)) : Nat) : Int)))))] i_ Pr.any) ok20 rfl ⟨?_, trivial⟩ ?_
      · intro ax tx hs okx sm
        exact run_plain rfl (y_lss (kp (sm 76 rfl) hs q145) (kp (sm 75 rfl) hs q151))
      intro a23 s21 D12
      have ok21 := D12.ok
      have F23 := F22.step0 D12.stp
      have q152 := D12.kt q145 rfl
      have q153 := D12.kt q146 rfl
      have q154 := D12.kt q147 rfl
      have q155 := D12.kt q148 rfl
      have q156 := D12.kt q149 rfl
      have q157 := D12.kt q150 rfl
      have q158 := D12.kt q151 rfl
      have o100 := OwnM.k0 o96 D12.stp
      have o101 := Own.k0 o97 D12.stp
      have o102 := Own.k0 o98 D12.stp
      have o103 := OwnP.k0 o99 D12.stp
      have q159 : At (Ty.bool (decide (((j : Nat) : Int) < (((List.length (F.take A)) : Nat) : Int)))) s21 a23 (.tmp 77) := D12.done 0
      clear D12
      refine tn ?_
      refine wp_seq ?_
      refine cond_p (p := (((j : Nat) : Int) < (((List.length (F.take A)) : Nat) : Int))) q159 (fun c4 => ?_) (fun c4 => ?_)
      ·
       have hrj := (hFr j (by omega)).1.le; have hrj2 : ((List.take A F).getD j []).length ≤ 12 := (by rw [getD_takeD [] (by omega)]; exact hrj)
       refine wp_skip ?_
       refine tn ?_
       refine wp_seq ?_
       refine wp_block ?_
       refine wp_seq ?_
       refine reg (a := a23) (σ := s21) rfl (fun i_ => List.getD [(Ty.pr (Ty.ref [(Ty.lst Ty.int ((F.take A).getD j []))])), (Ty.pr (Ty.lst Ty.int ((F.take A).getD j []))), (Ty.pr (Ty.lst Ty.int ((F.take A).getD j [])))] i_ Pr.any) ok21 rfl ⟨?_, ?_, ?_, trivial⟩ ?_
       · intro ax tx hs okx sm
         exact run_plain rfl (y_index1 Try.underlying29 Try.inf23 (kp (sm 74 rfl) hs q157) (kp (sm 76 rfl) hs q152) (by omega) (lst_get Ty.ints (F.take A) [] j (by omega)))
       · intro ax tx hs okx sm d0
         have e0 := ed d0 rfl rfl rfl
         exact run_plain rfl (y_load Try.underlying23 rfl e0 rfl)
       · intro ax tx hs okx sm d0 d1 d2
         have e1 := ed d0 rfl rfl rfl
         exact run_plain rfl (y_assign e1)
       intro a24 s22 D13
       have ok22 := D13.ok
       have F24 := F23.step0 D13.stp
       have q160 := D13.kt q152 rfl
       have q161 := D13.kt q153 rfl
       have q162 := D13.kt q154 rfl
       have q163 := D13.kt q155 rfl
       have q164 := D13.kt q156 rfl
       have q165 := D13.kt q157 rfl
       have q166 := D13.kt q158 rfl
       have o104 := OwnM.k0 o100 D13.stp
       have o105 := Own.k0 o101 D13.stp
       have o106 := Own.k0 o102 D13.stp
       have o107 := OwnP.k0 o103 D13.stp
       have q167 : At (Ty.lst Ty.int ((F.take A).getD j [])) s22 a24 (.tmp 8) := D13.done 2
       clear D13
       refine tn ?_
       refine reg2 (a := a24) (σ := s22) rfl 6 (fun i_ => List.getD [(Ty.pr (Ty.val q)), (Ty.pr (Ty.val q)), (Ty.pr (Ty.val (ptrAt q 6))), (Ty.pr (Ty.val mp)), (Ty.pr (Ty.lst Ty.int ((F.take A).getD j []))), (Ty.pr (Ty.nat (rankL (((F.take A).getD j [])))))] i_ Pr.any) ok22 rfl (by decide) rfl ⟨?_, ?_, ?_, ?_, ?_, ?_, trivial⟩ ?_
       · intro ax tx hs okx sm
         exact run_plain rfl (y_move (kp (sm 0 rfl) hs q162))
       · intro ax tx hs okx sm d0
         have e0 := ed d0 rfl rfl rfl
         exact run_plain rfl (y_nilp (OwnP.k0 o107 hs) e0)
       · intro ax tx hs okx sm d0
         have e1 := ed d0 rfl rfl rfl
         exact run_plain rfl (ownp_field Try.fld89_4 Try.inf86 (by decide) (OwnP.k0 o107 hs) e1)
       · intro ax tx hs okx sm d0
         have e2 := ed d0 rfl rfl rfl
         exact run_plain rfl (ownp_load Try.underlying86 rfl (OwnP.k0 o107 hs) e2 rfl)
       · intro ax tx hs okx sm
         exact run_plain rfl (y_move (kp (sm 8 rfl) hs q167))
       · intro ax tx hs okx sm d0
         have e4 := ed d0 rfl rfl rfl
         exact run_plain rfl (y_call #[ax.eval (.tmp 84)] Try.func55 rfl rfl (by simp only [List.map_toArray, List.map_cons, List.map_nil]) (rowPlace_fn (((F.take A).getD j [])) _ _ e4 (by omega)))
       intro a25 s23 D14
       have ok23 := D14.ok
       have F25 := F24.step0 D14.stp
       have q168 := D14.kt q160 rfl
       have q169 := D14.kt q161 rfl
       have q170 := D14.kt q162 rfl
       have q171 := D14.kt q163 rfl
       have q172 := D14.kt q164 rfl
       have q173 := D14.kt q165 rfl
       have q174 := D14.kt q166 rfl
       have o108 := OwnM.k0 o104 D14.stp
       have o109 := Own.k0 o105 D14.stp
       have o110 := Own.k0 o106 D14.stp
       have o111 := OwnP.k0 o107 D14.stp
       have q175 : At (Ty.val mp) s23 a25 (.tmp 83) := D14.done 3 (by decide)
       have q176 : At (Ty.nat (rankL (((F.take A).getD j [])))) s23 a25 (.tmp 85) := D14.done 5 (by decide)
       clear D14
       refine tailL0 (L := [41]) (R := (fun _ τ => OwnM Ty.int kI τ 41 mp (fun x_ => if x_ = (((rankL (((F.take A).getD j []))) : Nat) : Int) then none else (seenS (addS S ((F.take A).drop j))) x_))) rfl rfl (YldM.toL (m_mapdel (i := (((rankL (((F.take A).getD j []))) : Nat) : Int)) Try.underlying86 (keyInt Try.underlying3) (by decide) o108 q175 q176)) (fun v3 s24 hs10 r10 => ?_)
       have F26 := F25.stepL hs10 (by decide)
       have q177 := kpL hs10 (by decide) rfl q168
       have q178 := kpL hs10 (by decide) rfl q169
       have q179 := kpL hs10 (by decide) rfl q170
       have q180 := kpL hs10 (by decide) rfl q171
       have q181 := kpL hs10 (by decide) rfl q172
       have q182 := kpL hs10 (by decide) rfl q173
       have q183 := kpL hs10 (by decide) rfl q174
       have o113 := Own.keepL o109 hs10 (by decide) (by decide)
       have o114 := Own.keepL o110 hs10 (by decide) (by decide)
       have o115 := OwnP.keepL o111 hs10 (by decide) (by decide)
       have o112 : OwnM Ty.int kI s24 41 mp (fun x_ => if x_ = (((rankL (((F.take A).getD j []))) : Nat) : Int) then none else (seenS (addS S ((F.take A).drop j))) x_) := r10
       clear r10
       refine wpList_nil ?_
       refine bn ?_
       refine tn ?_
       refine reg (a := a25) (σ := s24) rfl (fun i_ => List.getD [(Ty.pr (Ty.nat (j + 1))), (Ty.pr (Ty.nat (j + 1)))] i_ Pr.any) ok23 rfl ⟨?_, ?_, trivial⟩ ?_
       · intro ax tx hs okx sm
         exact run_plain rfl ((y_add (kp (sm 76 rfl) hs q177) rfl (w64 (by omega) (by omega))).mono (fun τ _ h => cvi (σ := τ) (by first | omega | exact (Int.natCast_mul _ _).symm) h))
       · intro ax tx hs okx sm d0
         have e0 := ed d0 rfl rfl rfl
         exact run_plain rfl (y_move e0)
       intro a26 s25 D15
       have ok24 := D15.ok
       have F27 := F26.step0 D15.stp
       have q185 := D15.kt q178 rfl
       have q186 := D15.kt q179 rfl
       have q187 := D15.kt q180 rfl
       have q188 := D15.kt q181 rfl
       have q189 := D15.kt q182 rfl
       have q190 := D15.kt q183 rfl
       have o116 := Own.k0 o113 D15.stp
       have o117 := Own.k0 o114 D15.stp
       have o118 := OwnP.k0 o115 D15.stp
       have o119 := OwnM.k0 o112 D15.stp
       have q191 : At (Ty.nat (j + 1)) s25 a26 (.tmp 76) := D15.done 1
       clear D15
       exact tn ⟨(List.take A F).length - ((j+1)), by omega, s25, (j+1), rfl, F27, ok24, (cvi (by (first | rfl | omega | (simp_all; done) | (simp_all; omega))) q191), q185, q186, q187, q188, q189, q190, (cvm (by (exact del_step hnew (by omega))) o119), o116, o117, o118, by omega, rfl⟩
      ·
       refine wp_exit ?_
       refine tx ?_
       refine tx ?_
       refine bx ?_
       refine bn ?_
       refine tn ?_
       refine reg (a := a23) (σ := s21) rfl (fun i_ => List.getD [(Ty.pr (Ty.nat (k + 1))), (Ty.pr (Ty.nat (k + 1)))] i_ Pr.any) ok21 rfl ⟨?_, ?_, trivial⟩ ?_
       · intro ax tx hs okx sm
         exact run_plain rfl ((y_add (kp (sm 14 rfl) hs q153) rfl (w64 (by omega) (by omega))).mono (fun τ _ h => cvi (σ := τ) (by first | omega | exact (Int.natCast_mul _ _).symm) h))
       · intro ax tx hs okx sm d0
         have e0 := ed d0 rfl rfl rfl
         exact run_plain rfl (y_move e0)
       intro a27 s26 D16
       have ok25 := D16.ok
       have F28 := F23.step0 D16.stp
       have q192 := D16.kt q154 rfl
       have q193 := D16.kt q155 rfl
       have q194 := D16.kt q156 rfl
       have o120 := OwnM.k0 o100 D16.stp
       have o121 := Own.k0 o101 D16.stp
       have o122 := Own.k0 o102 D16.stp
       have o123 := OwnP.k0 o103 D16.stp
       have q195 : At (Ty.nat (k + 1)) s26 a27 (.tmp 14) := D16.done 1
       clear D16
       exact tn ⟨lines.length - ((k+1)), by omega, s26, (k+1), (takeQ n.toNat l cs leads (goQ n.toNat l cs leads many f) (path ++ [((k : Nat) : Int)]) (Qst.mk s.met s.found s.full)), x4, x3, rfl, F28, ok25, (cvi (by (first | rfl | omega | (simp_all; done) | (simp_all; omega))) q195), q192, q193, q194, (ownp_cell 10 (Ty.bool ((takeQ n.toNat l cs leads (goQ n.toNat l cs leads many f) (path ++ [((k : Nat) : Int)]) (Qst.mk s.met s.found s.full))).full) (ownp_cell 8 (Ty.nat ((takeQ n.toNat l cs leads (goQ n.toNat l cs leads many f) (path ++ [((k : Nat) : Int)]) (Qst.mk s.met s.found s.full))).met) o123 rfl (fun _ _ h => (cvi (by (first | rfl | omega | (simp_all; done) | (simp_all; omega))) h))) rfl (fun _ _ h => (cvb (by (first | rfl | omega | (simp_all; done) | (simp_all; omega))) h))), (cvm (by (rw [List.drop_eq_nil_of_le (by omega)]; rfl)) o120), (cvo (by (simp)) (by (simp)) o122), (cvo (by (simp)) (by (simp)) o121), by omega, lp_T hs hov.1 ht, rfl⟩
    ·
     have ht : trueP n.toNat l cs (path ++ [((k : Nat) : Int)]) = false := (by rw [Bool.eq_false_iff]; intro h_; have := (true_ring hok hic htp hv hkc).1 h_; rw [← hF, show l.length = F.length - 1 by omega, ← hA] at this; omega)
     refine wp_skip ?_
     refine tn ?_
     refine wp_seq ?_
     refine reg (a := a12) (σ := s10) rfl (fun i_ => List.getD [(Ty.pr (Ty.lst Ty.ints F)), (Ty.pr (Ty.nat A)), (Ty.pr (Ty.lst Ty.ints (F.take A))), (Ty.pr (Ty.nat (List.length (F.take A)))), (Ty.pr (Ty.int (0 : Int)))] i_ Pr.any) ok11 rfl ⟨?_, ?_, ?_, ?_, ?_, trivial⟩ ?_
     · intro ax tx hs okx sm
       exact run_plain rfl (y_move (kp (sm 5 rfl) hs q65))
     · intro ax tx hs okx sm
       exact run_plain rfl (y_move (kp (sm 6 rfl) hs q66))
     · intro ax tx hs okx sm d0 d1
       have e0 := ed d0 rfl rfl rfl
       have e1 := ed d1 rfl rfl rfl
       exact run_plain rfl (y_take Try.underlying29 Try.inf23 e0 e1 (by omega))
     · intro ax tx hs okx sm d0
       have e2 := ed d0 rfl rfl rfl
       exact run_plain rfl (y_len Try.underlying29 e2)
     · intro ax tx hs okx sm
       exact run_plain rfl (y_move rfl)
     intro a28 s27 D17
     have ok26 := D17.ok
     have F29 := F11.step0 D17.stp
     have q196 := D17.kt q60 rfl
     have q197 := D17.kt q61 rfl
     have q198 := D17.kt q62 rfl
     have q199 := D17.kt q63 rfl
     have o124 := Own.k0 o46 D17.stp
     have o125 := Own.k0 o47 D17.stp
     have o126 := OwnP.k0 o48 D17.stp
     have o127 := OwnM.k0 o49 D17.stp
     have q200 : At (Ty.lst Ty.ints (F.take A)) s27 a28 (.tmp 74) := D17.done 2
     have b6 := sl_le q200
     have q201 : At (Ty.nat (List.length (F.take A))) s27 a28 (.tmp 75) := D17.done 3
     have q202 : At (Ty.int (0 : Int)) s27 a28 (.tmp 76) := D17.done 4
     clear D17
     refine tn ?_
     refine wp_block ?_
     refine loop (fun n5 a29 w5 => ∃ (t8 : GW) (j : Nat), t8.w = w5 ∧ FromL [40, 41, 42, 43] σ t8 ∧ Ok 88 a29 ∧ At (Ty.nat j) t8 a29 (.tmp 76) ∧ At (Ty.nat k) t8 a29 (.tmp 14) ∧ At (Ty.val q) t8 a29 (.tmp 0) ∧ At (Ty.lst Ty.int r) t8 a29 (.tmp 1) ∧ At (Ty.nat (List.length lines)) t8 a29 (.tmp 13) ∧ At (Ty.lst Ty.ints (F.take A)) t8 a29 (.tmp 74) ∧ At (Ty.nat (List.length (F.take A))) t8 a29 (.tmp 75) ∧ OwnM Ty.int kI t8 41 mp (seenS (addS S ((F.take A).drop j))) ∧ Own t8 42 3 1 pt (List.length path) (List.map Ty.int path) ∧ Own t8 43 23 1 fk (List.length (s.found)) (List.map Ty.ints (s.found)) ∧ OwnP t8 40 q [(Ty.val (Value.string nm)), (Ty.int n), (Ty.lst Ty.ints l), (Ty.lst Ty.rows lines), (Ty.nat leads), (Ty.nat many), (Ty.val mp), (Ty.val pt), (Ty.nat ((s.met))), (Ty.val fk), (Ty.bool ((s.full)))] ∧ (j ≤ (List.take A F).length) ∧ n5 = (List.take A F).length - j) ((List.take A F).length - (0)) ?_ ?_
     ·
      exact ⟨s27, 0, rfl, F29, ok26, (cvi (by (first | rfl | omega | (simp_all; done) | (simp_all; omega))) q202), q196, q197, q198, q199, q200, q201, (cvm (by (rw [List.drop_zero])) o127), o124, o125, o126, by omega, rfl⟩
     ·
      rintro n6 a30 w6 ⟨t9, j, rfl, F30, ok27, q203, q204, q205, q206, q207, q208, q209, o128, o129, o130, o131, hj, rfl⟩
      refine wp_seq ?_
      refine reg (a := a30) (σ := t9) rfl (fun i_ => List.getD [(Ty.pr (Ty.bool (decide (((j : Nat) : Int) < (((List.length (F.take A)) : Nat) : Int)))))] i_ Pr.any) ok27 rfl ⟨?_, trivial⟩ ?_
      · intro ax tx hs okx sm
        exact run_plain rfl (y_lss (kp (sm 76 rfl) hs q203) (kp (sm 75 rfl) hs q209))
      intro a31 s28 D18
      have ok28 := D18.ok
      have F31 := F30.step0 D18.stp
      have q210 := D18.kt q203 rfl
      have q211 := D18.kt q204 rfl
      have q212 := D18.kt q205 rfl
      have q213 := D18.kt q206 rfl
      have q214 := D18.kt q207 rfl
      have q215 := D18.kt q208 rfl
      have q216 := D18.kt q209 rfl
      have o132 := OwnM.k0 o128 D18.stp
      have o133 := Own.k0 o129 D18.stp
      have o134 := Own.k0 o130 D18.stp
      have o135 := OwnP.k0 o131 D18.stp
      have q217 : At (Ty.bool (decide (((j : Nat) : Int) < (((List.length (F.take A)) : Nat) : Int)))) s28 a31 (.tmp 77) := D18.done 0
      clear D18
      refine tn ?_
      refine wp_seq ?_
      refine cond_p (p := (((j : Nat) : Int) < (((List.length (F.take A)) : Nat) : Int))) q217 (fun c5 => ?_) (fun c5 => ?_)
      ·
       have hrj := (hFr j (by omega)).1.le; have hrj2 : ((List.take A F).getD j []).length ≤ 12 := (by rw [getD_takeD [] (by omega)]; exact hrj)
       refine wp_skip ?_
       refine tn ?_
       refine wp_seq ?_
       refine wp_block ?_
       refine wp_seq ?_
       refine reg (a := a31) (σ := s28) rfl (fun i_ => List.getD [(Ty.pr (Ty.ref [(Ty.lst Ty.int ((F.take A).getD j []))])), (Ty.pr (Ty.lst Ty.int ((F.take A).getD j []))), (Ty.pr (Ty.lst Ty.int ((F.take A).getD j [])))] i_ Pr.any) ok28 rfl ⟨?_, ?_, ?_, trivial⟩ ?_
       · intro ax tx hs okx sm
         exact run_plain rfl (y_index1 Try.underlying29 Try.inf23 (kp (sm 74 rfl) hs q215) (kp (sm 76 rfl) hs q210) (by omega) (lst_get Ty.ints (F.take A) [] j (by omega)))
       · intro ax tx hs okx sm d0
         have e0 := ed d0 rfl rfl rfl
         exact run_plain rfl (y_load Try.underlying23 rfl e0 rfl)
       · intro ax tx hs okx sm d0 d1 d2
         have e1 := ed d0 rfl rfl rfl
         exact run_plain rfl (y_assign e1)
       intro a32 s29 D19
       have ok29 := D19.ok
       have F32 := F31.step0 D19.stp
       have q218 := D19.kt q210 rfl
       have q219 := D19.kt q211 rfl
       have q220 := D19.kt q212 rfl
       have q221 := D19.kt q213 rfl
       have q222 := D19.kt q214 rfl
       have q223 := D19.kt q215 rfl
       have q224 := D19.kt q216 rfl
       have o136 := OwnM.k0 o132 D19.stp
       have o137 := Own.k0 o133 D19.stp
       have o138 := Own.k0 o134 D19.stp
       have o139 := OwnP.k0 o135 D19.stp
       have q225 : At (Ty.lst Ty.int ((F.take A).getD j [])) s29 a32 (.tmp 8) := D19.done 2
       clear D19
       refine tn ?_
       refine reg2 (a := a32) (σ := s29) rfl 6 (fun i_ => List.getD [(Ty.pr (Ty.val q)), (Ty.pr (Ty.val q)), (Ty.pr (Ty.val (ptrAt q 6))), (Ty.pr (Ty.val mp)), (Ty.pr (Ty.lst Ty.int ((F.take A).getD j []))), (Ty.pr (Ty.nat (rankL (((F.take A).getD j [])))))] i_ Pr.any) ok29 rfl (by decide) rfl ⟨?_, ?_, ?_, ?_, ?_, ?_, trivial⟩ ?_
       · intro ax tx hs okx sm
         exact run_plain rfl (y_move (kp (sm 0 rfl) hs q220))
       · intro ax tx hs okx sm d0
         have e0 := ed d0 rfl rfl rfl
         exact run_plain rfl (y_nilp (OwnP.k0 o139 hs) e0)
       · intro ax tx hs okx sm d0
         have e1 := ed d0 rfl rfl rfl
         exact run_plain rfl (ownp_field Try.fld89_4 Try.inf86 (by decide) (OwnP.k0 o139 hs) e1)
       · intro ax tx hs okx sm d0
         have e2 := ed d0 rfl rfl rfl
         exact run_plain rfl (ownp_load Try.underlying86 rfl (OwnP.k0 o139 hs) e2 rfl)
       · intro ax tx hs okx sm
         exact run_plain rfl (y_move (kp (sm 8 rfl) hs q225))
       · intro ax tx hs okx sm d0
         have e4 := ed d0 rfl rfl rfl
         exact run_plain rfl (y_call #[ax.eval (.tmp 84)] Try.func55 rfl rfl (by simp only [List.map_toArray, List.map_cons, List.map_nil]) (rowPlace_fn (((F.take A).getD j [])) _ _ e4 (by omega)))
       intro a33 s30 D20
       have ok30 := D20.ok
       have F33 := F32.step0 D20.stp
       have q226 := D20.kt q218 rfl
       have q227 := D20.kt q219 rfl
       have q228 := D20.kt q220 rfl
       have q229 := D20.kt q221 rfl
       have q230 := D20.kt q222 rfl
       have q231 := D20.kt q223 rfl
       have q232 := D20.kt q224 rfl
       have o140 := OwnM.k0 o136 D20.stp
       have o141 := Own.k0 o137 D20.stp
       have o142 := Own.k0 o138 D20.stp
       have o143 := OwnP.k0 o139 D20.stp
       have q233 : At (Ty.val mp) s30 a33 (.tmp 83) := D20.done 3 (by decide)
       have q234 : At (Ty.nat (rankL (((F.take A).getD j [])))) s30 a33 (.tmp 85) := D20.done 5 (by decide)
       clear D20
       refine tailL0 (L := [41]) (R := (fun _ τ => OwnM Ty.int kI τ 41 mp (fun x_ => if x_ = (((rankL (((F.take A).getD j []))) : Nat) : Int) then none else (seenS (addS S ((F.take A).drop j))) x_))) rfl rfl (YldM.toL (m_mapdel (i := (((rankL (((F.take A).getD j []))) : Nat) : Int)) Try.underlying86 (keyInt Try.underlying3) (by decide) o140 q233 q234)) (fun v4 s31 hs11 r11 => ?_)
       have F34 := F33.stepL hs11 (by decide)
       have q235 := kpL hs11 (by decide) rfl q226
       have q236 := kpL hs11 (by decide) rfl q227
       have q237 := kpL hs11 (by decide) rfl q228
       have q238 := kpL hs11 (by decide) rfl q229
       have q239 := kpL hs11 (by decide) rfl q230
       have q240 := kpL hs11 (by decide) rfl q231
       have q241 := kpL hs11 (by decide) rfl q232
       have o145 := Own.keepL o141 hs11 (by decide) (by decide)
       have o146 := Own.keepL o142 hs11 (by decide) (by decide)
       have o147 := OwnP.keepL o143 hs11 (by decide) (by decide)
       have o144 : OwnM Ty.int kI s31 41 mp (fun x_ => if x_ = (((rankL (((F.take A).getD j []))) : Nat) : Int) then none else (seenS (addS S ((F.take A).drop j))) x_) := r11
       clear r11
       refine wpList_nil ?_
       refine bn ?_
       refine tn ?_
       refine reg (a := a33) (σ := s31) rfl (fun i_ => List.getD [(Ty.pr (Ty.nat (j + 1))), (Ty.pr (Ty.nat (j + 1)))] i_ Pr.any) ok30 rfl ⟨?_, ?_, trivial⟩ ?_
       · intro ax tx hs okx sm
         exact run_plain rfl ((y_add (kp (sm 76 rfl) hs q235) rfl (w64 (by omega) (by omega))).mono (fun τ _ h => cvi (σ := τ) (by first | omega | exact (Int.natCast_mul _ _).symm) h))
       · intro ax tx hs okx sm d0
         have e0 := ed d0 rfl rfl rfl
         exact run_plain rfl (y_move e0)
       intro a34 s32 D21
       have ok31 := D21.ok
       have F35 := F34.step0 D21.stp
       have q243 := D21.kt q236 rfl
       have q244 := D21.kt q237 rfl
       have q245 := D21.kt q238 rfl
       have q246 := D21.kt q239 rfl
       have q247 := D21.kt q240 rfl
       have q248 := D21.kt q241 rfl
       have o148 := Own.k0 o145 D21.stp
       have o149 := Own.k0 o146 D21.stp
       have o150 := OwnP.k0 o147 D21.stp
       have o151 := OwnM.k0 o144 D21.stp
       have q249 : At (Ty.nat (j + 1)) s32 a34 (.tmp 76) := D21.done 1
       clear D21
       exact tn ⟨(List.take A F).length - ((j+1)), by omega, s32, (j+1), rfl, F35, ok31, (cvi (by (first | rfl | omega | (simp_all; done) | (simp_all; omega))) q249), q243, q244, q245, q246, q247, q248, (cvm (by (exact del_step hnew (by omega))) o151), o148, o149, o150, by omega, rfl⟩
      ·
       refine wp_exit ?_
       refine tx ?_
       refine tx ?_
       refine bx ?_
       refine bn ?_
       refine tn ?_
       refine reg (a := a31) (σ := s28) rfl (fun i_ => List.getD [(Ty.pr (Ty.nat (k + 1))), (Ty.pr (Ty.nat (k + 1)))] i_ Pr.any) ok28 rfl ⟨?_, ?_, trivial⟩ ?_
       · intro ax tx hs okx sm
         exact run_plain rfl ((y_add (kp (sm 14 rfl) hs q211) rfl (w64 (by omega) (by omega))).mono (fun τ _ h => cvi (σ := τ) (by first | omega | exact (Int.natCast_mul _ _).symm) h))
       · intro ax tx hs okx sm d0
         have e0 := ed d0 rfl rfl rfl
         exact run_plain rfl (y_move e0)
       intro a35 s33 D22
       have ok32 := D22.ok
       have F36 := F31.step0 D22.stp
       have q250 := D22.kt q212 rfl
       have q251 := D22.kt q213 rfl
       have q252 := D22.kt q214 rfl
       have o152 := OwnM.k0 o132 D22.stp
       have o153 := Own.k0 o133 D22.stp
       have o154 := Own.k0 o134 D22.stp
       have o155 := OwnP.k0 o135 D22.stp
       have q253 : At (Ty.nat (k + 1)) s33 a35 (.tmp 14) := D22.done 1
       clear D22
       exact tn ⟨lines.length - ((k+1)), by omega, s33, (k+1), s, pt, fk, rfl, F36, ok32, (cvi (by (first | rfl | omega | (simp_all; done) | (simp_all; omega))) q253), q250, q251, q252, (ownp_cell 10 (Ty.bool s.full) (ownp_cell 8 (Ty.nat s.met) o155 rfl (fun _ _ h => (cvi (by (first | rfl | omega | (simp_all; done) | (simp_all; omega))) h))) rfl (fun _ _ h => (cvb (by (first | rfl | omega | (simp_all; done) | (simp_all; omega))) h))), (cvm (by (rw [List.drop_eq_nil_of_le (by omega)]; rfl)) o152), o153, (cvo (by (simp)) (by (simp)) o154), by omega, lp_A hs hov.1 ht, rfl⟩
  ·
   have hfin := go_end hs (by omega)
   refine wp_exit ?_
   refine tx ?_
   refine tx ?_
   refine bx ?_
   exact nL0 rfl ok3 F3 ⟨pt, fk, trivial, (ownp_cell 10 (Ty.bool (goQ n.toNat l cs leads many d path (Qst.mk met found full)).full) (ownp_cell 8 (Ty.nat (goQ n.toNat l cs leads many d path (Qst.mk met found full)).met) o9 rfl (fun _ _ h => (cvi (by (rw [hf, ← hs0, hfin])) h))) rfl (fun _ _ h => (cvb (by (rw [hf, ← hs0, hfin])) h))), o10, o11, (cvo (by (rw [hf, ← hs0, hfin])) (by (rw [hf, ← hs0, hfin])) o12)⟩


end Go.Proofs.Ytbilebfnanlgfaa
