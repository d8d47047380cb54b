/- The functions that the law RowSays reaches, each by its contract. Part 2. -/
import Derived.Test.YtlhnpkaohfoicaaRowSaysW1
namespace Go.Proofs.Ytlhnpkaohfoicaa
open Go.KL

set_option maxHeartbeats 4000000 in
set_option maxRecDepth 100000 in
theorem rowText_fn (r : List Int) (σ : GW)  (v0 : Value) (hv0 : Ty.has (Ty.lst Ty.int r) σ v0)   :
    FnC Try.prog 43 #[v0] σ (Ty.tup2 (Ty.val (Value.string (if rowMay r = 0 then bsL (signsB r) else ByteArray.empty))) (Ty.int (rowMay r))) := by
 refine fn_intro0 Try.func43 rfl Try.ntmps43 (Nat.le_of_ble_eq_true rfl) (fun s0 a0 hle F0 ok0 hargs => ?_)
 have p0 : At (Ty.lst Ty.int r) s0 a0 (.tmp 0) := by have e := hargs 0 _ rfl; show Ty.has _ _ _; rw [e]; exact Ty.up _ hle hv0
 have b1 := sl_le p0
 clear hargs
 refine wp_seq ?_
 refine reg (a := a0) (σ := s0) rfl (fun i_ => List.getD [(Ty.pr (Ty.val (Value.string (ByteArray.mk #[])))), (Ty.pr (Ty.int (0 : Int)))] i_ Pr.any) ok0 rfl ⟨?_, ?_, trivial⟩ ?_
 · intro ax tx hs okx sm
   exact run_plain rfl (y_assign rfl)
 · intro ax tx hs okx sm d0
   have e0 : At (Ty.val (Value.string (ByteArray.mk #[]))) tx ax (.tmp 2) := d0 rfl
   exact run_plain rfl (y_assign rfl)
 intro a1 s1 D1
 have ok1 := D1.ok
 have F1 := F0.step0 D1.stp
 have q1 : At (Ty.lst Ty.int r) s1 a1 (.tmp 0) := D1.kt p0 rfl
 clear D1
 refine tn ?_
 refine wp_seq ?_
 refine wp_seq ?_
 refine reg (a := a1) (σ := s1) rfl (fun i_ => List.getD [(Ty.pr (Ty.lst Ty.int r)), (Ty.pr (Ty.int (rowMay r))), (Ty.pr (Ty.int (rowMay r)))] i_ Pr.any) ok1 rfl ⟨?_, ?_, ?_, trivial⟩ ?_
 · intro ax tx hs okx sm
   exact run_plain rfl (y_move (kp (sm 0 rfl) hs q1))
 · intro ax tx hs okx sm d0
   have e0 : At (Ty.lst Ty.int r) tx ax (.tmp 5) := d0 rfl
   exact run_plain rfl (y_call #[ax.eval (.tmp 5)] Try.func44 rfl rfl (by simp only [List.map_toArray, List.map_cons, List.map_nil]) (rowCheck_fn (r) _ _ e0 ))
 · intro ax tx hs okx sm d0 d1 d2 d3
   have e1 : At (Ty.int (rowMay r)) tx ax (.tmp 6) := d0 rfl
   have e0 : At (Ty.lst Ty.int r) tx ax (.tmp 5) := d2 rfl
   exact run_plain rfl (y_assign e1)
 intro a2 s2 D2
 have ok2 := D2.ok
 have F2 := F1.step0 D2.stp
 have q2 : At (Ty.lst Ty.int r) s2 a2 (.tmp 0) := D2.kt q1 rfl
 have q3 : At (Ty.int (rowMay r)) s2 a2 (.tmp 4) := D2.done 2
 clear D2
 refine tn ?_
 refine wp_seq ?_
 refine reg (a := a2) (σ := s2) rfl (fun i_ => List.getD [(Ty.pr (Ty.int (rowMay r))), (Ty.pr (Ty.bool (decide ((rowMay r) ≠ (0 : Int)))))] i_ Pr.any) ok2 rfl ⟨?_, ?_, trivial⟩ ?_
 · intro ax tx hs okx sm
   exact run_plain rfl (y_move (kp (sm 4 rfl) hs q3))
 · intro ax tx hs okx sm d0
   have e0 : At (Ty.int (rowMay r)) tx ax (.tmp 7) := d0 rfl
   exact run_plain rfl (y_neq e0 rfl)
 intro a3 s3 D3
 have ok3 := D3.ok
 have F3 := F2.step0 D3.stp
 have q4 : At (Ty.lst Ty.int r) s3 a3 (.tmp 0) := D3.kt q2 rfl
 have q5 : At (Ty.int (rowMay r)) s3 a3 (.tmp 4) := D3.kt q3 rfl
 have q6 : At (Ty.bool (decide ((rowMay r) ≠ (0 : Int)))) s3 a3 (.tmp 8) := D3.done 1
 clear D3
 refine tn ?_
 refine cond_p (p := ((rowMay r) ≠ (0 : Int))) q6 (fun c1 => ?_) (fun c1 => ?_)
 ·
  refine wp_seq ?_
  refine reg (a := a3) (σ := s3) rfl (fun i_ => List.getD [(Ty.pr (Ty.int (rowMay r))), (Ty.pr (Ty.val (Value.string (ByteArray.mk #[])))), (Ty.pr (Ty.int (rowMay r)))] i_ Pr.any) ok3 rfl ⟨?_, ?_, ?_, trivial⟩ ?_
  · intro ax tx hs okx sm d0
    exact run_plain rfl (y_move (kp (sm 4 rfl) hs q5))
  · intro ax tx hs okx sm d0
    exact run_plain rfl (y_assign rfl)
  · intro ax tx hs okx sm d0 d1 d2 d3
    have e0 : At (Ty.int (rowMay r)) tx ax (.tmp 9) := d0 rfl
    have e1 : At (Ty.val (Value.string (ByteArray.mk #[]))) tx ax (.tmp 2) := d1 rfl
    exact run_plain rfl (y_assign e0)
  intro a4 s4 D4
  have ok4 := D4.ok
  have F4 := F3.step0 D4.stp
  have q7 : At (Ty.val (Value.string (ByteArray.mk #[]))) s4 a4 (.tmp 2) := D4.done 1
  have q8 : At (Ty.int (rowMay r)) s4 a4 (.tmp 3) := D4.done 2
  clear D4
  refine tn ?_
  refine wp_ret ?_
  refine tr ?_
  exact retL2 rfl ok4 F4 (hasT2 (cvt (by (rw [if_neg c1]; rfl)) q7) q8)
 ·
  have h0 := Classical.not_not.1 c1; have hr := rowMay_ok.1 h0; have hrl := hr.le; have h12 : ∀ i, i < r.length → 0 ≤ r.getD i 0 ∧ r.getD i 0 < 12 := fun i hi => hr.lt12 hi
  refine wp_skip ?_
  refine tn ?_
  refine wp_seq ?_
  refine reg (a := a3) (σ := s3) rfl (fun i_ => List.getD [(Ty.pr (Ty.lst Ty.int r)), (Ty.pr (Ty.val (Value.string (bsL (signsB r))))), (Ty.pr (Ty.val (Value.string (bsL (signsB r))))), (Ty.pr (Ty.int (0 : Int)))] i_ Pr.any) ok3 rfl ⟨?_, ?_, ?_, ?_, trivial⟩ ?_
  · intro ax tx hs okx sm
    exact run_plain rfl (y_move (kp (sm 0 rfl) hs q4))
  · intro ax tx hs okx sm d0
    have e0 : At (Ty.lst Ty.int r) tx ax (.tmp 10) := d0 rfl
    exact run_plain rfl (y_call #[ax.eval (.tmp 10)] Try.func96 rfl rfl (by simp only [List.map_toArray, List.map_cons, List.map_nil]) (signs_fn (r) _ _ e0 (by omega) (by omega)))
  · intro ax tx hs okx sm d0 d1 d2 d3
    have e1 : At (Ty.val (Value.string (bsL (signsB r)))) tx ax (.tmp 11) := d0 rfl
    have e0 : At (Ty.lst Ty.int r) tx ax (.tmp 10) := d2 rfl
    exact run_plain rfl (y_assign e1)
  · intro ax tx hs okx sm d0 d1 d2 d3
    have e2 : At (Ty.val (Value.string (bsL (signsB r)))) tx ax (.tmp 2) := d0 rfl
    have e0 : At (Ty.lst Ty.int r) tx ax (.tmp 10) := d1 rfl
    have e1 : At (Ty.val (Value.string (bsL (signsB r)))) tx ax (.tmp 11) := d2 rfl
    exact run_plain rfl (y_assign rfl)
  intro a5 s5 D5
  have ok5 := D5.ok
  have F5 := F3.step0 D5.stp
  have q9 : At (Ty.val (Value.string (bsL (signsB r)))) s5 a5 (.tmp 2) := D5.done 2
  have q10 : At (Ty.int (0 : Int)) s5 a5 (.tmp 3) := D5.done 3
  clear D5
  refine tn ?_
  refine wp_ret ?_
  exact retL2 rfl ok5 F5 (hasT2 (cvt (by (rw [if_pos h0])) q9) (cvi (by (exact h0.symm)) q10))


set_option maxRecDepth 100000 in
theorem rRounds_fn (n : Nat) (σ : GW) (v0 : Value) (hv0 : Ty.has (Ty.nat n) σ v0) (hn : n ≤ 1000000) :
    FnC Try.prog 24 #[v0] σ (Ty.lst Ty.int (roundsL n)) := by
 refine fn_intro Try.func24 rfl Try.ntmps24 (Nat.le_of_ble_eq_true rfl) (fun s0 a0 hle F0 ok0 hargs => ?_)
 have p0 : At (Ty.nat n) s0 a0 (.tmp 0) := by have e := hargs 0 _ rfl; show Ty.has _ _ _; rw [e]; exact Ty.up _ hle hv0
 clear hargs
 refine wp_seq ?_
 refine reg (a := a0) (σ := s0) rfl (fun i_ => List.getD [(Ty.pr (Ty.val (Value.slice none 0 0)))] i_ Pr.any) ok0 rfl ⟨?_, trivial⟩ ?_
 · intro ax tx hs okx sm
   exact run_plain rfl (y_assign rfl)
 intro a1 s1 D1
 have ok1 := D1.ok
 have F1 := F0.step0 D1.stp
 have q1 : At (Ty.nat n) s1 a1 (.tmp 0) := D1.kt p0 rfl
 clear D1
 refine tn ?_
 refine wp_seq ?_
 refine reg (a := a1) (σ := s1) rfl (fun i_ => List.getD [(Ty.pr (Ty.val (Value.slice none 0 0)))] i_ Pr.any) ok1 rfl ⟨?_, trivial⟩ ?_
 · intro ax tx hs okx sm
   exact run_plain rfl (y_assign rfl)
 intro a2 s2 D2
 have ok2 := D2.ok
 have F2 := F1.step0 D2.stp
 have q2 : At (Ty.nat n) s2 a2 (.tmp 0) := D2.kt q1 rfl
 have q3 : At (Ty.val (Value.slice none 0 0)) s2 a2 (.tmp 3) := D2.done 0
 clear D2
 refine tn ?_
 refine wp_seq ?_
 refine wp_seq ?_
 refine reg (a := a2) (σ := s2) rfl (fun i_ => List.getD [(Ty.pr (Ty.int (0 : Int)))] i_ Pr.any) ok2 rfl ⟨?_, trivial⟩ ?_
 · intro ax tx hs okx sm
   exact run_plain rfl (y_assign rfl)
 intro a3 s3 D3
 have ok3 := D3.ok
 have F3 := F2.step0 D3.stp
 have q4 : At (Ty.nat n) s3 a3 (.tmp 0) := D3.kt q2 rfl
 have q5 : At (Ty.val (Value.slice none 0 0)) s3 a3 (.tmp 3) := D3.kt q3 rfl
 have q6 : At (Ty.int (0 : Int)) s3 a3 (.tmp 4) := D3.done 0
 clear D3
 refine tn ?_
 refine wp_block ?_
 refine loop (fun n1 a4 w1 => ∃ (t1 : GW) (k : Nat), t1.w = w1 ∧ From s0 t1 ∧ Ok 15 a4 ∧ (Pr.own 2 3 1 (List.length (roundsL k)) (List.map Ty.int (roundsL k))).has t1 (a4.eval (.tmp 3)) ∧ At (Ty.nat k) t1 a4 (.tmp 4) ∧ At (Ty.nat n) t1 a4 (.tmp 0) ∧ (k ≤ n) ∧ n1 = n - k) (n - (0)) ?_ ?_
 ·
  exact ⟨s3, 0, rfl, F3, ok3, (by have e : a3.eval (.tmp 3) = _ := q5; rw [e]; exact Own.nil _ _ _ _), (cvi (by (first | rfl | omega | (simp_all; done) | (simp_all; omega))) q6), q4, by omega, rfl⟩
 ·
  rintro n2 a5 w2 ⟨t2, k, rfl, F4, ok4, q7, q8, q9, hk, rfl⟩
  have hp := roundsL_len k
  refine wp_seq ?_
  refine wp_seq ?_
  refine reg (a := a5) (σ := t2) rfl (fun i_ => List.getD [(Ty.pr (Ty.nat k)), (Ty.pr (Ty.nat n)), (Ty.pr (Ty.bool (decide (((k : Nat) : Int) < ((n : Nat) : Int)))))] i_ Pr.any) ok4 rfl ⟨?_, ?_, ?_, trivial⟩ ?_
  · intro ax tx hs okx sm
    exact run_plain rfl (y_move (kp (sm 4 rfl) hs q8))
  · intro ax tx hs okx sm
    exact run_plain rfl (y_move (kp (sm 0 rfl) hs q9))
  · intro ax tx hs okx sm d0 d1
    have e0 : At (Ty.nat k) tx ax (.tmp 5) := d0 rfl
    have e1 : At (Ty.nat n) tx ax (.tmp 6) := d1 rfl
    exact run_plain rfl (y_lss e0 e1)
  intro a6 s4 D4
  have ok5 := D4.ok
  have F5 := F4.step0 D4.stp
  have q10 : (Pr.own 2 3 1 (List.length (roundsL k)) (List.map Ty.int (roundsL k))).has s4 (a6.eval (.tmp 3)) := D4.ko q7 rfl
  have q11 : At (Ty.nat k) s4 a6 (.tmp 4) := D4.kt q8 rfl
  have q12 : At (Ty.nat n) s4 a6 (.tmp 0) := D4.kt q9 rfl
  have q13 : At (Ty.bool (decide (((k : Nat) : Int) < ((n : Nat) : Int)))) s4 a6 (.tmp 7) := D4.done 2
  clear D4
  refine tn ?_
  refine cond_p (p := (((k : Nat) : Int) < ((n : Nat) : Int))) q13 (fun c1 => ?_) (fun c1 => ?_)
  ·
   refine wp_skip ?_
   refine tn ?_
   refine wp_seq ?_
   refine wp_block ?_
   refine reg2 (a := a6) (σ := s4) rfl 3 (fun i_ => List.getD [(Ty.pr (Ty.val (a6.eval (.tmp 3)))), (Ty.pr (Ty.nat k)), (Ty.pr (Ty.sl 1 1 [(Ty.nat k)]))] i_ Pr.any) ok5 rfl (by decide) rfl ⟨?_, ?_, ?_, trivial⟩ ?_
   · intro ax tx hs okx sm
     exact run_plain rfl (y_move (sm 3 rfl))
   · intro ax tx hs okx sm
     exact run_plain rfl (y_move (kp (sm 4 rfl) hs q11))
   · intro ax tx hs okx sm d0
     have e1 : At (Ty.nat k) tx ax (.tmp 11) := d0 rfl
     exact run_plain rfl (y_build1o Try.underlying34 Try.inf3 rfl (one_val rfl) e1)
   intro a7 s5 D5
   have ok6 := D5.ok
   have F6 := F5.step0 D5.stp
   have q14 := (Pr.own 2 3 1 (List.length (roundsL k)) (List.map Ty.int (roundsL k))).up D5.stp q10
   have q15 : a7.eval (.tmp 3) = a6.eval (.tmp 3) := D5.same 3 rfl
   have q16 : At (Ty.nat k) s5 a7 (.tmp 4) := D5.kt q11 rfl
   have q17 : At (Ty.nat n) s5 a7 (.tmp 0) := D5.kt q12 rfl
   have q18 : At (Ty.val (a6.eval (.tmp 3))) s5 a7 (.tmp 10) := D5.done 0 (by decide)
   have q19 : At (Ty.sl 1 1 [(Ty.nat k)]) s5 a7 (.tmp 12) := D5.done 2 (by decide)
   clear D5
   refine tail_step (m := 2) (R := (fun v τ => Own τ 2 3 1 v ((List.length (roundsL k)) + 1) ((List.map Ty.int (roundsL k)) ++ [(Ty.nat k)]))) rfl rfl (by decide) ok6 (m_append Try.underlying34 Try.inf3 (by decide) rfl (by decide) (al q18 q14) q19 (by intro U hU; simp at hU;  subst hU; exact one_val rfl) (by omega) (by omega)) (fun a8 s6 hs1 ok7 r1 sm1 => ?_)
   have F7 := F6.step hs1 (by decide)
   have q20 : At (Ty.nat k) s6 a8 (.tmp 4) := kpm hs1 (by decide) (sm1 4 (by decide)) q16
   have q21 : At (Ty.nat n) s6 a8 (.tmp 0) := kpm hs1 (by decide) (sm1 0 (by decide)) q17
   have q22 : At (Ty.sl 1 1 [(Ty.nat k)]) s6 a8 (.tmp 12) := kpm hs1 (by decide) (sm1 12 (by decide)) q19
   have q23 : (Pr.own 2 3 1 (List.length ((roundsL k) ++ [((k : Nat) : Int)])) (List.map Ty.int ((roundsL k) ++ [((k : Nat) : Int)]))).has s6 (a8.eval (.tmp 13)) := (cvo (by simp) (by first | (rw [List.map_append]; rfl) | simp) r1)
   refine tail_step (m := 0) (R := (fun v τ => Pr.has (Pr.own 2 3 1 (List.length ((roundsL k) ++ [((k : Nat) : Int)])) (List.map Ty.int ((roundsL k) ++ [((k : Nat) : Int)]))) τ v)) rfl rfl (by decide) ok7 (Yld.toM (y_assign q23)) (fun a9 s7 hs2 ok8 r2 sm2 => ?_)
   have F8 := F7.step hs2 (by decide)
   have q24 : At (Ty.nat k) s7 a9 (.tmp 4) := kpm hs2 (by decide) (sm2 4 (by decide)) q20
   have q25 : At (Ty.nat n) s7 a9 (.tmp 0) := kpm hs2 (by decide) (sm2 0 (by decide)) q21
   have q26 : At (Ty.sl 1 1 [(Ty.nat k)]) s7 a9 (.tmp 12) := kpm hs2 (by decide) (sm2 12 (by decide)) q22
   have q27 : (Pr.own 2 3 1 (List.length ((roundsL k) ++ [((k : Nat) : Int)])) (List.map Ty.int ((roundsL k) ++ [((k : Nat) : Int)]))).has s7 (a9.eval (.tmp 13)) := kpmo hs2 (by decide) (.inl rfl) (sm2 13 (by decide)) q23
   have q28 : (Pr.own 2 3 1 (List.length ((roundsL k) ++ [((k : Nat) : Int)])) (List.map Ty.int ((roundsL k) ++ [((k : Nat) : Int)]))).has s7 (a9.eval (.tmp 3)) := r2
   refine wpList_nil ?_
   refine bn ?_
   refine tn ?_
   refine reg (a := a9) (σ := s7) rfl (fun i_ => List.getD [(Ty.pr (Ty.nat k)), (Ty.pr (Ty.int (((k : Nat) : Int) + (1 : Int)))), (Ty.pr (Ty.int (((k : Nat) : Int) + (1 : Int))))] i_ Pr.any) ok8 rfl ⟨?_, ?_, ?_, trivial⟩ ?_
   · intro ax tx hs okx sm
     exact run_plain rfl (y_move (kp (sm 4 rfl) hs q24))
   · intro ax tx hs okx sm d0
     have e0 : At (Ty.nat k) tx ax (.tmp 8) := d0 rfl
     exact run_plain rfl (y_add e0 rfl (w64 (by omega) (by omega)))
   · intro ax tx hs okx sm d0 d1 d2
     have e1 : At (Ty.int (((k : Nat) : Int) + (1 : Int))) tx ax (.tmp 9) := d0 rfl
     have e0 : At (Ty.nat k) tx ax (.tmp 8) := d1 rfl
     exact run_plain rfl (y_assign e1)
   intro a10 s8 D6
   have ok9 := D6.ok
   have F9 := F8.step0 D6.stp
   have q29 : At (Ty.nat n) s8 a10 (.tmp 0) := D6.kt q25 rfl
   have q30 : (Pr.own 2 3 1 (List.length ((roundsL k) ++ [((k : Nat) : Int)])) (List.map Ty.int ((roundsL k) ++ [((k : Nat) : Int)]))).has s8 (a10.eval (.tmp 3)) := D6.ko q28 rfl
   have q31 : At (Ty.int (((k : Nat) : Int) + (1 : Int))) s8 a10 (.tmp 4) := D6.done 2
   clear D6
   exact tn ⟨n - ((k+1)), by omega, s8, (k+1), rfl, F9, ok9, (cvo (by (rw [roundsL_succ k])) (by (rw [roundsL_succ k])) q30), (cvi (by (first | rfl | omega | (simp_all; done) | (simp_all; omega))) q31), q29, by omega, rfl⟩
  ·
   refine wp_exit ?_
   refine tx ?_
   refine tx ?_
   refine bx ?_
   refine tn ?_
   refine wp_seq ?_
   refine reg (a := a6) (σ := s4) rfl (fun i_ => List.getD [(Ty.pr (Ty.val (a6.eval (.tmp 3)))), (Ty.pr (Ty.val (a6.eval (.tmp 3))))] i_ Pr.any) ok5 rfl ⟨?_, ?_, trivial⟩ ?_
   · intro ax tx hs okx sm
     exact run_plain rfl (y_move (sm 3 rfl))
   · intro ax tx hs okx sm d0 d1
     have e0 : At (Ty.val (a6.eval (.tmp 3))) tx ax (.tmp 14) := d0 rfl
     exact run_plain rfl (y_assign e0)
   intro a11 s9 D7
   have ok10 := D7.ok
   have F10 := F5.step0 D7.stp
   have q32 : (Pr.own 2 3 1 (List.length (roundsL k)) (List.map Ty.int (roundsL k))).has s9 (a11.eval (.tmp 2)) := al (show _ = _ from D7.done 1) ((Pr.own 2 3 1 (List.length (roundsL k)) (List.map Ty.int (roundsL k))).up D7.stp q10)
   clear D7
   refine tn ?_
   refine wp_ret ?_
   obtain ⟨t3, e1, h1, q33⟩ := Own.seal q32 (by decide)
   rw [← e1]
   have F11 := F10.step h1 (by decide)
   exact ret1 rfl ok10 F11 (cvt (by (obtain rfl : k = n := (by omega); rfl)) q33)


set_option maxRecDepth 100000 in
theorem rsame_fn (xs : List Int) (ys : List Int) (σ : GW) (v0 v1 : Value) (hv0 : Ty.has (Ty.lst Ty.int xs) σ v0) (hv1 : Ty.has (Ty.lst Ty.int ys) σ v1)  :
    FnC Try.prog 25 #[v0, v1] σ (Ty.bool (decide (xs = ys))) := by
 refine fn_intro Try.func25 rfl Try.ntmps25 (Nat.le_of_ble_eq_true rfl) (fun s0 a0 hle F0 ok0 hargs => ?_)
 have p0 : At (Ty.lst Ty.int xs) s0 a0 (.tmp 0) := by have e := hargs 0 _ rfl; show Ty.has _ _ _; rw [e]; exact Ty.up _ hle hv0
 have b1 := sl_le p0
 have p1 : At (Ty.lst Ty.int ys) s0 a0 (.tmp 1) := by have e := hargs 1 _ rfl; show Ty.has _ _ _; rw [e]; exact Ty.up _ hle hv1
 have b2 := sl_le p1
 clear hargs
 refine wp_seq ?_
 refine reg (a := a0) (σ := s0) rfl (fun i_ => List.getD [(Ty.pr (Ty.bool false))] i_ Pr.any) ok0 rfl ⟨?_, trivial⟩ ?_
 · intro ax tx hs okx sm
   exact run_plain rfl (y_assign rfl)
 intro a1 s1 D1
 have ok1 := D1.ok
 have F1 := F0.step0 D1.stp
 have q1 : At (Ty.lst Ty.int xs) s1 a1 (.tmp 0) := D1.kt p0 rfl
 have q2 : At (Ty.lst Ty.int ys) s1 a1 (.tmp 1) := D1.kt p1 rfl
 clear D1
 refine tn ?_
 refine wp_seq ?_
 refine wp_seq ?_
 refine reg (a := a1) (σ := s1) rfl (fun i_ => List.getD [(Ty.pr (Ty.lst Ty.int xs)), (Ty.pr (Ty.nat (List.length xs))), (Ty.pr (Ty.lst Ty.int ys)), (Ty.pr (Ty.nat (List.length ys))), (Ty.pr (Ty.bool (decide ((((List.length xs) : Nat) : Int) ≠ (((List.length ys) : Nat) : Int)))))] i_ Pr.any) ok1 rfl ⟨?_, ?_, ?_, ?_, ?_, trivial⟩ ?_
 · intro ax tx hs okx sm
   exact run_plain rfl (y_move (kp (sm 0 rfl) hs q1))
 · intro ax tx hs okx sm d0
   have e0 : At (Ty.lst Ty.int xs) tx ax (.tmp 6) := d0 rfl
   exact run_plain rfl (y_len Try.underlying34 e0)
 · intro ax tx hs okx sm
   exact run_plain rfl (y_move (kp (sm 1 rfl) hs q2))
 · intro ax tx hs okx sm d0
   have e2 : At (Ty.lst Ty.int ys) tx ax (.tmp 8) := d0 rfl
   exact run_plain rfl (y_len Try.underlying34 e2)
 · intro ax tx hs okx sm d0 d1
   have e1 : At (Ty.nat (List.length xs)) tx ax (.tmp 7) := d0 rfl
   have e3 : At (Ty.nat (List.length ys)) tx ax (.tmp 9) := d1 rfl
   exact run_plain rfl (y_neq e1 e3)
 intro a2 s2 D2
 have ok2 := D2.ok
 have F2 := F1.step0 D2.stp
 have q3 : At (Ty.lst Ty.int xs) s2 a2 (.tmp 0) := D2.kt q1 rfl
 have q4 : At (Ty.lst Ty.int ys) s2 a2 (.tmp 1) := D2.kt q2 rfl
 have q5 : At (Ty.bool (decide ((((List.length xs) : Nat) : Int) ≠ (((List.length ys) : Nat) : Int)))) s2 a2 (.tmp 10) := D2.done 4
 clear D2
 refine tn ?_
 refine cond_p (p := ((((List.length xs) : Nat) : Int) ≠ (((List.length ys) : Nat) : Int))) q5 (fun c1 => ?_) (fun c1 => ?_)
 ·
  refine wp_seq ?_
  refine reg (a := a2) (σ := s2) rfl (fun i_ => List.getD [(Ty.pr (Ty.bool false))] i_ Pr.any) ok2 rfl ⟨?_, trivial⟩ ?_
  · intro ax tx hs okx sm
    exact run_plain rfl (y_assign rfl)
  intro a3 s3 D3
  have ok3 := D3.ok
  have F3 := F2.step0 D3.stp
  have q6 : At (Ty.bool false) s3 a3 (.tmp 4) := D3.done 0
  clear D3
  refine tn ?_
  refine wp_ret ?_
  refine tr ?_
  exact ret1 rfl ok3 F3 (cvb (by (rw [decide_eq_false]; intro e; subst e; omega)) q6)
 ·
  refine wp_skip ?_
  refine tn ?_
  refine wp_seq ?_
  refine wp_seq ?_
  refine reg (a := a2) (σ := s2) rfl (fun i_ => List.getD [(Ty.pr (Ty.int (0 : Int)))] i_ Pr.any) ok2 rfl ⟨?_, trivial⟩ ?_
  · intro ax tx hs okx sm
    exact run_plain rfl (y_assign rfl)
  intro a4 s4 D4
  have ok4 := D4.ok
  have F4 := F2.step0 D4.stp
  have q7 : At (Ty.lst Ty.int xs) s4 a4 (.tmp 0) := D4.kt q3 rfl
  have q8 : At (Ty.lst Ty.int ys) s4 a4 (.tmp 1) := D4.kt q4 rfl
  have q9 : At (Ty.int (0 : Int)) s4 a4 (.tmp 5) := D4.done 0
  clear D4
  refine tn ?_
  refine wp_block ?_
  refine loop (fun n1 a5 w1 => ∃ (t1 : GW) (k : Nat), t1.w = w1 ∧ From s0 t1 ∧ Ok 26 a5 ∧ At (Ty.nat k) t1 a5 (.tmp 5) ∧ At (Ty.lst Ty.int xs) t1 a5 (.tmp 0) ∧ At (Ty.lst Ty.int ys) t1 a5 (.tmp 1) ∧ (k ≤ xs.length) ∧ (xs.length = ys.length) ∧ (∀ j, j < k → xs.getD j 0 = ys.getD j 0) ∧ n1 = xs.length - k) (xs.length - (0)) ?_ ?_
  ·
   exact ⟨s4, 0, rfl, F4, ok4, (cvi (by (first | rfl | omega | (simp_all; done) | (simp_all; omega))) q9), q7, q8, by omega, by omega, fun j hj => absurd hj (Nat.not_lt_zero j), rfl⟩
  ·
   rintro n2 a6 w2 ⟨t2, k, rfl, F5, ok5, q10, q11, q12, hk, hl, heq, rfl⟩
   refine wp_seq ?_
   refine wp_seq ?_
   refine reg (a := a6) (σ := t2) rfl (fun i_ => List.getD [(Ty.pr (Ty.nat k)), (Ty.pr (Ty.lst Ty.int xs)), (Ty.pr (Ty.nat (List.length xs))), (Ty.pr (Ty.bool (decide (((k : Nat) : Int) < (((List.length xs) : Nat) : Int)))))] i_ Pr.any) ok5 rfl ⟨?_, ?_, ?_, ?_, trivial⟩ ?_
   · intro ax tx hs okx sm
     exact run_plain rfl (y_move (kp (sm 5 rfl) hs q10))
   · intro ax tx hs okx sm
     exact run_plain rfl (y_move (kp (sm 0 rfl) hs q11))
   · intro ax tx hs okx sm d0
     have e1 : At (Ty.lst Ty.int xs) tx ax (.tmp 12) := d0 rfl
     exact run_plain rfl (y_len Try.underlying34 e1)
   · intro ax tx hs okx sm d0 d1
     have e0 : At (Ty.nat k) tx ax (.tmp 11) := d0 rfl
     have e2 : At (Ty.nat (List.length xs)) tx ax (.tmp 13) := d1 rfl
     exact run_plain rfl (y_lss e0 e2)
   intro a7 s5 D5
   have ok6 := D5.ok
   have F6 := F5.step0 D5.stp
   have q13 : At (Ty.nat k) s5 a7 (.tmp 5) := D5.kt q10 rfl
   have q14 : At (Ty.lst Ty.int xs) s5 a7 (.tmp 0) := D5.kt q11 rfl
   have q15 : At (Ty.lst Ty.int ys) s5 a7 (.tmp 1) := D5.kt q12 rfl
   have q16 : At (Ty.bool (decide (((k : Nat) : Int) < (((List.length xs) : Nat) : Int)))) s5 a7 (.tmp 14) := D5.done 3
   clear D5
   refine tn ?_
   refine cond_p (p := (((k : Nat) : Int) < (((List.length xs) : Nat) : Int))) q16 (fun c2 => ?_) (fun c2 => ?_)
   ·
    refine wp_skip ?_
    refine tn ?_
    refine wp_seq ?_
    refine wp_block ?_
    refine wp_seq ?_
    refine reg (a := a7) (σ := s5) rfl (fun i_ => List.getD [(Ty.pr (Ty.lst Ty.int xs)), (Ty.pr (Ty.nat k)), (Ty.pr (Ty.ref [(Ty.int (xs.getD k 0))])), (Ty.pr (Ty.int (xs.getD k 0))), (Ty.pr (Ty.lst Ty.int ys)), (Ty.pr (Ty.nat k)), (Ty.pr (Ty.ref [(Ty.int (ys.getD k 0))])), (Ty.pr (Ty.int (ys.getD k 0))), (Ty.pr (Ty.bool (decide ((xs.getD k 0) ≠ (ys.getD k 0)))))] i_ Pr.any) ok6 rfl ⟨?_, ?_, ?_, ?_, ?_, ?_, ?_, ?_, ?_, trivial⟩ ?_
    · intro ax tx hs okx sm
      exact run_plain rfl (y_move (kp (sm 0 rfl) hs q14))
    · intro ax tx hs okx sm
      exact run_plain rfl (y_move (kp (sm 5 rfl) hs q13))
    · intro ax tx hs okx sm d0 d1
      have e0 : At (Ty.lst Ty.int xs) tx ax (.tmp 17) := d0 rfl
      have e1 : At (Ty.nat k) tx ax (.tmp 18) := d1 rfl
      exact run_plain rfl (y_index1 Try.underlying34 Try.inf3 e0 e1 (by omega) (lst_get Ty.int xs 0 k (by omega)))
    · intro ax tx hs okx sm d0
      have e2 : At (Ty.ref [(Ty.int (xs.getD k 0))]) tx ax (.tmp 19) := d0 rfl
      exact run_plain rfl (y_load Try.underlying3 rfl e2 rfl)
    · intro ax tx hs okx sm
      exact run_plain rfl (y_move (kp (sm 1 rfl) hs q15))
    · intro ax tx hs okx sm
      exact run_plain rfl (y_move (kp (sm 5 rfl) hs q13))
    · intro ax tx hs okx sm d0 d1
      have e4 : At (Ty.lst Ty.int ys) tx ax (.tmp 21) := d0 rfl
      have e5 : At (Ty.nat k) tx ax (.tmp 22) := d1 rfl
      exact run_plain rfl (y_index1 Try.underlying34 Try.inf3 e4 e5 (by omega) (lst_get Ty.int ys 0 k (by omega)))
    · intro ax tx hs okx sm d0
      have e6 : At (Ty.ref [(Ty.int (ys.getD k 0))]) tx ax (.tmp 23) := d0 rfl
      exact run_plain rfl (y_load Try.underlying3 rfl e6 rfl)
    · intro ax tx hs okx sm d0 d1
      have e3 : At (Ty.int (xs.getD k 0)) tx ax (.tmp 20) := d0 rfl
      have e7 : At (Ty.int (ys.getD k 0)) tx ax (.tmp 24) := d1 rfl
      exact run_plain rfl (y_neq e3 e7)
    intro a8 s6 D6
    have ok7 := D6.ok
    have F7 := F6.step0 D6.stp
    have q17 : At (Ty.nat k) s6 a8 (.tmp 5) := D6.kt q13 rfl
    have q18 : At (Ty.lst Ty.int xs) s6 a8 (.tmp 0) := D6.kt q14 rfl
    have q19 : At (Ty.lst Ty.int ys) s6 a8 (.tmp 1) := D6.kt q15 rfl
    have q20 : At (Ty.bool (decide ((xs.getD k 0) ≠ (ys.getD k 0)))) s6 a8 (.tmp 25) := D6.done 8
    clear D6
    refine tn ?_
    refine cond_p (p := ((xs.getD k 0) ≠ (ys.getD k 0))) q20 (fun c3 => ?_) (fun c3 => ?_)
    ·
     refine wp_seq ?_
     refine reg (a := a8) (σ := s6) rfl (fun i_ => List.getD [(Ty.pr (Ty.bool false))] i_ Pr.any) ok7 rfl ⟨?_, trivial⟩ ?_
     · intro ax tx hs okx sm
       exact run_plain rfl (y_assign rfl)
     intro a9 s7 D7
     have ok8 := D7.ok
     have F8 := F7.step0 D7.stp
     have q21 : At (Ty.bool false) s7 a9 (.tmp 4) := D7.done 0
     clear D7
     refine tn ?_
     refine wp_ret ?_
     refine br ?_
     refine tr ?_
     refine tr ?_
     refine br ?_
     refine tr ?_
     exact ret1 rfl ok8 F8 (cvb (by (exact (decide_eq_false (fun e => by subst e; simp_all)).symm)) q21)
    ·
     refine wp_skip ?_
     refine bn ?_
     refine tn ?_
     refine reg (a := a8) (σ := s6) rfl (fun i_ => List.getD [(Ty.pr (Ty.nat k)), (Ty.pr (Ty.int (((k : Nat) : Int) + (1 : Int)))), (Ty.pr (Ty.int (((k : Nat) : Int) + (1 : Int))))] i_ Pr.any) ok7 rfl ⟨?_, ?_, ?_, trivial⟩ ?_
     · intro ax tx hs okx sm
       exact run_plain rfl (y_move (kp (sm 5 rfl) hs q17))
     · intro ax tx hs okx sm d0
       have e0 : At (Ty.nat k) tx ax (.tmp 15) := d0 rfl
       exact run_plain rfl (y_add e0 rfl (w64 (by omega) (by omega)))
     · intro ax tx hs okx sm d0 d1 d2
       have e1 : At (Ty.int (((k : Nat) : Int) + (1 : Int))) tx ax (.tmp 16) := d0 rfl
       have e0 : At (Ty.nat k) tx ax (.tmp 15) := d1 rfl
       exact run_plain rfl (y_assign e1)
     intro a10 s8 D8
     have ok9 := D8.ok
     have F9 := F7.step0 D8.stp
     have q22 : At (Ty.lst Ty.int xs) s8 a10 (.tmp 0) := D8.kt q18 rfl
     have q23 : At (Ty.lst Ty.int ys) s8 a10 (.tmp 1) := D8.kt q19 rfl
     have q24 : At (Ty.int (((k : Nat) : Int) + (1 : Int))) s8 a10 (.tmp 5) := D8.done 2
     clear D8
     exact tn ⟨xs.length - ((k+1)), by omega, s8, (k+1), rfl, F9, ok9, (cvi (by (first | rfl | omega | (simp_all; done) | (simp_all; omega))) q24), q22, q23, by omega, by omega, all_snoc heq (by assumption), rfl⟩
   ·
    refine wp_exit ?_
    refine tx ?_
    refine tx ?_
    refine bx ?_
    refine tn ?_
    refine wp_seq ?_
    refine reg (a := a7) (σ := s5) rfl (fun i_ => List.getD [(Ty.pr (Ty.bool true))] i_ Pr.any) ok6 rfl ⟨?_, trivial⟩ ?_
    · intro ax tx hs okx sm
      exact run_plain rfl (y_assign rfl)
    intro a11 s9 D9
    have ok10 := D9.ok
    have F10 := F6.step0 D9.stp
    have q25 : At (Ty.bool true) s9 a11 (.tmp 4) := D9.done 0
    clear D9
    refine tn ?_
    refine wp_ret ?_
    exact ret1 rfl ok10 F10 (cvb (by (exact (decide_eq_true (list_ext (by omega) (fun j hj => heq j (by omega)))).symm)) q25)


set_option maxRecDepth 100000 in
theorem rBy_fn (a : List Int) (b : List Int) (σ : GW) (v0 v1 : Value) (hv0 : Ty.has (Ty.lst Ty.int a) σ v0) (hv1 : Ty.has (Ty.lst Ty.int b) σ v1) (hbd : ∀ i, i < b.length → 0 ≤ b.getD i 0 ∧ b.getD i 0 < a.length) (hs : b.length ≤ 1000000) :
    FnC Try.prog 51 #[v0, v1] σ (Ty.lst Ty.int (byL a b)) := by
 refine fn_intro Try.func51 rfl Try.ntmps51 (Nat.le_of_ble_eq_true rfl) (fun s0 a0 hle F0 ok0 hargs => ?_)
 have p0 : At (Ty.lst Ty.int a) s0 a0 (.tmp 0) := by have e := hargs 0 _ rfl; show Ty.has _ _ _; rw [e]; exact Ty.up _ hle hv0
 have b1 := sl_le p0
 have p1 : At (Ty.lst Ty.int b) s0 a0 (.tmp 1) := by have e := hargs 1 _ rfl; show Ty.has _ _ _; rw [e]; exact Ty.up _ hle hv1
 have b2 := sl_le p1
 clear hargs
 refine wp_seq ?_
 refine reg (a := a0) (σ := s0) rfl (fun i_ => List.getD [(Ty.pr (Ty.val (Value.slice none 0 0)))] i_ Pr.any) ok0 rfl ⟨?_, trivial⟩ ?_
 · intro ax tx hs okx sm
   exact run_plain rfl (y_assign rfl)
 intro a1 s1 D1
 have ok1 := D1.ok
 have F1 := F0.step0 D1.stp
 have q1 : At (Ty.lst Ty.int a) s1 a1 (.tmp 0) := D1.kt p0 rfl
 have q2 : At (Ty.lst Ty.int b) s1 a1 (.tmp 1) := D1.kt p1 rfl
 clear D1
 refine tn ?_
 refine wp_seq ?_
 refine reg (a := a1) (σ := s1) rfl (fun i_ => List.getD [(Ty.pr (Ty.val (Value.slice none 0 0)))] i_ Pr.any) ok1 rfl ⟨?_, trivial⟩ ?_
 · intro ax tx hs okx sm
   exact run_plain rfl (y_assign rfl)
 intro a2 s2 D2
 have ok2 := D2.ok
 have F2 := F1.step0 D2.stp
 have q3 : At (Ty.lst Ty.int a) s2 a2 (.tmp 0) := D2.kt q1 rfl
 have q4 : At (Ty.lst Ty.int b) s2 a2 (.tmp 1) := D2.kt q2 rfl
 have q5 : At (Ty.val (Value.slice none 0 0)) s2 a2 (.tmp 5) := D2.done 0
 clear D2
 refine tn ?_
 refine wp_seq ?_
 refine wp_seq ?_
 refine reg (a := a2) (σ := s2) rfl (fun i_ => List.getD [(Ty.pr (Ty.int (0 : Int)))] i_ Pr.any) ok2 rfl ⟨?_, trivial⟩ ?_
 · intro ax tx hs okx sm
   exact run_plain rfl (y_assign rfl)
 intro a3 s3 D3
 have ok3 := D3.ok
 have F3 := F2.step0 D3.stp
 have q6 : At (Ty.lst Ty.int a) s3 a3 (.tmp 0) := D3.kt q3 rfl
 have q7 : At (Ty.lst Ty.int b) s3 a3 (.tmp 1) := D3.kt q4 rfl
 have q8 : At (Ty.val (Value.slice none 0 0)) s3 a3 (.tmp 5) := D3.kt q5 rfl
 have q9 : At (Ty.int (0 : Int)) s3 a3 (.tmp 6) := D3.done 0
 clear D3
 refine tn ?_
 refine wp_block ?_
 refine loop (fun n1 a4 w1 => ∃ (t1 : GW) (k : Nat), t1.w = w1 ∧ From s0 t1 ∧ Ok 24 a4 ∧ (Pr.own 2 3 1 (List.length (byL a (b.take k))) (List.map Ty.int (byL a (b.take k)))).has t1 (a4.eval (.tmp 5)) ∧ At (Ty.nat k) t1 a4 (.tmp 6) ∧ At (Ty.lst Ty.int a) t1 a4 (.tmp 0) ∧ At (Ty.lst Ty.int b) t1 a4 (.tmp 1) ∧ (k ≤ b.length) ∧ n1 = b.length - k) (b.length - (0)) ?_ ?_
 ·
  exact ⟨s3, 0, rfl, F3, ok3, (by have e : a3.eval (.tmp 5) = _ := q8; rw [e]; exact Own.nil _ _ _ _), (cvi (by (first | rfl | omega | (simp_all; done) | (simp_all; omega))) q9), q6, q7, by omega, rfl⟩
 ·
  rintro n2 a5 w2 ⟨t2, k, rfl, F4, ok4, q10, q11, q12, q13, hk, rfl⟩
  have hp := byL_take_len a b k
  refine wp_seq ?_
  refine wp_seq ?_
  refine reg (a := a5) (σ := t2) rfl (fun i_ => List.getD [(Ty.pr (Ty.nat k)), (Ty.pr (Ty.lst Ty.int b)), (Ty.pr (Ty.nat (List.length b))), (Ty.pr (Ty.bool (decide (((k : Nat) : Int) < (((List.length b) : Nat) : Int)))))] i_ Pr.any) ok4 rfl ⟨?_, ?_, ?_, ?_, trivial⟩ ?_
  · intro ax tx hs okx sm
    exact run_plain rfl (y_move (kp (sm 6 rfl) hs q11))
  · intro ax tx hs okx sm
    exact run_plain rfl (y_move (kp (sm 1 rfl) hs q13))
  · intro ax tx hs okx sm d0
    have e1 : At (Ty.lst Ty.int b) tx ax (.tmp 8) := d0 rfl
    exact run_plain rfl (y_len Try.underlying34 e1)
  · intro ax tx hs okx sm d0 d1
    have e0 : At (Ty.nat k) tx ax (.tmp 7) := d0 rfl
    have e2 : At (Ty.nat (List.length b)) tx ax (.tmp 9) := d1 rfl
    exact run_plain rfl (y_lss e0 e2)
  intro a6 s4 D4
  have ok5 := D4.ok
  have F5 := F4.step0 D4.stp
  have q14 : (Pr.own 2 3 1 (List.length (byL a (b.take k))) (List.map Ty.int (byL a (b.take k)))).has s4 (a6.eval (.tmp 5)) := D4.ko q10 rfl
  have q15 : At (Ty.nat k) s4 a6 (.tmp 6) := D4.kt q11 rfl
  have q16 : At (Ty.lst Ty.int a) s4 a6 (.tmp 0) := D4.kt q12 rfl
  have q17 : At (Ty.lst Ty.int b) s4 a6 (.tmp 1) := D4.kt q13 rfl
  have q18 : At (Ty.bool (decide (((k : Nat) : Int) < (((List.length b) : Nat) : Int)))) s4 a6 (.tmp 10) := D4.done 3
  clear D4
  refine tn ?_
  refine cond_p (p := (((k : Nat) : Int) < (((List.length b) : Nat) : Int))) q18 (fun c1 => ?_) (fun c1 => ?_)
  ·
   have hq := hbd k (by omega)
   refine wp_skip ?_
   refine tn ?_
   refine wp_seq ?_
   refine wp_block ?_
   refine reg2 (a := a6) (σ := s4) rfl 9 (fun i_ => List.getD [(Ty.pr (Ty.val (a6.eval (.tmp 5)))), (Ty.pr (Ty.lst Ty.int a)), (Ty.pr (Ty.lst Ty.int b)), (Ty.pr (Ty.nat k)), (Ty.pr (Ty.ref [(Ty.int (b.getD k 0))])), (Ty.pr (Ty.int (b.getD k 0))), (Ty.pr (Ty.ref [(Ty.int (a.getD ((b.getD k 0)).toNat 0))])), (Ty.pr (Ty.int (a.getD ((b.getD k 0)).toNat 0))), (Ty.pr (Ty.sl 1 1 [(Ty.int (a.getD ((b.getD k 0)).toNat 0))]))] i_ Pr.any) ok5 rfl (by decide) rfl ⟨?_, ?_, ?_, ?_, ?_, ?_, ?_, ?_, ?_, trivial⟩ ?_
   · intro ax tx hs okx sm
     exact run_plain rfl (y_move (sm 5 rfl))
   · intro ax tx hs okx sm
     exact run_plain rfl (y_move (kp (sm 0 rfl) hs q16))
   · intro ax tx hs okx sm
     exact run_plain rfl (y_move (kp (sm 1 rfl) hs q17))
   · intro ax tx hs okx sm
     exact run_plain rfl (y_move (kp (sm 6 rfl) hs q15))
   · intro ax tx hs okx sm d0 d1
     have e2 : At (Ty.lst Ty.int b) tx ax (.tmp 15) := d0 rfl
     have e3 : At (Ty.nat k) tx ax (.tmp 16) := d1 rfl
     exact run_plain rfl (y_index1 Try.underlying34 Try.inf3 e2 e3 (by omega) (lst_get Ty.int b 0 k (by omega)))
   · intro ax tx hs okx sm d0
     have e4 : At (Ty.ref [(Ty.int (b.getD k 0))]) tx ax (.tmp 17) := d0 rfl
     exact run_plain rfl (y_load Try.underlying3 rfl e4 rfl)
   · intro ax tx hs okx sm d0 d1
     have e1 : At (Ty.lst Ty.int a) tx ax (.tmp 14) := d0 rfl
     have e5 : At (Ty.int (b.getD k 0)) tx ax (.tmp 18) := d1 rfl
     exact run_plain rfl (y_index1 Try.underlying34 Try.inf3 e1 e5 (by omega) (lst_get Ty.int a 0 ((b.getD k 0)).toNat (by omega)))
   · intro ax tx hs okx sm d0
     have e6 : At (Ty.ref [(Ty.int (a.getD ((b.getD k 0)).toNat 0))]) tx ax (.tmp 19) := d0 rfl
     exact run_plain rfl (y_load Try.underlying3 rfl e6 rfl)
   · intro ax tx hs okx sm d0
     have e7 : At (Ty.int (a.getD ((b.getD k 0)).toNat 0)) tx ax (.tmp 20) := d0 rfl
     exact run_plain rfl (y_build1o Try.underlying34 Try.inf3 rfl (one_val rfl) e7)
   intro a7 s5 D5
   have ok6 := D5.ok
   have F6 := F5.step0 D5.stp
   have q19 := (Pr.own 2 3 1 (List.length (byL a (b.take k))) (List.map Ty.int (byL a (b.take k)))).up D5.stp q14
   have q20 : a7.eval (.tmp 5) = a6.eval (.tmp 5) := D5.same 5 rfl
   have q21 : At (Ty.nat k) s5 a7 (.tmp 6) := D5.kt q15 rfl
   have q22 : At (Ty.lst Ty.int a) s5 a7 (.tmp 0) := D5.kt q16 rfl
   have q23 : At (Ty.lst Ty.int b) s5 a7 (.tmp 1) := D5.kt q17 rfl
   have q24 : At (Ty.val (a6.eval (.tmp 5))) s5 a7 (.tmp 13) := D5.done 0 (by decide)
   have q25 : At (Ty.sl 1 1 [(Ty.int (a.getD ((b.getD k 0)).toNat 0))]) s5 a7 (.tmp 21) := D5.done 8 (by decide)
   clear D5
   refine tail_step (m := 2) (R := (fun v τ => Own τ 2 3 1 v ((List.length (byL a (b.take k))) + 1) ((List.map Ty.int (byL a (b.take k))) ++ [(Ty.int (a.getD ((b.getD k 0)).toNat 0))]))) rfl rfl (by decide) ok6 (m_append Try.underlying34 Try.inf3 (by decide) rfl (by decide) (al q24 q19) q25 (by intro U hU; simp at hU;  subst hU; exact one_val rfl) (by omega) (by omega)) (fun a8 s6 hs1 ok7 r1 sm1 => ?_)
   have F7 := F6.step hs1 (by decide)
   have q26 : At (Ty.nat k) s6 a8 (.tmp 6) := kpm hs1 (by decide) (sm1 6 (by decide)) q21
   have q27 : At (Ty.lst Ty.int a) s6 a8 (.tmp 0) := kpm hs1 (by decide) (sm1 0 (by decide)) q22
   have q28 : At (Ty.lst Ty.int b) s6 a8 (.tmp 1) := kpm hs1 (by decide) (sm1 1 (by decide)) q23
   have q29 : At (Ty.sl 1 1 [(Ty.int (a.getD ((b.getD k 0)).toNat 0))]) s6 a8 (.tmp 21) := kpm hs1 (by decide) (sm1 21 (by decide)) q25
   have q30 : (Pr.own 2 3 1 (List.length ((byL a (b.take k)) ++ [(a.getD ((b.getD k 0)).toNat 0)])) (List.map Ty.int ((byL a (b.take k)) ++ [(a.getD ((b.getD k 0)).toNat 0)]))).has s6 (a8.eval (.tmp 22)) := (cvo (by simp) (by first | (rw [List.map_append]; rfl) | simp) r1)
   refine tail_step (m := 0) (R := (fun v τ => Pr.has (Pr.own 2 3 1 (List.length ((byL a (b.take k)) ++ [(a.getD ((b.getD k 0)).toNat 0)])) (List.map Ty.int ((byL a (b.take k)) ++ [(a.getD ((b.getD k 0)).toNat 0)]))) τ v)) rfl rfl (by decide) ok7 (Yld.toM (y_assign q30)) (fun a9 s7 hs2 ok8 r2 sm2 => ?_)
   have F8 := F7.step hs2 (by decide)
   have q31 : At (Ty.nat k) s7 a9 (.tmp 6) := kpm hs2 (by decide) (sm2 6 (by decide)) q26
   have q32 : At (Ty.lst Ty.int a) s7 a9 (.tmp 0) := kpm hs2 (by decide) (sm2 0 (by decide)) q27
   have q33 : At (Ty.lst Ty.int b) s7 a9 (.tmp 1) := kpm hs2 (by decide) (sm2 1 (by decide)) q28
   have q34 : At (Ty.sl 1 1 [(Ty.int (a.getD ((b.getD k 0)).toNat 0))]) s7 a9 (.tmp 21) := kpm hs2 (by decide) (sm2 21 (by decide)) q29
   have q35 : (Pr.own 2 3 1 (List.length ((byL a (b.take k)) ++ [(a.getD ((b.getD k 0)).toNat 0)])) (List.map Ty.int ((byL a (b.take k)) ++ [(a.getD ((b.getD k 0)).toNat 0)]))).has s7 (a9.eval (.tmp 22)) := kpmo hs2 (by decide) (.inl rfl) (sm2 22 (by decide)) q30
   have q36 : (Pr.own 2 3 1 (List.length ((byL a (b.take k)) ++ [(a.getD ((b.getD k 0)).toNat 0)])) (List.map Ty.int ((byL a (b.take k)) ++ [(a.getD ((b.getD k 0)).toNat 0)]))).has s7 (a9.eval (.tmp 5)) := r2
   refine wpList_nil ?_
   refine bn ?_
   refine tn ?_
   refine reg (a := a9) (σ := s7) rfl (fun i_ => List.getD [(Ty.pr (Ty.nat k)), (Ty.pr (Ty.int (((k : Nat) : Int) + (1 : Int)))), (Ty.pr (Ty.int (((k : Nat) : Int) + (1 : Int))))] i_ Pr.any) ok8 rfl ⟨?_, ?_, ?_, trivial⟩ ?_
   · intro ax tx hs okx sm
     exact run_plain rfl (y_move (kp (sm 6 rfl) hs q31))
   · intro ax tx hs okx sm d0
     have e0 : At (Ty.nat k) tx ax (.tmp 11) := d0 rfl
     exact run_plain rfl (y_add e0 rfl (w64 (by omega) (by omega)))
   · intro ax tx hs okx sm d0 d1 d2
     have e1 : At (Ty.int (((k : Nat) : Int) + (1 : Int))) tx ax (.tmp 12) := d0 rfl
     have e0 : At (Ty.nat k) tx ax (.tmp 11) := d1 rfl
     exact run_plain rfl (y_assign e1)
   intro a10 s8 D6
   have ok9 := D6.ok
   have F9 := F8.step0 D6.stp
   have q37 : At (Ty.lst Ty.int a) s8 a10 (.tmp 0) := D6.kt q32 rfl
   have q38 : At (Ty.lst Ty.int b) s8 a10 (.tmp 1) := D6.kt q33 rfl
   have q39 : (Pr.own 2 3 1 (List.length ((byL a (b.take k)) ++ [(a.getD ((b.getD k 0)).toNat 0)])) (List.map Ty.int ((byL a (b.take k)) ++ [(a.getD ((b.getD k 0)).toNat 0)]))).has s8 (a10.eval (.tmp 5)) := D6.ko q36 rfl
   have q40 : At (Ty.int (((k : Nat) : Int) + (1 : Int))) s8 a10 (.tmp 6) := D6.done 2
   clear D6
   exact tn ⟨b.length - ((k+1)), by omega, s8, (k+1), rfl, F9, ok9, (cvo (by (rw [byL_snoc a b k (by omega)])) (by (rw [byL_snoc a b k (by omega)])) q39), (cvi (by (first | rfl | omega | (simp_all; done) | (simp_all; omega))) q40), q37, q38, by omega, rfl⟩
  ·
   refine wp_exit ?_
   refine tx ?_
   refine tx ?_
   refine bx ?_
   refine tn ?_
   refine wp_seq ?_
   refine reg (a := a6) (σ := s4) rfl (fun i_ => List.getD [(Ty.pr (Ty.val (a6.eval (.tmp 5)))), (Ty.pr (Ty.val (a6.eval (.tmp 5))))] i_ Pr.any) ok5 rfl ⟨?_, ?_, trivial⟩ ?_
   · intro ax tx hs okx sm
     exact run_plain rfl (y_move (sm 5 rfl))
   · intro ax tx hs okx sm d0 d1
     have e0 : At (Ty.val (a6.eval (.tmp 5))) tx ax (.tmp 23) := d0 rfl
     exact run_plain rfl (y_assign e0)
   intro a11 s9 D7
   have ok10 := D7.ok
   have F10 := F5.step0 D7.stp
   have q41 : (Pr.own 2 3 1 (List.length (byL a (b.take k))) (List.map Ty.int (byL a (b.take k)))).has s9 (a11.eval (.tmp 4)) := al (show _ = _ from D7.done 1) ((Pr.own 2 3 1 (List.length (byL a (b.take k))) (List.map Ty.int (byL a (b.take k)))).up D7.stp q14)
   clear D7
   refine tn ?_
   refine wp_ret ?_
   obtain ⟨t3, e1, h1, q42⟩ := Own.seal q41 (by decide)
   rw [← e1]
   have F11 := F10.step h1 (by decide)
   exact ret1 rfl ok10 F11 (cvt (by (obtain rfl : k = b.length := (by omega); rw [List.take_length])) q42)


set_option maxHeartbeats 4000000 in
set_option maxRecDepth 100000 in
theorem rOrder_fn (r : List Int) (σ : GW)  (v0 : Value) (hv0 : Ty.has (Ty.lst Ty.int r) σ v0)  (hr : IsRow r) :
    FnC Try.prog 22 #[v0] σ (Ty.tup2 (Ty.nat (ordL r)) (Ty.bool (oddL r))) := by
 have hln := hr.le
 have hpo := ordL_pos hr
 have hle : ordL r ≤ 27720 := (ordTo_le hr _ (Nat.le_refl _)).2
 refine fn_intro0 Try.func22 rfl Try.ntmps22 (Nat.le_of_ble_eq_true rfl) (fun s0 a0 hle F0 ok0 hargs => ?_)
 have p0 : At (Ty.lst Ty.int r) s0 a0 (.tmp 0) := by have e := hargs 0 _ rfl; show Ty.has _ _ _; rw [e]; exact Ty.up _ hle hv0
 have b1 := sl_le p0
 clear hargs
 refine wp_seq ?_
 refine reg (a := a0) (σ := s0) rfl (fun i_ => List.getD [(Ty.pr (Ty.int (0 : Int))), (Ty.pr (Ty.bool false))] i_ Pr.any) ok0 rfl ⟨?_, ?_, trivial⟩ ?_
 · intro ax tx hs okx sm
   exact run_plain rfl (y_assign rfl)
 · intro ax tx hs okx sm d0
   have e0 : At (Ty.int (0 : Int)) tx ax (.tmp 2) := d0 rfl
   exact run_plain rfl (y_assign rfl)
 intro a1 s1 D1
 have ok1 := D1.ok
 have F1 := F0.step0 D1.stp
 have q1 : At (Ty.lst Ty.int r) s1 a1 (.tmp 0) := D1.kt p0 rfl
 clear D1
 refine tn ?_
 refine wp_seq ?_
 refine reg (a := a1) (σ := s1) rfl (fun i_ => List.getD [(Ty.pr (Ty.int (1 : Int)))] i_ Pr.any) ok1 rfl ⟨?_, trivial⟩ ?_
 · intro ax tx hs okx sm
   exact run_plain rfl (y_assign rfl)
 intro a2 s2 D2
 have ok2 := D2.ok
 have F2 := F1.step0 D2.stp
 have q2 : At (Ty.lst Ty.int r) s2 a2 (.tmp 0) := D2.kt q1 rfl
 have q3 : At (Ty.int (1 : Int)) s2 a2 (.tmp 4) := D2.done 0
 clear D2
 refine tn ?_
 refine wp_seq ?_
 refine reg2 (a := a2) (σ := s2) rfl 2 (fun i_ => List.getD [(Pr.own 2 3 1 0 (List.map Ty.int ([] : List Int))), (Ty.pr (Ty.lst Ty.int r))] i_ Pr.any) ok2 rfl (by decide) rfl ⟨?_, ?_, trivial⟩ ?_
 · intro ax tx hs okx sm
   exact run_plain rfl ((y_lit0 (k := 2) Try.underlying34 Try.inf3).mono (fun _ _ h => cvo (by simp) (by simp) h))
 · intro ax tx hs okx sm
   exact run_plain rfl (y_move (kp (sm 0 rfl) hs q2))
 intro a3 s3 D3
 have ok3 := D3.ok
 have F3 := F2.step0 D3.stp
 have q4 : At (Ty.lst Ty.int r) s3 a3 (.tmp 0) := D3.kt q2 rfl
 have q5 : At (Ty.int (1 : Int)) s3 a3 (.tmp 4) := D3.kt q3 rfl
 obtain ⟨x1, hx1⟩ : ∃ x, a3.eval (.tmp 10) = x := ⟨_, rfl⟩
 have q6 : At (Ty.val x1) s3 a3 (.tmp 10) := hx1
 have o1 : Own s3 2 3 1 x1 0 (List.map Ty.int ([] : List Int)) := al2 (R := (Pr.own 2 3 1 0 (List.map Ty.int ([] : List Int)))) hx1 (D3.done 0 (by decide))
 have q7 : At (Ty.lst Ty.int r) s3 a3 (.tmp 11) := D3.done 1 (by decide)
 clear D3
 refine tailL (L := [2]) (R := (fun v τ => Own τ 2 3 1 v (0 + (List.length r)) ((List.map Ty.int ([] : List Int)) ++ (List.map Ty.int r)))) rfl rfl (by decide) ok3 (YldM.toL (m_append Try.underlying34 Try.inf3 (by decide) rfl (by decide) (al (R := (Pr.own 2 3 1 0 (List.map Ty.int ([] : List Int)))) q6 o1) q7 (one_map (fun _ => one_val rfl)) (by omega) (by omega))) (fun a4 s4 hs1 ok4 r1 sm1 => ?_)
 have F4 := F3.stepL hs1 (by decide)
 have q8 : At (Ty.lst Ty.int r) s4 a4 (.tmp 0) := kpL hs1 (by decide) (sm1 0 (by decide)) q4
 have q9 : At (Ty.int (1 : Int)) s4 a4 (.tmp 4) := kpL hs1 (by decide) (sm1 4 (by decide)) q5
 obtain ⟨x2, hx2⟩ : ∃ x, a4.eval (.tmp 12) = x := ⟨_, rfl⟩
 have q10 : At (Ty.val x2) s4 a4 (.tmp 12) := hx2
 have o2 : Own s4 2 3 1 x2 (List.length r) (List.map Ty.int r) := al2 (R := (Pr.own 2 3 1 (List.length r) (List.map Ty.int r))) hx2 (cvo (by simp) (by first | (rw [List.map_append]; rfl) | simp) r1)
 clear r1
 refine tailL (L := []) (R := (fun v τ => Pr.has (Ty.pr (Ty.val x2)) τ v)) rfl rfl (by decide) ok4 (Yld.toL (y_assign q10)) (fun a5 s5 hs2 ok5 r2 sm2 => ?_)
 have F5 := F4.stepL hs2 (by decide)
 have q11 : At (Ty.lst Ty.int r) s5 a5 (.tmp 0) := kpL hs2 (by decide) (sm2 0 (by decide)) q8
 have q12 : At (Ty.int (1 : Int)) s5 a5 (.tmp 4) := kpL hs2 (by decide) (sm2 4 (by decide)) q9
 have o3 := Own.keepL o2 hs2 (by decide) (by decide)
 have q13 : At (Ty.val x2) s5 a5 (.tmp 5) := r2
 clear r2
 refine wpList_nil ?_
 have o4 : Own s5 2 3 1 x2 (List.length r) (List.map Ty.int r) := o3
 refine tn ?_
 refine wp_seq ?_
 refine reg (a := a5) (σ := s5) rfl (fun i_ => List.getD [(Ty.pr (Ty.lst Ty.int r)), (Ty.pr (Ty.nat (List.length r))), (Ty.pr (Ty.lst Ty.int (roundsL ((List.length r))))), (Ty.pr (Ty.lst Ty.int (roundsL ((List.length r)))))] i_ Pr.any) ok5 rfl ⟨?_, ?_, ?_, ?_, trivial⟩ ?_
 · intro ax tx hs okx sm
   exact run_plain rfl (y_move (kp (sm 0 rfl) hs q11))
 · intro ax tx hs okx sm d0
   have e0 : At (Ty.lst Ty.int r) tx ax (.tmp 13) := d0 rfl
   exact run_plain rfl (y_len Try.underlying34 e0)
 · intro ax tx hs okx sm d0
   have e1 : At (Ty.nat (List.length r)) tx ax (.tmp 14) := d0 rfl
   exact run_plain rfl (y_call #[ax.eval (.tmp 14)] Try.func24 rfl rfl (by simp only [List.map_toArray, List.map_cons, List.map_nil]) (rRounds_fn ((List.length r)) _ _ (cvi (σ := tx) (by omega) e1) (by omega)))
 · intro ax tx hs okx sm d0 d1 d2 d3 d4
   have e2 : At (Ty.lst Ty.int (roundsL ((List.length r)))) tx ax (.tmp 15) := d0 rfl
   have e0 : At (Ty.lst Ty.int r) tx ax (.tmp 13) := d2 rfl
   have e1 : At (Ty.nat (List.length r)) tx ax (.tmp 14) := d3 rfl
   exact run_plain rfl (y_assign e2)
 intro a6 s6 D4
 have ok6 := D4.ok
 have F6 := F5.step0 D4.stp
 have q14 : At (Ty.lst Ty.int r) s6 a6 (.tmp 0) := D4.kt q11 rfl
 have q15 : At (Ty.int (1 : Int)) s6 a6 (.tmp 4) := D4.kt q12 rfl
 have q16 : At (Ty.val x2) s6 a6 (.tmp 5) := D4.kt q13 rfl
 have o5 := Own.k0 o4 D4.stp
 have q17 : At (Ty.lst Ty.int (roundsL ((List.length r)))) s6 a6 (.tmp 6) := D4.done 3
 clear D4
 refine tn ?_
 refine wp_seq ?_
 refine wp_block ?_
 obtain ⟨t1, e1, h1, q18⟩ := Own.seal o5 (by decide)
 rw [← e1]
 have F7 := F6.step h1 (by decide)
 have q19 := Ty.up (Ty.lst Ty.int r) (h1.le (by decide)) q14
 have q20 := Ty.up (Ty.int (1 : Int)) (h1.le (by decide)) q15
 have q21 : At (Ty.lst Ty.int r) t1 a6 (.tmp 5) := by have e : a6.eval (.tmp 5) = x2 := q16; show Ty.has _ _ _; rw [e]; exact q18
 have q22 := Ty.up (Ty.lst Ty.int (roundsL ((List.length r)))) (h1.le (by decide)) q17
 refine loop (fun n1 a7 w1 => ∃ (t2 : GW) (m : Nat), t2.w = w1 ∧ FromL [] s0 t2 ∧ Ok 51 a7 ∧ At (Ty.nat m) t2 a7 (.tmp 4) ∧ At (Ty.lst Ty.int (powL r.length r m)) t2 a7 (.tmp 5) ∧ At (Ty.lst Ty.int r) t2 a7 (.tmp 0) ∧ At (Ty.lst Ty.int (roundsL ((List.length r)))) t2 a7 (.tmp 6) ∧ (1 ≤ m) ∧ (m ≤ ordL r) ∧ n1 = ordL r - m) (ordL r - (1)) ?_ ?_
 ·
  exact ⟨t1, 1, rfl, F7, ok6, (cvi (by (rfl)) q20), (cvt (by (exact congrArg _ (pow_one hr rfl).symm)) q21), q19, q22, by omega, by omega, rfl⟩
 ·
  rintro n2 a8 w2 ⟨t3, m, rfl, F8, ok7, q23, q24, q25, q26, h1, hm, rfl⟩
  have hst := pow_stop hr h1 hm
  have hpl := powL_len (n := r.length) (h := r) rfl m
  have hbd : ∀ i, i < r.length → 0 ≤ r.getD i 0 ∧ r.getD i 0 < (powL r.length r m).length := (fun i hi => by rw [hpl]; exact hr.at hi)
  refine wp_seq ?_
  refine wp_seq ?_
  refine reg (a := a8) (σ := t3) rfl (fun i_ => List.getD [(Ty.pr (Ty.lst Ty.int (powL r.length r m))), (Ty.pr (Ty.lst Ty.int (roundsL ((List.length r))))), (Ty.pr (Ty.bool (decide (((powL r.length r m)) = ((roundsL ((List.length r)))))))), (Ty.pr (Ty.bool (!(decide (((powL r.length r m)) = ((roundsL ((List.length r)))))))))] i_ Pr.any) ok7 rfl ⟨?_, ?_, ?_, ?_, trivial⟩ ?_
  · intro ax tx hs okx sm
    exact run_plain rfl (y_move (kp (sm 5 rfl) hs q24))
  · intro ax tx hs okx sm
    exact run_plain rfl (y_move (kp (sm 6 rfl) hs q26))
  · intro ax tx hs okx sm d0 d1
    have e0 : At (Ty.lst Ty.int (powL r.length r m)) tx ax (.tmp 16) := d0 rfl
    have e1 : At (Ty.lst Ty.int (roundsL ((List.length r)))) tx ax (.tmp 17) := d1 rfl
    exact run_plain rfl (y_call #[ax.eval (.tmp 16), ax.eval (.tmp 17)] Try.func25 rfl rfl (by simp only [List.map_toArray, List.map_cons, List.map_nil]) (rsame_fn ((powL r.length r m)) ((roundsL ((List.length r)))) _ _ _ e0 e1 ))
  · intro ax tx hs okx sm d0
    have e2 : At (Ty.bool (decide (((powL r.length r m)) = ((roundsL ((List.length r))))))) tx ax (.tmp 18) := d0 rfl
    exact run_plain rfl (y_not e2)
  intro a9 s7 D5
  have ok8 := D5.ok
  have F9 := F8.step0 D5.stp
  have q27 : At (Ty.nat m) s7 a9 (.tmp 4) := D5.kt q23 rfl
  have q28 : At (Ty.lst Ty.int (powL r.length r m)) s7 a9 (.tmp 5) := D5.kt q24 rfl
  have q29 : At (Ty.lst Ty.int r) s7 a9 (.tmp 0) := D5.kt q25 rfl
  have q30 : At (Ty.lst Ty.int (roundsL ((List.length r)))) s7 a9 (.tmp 6) := D5.kt q26 rfl
  have q31 : At (Ty.bool (!(decide (((powL r.length r m)) = ((roundsL ((List.length r)))))))) s7 a9 (.tmp 19) := D5.done 3
  clear D5
  refine tn ?_
  refine cond_t q31 (fun c1 => ?_) (fun c1 => ?_)
  ·
   have hne : powL r.length r m ≠ roundsL r.length := (by simpa using c1); have hmo : m ≠ ordL r := fun e => hne (hst.2 e)
   refine wp_skip ?_
   refine tn ?_
   refine wp_block ?_
   refine wp_seq ?_
   refine reg (a := a9) (σ := s7) rfl (fun i_ => List.getD [(Ty.pr (Ty.lst Ty.int (powL r.length r m))), (Ty.pr (Ty.lst Ty.int r)), (Ty.pr (Ty.lst Ty.int (byL ((powL r.length r m)) (r)))), (Ty.pr (Ty.lst Ty.int (byL ((powL r.length r m)) (r))))] i_ Pr.any) ok8 rfl ⟨?_, ?_, ?_, ?_, trivial⟩ ?_
   · intro ax tx hs okx sm
     exact run_plain rfl (y_move (kp (sm 5 rfl) hs q28))
   · intro ax tx hs okx sm
     exact run_plain rfl (y_move (kp (sm 0 rfl) hs q29))
   · intro ax tx hs okx sm d0 d1
     have e0 : At (Ty.lst Ty.int (powL r.length r m)) tx ax (.tmp 20) := d0 rfl
     have e1 : At (Ty.lst Ty.int r) tx ax (.tmp 21) := d1 rfl
     exact run_plain rfl (y_call #[ax.eval (.tmp 20), ax.eval (.tmp 21)] Try.func51 rfl rfl (by simp only [List.map_toArray, List.map_cons, List.map_nil]) (rBy_fn ((powL r.length r m)) (r) _ _ _ e0 e1 (by first | assumption | omega) (by first | assumption | omega)))
   · intro ax tx hs okx sm d0 d1 d2 d3 d4
     have e2 : At (Ty.lst Ty.int (byL ((powL r.length r m)) (r))) tx ax (.tmp 22) := d0 rfl
     have e0 : At (Ty.lst Ty.int (powL r.length r m)) tx ax (.tmp 20) := d2 rfl
     have e1 : At (Ty.lst Ty.int r) tx ax (.tmp 21) := d3 rfl
     exact run_plain rfl (y_assign e2)
   intro a10 s8 D6
   have ok9 := D6.ok
   have F10 := F9.step0 D6.stp
   have q32 : At (Ty.nat m) s8 a10 (.tmp 4) := D6.kt q27 rfl
   have q33 : At (Ty.lst Ty.int r) s8 a10 (.tmp 0) := D6.kt q29 rfl
   have q34 : At (Ty.lst Ty.int (roundsL ((List.length r)))) s8 a10 (.tmp 6) := D6.kt q30 rfl
   have q35 : At (Ty.lst Ty.int (byL ((powL r.length r m)) (r))) s8 a10 (.tmp 5) := D6.done 3
   clear D6
   refine tn ?_
   refine reg (a := a10) (σ := s8) rfl (fun i_ => List.getD [(Ty.pr (Ty.nat m)), (Ty.pr (Ty.nat (m + 1))), (Ty.pr (Ty.nat (m + 1)))] i_ Pr.any) ok9 rfl ⟨?_, ?_, ?_, trivial⟩ ?_
   · intro ax tx hs okx sm
     exact run_plain rfl (y_move (kp (sm 4 rfl) hs q32))
   · intro ax tx hs okx sm d0
     have e0 : At (Ty.nat m) tx ax (.tmp 23) := d0 rfl
     exact run_plain rfl ((y_add e0 rfl (w64 (by omega) (by omega))).mono (fun τ _ h => cvi (σ := τ) (by first | omega | exact (Int.natCast_mul _ _).symm) h))
   · intro ax tx hs okx sm d0 d1 d2
     have e1 : At (Ty.nat (m + 1)) tx ax (.tmp 24) := d0 rfl
     have e0 : At (Ty.nat m) tx ax (.tmp 23) := d1 rfl
     exact run_plain rfl (y_assign e1)
   intro a11 s9 D7
   have ok10 := D7.ok
   have F11 := F10.step0 D7.stp
   have q36 : At (Ty.lst Ty.int r) s9 a11 (.tmp 0) := D7.kt q33 rfl
   have q37 : At (Ty.lst Ty.int (roundsL ((List.length r)))) s9 a11 (.tmp 6) := D7.kt q34 rfl
   have q38 : At (Ty.lst Ty.int (byL ((powL r.length r m)) (r))) s9 a11 (.tmp 5) := D7.kt q35 rfl
   have q39 : At (Ty.nat (m + 1)) s9 a11 (.tmp 4) := D7.done 2
   clear D7
   refine bn ?_
   exact tn ⟨ordL r - ((m + 1)), by omega, s9, (m + 1), rfl, F11, ok10, (cvi (by (first | rfl | omega | (simp_all; done) | (simp_all; omega))) q39), (cvt (by (rfl)) q38), q36, q37, by omega, by omega, rfl⟩
  ·
   have he : powL r.length r m = roundsL r.length := (by simpa using c1); have hmo := hst.1 he
   refine wp_exit ?_
   refine tx ?_
   refine tx ?_
   refine bx ?_
   refine tn ?_
   refine wp_seq ?_
   refine reg (a := a9) (σ := s7) rfl (fun i_ => List.getD [(Ty.pr (Ty.int (0 : Int)))] i_ Pr.any) ok8 rfl ⟨?_, trivial⟩ ?_
   · intro ax tx hs okx sm
     exact run_plain rfl (y_assign rfl)
   intro a12 s10 D8
   have ok11 := D8.ok
   have F12 := F9.step0 D8.stp
   have q40 : At (Ty.nat m) s10 a12 (.tmp 4) := D8.kt q27 rfl
   have q41 : At (Ty.lst Ty.int r) s10 a12 (.tmp 0) := D8.kt q29 rfl
   have q42 : At (Ty.int (0 : Int)) s10 a12 (.tmp 7) := D8.done 0
   clear D8
   refine tn ?_
   refine wp_seq ?_
   refine wp_seq ?_
   refine reg (a := a12) (σ := s10) rfl (fun i_ => List.getD [(Ty.pr (Ty.int (0 : Int)))] i_ Pr.any) ok11 rfl ⟨?_, trivial⟩ ?_
   · intro ax tx hs okx sm
     exact run_plain rfl (y_assign rfl)
   intro a13 s11 D9
   have ok12 := D9.ok
   have F13 := F12.step0 D9.stp
   have q43 : At (Ty.nat m) s11 a13 (.tmp 4) := D9.kt q40 rfl
   have q44 : At (Ty.lst Ty.int r) s11 a13 (.tmp 0) := D9.kt q41 rfl
   have q45 : At (Ty.int (0 : Int)) s11 a13 (.tmp 7) := D9.kt q42 rfl
   have q46 : At (Ty.int (0 : Int)) s11 a13 (.tmp 8) := D9.done 0
   clear D9
   refine tn ?_
   refine wp_block ?_
   refine loop (fun n3 a14 w3 => ∃ (t4 : GW) (i : Nat), t4.w = w3 ∧ FromL [] s0 t4 ∧ Ok 51 a14 ∧ At (Ty.nat i) t4 a14 (.tmp 8) ∧ At (Ty.nat (wrN r i)) t4 a14 (.tmp 7) ∧ At (Ty.nat m) t4 a14 (.tmp 4) ∧ At (Ty.lst Ty.int r) t4 a14 (.tmp 0) ∧ (i ≤ r.length) ∧ n3 = r.length - i) (r.length - (0)) ?_ ?_
   ·
    exact ⟨s11, 0, rfl, F13, ok12, (cvi (by (first | rfl | omega | (simp_all; done) | (simp_all; omega))) q46), (cvi (by (rfl)) q45), q43, q44, by omega, rfl⟩
   ·
    rintro n4 a15 w4 ⟨t5, i, rfl, F14, ok13, q47, q48, q49, q50, hi, rfl⟩
    have hwl := wrN_le r i
    have hii := Nat.mul_le_mul (show i ≤ 12 by omega) (show i ≤ 12 by omega)
    refine wp_seq ?_
    refine wp_seq ?_
    refine reg (a := a15) (σ := t5) rfl (fun i_ => List.getD [(Ty.pr (Ty.nat i)), (Ty.pr (Ty.lst Ty.int r)), (Ty.pr (Ty.nat (List.length r))), (Ty.pr (Ty.bool (decide (((i : Nat) : Int) < (((List.length r) : Nat) : Int)))))] i_ Pr.any) ok13 rfl ⟨?_, ?_, ?_, ?_, trivial⟩ ?_
    · intro ax tx hs okx sm
      exact run_plain rfl (y_move (kp (sm 8 rfl) hs q47))
    · intro ax tx hs okx sm
      exact run_plain rfl (y_move (kp (sm 0 rfl) hs q50))
    · intro ax tx hs okx sm d0
      have e1 : At (Ty.lst Ty.int r) tx ax (.tmp 26) := d0 rfl
      exact run_plain rfl (y_len Try.underlying34 e1)
    · intro ax tx hs okx sm d0 d1
      have e0 : At (Ty.nat i) tx ax (.tmp 25) := d0 rfl
      have e2 : At (Ty.nat (List.length r)) tx ax (.tmp 27) := d1 rfl
      exact run_plain rfl (y_lss e0 e2)
    intro a16 s12 D10
    have ok14 := D10.ok
    have F15 := F14.step0 D10.stp
    have q51 : At (Ty.nat i) s12 a16 (.tmp 8) := D10.kt q47 rfl
    have q52 : At (Ty.nat (wrN r i)) s12 a16 (.tmp 7) := D10.kt q48 rfl
    have q53 : At (Ty.nat m) s12 a16 (.tmp 4) := D10.kt q49 rfl
    have q54 : At (Ty.lst Ty.int r) s12 a16 (.tmp 0) := D10.kt q50 rfl
    have q55 : At (Ty.bool (decide (((i : Nat) : Int) < (((List.length r) : Nat) : Int)))) s12 a16 (.tmp 28) := D10.done 3
    clear D10
    refine tn ?_
    refine cond_p (p := (((i : Nat) : Int) < (((List.length r) : Nat) : Int))) q55 (fun c2 => ?_) (fun c2 => ?_)
    ·
     refine wp_skip ?_
     refine tn ?_
     refine wp_seq ?_
     refine wp_block ?_
     refine wp_seq ?_
     refine reg (a := a16) (σ := s12) rfl (fun i_ => List.getD [(Ty.pr (Ty.int (0 : Int)))] i_ Pr.any) ok14 rfl ⟨?_, trivial⟩ ?_
     · intro ax tx hs okx sm
       exact run_plain rfl (y_assign rfl)
     intro a17 s13 D11
     have ok15 := D11.ok
     have F16 := F15.step0 D11.stp
     have q56 : At (Ty.nat i) s13 a17 (.tmp 8) := D11.kt q51 rfl
     have q57 : At (Ty.nat (wrN r i)) s13 a17 (.tmp 7) := D11.kt q52 rfl
     have q58 : At (Ty.nat m) s13 a17 (.tmp 4) := D11.kt q53 rfl
     have q59 : At (Ty.lst Ty.int r) s13 a17 (.tmp 0) := D11.kt q54 rfl
     have q60 : At (Ty.int (0 : Int)) s13 a17 (.tmp 9) := D11.done 0
     clear D11
     refine tn ?_
     refine wp_block ?_
     refine loop (fun n5 a18 w5 => ∃ (t6 : GW) (k : Nat), t6.w = w5 ∧ FromL [] s0 t6 ∧ Ok 51 a18 ∧ At (Ty.nat k) t6 a18 (.tmp 9) ∧ At (Ty.nat (wrN r i + ((r.take k).countP fun x => decide (r.getD i 0 < x)))) t6 a18 (.tmp 7) ∧ At (Ty.nat i) t6 a18 (.tmp 8) ∧ At (Ty.nat m) t6 a18 (.tmp 4) ∧ At (Ty.lst Ty.int r) t6 a18 (.tmp 0) ∧ (k ≤ i) ∧ n5 = i - k) (i - (0)) ?_ ?_
     ·
      exact ⟨s13, 0, rfl, F16, ok15, (cvi (by (first | rfl | omega | (simp_all; done) | (simp_all; omega))) q60), (cvi (by (simp)) q57), q56, q58, q59, by omega, rfl⟩
     ·
      rintro n6 a19 w6 ⟨t7, k, rfl, F17, ok16, q61, q62, q63, q64, q65, hk, rfl⟩
      have hcl : (r.take k).countP (fun x => decide (r.getD i 0 < x)) ≤ (r.take k).length := List.countP_le_length
      have htl := List.length_take_le k r
      refine wp_seq ?_
      refine wp_seq ?_
      refine reg (a := a19) (σ := t7) rfl (fun i_ => List.getD [(Ty.pr (Ty.nat k)), (Ty.pr (Ty.nat i)), (Ty.pr (Ty.bool (decide (((k : Nat) : Int) < ((i : Nat) : Int)))))] i_ Pr.any) ok16 rfl ⟨?_, ?_, ?_, trivial⟩ ?_
      · intro ax tx hs okx sm
        exact run_plain rfl (y_move (kp (sm 9 rfl) hs q61))
      · intro ax tx hs okx sm
        exact run_plain rfl (y_move (kp (sm 8 rfl) hs q63))
      · intro ax tx hs okx sm d0 d1
        have e0 : At (Ty.nat k) tx ax (.tmp 31) := d0 rfl
        have e1 : At (Ty.nat i) tx ax (.tmp 32) := d1 rfl
        exact run_plain rfl (y_lss e0 e1)
      intro a20 s14 D12
      have ok17 := D12.ok
      have F18 := F17.step0 D12.stp
      have q66 : At (Ty.nat k) s14 a20 (.tmp 9) := D12.kt q61 rfl
      have q67 : At (Ty.nat (wrN r i + ((r.take k).countP fun x => decide (r.getD i 0 < x)))) s14 a20 (.tmp 7) := D12.kt q62 rfl
      have q68 : At (Ty.nat i) s14 a20 (.tmp 8) := D12.kt q63 rfl
      have q69 : At (Ty.nat m) s14 a20 (.tmp 4) := D12.kt q64 rfl
      have q70 : At (Ty.lst Ty.int r) s14 a20 (.tmp 0) := D12.kt q65 rfl
      have q71 : At (Ty.bool (decide (((k : Nat) : Int) < ((i : Nat) : Int)))) s14 a20 (.tmp 33) := D12.done 2
      clear D12
      refine tn ?_
      refine cond_p (p := (((k : Nat) : Int) < ((i : Nat) : Int))) q71 (fun c3 => ?_) (fun c3 => ?_)
      ·
       refine wp_skip ?_
       refine tn ?_
       refine wp_seq ?_
       refine wp_block ?_
       refine wp_seq ?_
       refine reg (a := a20) (σ := s14) rfl (fun i_ => List.getD [(Ty.pr (Ty.lst Ty.int r)), (Ty.pr (Ty.nat k)), (Ty.pr (Ty.ref [(Ty.int (r.getD k 0))])), (Ty.pr (Ty.int (r.getD k 0))), (Ty.pr (Ty.lst Ty.int r)), (Ty.pr (Ty.nat i)), (Ty.pr (Ty.ref [(Ty.int (r.getD i 0))])), (Ty.pr (Ty.int (r.getD i 0))), (Ty.pr (Ty.bool (decide ((r.getD i 0) < (r.getD k 0)))))] i_ Pr.any) ok17 rfl ⟨?_, ?_, ?_, ?_, ?_, ?_, ?_, ?_, ?_, trivial⟩ ?_
       · intro ax tx hs okx sm
         exact run_plain rfl (y_move (kp (sm 0 rfl) hs q70))
       · intro ax tx hs okx sm
         exact run_plain rfl (y_move (kp (sm 9 rfl) hs q66))
       · intro ax tx hs okx sm d0 d1
         have e0 : At (Ty.lst Ty.int r) tx ax (.tmp 36) := d0 rfl
         have e1 : At (Ty.nat k) tx ax (.tmp 37) := d1 rfl
         exact run_plain rfl (y_index1 Try.underlying34 Try.inf3 e0 e1 (by omega) (lst_get Ty.int r 0 k (by omega)))
       · intro ax tx hs okx sm d0
         have e2 : At (Ty.ref [(Ty.int (r.getD k 0))]) tx ax (.tmp 38) := d0 rfl
         exact run_plain rfl (y_load Try.underlying3 rfl e2 rfl)
       · intro ax tx hs okx sm
         exact run_plain rfl (y_move (kp (sm 0 rfl) hs q70))
       · intro ax tx hs okx sm
         exact run_plain rfl (y_move (kp (sm 8 rfl) hs q68))
       · intro ax tx hs okx sm d0 d1
         have e4 : At (Ty.lst Ty.int r) tx ax (.tmp 40) := d0 rfl
         have e5 : At (Ty.nat i) tx ax (.tmp 41) := d1 rfl
         exact run_plain rfl (y_index1 Try.underlying34 Try.inf3 e4 e5 (by omega) (lst_get Ty.int r 0 i (by omega)))
       · intro ax tx hs okx sm d0
         have e6 : At (Ty.ref [(Ty.int (r.getD i 0))]) tx ax (.tmp 42) := d0 rfl
         exact run_plain rfl (y_load Try.underlying3 rfl e6 rfl)
       · intro ax tx hs okx sm d0 d1
         have e3 : At (Ty.int (r.getD k 0)) tx ax (.tmp 39) := d0 rfl
         have e7 : At (Ty.int (r.getD i 0)) tx ax (.tmp 43) := d1 rfl
         exact run_plain rfl (y_gtr e3 e7)
       intro a21 s15 D13
       have ok18 := D13.ok
       have F19 := F18.step0 D13.stp
       have q72 : At (Ty.nat k) s15 a21 (.tmp 9) := D13.kt q66 rfl
       have q73 : At (Ty.nat (wrN r i + ((r.take k).countP fun x => decide (r.getD i 0 < x)))) s15 a21 (.tmp 7) := D13.kt q67 rfl
       have q74 : At (Ty.nat i) s15 a21 (.tmp 8) := D13.kt q68 rfl
       have q75 : At (Ty.nat m) s15 a21 (.tmp 4) := D13.kt q69 rfl
       have q76 : At (Ty.lst Ty.int r) s15 a21 (.tmp 0) := D13.kt q70 rfl
       have q77 : At (Ty.bool (decide ((r.getD i 0) < (r.getD k 0)))) s15 a21 (.tmp 44) := D13.done 8
       clear D13
       refine tn ?_
       refine cond_p (p := ((r.getD i 0) < (r.getD k 0))) q77 (fun c4 => ?_) (fun c4 => ?_)
       ·
        refine reg (a := a21) (σ := s15) rfl (fun i_ => List.getD [(Ty.pr (Ty.nat (wrN r i + ((r.take k).countP fun x => decide (r.getD i 0 < x))))), (Ty.pr (Ty.nat ((wrN r i + ((r.take k).countP fun x => decide (r.getD i 0 < x))) + 1))), (Ty.pr (Ty.nat ((wrN r i + ((r.take k).countP fun x => decide (r.getD i 0 < x))) + 1)))] i_ Pr.any) ok18 rfl ⟨?_, ?_, ?_, trivial⟩ ?_
        · intro ax tx hs okx sm
          exact run_plain rfl (y_move (kp (sm 7 rfl) hs q73))
        · intro ax tx hs okx sm d0
          have e0 : At (Ty.nat (wrN r i + ((r.take k).countP fun x => decide (r.getD i 0 < x)))) tx ax (.tmp 45) := d0 rfl
          exact run_plain rfl ((y_add e0 rfl (w64 (by omega) (by omega))).mono (fun τ _ h => cvi (σ := τ) (by first | omega | exact (Int.natCast_mul _ _).symm) h))
        · intro ax tx hs okx sm d0 d1 d2
          have e1 : At (Ty.nat ((wrN r i + ((r.take k).countP fun x => decide (r.getD i 0 < x))) + 1)) tx ax (.tmp 46) := d0 rfl
          have e0 : At (Ty.nat (wrN r i + ((r.take k).countP fun x => decide (r.getD i 0 < x)))) tx ax (.tmp 45) := d1 rfl
          exact run_plain rfl (y_assign e1)
        intro a22 s16 D14
        have ok19 := D14.ok
        have F20 := F19.step0 D14.stp
        have q78 : At (Ty.nat k) s16 a22 (.tmp 9) := D14.kt q72 rfl
        have q79 : At (Ty.nat i) s16 a22 (.tmp 8) := D14.kt q74 rfl
        have q80 : At (Ty.nat m) s16 a22 (.tmp 4) := D14.kt q75 rfl
        have q81 : At (Ty.lst Ty.int r) s16 a22 (.tmp 0) := D14.kt q76 rfl
        have q82 : At (Ty.nat ((wrN r i + ((r.take k).countP fun x => decide (r.getD i 0 < x))) + 1)) s16 a22 (.tmp 7) := D14.done 2
        clear D14
        refine bn ?_
        refine tn ?_
        refine reg (a := a22) (σ := s16) rfl (fun i_ => List.getD [(Ty.pr (Ty.nat k)), (Ty.pr (Ty.nat (k + 1))), (Ty.pr (Ty.nat (k + 1)))] i_ Pr.any) ok19 rfl ⟨?_, ?_, ?_, trivial⟩ ?_
        · intro ax tx hs okx sm
          exact run_plain rfl (y_move (kp (sm 9 rfl) hs q78))
        · intro ax tx hs okx sm d0
          have e0 : At (Ty.nat k) tx ax (.tmp 34) := d0 rfl
          exact run_plain rfl ((y_add e0 rfl (w64 (by omega) (by omega))).mono (fun τ _ h => cvi (σ := τ) (by first | omega | exact (Int.natCast_mul _ _).symm) h))
        · intro ax tx hs okx sm d0 d1 d2
          have e1 : At (Ty.nat (k + 1)) tx ax (.tmp 35) := d0 rfl
          have e0 : At (Ty.nat k) tx ax (.tmp 34) := d1 rfl
          exact run_plain rfl (y_assign e1)
        intro a23 s17 D15
        have ok20 := D15.ok
        have F21 := F20.step0 D15.stp
        have q83 : At (Ty.nat i) s17 a23 (.tmp 8) := D15.kt q79 rfl
        have q84 : At (Ty.nat m) s17 a23 (.tmp 4) := D15.kt q80 rfl
        have q85 : At (Ty.lst Ty.int r) s17 a23 (.tmp 0) := D15.kt q81 rfl
        have q86 : At (Ty.nat ((wrN r i + ((r.take k).countP fun x => decide (r.getD i 0 < x))) + 1)) s17 a23 (.tmp 7) := D15.kt q82 rfl
        have q87 : At (Ty.nat (k + 1)) s17 a23 (.tmp 9) := D15.done 2
        clear D15
        exact tn ⟨i - ((k+1)), by omega, s17, (k+1), rfl, F21, ok20, (cvi (by (first | rfl | omega | (simp_all; done) | (simp_all; omega))) q87), (cvi (by (rw [take_snoc r 0 k (by omega), List.countP_append]; simp only [List.countP_cons, List.countP_nil, decide_eq_true (show r.getD i 0 < r.getD k 0 by assumption), if_true]; omega)) q86), q83, q84, q85, by omega, rfl⟩
       ·
        refine wp_skip ?_
        refine bn ?_
        refine tn ?_
        refine reg (a := a21) (σ := s15) rfl (fun i_ => List.getD [(Ty.pr (Ty.nat k)), (Ty.pr (Ty.nat (k + 1))), (Ty.pr (Ty.nat (k + 1)))] i_ Pr.any) ok18 rfl ⟨?_, ?_, ?_, trivial⟩ ?_
        · intro ax tx hs okx sm
          exact run_plain rfl (y_move (kp (sm 9 rfl) hs q72))
        · intro ax tx hs okx sm d0
          have e0 : At (Ty.nat k) tx ax (.tmp 34) := d0 rfl
          exact run_plain rfl ((y_add e0 rfl (w64 (by omega) (by omega))).mono (fun τ _ h => cvi (σ := τ) (by first | omega | exact (Int.natCast_mul _ _).symm) h))
        · intro ax tx hs okx sm d0 d1 d2
          have e1 : At (Ty.nat (k + 1)) tx ax (.tmp 35) := d0 rfl
          have e0 : At (Ty.nat k) tx ax (.tmp 34) := d1 rfl
          exact run_plain rfl (y_assign e1)
        intro a24 s18 D16
        have ok21 := D16.ok
        have F22 := F19.step0 D16.stp
        have q88 : At (Ty.nat (wrN r i + ((r.take k).countP fun x => decide (r.getD i 0 < x)))) s18 a24 (.tmp 7) := D16.kt q73 rfl
        have q89 : At (Ty.nat i) s18 a24 (.tmp 8) := D16.kt q74 rfl
        have q90 : At (Ty.nat m) s18 a24 (.tmp 4) := D16.kt q75 rfl
        have q91 : At (Ty.lst Ty.int r) s18 a24 (.tmp 0) := D16.kt q76 rfl
        have q92 : At (Ty.nat (k + 1)) s18 a24 (.tmp 9) := D16.done 2
        clear D16
        exact tn ⟨i - ((k+1)), by omega, s18, (k+1), rfl, F22, ok21, (cvi (by (first | rfl | omega | (simp_all; done) | (simp_all; omega))) q92), (cvi (by (rw [take_snoc r 0 k (by omega), List.countP_append]; simp only [List.countP_cons, List.countP_nil, decide_eq_false (show ¬ r.getD i 0 < r.getD k 0 by assumption)]; rfl)) q88), q89, q90, q91, by omega, rfl⟩
      ·
       refine wp_exit ?_
       refine tx ?_
       refine tx ?_
       refine bx ?_
       refine bn ?_
       refine tn ?_
       refine reg (a := a20) (σ := s14) rfl (fun i_ => List.getD [(Ty.pr (Ty.nat i)), (Ty.pr (Ty.nat (i + 1))), (Ty.pr (Ty.nat (i + 1)))] i_ Pr.any) ok17 rfl ⟨?_, ?_, ?_, trivial⟩ ?_
       · intro ax tx hs okx sm
         exact run_plain rfl (y_move (kp (sm 8 rfl) hs q68))
       · intro ax tx hs okx sm d0
         have e0 : At (Ty.nat i) tx ax (.tmp 29) := d0 rfl
         exact run_plain rfl ((y_add e0 rfl (w64 (by omega) (by omega))).mono (fun τ _ h => cvi (σ := τ) (by first | omega | exact (Int.natCast_mul _ _).symm) h))
       · intro ax tx hs okx sm d0 d1 d2
         have e1 : At (Ty.nat (i + 1)) tx ax (.tmp 30) := d0 rfl
         have e0 : At (Ty.nat i) tx ax (.tmp 29) := d1 rfl
         exact run_plain rfl (y_assign e1)
       intro a25 s19 D17
       have ok22 := D17.ok
       have F23 := F18.step0 D17.stp
       have q93 : At (Ty.nat (wrN r i + ((r.take k).countP fun x => decide (r.getD i 0 < x)))) s19 a25 (.tmp 7) := D17.kt q67 rfl
       have q94 : At (Ty.nat m) s19 a25 (.tmp 4) := D17.kt q69 rfl
       have q95 : At (Ty.lst Ty.int r) s19 a25 (.tmp 0) := D17.kt q70 rfl
       have q96 : At (Ty.nat (i + 1)) s19 a25 (.tmp 8) := D17.done 2
       clear D17
       obtain rfl : i = k := (by omega)
       exact tn ⟨r.length - ((i+1)), by omega, s19, (i+1), rfl, F23, ok22, (cvi (by (first | rfl | omega | (simp_all; done) | (simp_all; omega))) q96), (cvi (by (rfl)) q93), q94, q95, by omega, rfl⟩
    ·
     refine wp_exit ?_
     refine tx ?_
     refine tx ?_
     refine bx ?_
     refine tn ?_
     refine wp_seq ?_
     refine reg (a := a16) (σ := s12) rfl (fun i_ => List.getD [(Ty.pr (Ty.nat m)), (Ty.pr (Ty.nat (wrN r i))), (Ty.pr (Ty.nat ((wrN r i) % 2))), (Ty.pr (Ty.bool (decide (((((wrN r i) % 2) : Nat) : Int) = (1 : Int))))), (Ty.pr (Ty.nat m)), (Ty.pr (Ty.bool (decide (((((wrN r i) % 2) : Nat) : Int) = (1 : Int)))))] i_ Pr.any) ok14 rfl ⟨?_, ?_, ?_, ?_, ?_, ?_, trivial⟩ ?_
     · intro ax tx hs okx sm
       exact run_plain rfl (y_move (kp (sm 4 rfl) hs q53))
     · intro ax tx hs okx sm d0
       exact run_plain rfl (y_move (kp (sm 7 rfl) hs q52))
     · intro ax tx hs okx sm d0 d1
       have e1 : At (Ty.nat (wrN r i)) tx ax (.tmp 48) := d0 rfl
       exact run_plain rfl (y_remN e1 (toN (σ := tx) rfl (by omega)) (by omega))
     · intro ax tx hs okx sm d0 d1
       have e2 : At (Ty.nat ((wrN r i) % 2)) tx ax (.tmp 49) := d0 rfl
       exact run_plain rfl (y_eql e2 rfl)
     · intro ax tx hs okx sm d0 d1 d2 d3 d4
       have e0 : At (Ty.nat m) tx ax (.tmp 47) := d0 rfl
       exact run_plain rfl (y_assign e0)
     · intro ax tx hs okx sm d0 d1 d2 d3 d4 d5 d6
       have e3 : At (Ty.bool (decide (((((wrN r i) % 2) : Nat) : Int) = (1 : Int)))) tx ax (.tmp 50) := d0 rfl
       have e4 : At (Ty.nat m) tx ax (.tmp 2) := d1 rfl
       have e0 : At (Ty.nat m) tx ax (.tmp 47) := d2 rfl
       have e1 : At (Ty.nat (wrN r i)) tx ax (.tmp 48) := d3 rfl
       have e2 : At (Ty.nat ((wrN r i) % 2)) tx ax (.tmp 49) := d4 rfl
       exact run_plain rfl (y_assign e3)
     intro a26 s20 D18
     have ok23 := D18.ok
     have F24 := F15.step0 D18.stp
     have q97 : At (Ty.nat m) s20 a26 (.tmp 2) := D18.done 4
     have q98 : At (Ty.bool (decide (((((wrN r i) % 2) : Nat) : Int) = (1 : Int)))) s20 a26 (.tmp 3) := D18.done 5
     clear D18
     refine tn ?_
     refine wp_ret ?_
     exact retL2 rfl ok23 F24 (hasT2 (cvi (by (rw [hmo])) q97) (cvb (by (obtain rfl : i = r.length := (by omega); rw [oddL_inv hr, ← List.take_length (l := r), ← wrN_inv r r.length (Nat.le_refl _), List.take_length, decide_eq_decide]; omega)) q98))


set_option maxHeartbeats 4000000 in
set_option maxRecDepth 100000 in
theorem rCycles_fn (r : List Int) (σ : GW)  (v0 : Value) (hv0 : Ty.has (Ty.lst Ty.int r) σ v0)  (hr : IsRow r) :
    FnC Try.prog 46 #[v0] σ (Ty.lst Ty.ints (cyclesL r)) := by
 have hln := hr.le
 refine fn_intro0 Try.func46 rfl Try.ntmps46 (Nat.le_of_ble_eq_true rfl) (fun s0 a0 hle F0 ok0 hargs => ?_)
 have p0 : At (Ty.lst Ty.int r) s0 a0 (.tmp 0) := by have e := hargs 0 _ rfl; show Ty.has _ _ _; rw [e]; exact Ty.up _ hle hv0
 have b1 := sl_le p0
 clear hargs
 refine wp_seq ?_
 refine reg (a := a0) (σ := s0) rfl (fun i_ => List.getD [(Ty.pr (Ty.val (Value.slice none 0 0)))] i_ Pr.any) ok0 rfl ⟨?_, trivial⟩ ?_
 · intro ax tx hs okx sm
   exact run_plain rfl (y_assign rfl)
 intro a1 s1 D1
 have ok1 := D1.ok
 have F1 := F0.step0 D1.stp
 have q1 : At (Ty.lst Ty.int r) s1 a1 (.tmp 0) := D1.kt p0 rfl
 clear D1
 refine tn ?_
 refine wp_seq ?_
 refine reg (a := a1) (σ := s1) rfl (fun i_ => List.getD [(Ty.pr (Ty.val (Value.slice none 0 0)))] i_ Pr.any) ok1 rfl ⟨?_, trivial⟩ ?_
 · intro ax tx hs okx sm
   exact run_plain rfl (y_assign rfl)
 intro a2 s2 D2
 have ok2 := D2.ok
 have F2 := F1.step0 D2.stp
 have q2 : At (Ty.lst Ty.int r) s2 a2 (.tmp 0) := D2.kt q1 rfl
 have q3 : At (Ty.val (Value.slice none 0 0)) s2 a2 (.tmp 3) := D2.done 0
 clear D2
 refine tn ?_
 refine wp_seq ?_
 refine wp_seq ?_
 refine reg (a := a2) (σ := s2) rfl (fun i_ => List.getD [(Ty.pr (Ty.int (0 : Int)))] i_ Pr.any) ok2 rfl ⟨?_, trivial⟩ ?_
 · intro ax tx hs okx sm
   exact run_plain rfl (y_assign rfl)
 intro a3 s3 D3
 have ok3 := D3.ok
 have F3 := F2.step0 D3.stp
 have q4 : At (Ty.lst Ty.int r) s3 a3 (.tmp 0) := D3.kt q2 rfl
 have q5 : At (Ty.val (Value.slice none 0 0)) s3 a3 (.tmp 3) := D3.kt q3 rfl
 have q6 : At (Ty.int (0 : Int)) s3 a3 (.tmp 4) := D3.done 0
 clear D3
 refine tn ?_
 refine wp_block ?_
 have o1 : Own s3 5 34 1 (Value.slice none 0 0) 0 (List.map Ty.ints ([] : List (List Int))) := Own.nil _ _ _ _
 refine loop (fun n1 a4 w1 => ∃ (t1 : GW) (b : Nat) (x3_0 : Value), t1.w = w1 ∧ FromL [] s0 t1 ∧ Ok 43 a4 ∧ At (Ty.nat b) t1 a4 (.tmp 4) ∧ At (Ty.val x3_0) t1 a4 (.tmp 3) ∧ At (Ty.lst Ty.int r) t1 a4 (.tmp 0) ∧ Own t1 5 34 1 x3_0 (List.length (cyclesTo r b)) (List.map Ty.ints (cyclesTo r b)) ∧ (b ≤ r.length) ∧ n1 = r.length - b) (r.length - (0)) ?_ ?_
 ·
  exact ⟨s3, 0, (Value.slice none 0 0), rfl, F3, ok3, (cvi (by (first | rfl | omega | (simp_all; done) | (simp_all; omega))) q6), q5, q4, (cvo (by (rfl)) (by (rfl)) o1), by omega, rfl⟩
 ·
  rintro n2 a5 w2 ⟨t2, b, x3_0, rfl, F4, ok4, q7, q8, q9, o2, hb, rfl⟩
  have hcl := cyclesTo_len r b
  refine wp_seq ?_
  refine wp_seq ?_
  refine reg (a := a5) (σ := t2) rfl (fun i_ => List.getD [(Ty.pr (Ty.nat b)), (Ty.pr (Ty.lst Ty.int r)), (Ty.pr (Ty.nat (List.length r))), (Ty.pr (Ty.bool (decide (((b : Nat) : Int) < (((List.length r) : Nat) : Int)))))] i_ Pr.any) ok4 rfl ⟨?_, ?_, ?_, ?_, trivial⟩ ?_
  · intro ax tx hs okx sm
    exact run_plain rfl (y_move (kp (sm 4 rfl) hs q7))
  · intro ax tx hs okx sm
    exact run_plain rfl (y_move (kp (sm 0 rfl) hs q9))
  · intro ax tx hs okx sm d0
    have e1 : At (Ty.lst Ty.int r) tx ax (.tmp 9) := d0 rfl
    exact run_plain rfl (y_len Try.underlying34 e1)
  · intro ax tx hs okx sm d0 d1
    have e0 : At (Ty.nat b) tx ax (.tmp 8) := d0 rfl
    have e2 : At (Ty.nat (List.length r)) tx ax (.tmp 10) := d1 rfl
    exact run_plain rfl (y_lss e0 e2)
  intro a6 s4 D4
  have ok5 := D4.ok
  have F5 := F4.step0 D4.stp
  have q10 : At (Ty.nat b) s4 a6 (.tmp 4) := D4.kt q7 rfl
  have q11 : At (Ty.val x3_0) s4 a6 (.tmp 3) := D4.kt q8 rfl
  have q12 : At (Ty.lst Ty.int r) s4 a6 (.tmp 0) := D4.kt q9 rfl
  have o3 := Own.k0 o2 D4.stp
  have q13 : At (Ty.bool (decide (((b : Nat) : Int) < (((List.length r) : Nat) : Int)))) s4 a6 (.tmp 11) := D4.done 3
  clear D4
  refine tn ?_
  refine cond_p (p := (((b : Nat) : Int) < (((List.length r) : Nat) : Int))) q13 (fun c1 => ?_) (fun c1 => ?_)
  ·
   have hper := per_spec hr (show b < r.length by omega)
   refine wp_skip ?_
   refine tn ?_
   refine wp_seq ?_
   refine wp_block ?_
   refine wp_seq ?_
   refine reg2 (a := a6) (σ := s4) rfl 2 (fun i_ => List.getD [(Ty.pr (Ty.nat b)), (Pr.own 6 3 1 1 (List.map Ty.int [((b : Nat) : Int)]))] i_ Pr.any) ok5 rfl (by decide) rfl ⟨?_, ?_, trivial⟩ ?_
   · intro ax tx hs okx sm
     exact run_plain rfl (y_move (kp (sm 4 rfl) hs q10))
   · intro ax tx hs okx sm d0
     have e0 : At (Ty.nat b) tx ax (.tmp 14) := d0 rfl
     exact run_plain rfl ((y_lit1 (k := 6) Try.underlying34 Try.inf3 rfl (one_val rfl) e0).mono (fun _ _ h => cvo (by simp) (by simp) h))
   intro a7 s5 D5
   have ok6 := D5.ok
   have F6 := F5.step0 D5.stp
   have q14 : At (Ty.nat b) s5 a7 (.tmp 4) := D5.kt q10 rfl
   have q15 : At (Ty.val x3_0) s5 a7 (.tmp 3) := D5.kt q11 rfl
   have q16 : At (Ty.lst Ty.int r) s5 a7 (.tmp 0) := D5.kt q12 rfl
   have o4 := Own.k0 o3 D5.stp
   obtain ⟨x1, hx1⟩ : ∃ x, a7.eval (.tmp 15) = x := ⟨_, rfl⟩
   have q17 : At (Ty.val x1) s5 a7 (.tmp 15) := hx1
   have o5 : Own s5 6 3 1 x1 1 (List.map Ty.int [((b : Nat) : Int)]) := al2 (R := (Pr.own 6 3 1 1 (List.map Ty.int [((b : Nat) : Int)]))) hx1 (D5.done 1 (by decide))
   clear D5
   refine tailL (L := []) (R := (fun v τ => Pr.has (Ty.pr (Ty.val x1)) τ v)) rfl rfl (by decide) ok6 (Yld.toL (y_assign q17)) (fun a8 s6 hs1 ok7 r1 sm1 => ?_)
   have F7 := F6.stepL hs1 (by decide)
   have q18 : At (Ty.nat b) s6 a8 (.tmp 4) := kpL hs1 (by decide) (sm1 4 (by decide)) q14
   have q19 : At (Ty.val x3_0) s6 a8 (.tmp 3) := kpL hs1 (by decide) (sm1 3 (by decide)) q15
   have q20 : At (Ty.lst Ty.int r) s6 a8 (.tmp 0) := kpL hs1 (by decide) (sm1 0 (by decide)) q16
   have o6 := Own.keepL o4 hs1 (by decide) (by decide)
   have o7 := Own.keepL o5 hs1 (by decide) (by decide)
   have q21 : At (Ty.val x1) s6 a8 (.tmp 5) := r1
   clear r1
   refine wpList_nil ?_
   refine tn ?_
   refine wp_seq ?_
   refine reg (a := a8) (σ := s6) rfl (fun i_ => List.getD [(Ty.pr (Ty.bool true))] i_ Pr.any) ok7 rfl ⟨?_, trivial⟩ ?_
   · intro ax tx hs okx sm
     exact run_plain rfl (y_assign rfl)
   intro a9 s7 D6
   have ok8 := D6.ok
   have F8 := F7.step0 D6.stp
   have q22 : At (Ty.nat b) s7 a9 (.tmp 4) := D6.kt q18 rfl
   have q23 : At (Ty.val x3_0) s7 a9 (.tmp 3) := D6.kt q19 rfl
   have q24 : At (Ty.lst Ty.int r) s7 a9 (.tmp 0) := D6.kt q20 rfl
   have q25 : At (Ty.val x1) s7 a9 (.tmp 5) := D6.kt q21 rfl
   have o8 := Own.k0 o6 D6.stp
   have o9 := Own.k0 o7 D6.stp
   have q26 : At (Ty.bool true) s7 a9 (.tmp 6) := D6.done 0
   clear D6
   refine tn ?_
   refine wp_seq ?_
   refine wp_seq ?_
   refine reg (a := a9) (σ := s7) rfl (fun i_ => List.getD [(Ty.pr (Ty.lst Ty.int r)), (Ty.pr (Ty.nat b)), (Ty.pr (Ty.ref [(Ty.int (r.getD b 0))])), (Ty.pr (Ty.int (r.getD b 0))), (Ty.pr (Ty.int (r.getD b 0)))] i_ Pr.any) ok8 rfl ⟨?_, ?_, ?_, ?_, ?_, trivial⟩ ?_
   · intro ax tx hs okx sm
     exact run_plain rfl (y_move (kp (sm 0 rfl) hs q24))
   · intro ax tx hs okx sm
     exact run_plain rfl (y_move (kp (sm 4 rfl) hs q22))
   · intro ax tx hs okx sm d0 d1
     have e0 : At (Ty.lst Ty.int r) tx ax (.tmp 16) := d0 rfl
     have e1 : At (Ty.nat b) tx ax (.tmp 17) := d1 rfl
     exact run_plain rfl (y_index1 Try.underlying34 Try.inf3 e0 e1 (by omega) (lst_get Ty.int r 0 b (by omega)))
   · intro ax tx hs okx sm d0
     have e2 : At (Ty.ref [(Ty.int (r.getD b 0))]) tx ax (.tmp 18) := d0 rfl
     exact run_plain rfl (y_load Try.underlying3 rfl e2 rfl)
   · intro ax tx hs okx sm d0 d1 d2 d3 d4
     have e3 : At (Ty.int (r.getD b 0)) tx ax (.tmp 19) := d0 rfl
     have e0 : At (Ty.lst Ty.int r) tx ax (.tmp 16) := d1 rfl
     have e1 : At (Ty.nat b) tx ax (.tmp 17) := d2 rfl
     have e2 : At (Ty.ref [(Ty.int (r.getD b 0))]) tx ax (.tmp 18) := d3 rfl
     exact run_plain rfl (y_assign e3)
   intro a10 s8 D7
   have ok9 := D7.ok
   have F9 := F8.step0 D7.stp
   have q27 : At (Ty.nat b) s8 a10 (.tmp 4) := D7.kt q22 rfl
   have q28 : At (Ty.val x3_0) s8 a10 (.tmp 3) := D7.kt q23 rfl
   have q29 : At (Ty.lst Ty.int r) s8 a10 (.tmp 0) := D7.kt q24 rfl
   have q30 : At (Ty.val x1) s8 a10 (.tmp 5) := D7.kt q25 rfl
   have q31 : At (Ty.bool true) s8 a10 (.tmp 6) := D7.kt q26 rfl
   have o10 := Own.k0 o8 D7.stp
   have o11 := Own.k0 o9 D7.stp
   have q32 : At (Ty.int (r.getD b 0)) s8 a10 (.tmp 7) := D7.done 4
   clear D7
   refine tn ?_
   refine wp_block ?_
   refine loop (fun n3 a11 w3 => ∃ (t3 : GW) (m : Nat) (x5_1 : Value), t3.w = w3 ∧ FromL [] s0 t3 ∧ Ok 43 a11 ∧ At (Ty.val x5_1) t3 a11 (.tmp 5) ∧ At (Ty.bool (lessB r b (m + 1))) t3 a11 (.tmp 6) ∧ At (Ty.nat (itr r b (m + 1))) t3 a11 (.tmp 7) ∧ At (Ty.nat b) t3 a11 (.tmp 4) ∧ At (Ty.val x3_0) t3 a11 (.tmp 3) ∧ At (Ty.lst Ty.int r) t3 a11 (.tmp 0) ∧ Own t3 6 3 1 x5_1 (List.length (orbTo r b (m + 1))) (List.map Ty.int (orbTo r b (m + 1))) ∧ Own t3 5 34 1 x3_0 (List.length (cyclesTo r b)) (List.map Ty.ints (cyclesTo r b)) ∧ (m + 1 ≤ per r b) ∧ n3 = per r b - m) (per r b - (0)) ?_ ?_
   ·
    exact ⟨s8, 0, x1, rfl, F9, ok9, q30, (cvb (by (rw [lessB_one])) q31), (cvi (by (exact (nxt_int hr (by omega)).symm)) q32), q27, q28, q29, (cvo (by (simp [orbTo_one])) (by (simp [orbTo_one])) o11), o10, hper.1, rfl⟩
   ·
    rintro n4 a12 w4 ⟨t4, m, x5_1, rfl, F10, ok10, q33, q34, q35, q36, q37, q38, o12, o13, hm, rfl⟩
    have hit := itr_lt hr (show b < r.length by omega) (m + 1)
    have hol := orbTo_len r b (m + 1)
    refine wp_seq ?_
    refine wp_seq ?_
    refine reg (a := a12) (σ := t4) rfl (fun i_ => List.getD [(Ty.pr (Ty.nat (itr r b (m + 1)))), (Ty.pr (Ty.nat b)), (Ty.pr (Ty.bool (decide ((((itr r b (m + 1)) : Nat) : Int) ≠ ((b : Nat) : Int)))))] i_ Pr.any) ok10 rfl ⟨?_, ?_, ?_, trivial⟩ ?_
    · intro ax tx hs okx sm
      exact run_plain rfl (y_move (kp (sm 7 rfl) hs q35))
    · intro ax tx hs okx sm
      exact run_plain rfl (y_move (kp (sm 4 rfl) hs q36))
    · intro ax tx hs okx sm d0 d1
      have e0 : At (Ty.nat (itr r b (m + 1))) tx ax (.tmp 20) := d0 rfl
      have e1 : At (Ty.nat b) tx ax (.tmp 21) := d1 rfl
      exact run_plain rfl (y_neq e0 e1)
    intro a13 s9 D8
    have ok11 := D8.ok
    have F11 := F10.step0 D8.stp
    have q39 : At (Ty.val x5_1) s9 a13 (.tmp 5) := D8.kt q33 rfl
    have q40 : At (Ty.bool (lessB r b (m + 1))) s9 a13 (.tmp 6) := D8.kt q34 rfl
    have q41 : At (Ty.nat (itr r b (m + 1))) s9 a13 (.tmp 7) := D8.kt q35 rfl
    have q42 : At (Ty.nat b) s9 a13 (.tmp 4) := D8.kt q36 rfl
    have q43 : At (Ty.val x3_0) s9 a13 (.tmp 3) := D8.kt q37 rfl
    have q44 : At (Ty.lst Ty.int r) s9 a13 (.tmp 0) := D8.kt q38 rfl
    have o14 := Own.k0 o12 D8.stp
    have o15 := Own.k0 o13 D8.stp
    have q45 : At (Ty.bool (decide ((((itr r b (m + 1)) : Nat) : Int) ≠ ((b : Nat) : Int)))) s9 a13 (.tmp 22) := D8.done 2
    clear D8
    refine tn ?_
    refine cond_p (p := ((((itr r b (m + 1)) : Nat) : Int) ≠ ((b : Nat) : Int))) q45 (fun c2 => ?_) (fun c2 => ?_)
    ·
     have hne : ¬ itr r b (m + 1) = b := by omega
     refine wp_skip ?_
     refine tn ?_
     refine wp_seq ?_
     refine wp_block ?_
     refine wp_seq ?_
     refine reg2 (a := a13) (σ := s9) rfl 3 (fun i_ => List.getD [(Ty.pr (Ty.val x5_1)), (Ty.pr (Ty.nat (itr r b (m + 1)))), (Ty.pr (Ty.sl 1 1 [(Ty.nat (itr r b (m + 1)))]))] i_ Pr.any) ok11 rfl (by decide) rfl ⟨?_, ?_, ?_, trivial⟩ ?_
     · intro ax tx hs okx sm
       exact run_plain rfl (y_move (kp (sm 5 rfl) hs q39))
     · intro ax tx hs okx sm
       exact run_plain rfl (y_move (kp (sm 7 rfl) hs q41))
     · intro ax tx hs okx sm d0
       have e1 : At (Ty.nat (itr r b (m + 1))) tx ax (.tmp 28) := d0 rfl
       exact run_plain rfl (y_build1o Try.underlying34 Try.inf3 rfl (one_val rfl) e1)
     intro a14 s10 D9
     have ok12 := D9.ok
     have F12 := F11.step0 D9.stp
     have q46 : At (Ty.val x5_1) s10 a14 (.tmp 5) := D9.kt q39 rfl
     have q47 : At (Ty.bool (lessB r b (m + 1))) s10 a14 (.tmp 6) := D9.kt q40 rfl
     have q48 : At (Ty.nat (itr r b (m + 1))) s10 a14 (.tmp 7) := D9.kt q41 rfl
     have q49 : At (Ty.nat b) s10 a14 (.tmp 4) := D9.kt q42 rfl
     have q50 : At (Ty.val x3_0) s10 a14 (.tmp 3) := D9.kt q43 rfl
     have q51 : At (Ty.lst Ty.int r) s10 a14 (.tmp 0) := D9.kt q44 rfl
     have o16 := Own.k0 o14 D9.stp
     have o17 := Own.k0 o15 D9.stp
     have q52 : At (Ty.val x5_1) s10 a14 (.tmp 27) := D9.done 0 (by decide)
     have q53 : At (Ty.sl 1 1 [(Ty.nat (itr r b (m + 1)))]) s10 a14 (.tmp 29) := D9.done 2 (by decide)
     have b2 := sl_le q53
     clear D9
     refine tailL (L := [6]) (R := (fun v τ => Own τ 6 3 1 v ((List.length (orbTo r b (m + 1))) + 1) ((List.map Ty.int (orbTo r b (m + 1))) ++ [(Ty.nat (itr r b (m + 1)))]))) rfl rfl (by decide) ok12 (YldM.toL (m_append Try.underlying34 Try.inf3 (by decide) rfl (by decide) (al (R := (Pr.own 6 3 1 (List.length (orbTo r b (m + 1))) (List.map Ty.int (orbTo r b (m + 1))))) q52 o16) q53 (by intro U hU; simp at hU; subst hU; exact one_val rfl) (by omega) (by omega))) (fun a15 s11 hs2 ok13 r2 sm2 => ?_)
     have F13 := F12.stepL hs2 (by decide)
     have q54 : At (Ty.val x5_1) s11 a15 (.tmp 5) := kpL hs2 (by decide) (sm2 5 (by decide)) q46
     have q55 : At (Ty.bool (lessB r b (m + 1))) s11 a15 (.tmp 6) := kpL hs2 (by decide) (sm2 6 (by decide)) q47
     have q56 : At (Ty.nat (itr r b (m + 1))) s11 a15 (.tmp 7) := kpL hs2 (by decide) (sm2 7 (by decide)) q48
     have q57 : At (Ty.nat b) s11 a15 (.tmp 4) := kpL hs2 (by decide) (sm2 4 (by decide)) q49
     have q58 : At (Ty.val x3_0) s11 a15 (.tmp 3) := kpL hs2 (by decide) (sm2 3 (by decide)) q50
     have q59 : At (Ty.lst Ty.int r) s11 a15 (.tmp 0) := kpL hs2 (by decide) (sm2 0 (by decide)) q51
     have o19 := Own.keepL o17 hs2 (by decide) (by decide)
     obtain ⟨x2, hx2⟩ : ∃ x, a15.eval (.tmp 30) = x := ⟨_, rfl⟩
     have q60 : At (Ty.val x2) s11 a15 (.tmp 30) := hx2
     have o18 : Own s11 6 3 1 x2 (List.length ((orbTo r b (m + 1)) ++ [(((itr r b (m + 1)) : Nat) : Int)])) (List.map Ty.int ((orbTo r b (m + 1)) ++ [(((itr r b (m + 1)) : Nat) : Int)])) := al2 (R := (Pr.own 6 3 1 (List.length ((orbTo r b (m + 1)) ++ [(((itr r b (m + 1)) : Nat) : Int)])) (List.map Ty.int ((orbTo r b (m + 1)) ++ [(((itr r b (m + 1)) : Nat) : Int)])))) hx2 (cvo (by simp) (by first | (rw [List.map_append]; rfl) | simp) r2)
     clear r2
     refine tailL (L := []) (R := (fun v τ => Pr.has (Ty.pr (Ty.val x2)) τ v)) rfl rfl (by decide) ok13 (Yld.toL (y_assign q60)) (fun a16 s12 hs3 ok14 r3 sm3 => ?_)
     have F14 := F13.stepL hs3 (by decide)
     have q61 : At (Ty.bool (lessB r b (m + 1))) s12 a16 (.tmp 6) := kpL hs3 (by decide) (sm3 6 (by decide)) q55
     have q62 : At (Ty.nat (itr r b (m + 1))) s12 a16 (.tmp 7) := kpL hs3 (by decide) (sm3 7 (by decide)) q56
     have q63 : At (Ty.nat b) s12 a16 (.tmp 4) := kpL hs3 (by decide) (sm3 4 (by decide)) q57
     have q64 : At (Ty.val x3_0) s12 a16 (.tmp 3) := kpL hs3 (by decide) (sm3 3 (by decide)) q58
     have q65 : At (Ty.lst Ty.int r) s12 a16 (.tmp 0) := kpL hs3 (by decide) (sm3 0 (by decide)) q59
     have o20 := Own.keepL o19 hs3 (by decide) (by decide)
     have o21 := Own.keepL o18 hs3 (by decide) (by decide)
     have q66 : At (Ty.val x2) s12 a16 (.tmp 5) := r3
     clear r3
     refine wpList_nil ?_
     refine tn ?_
     refine reg (a := a16) (σ := s12) rfl (fun i_ => List.getD [(Ty.pr (Ty.bool (lessB r b (m + 1)))), (Ty.pr (Ty.bool (lessB r b (m + 1)))), (Ty.pr (Ty.grd ((lessB r b (m + 1)) = true) (Ty.nat (itr r b (m + 1))))), (Ty.pr (Ty.grd ((lessB r b (m + 1)) = true) (Ty.nat b))), (Ty.pr (Ty.grd ((lessB r b (m + 1)) = true) (Ty.bool (decide (((b : Nat) : Int) < (((itr r b (m + 1)) : Nat) : Int)))))), (Ty.pr (Ty.bool ((lessB r b (m + 1)) && (decide (((b : Nat) : Int) < (((itr r b (m + 1)) : Nat) : Int)))))), (Ty.pr (Ty.bool ((lessB r b (m + 1)) && (decide (((b : Nat) : Int) < (((itr r b (m + 1)) : Nat) : Int))))))] i_ Pr.any) ok14 rfl ⟨?_, ?_, ?_, ?_, ?_, ?_, ?_, trivial⟩ ?_
     · intro ax tx hs okx sm
       exact run_plain rfl (y_move (kp (sm 6 rfl) hs q61))
     · intro ax tx hs okx sm d0
       have e0 : At (Ty.bool (lessB r b (m + 1))) tx ax (.tmp 31) := d0 rfl
       exact run_plain rfl (y_move e0)
     · intro ax tx hs okx sm d0
       have e1 : At (Ty.bool (lessB r b (m + 1))) tx ax (.tmp 32) := d0 rfl
       refine run_guard (T := (Ty.nat (itr r b (m + 1)))) okx rfl rfl (by decide) e1 (fun hg => ?_)
       exact y_move (kp (sm 7 rfl) hs q62)
     · intro ax tx hs okx sm d0
       have e1 : At (Ty.bool (lessB r b (m + 1))) tx ax (.tmp 32) := d0 rfl
       refine run_guard (T := (Ty.nat b)) okx rfl rfl (by decide) e1 (fun hg => ?_)
       exact y_move (kp (sm 4 rfl) hs q63)
     · intro ax tx hs okx sm d0 d1 d2
       have e2 : At (Ty.grd ((lessB r b (m + 1)) = true) (Ty.nat (itr r b (m + 1)))) tx ax (.tmp 33) := d0 rfl
       have e3 : At (Ty.grd ((lessB r b (m + 1)) = true) (Ty.nat b)) tx ax (.tmp 34) := d1 rfl
       have e1 : At (Ty.bool (lessB r b (m + 1))) tx ax (.tmp 32) := d2 rfl
       refine run_guard (T := (Ty.bool (decide (((b : Nat) : Int) < (((itr r b (m + 1)) : Nat) : Int))))) okx rfl rfl (by decide) e1 (fun hg => ?_)
       exact y_gtr (e2.1 hg) (e3.1 hg)
     · intro ax tx hs okx sm d0 d1
       have e1 : At (Ty.bool (lessB r b (m + 1))) tx ax (.tmp 32) := d0 rfl
       have e4 : At (Ty.grd ((lessB r b (m + 1)) = true) (Ty.bool (decide (((b : Nat) : Int) < (((itr r b (m + 1)) : Nat) : Int))))) tx ax (.tmp 35) := d1 rfl
       exact run_plain rfl (y_pick_and e1 e4 rfl)
     · intro ax tx hs okx sm d0 d1 d2 d3 d4 d5 d6 d7
       have e5 : At (Ty.bool ((lessB r b (m + 1)) && (decide (((b : Nat) : Int) < (((itr r b (m + 1)) : Nat) : Int))))) tx ax (.tmp 36) := d0 rfl
       have e1 : At (Ty.bool (lessB r b (m + 1))) tx ax (.tmp 32) := d1 rfl
       have e0 : At (Ty.bool (lessB r b (m + 1))) tx ax (.tmp 31) := d2 rfl
       have e2 : At (Ty.grd ((lessB r b (m + 1)) = true) (Ty.nat (itr r b (m + 1)))) tx ax (.tmp 33) := d4 rfl
       have e3 : At (Ty.grd ((lessB r b (m + 1)) = true) (Ty.nat b)) tx ax (.tmp 34) := d5 rfl
       have e4 : At (Ty.grd ((lessB r b (m + 1)) = true) (Ty.bool (decide (((b : Nat) : Int) < (((itr r b (m + 1)) : Nat) : Int))))) tx ax (.tmp 35) := d6 rfl
       exact run_plain rfl (y_assign e5)
     intro a17 s13 D10
     have ok15 := D10.ok
     have F15 := F14.step0 D10.stp
     have q67 : At (Ty.nat (itr r b (m + 1))) s13 a17 (.tmp 7) := D10.kt q62 rfl
     have q68 : At (Ty.nat b) s13 a17 (.tmp 4) := D10.kt q63 rfl
     have q69 : At (Ty.val x3_0) s13 a17 (.tmp 3) := D10.kt q64 rfl
     have q70 : At (Ty.lst Ty.int r) s13 a17 (.tmp 0) := D10.kt q65 rfl
     have q71 : At (Ty.val x2) s13 a17 (.tmp 5) := D10.kt q66 rfl
     have o22 := Own.k0 o20 D10.stp
     have o23 := Own.k0 o21 D10.stp
     have q72 : At (Ty.bool ((lessB r b (m + 1)) && (decide (((b : Nat) : Int) < (((itr r b (m + 1)) : Nat) : Int))))) s13 a17 (.tmp 6) := D10.done 6
     clear D10
     refine bn ?_
     refine tn ?_
     refine reg (a := a17) (σ := s13) rfl (fun i_ => List.getD [(Ty.pr (Ty.lst Ty.int r)), (Ty.pr (Ty.nat (itr r b (m + 1)))), (Ty.pr (Ty.ref [(Ty.int (r.getD (itr r b (m + 1)) 0))])), (Ty.pr (Ty.int (r.getD (itr r b (m + 1)) 0))), (Ty.pr (Ty.int (r.getD (itr r b (m + 1)) 0)))] i_ Pr.any) ok15 rfl ⟨?_, ?_, ?_, ?_, ?_, trivial⟩ ?_
     · intro ax tx hs okx sm
       exact run_plain rfl (y_move (kp (sm 0 rfl) hs q70))
     · intro ax tx hs okx sm
       exact run_plain rfl (y_move (kp (sm 7 rfl) hs q67))
     · intro ax tx hs okx sm d0 d1
       have e0 : At (Ty.lst Ty.int r) tx ax (.tmp 23) := d0 rfl
       have e1 : At (Ty.nat (itr r b (m + 1))) tx ax (.tmp 24) := d1 rfl
       exact run_plain rfl (y_index1 Try.underlying34 Try.inf3 e0 e1 (by omega) (lst_get Ty.int r 0 (itr r b (m + 1)) (by omega)))
     · intro ax tx hs okx sm d0
       have e2 : At (Ty.ref [(Ty.int (r.getD (itr r b (m + 1)) 0))]) tx ax (.tmp 25) := d0 rfl
       exact run_plain rfl (y_load Try.underlying3 rfl e2 rfl)
     · intro ax tx hs okx sm d0 d1 d2 d3 d4
       have e3 : At (Ty.int (r.getD (itr r b (m + 1)) 0)) tx ax (.tmp 26) := d0 rfl
       have e0 : At (Ty.lst Ty.int r) tx ax (.tmp 23) := d1 rfl
       have e1 : At (Ty.nat (itr r b (m + 1))) tx ax (.tmp 24) := d2 rfl
       have e2 : At (Ty.ref [(Ty.int (r.getD (itr r b (m + 1)) 0))]) tx ax (.tmp 25) := d3 rfl
       exact run_plain rfl (y_assign e3)
     intro a18 s14 D11
     have ok16 := D11.ok
     have F16 := F15.step0 D11.stp
     have q73 : At (Ty.nat b) s14 a18 (.tmp 4) := D11.kt q68 rfl
     have q74 : At (Ty.val x3_0) s14 a18 (.tmp 3) := D11.kt q69 rfl
     have q75 : At (Ty.lst Ty.int r) s14 a18 (.tmp 0) := D11.kt q70 rfl
     have q76 : At (Ty.val x2) s14 a18 (.tmp 5) := D11.kt q71 rfl
     have q77 : At (Ty.bool ((lessB r b (m + 1)) && (decide (((b : Nat) : Int) < (((itr r b (m + 1)) : Nat) : Int))))) s14 a18 (.tmp 6) := D11.kt q72 rfl
     have o24 := Own.k0 o22 D11.stp
     have o25 := Own.k0 o23 D11.stp
     have q78 : At (Ty.int (r.getD (itr r b (m + 1)) 0)) s14 a18 (.tmp 7) := D11.done 4
     clear D11
     exact tn ⟨per r b - ((m + 1)), by omega, s14, (m + 1), x2, rfl, F16, ok16, q76, (cvb (by (rw [lessB_succ hne])) q77), (cvi (by (exact (nxt_int hr (by omega)).symm)) q78), q73, q74, q75, (cvo (by (rw [orbTo_succ r b (m + 1)])) (by (rw [orbTo_succ r b (m + 1)])) o25), o24, cr_go hr (by omega) hm hne, rfl⟩
    ·
     have hpe := cr_end hr (show b < r.length by omega) hm (by omega)
     refine wp_exit ?_
     refine tx ?_
     refine tx ?_
     refine bx ?_
     refine tn ?_
     refine wp_seq ?_
     refine reg (a := a13) (σ := s9) rfl (fun i_ => List.getD [(Ty.pr (Ty.bool (lessB r b (m + 1))))] i_ Pr.any) ok11 rfl ⟨?_, trivial⟩ ?_
     · intro ax tx hs okx sm
       exact run_plain rfl (y_move (kp (sm 6 rfl) hs q40))
     intro a19 s15 D12
     have ok17 := D12.ok
     have F17 := F11.step0 D12.stp
     have q79 : At (Ty.val x5_1) s15 a19 (.tmp 5) := D12.kt q39 rfl
     have q80 : At (Ty.nat b) s15 a19 (.tmp 4) := D12.kt q42 rfl
     have q81 : At (Ty.val x3_0) s15 a19 (.tmp 3) := D12.kt q43 rfl
     have q82 : At (Ty.lst Ty.int r) s15 a19 (.tmp 0) := D12.kt q44 rfl
     have o26 := Own.k0 o14 D12.stp
     have o27 := Own.k0 o15 D12.stp
     have q83 : At (Ty.bool (lessB r b (m + 1))) s15 a19 (.tmp 37) := D12.done 0
     clear D12
     refine tn ?_
     refine cond_t q83 (fun c3 => ?_) (fun c3 => ?_)
     ·
      have hls : least r b = true := by rw [← lessB_per, ← hpe]; exact c3
      obtain ⟨t5, e1, h1, q84⟩ := Own.seal o26 (by decide)
      rw [← e1]
      have F18 := F17.step h1 (by decide)
      have o28 := Own.keepL o27 (h1.toL (L := [6]) (by simp)) (by decide) (by decide)
      have q85 : At (Ty.lst Ty.int (orbTo r b (m + 1))) t5 a19 (.tmp 5) := by have e : a19.eval (.tmp 5) = x5_1 := q79; show Ty.has _ _ _; rw [e]; exact q84
      have q86 := Ty.up (Ty.nat b) (h1.le (by decide)) q80
      have q87 := Ty.up (Ty.val x3_0) (h1.le (by decide)) q81
      have q88 := Ty.up (Ty.lst Ty.int r) (h1.le (by decide)) q82
      have q89 := Ty.up (Ty.bool (lessB r b (m + 1))) (h1.le (by decide)) q83
      refine reg2 (a := a19) (σ := t5) rfl 3 (fun i_ => List.getD [(Ty.pr (Ty.val x3_0)), (Ty.pr (Ty.lst Ty.int (orbTo r b (m + 1)))), (Ty.pr (Ty.sl 1 1 [(Ty.lst Ty.int (orbTo r b (m + 1)))]))] i_ Pr.any) ok17 rfl (by decide) rfl ⟨?_, ?_, ?_, trivial⟩ ?_
      · intro ax tx hs okx sm
        exact run_plain rfl (y_move (kp (sm 3 rfl) hs q87))
      · intro ax tx hs okx sm
        exact run_plain rfl (y_move (kp (sm 5 rfl) hs q85))
      · intro ax tx hs okx sm d0
        have e1 : At (Ty.lst Ty.int (orbTo r b (m + 1))) tx ax (.tmp 39) := d0 rfl
        exact run_plain rfl (y_build1o Try.underlying33 Try.inf34 rfl (one_sl) e1)
      intro a20 s16 D13
      have ok18 := D13.ok
      have F19 := F18.step0 D13.stp
      have q90 : At (Ty.nat b) s16 a20 (.tmp 4) := D13.kt q86 rfl
      have q91 : At (Ty.val x3_0) s16 a20 (.tmp 3) := D13.kt q87 rfl
      have q92 : At (Ty.lst Ty.int r) s16 a20 (.tmp 0) := D13.kt q88 rfl
      have o29 := Own.k0 o28 D13.stp
      have q93 : At (Ty.val x3_0) s16 a20 (.tmp 38) := D13.done 0 (by decide)
      have q94 : At (Ty.sl 1 1 [(Ty.lst Ty.int (orbTo r b (m + 1)))]) s16 a20 (.tmp 40) := D13.done 2 (by decide)
      have b3 := sl_le q94
      clear D13
      refine tailL (L := [5]) (R := (fun v τ => Own τ 5 34 1 v ((List.length (cyclesTo r b)) + 1) ((List.map Ty.ints (cyclesTo r b)) ++ [(Ty.lst Ty.int (orbTo r b (m + 1)))]))) rfl rfl (by decide) ok18 (YldM.toL (m_append Try.underlying33 Try.inf34 (by decide) rfl (by decide) (al (R := (Pr.own 5 34 1 (List.length (cyclesTo r b)) (List.map Ty.ints (cyclesTo r b)))) q93 o29) q94 (by intro U hU; simp at hU; subst hU; exact one_sl) (by omega) (by omega))) (fun a21 s17 hs4 ok19 r4 sm4 => ?_)
      have F20 := F19.stepL hs4 (by decide)
      have q95 : At (Ty.nat b) s17 a21 (.tmp 4) := kpL hs4 (by decide) (sm4 4 (by decide)) q90
      have q96 : At (Ty.val x3_0) s17 a21 (.tmp 3) := kpL hs4 (by decide) (sm4 3 (by decide)) q91
      have q97 : At (Ty.lst Ty.int r) s17 a21 (.tmp 0) := kpL hs4 (by decide) (sm4 0 (by decide)) q92
      obtain ⟨x3, hx3⟩ : ∃ x, a21.eval (.tmp 41) = x := ⟨_, rfl⟩
      have q98 : At (Ty.val x3) s17 a21 (.tmp 41) := hx3
      have o30 : Own s17 5 34 1 x3 (List.length ((cyclesTo r b) ++ [(orbTo r b (m + 1))])) (List.map Ty.ints ((cyclesTo r b) ++ [(orbTo r b (m + 1))])) := al2 (R := (Pr.own 5 34 1 (List.length ((cyclesTo r b) ++ [(orbTo r b (m + 1))])) (List.map Ty.ints ((cyclesTo r b) ++ [(orbTo r b (m + 1))])))) hx3 (cvo (by simp) (by first | (rw [List.map_append]; rfl) | simp) r4)
      clear r4
      refine tailL (L := []) (R := (fun v τ => Pr.has (Ty.pr (Ty.val x3)) τ v)) rfl rfl (by decide) ok19 (Yld.toL (y_assign q98)) (fun a22 s18 hs5 ok20 r5 sm5 => ?_)
      have F21 := F20.stepL hs5 (by decide)
      have q99 : At (Ty.nat b) s18 a22 (.tmp 4) := kpL hs5 (by decide) (sm5 4 (by decide)) q95
      have q100 : At (Ty.lst Ty.int r) s18 a22 (.tmp 0) := kpL hs5 (by decide) (sm5 0 (by decide)) q97
      have o31 := Own.keepL o30 hs5 (by decide) (by decide)
      have q101 : At (Ty.val x3) s18 a22 (.tmp 3) := r5
      clear r5
      refine wpList_nil ?_
      refine bn ?_
      refine tn ?_
      refine reg (a := a22) (σ := s18) rfl (fun i_ => List.getD [(Ty.pr (Ty.nat b)), (Ty.pr (Ty.nat (b + 1))), (Ty.pr (Ty.nat (b + 1)))] i_ Pr.any) ok20 rfl ⟨?_, ?_, ?_, trivial⟩ ?_
      · intro ax tx hs okx sm
        exact run_plain rfl (y_move (kp (sm 4 rfl) hs q99))
      · intro ax tx hs okx sm d0
        have e0 : At (Ty.nat b) tx ax (.tmp 12) := d0 rfl
        exact run_plain rfl ((y_add e0 rfl (w64 (by omega) (by omega))).mono (fun τ _ h => cvi (σ := τ) (by first | omega | exact (Int.natCast_mul _ _).symm) h))
      · intro ax tx hs okx sm d0 d1 d2
        have e1 : At (Ty.nat (b + 1)) tx ax (.tmp 13) := d0 rfl
        have e0 : At (Ty.nat b) tx ax (.tmp 12) := d1 rfl
        exact run_plain rfl (y_assign e1)
      intro a23 s19 D14
      have ok21 := D14.ok
      have F22 := F21.step0 D14.stp
      have q102 : At (Ty.lst Ty.int r) s19 a23 (.tmp 0) := D14.kt q100 rfl
      have q103 : At (Ty.val x3) s19 a23 (.tmp 3) := D14.kt q101 rfl
      have o32 := Own.k0 o31 D14.stp
      have q104 : At (Ty.nat (b + 1)) s19 a23 (.tmp 4) := D14.done 2
      clear D14
      exact tn ⟨r.length - ((b+1)), by omega, s19, (b+1), x3, rfl, F22, ok21, (cvi (by (first | rfl | omega | (simp_all; done) | (simp_all; omega))) q104), q103, q102, (cvo (by (rw [cyclesTo_yes r b hls, hpe, orbTo_per])) (by (rw [cyclesTo_yes r b hls, hpe, orbTo_per])) o32), by omega, rfl⟩
     ·
      have hls : least r b = false := by rw [← lessB_per, ← hpe]; exact c3
      refine wp_skip ?_
      refine bn ?_
      refine tn ?_
      refine reg (a := a19) (σ := s15) rfl (fun i_ => List.getD [(Ty.pr (Ty.nat b)), (Ty.pr (Ty.nat (b + 1))), (Ty.pr (Ty.nat (b + 1)))] i_ Pr.any) ok17 rfl ⟨?_, ?_, ?_, trivial⟩ ?_
      · intro ax tx hs okx sm
        exact run_plain rfl (y_move (kp (sm 4 rfl) hs q80))
      · intro ax tx hs okx sm d0
        have e0 : At (Ty.nat b) tx ax (.tmp 12) := d0 rfl
        exact run_plain rfl ((y_add e0 rfl (w64 (by omega) (by omega))).mono (fun τ _ h => cvi (σ := τ) (by first | omega | exact (Int.natCast_mul _ _).symm) h))
      · intro ax tx hs okx sm d0 d1 d2
        have e1 : At (Ty.nat (b + 1)) tx ax (.tmp 13) := d0 rfl
        have e0 : At (Ty.nat b) tx ax (.tmp 12) := d1 rfl
        exact run_plain rfl (y_assign e1)
      intro a24 s20 D15
      have ok22 := D15.ok
      have F23 := F17.step0 D15.stp
      have q105 : At (Ty.val x3_0) s20 a24 (.tmp 3) := D15.kt q81 rfl
      have q106 : At (Ty.lst Ty.int r) s20 a24 (.tmp 0) := D15.kt q82 rfl
      have o33 := Own.k0 o26 D15.stp
      have o34 := Own.k0 o27 D15.stp
      have q107 : At (Ty.nat (b + 1)) s20 a24 (.tmp 4) := D15.done 2
      clear D15
      exact tn ⟨r.length - ((b+1)), by omega, s20, (b+1), x3_0, rfl, F23, ok22, (cvi (by (first | rfl | omega | (simp_all; done) | (simp_all; omega))) q107), q105, q106, (cvo (by (rw [cyclesTo_no r b hls])) (by (rw [cyclesTo_no r b hls])) o34), by omega, rfl⟩
  ·
   have hbe : b = r.length := by omega
   refine wp_exit ?_
   refine tx ?_
   refine tx ?_
   refine bx ?_
   refine tn ?_
   refine wp_seq ?_
   refine reg (a := a6) (σ := s4) rfl (fun i_ => List.getD [(Ty.pr (Ty.val x3_0)), (Ty.pr (Ty.val x3_0))] i_ Pr.any) ok5 rfl ⟨?_, ?_, trivial⟩ ?_
   · intro ax tx hs okx sm
     exact run_plain rfl (y_move (kp (sm 3 rfl) hs q11))
   · intro ax tx hs okx sm d0 d1
     have e0 : At (Ty.val x3_0) tx ax (.tmp 42) := d0 rfl
     exact run_plain rfl (y_assign e0)
   intro a25 s21 D16
   have ok23 := D16.ok
   have F24 := F5.step0 D16.stp
   have o35 := Own.k0 o3 D16.stp
   have q108 : At (Ty.val x3_0) s21 a25 (.tmp 2) := D16.done 1
   clear D16
   refine tn ?_
   refine wp_ret ?_
   obtain ⟨t6, e2, h2, q109⟩ := Own.seal o35 (by decide)
   rw [← e2]
   have F25 := F24.step h2 (by decide)
   have q110 : At (Ty.lst Ty.ints (cyclesTo r b)) t6 a25 (.tmp 2) := by have e : a25.eval (.tmp 2) = x3_0 := q108; show Ty.has _ _ _; rw [e]; exact q109
   exact retL1 rfl ok23 F25 (cvt (by (rw [hbe]; rfl)) q110)


set_option maxHeartbeats 4000000 in
set_option maxRecDepth 100000 in
theorem rSameAll_fn (a : List (List Int)) (b : List (List Int)) (σ : GW)  (v0 v1 : Value) (hv0 : Ty.has (Ty.lst Ty.ints a) σ v0) (hv1 : Ty.has (Ty.lst Ty.ints b) σ v1)   :
    FnC Try.prog 45 #[v0, v1] σ (Ty.bool (decide (a = b))) := by
 refine fn_intro0 Try.func45 rfl Try.ntmps45 (Nat.le_of_ble_eq_true rfl) (fun s0 a0 hle F0 ok0 hargs => ?_)
 have p0 : At (Ty.lst Ty.ints a) s0 a0 (.tmp 0) := by have e := hargs 0 _ rfl; show Ty.has _ _ _; rw [e]; exact Ty.up _ hle hv0
 have b1 := sl_le p0
 have p1 : At (Ty.lst Ty.ints b) s0 a0 (.tmp 1) := by have e := hargs 1 _ rfl; show Ty.has _ _ _; rw [e]; exact Ty.up _ hle hv1
 have b2 := sl_le p1
 clear hargs
 refine wp_seq ?_
 refine reg (a := a0) (σ := s0) rfl (fun i_ => List.getD [(Ty.pr (Ty.bool false))] i_ Pr.any) ok0 rfl ⟨?_, trivial⟩ ?_
 · intro ax tx hs okx sm
   exact run_plain rfl (y_assign rfl)
 intro a1 s1 D1
 have ok1 := D1.ok
 have F1 := F0.step0 D1.stp
 have q1 : At (Ty.lst Ty.ints a) s1 a1 (.tmp 0) := D1.kt p0 rfl
 have q2 : At (Ty.lst Ty.ints b) s1 a1 (.tmp 1) := D1.kt p1 rfl
 clear D1
 refine tn ?_
 refine wp_seq ?_
 refine wp_seq ?_
 refine reg (a := a1) (σ := s1) rfl (fun i_ => List.getD [(Ty.pr (Ty.lst Ty.ints a)), (Ty.pr (Ty.nat (List.length a))), (Ty.pr (Ty.lst Ty.ints b)), (Ty.pr (Ty.nat (List.length b))), (Ty.pr (Ty.bool (decide ((((List.length a) : Nat) : Int) ≠ (((List.length b) : Nat) : Int)))))] i_ Pr.any) ok1 rfl ⟨?_, ?_, ?_, ?_, ?_, trivial⟩ ?_
 · intro ax tx hs okx sm
   exact run_plain rfl (y_move (kp (sm 0 rfl) hs q1))
 · intro ax tx hs okx sm d0
   have e0 : At (Ty.lst Ty.ints a) tx ax (.tmp 7) := d0 rfl
   exact run_plain rfl (y_len Try.underlying33 e0)
 · intro ax tx hs okx sm
   exact run_plain rfl (y_move (kp (sm 1 rfl) hs q2))
 · intro ax tx hs okx sm d0
   have e2 : At (Ty.lst Ty.ints b) tx ax (.tmp 9) := d0 rfl
   exact run_plain rfl (y_len Try.underlying33 e2)
 · intro ax tx hs okx sm d0 d1
   have e1 : At (Ty.nat (List.length a)) tx ax (.tmp 8) := d0 rfl
   have e3 : At (Ty.nat (List.length b)) tx ax (.tmp 10) := d1 rfl
   exact run_plain rfl (y_neq e1 e3)
 intro a2 s2 D2
 have ok2 := D2.ok
 have F2 := F1.step0 D2.stp
 have q3 : At (Ty.lst Ty.ints a) s2 a2 (.tmp 0) := D2.kt q1 rfl
 have q4 : At (Ty.lst Ty.ints b) s2 a2 (.tmp 1) := D2.kt q2 rfl
 have q5 : At (Ty.bool (decide ((((List.length a) : Nat) : Int) ≠ (((List.length b) : Nat) : Int)))) s2 a2 (.tmp 11) := D2.done 4
 clear D2
 refine tn ?_
 refine cond_p (p := ((((List.length a) : Nat) : Int) ≠ (((List.length b) : Nat) : Int))) q5 (fun c1 => ?_) (fun c1 => ?_)
 ·
  refine wp_seq ?_
  refine reg (a := a2) (σ := s2) rfl (fun i_ => List.getD [(Ty.pr (Ty.bool false))] i_ Pr.any) ok2 rfl ⟨?_, trivial⟩ ?_
  · intro ax tx hs okx sm
    exact run_plain rfl (y_assign rfl)
  intro a3 s3 D3
  have ok3 := D3.ok
  have F3 := F2.step0 D3.stp
  have q6 : At (Ty.bool false) s3 a3 (.tmp 4) := D3.done 0
  clear D3
  refine tn ?_
  refine wp_ret ?_
  refine tr ?_
  exact retL1 rfl ok3 F3 (cvb (by (rw [decide_eq_false]; intro e; subst e; omega)) q6)
 ·
  refine wp_skip ?_
  refine tn ?_
  refine wp_seq ?_
  refine wp_seq ?_
  refine reg (a := a2) (σ := s2) rfl (fun i_ => List.getD [(Ty.pr (Ty.int (0 : Int)))] i_ Pr.any) ok2 rfl ⟨?_, trivial⟩ ?_
  · intro ax tx hs okx sm
    exact run_plain rfl (y_assign rfl)
  intro a4 s4 D4
  have ok4 := D4.ok
  have F4 := F2.step0 D4.stp
  have q7 : At (Ty.lst Ty.ints a) s4 a4 (.tmp 0) := D4.kt q3 rfl
  have q8 : At (Ty.lst Ty.ints b) s4 a4 (.tmp 1) := D4.kt q4 rfl
  have q9 : At (Ty.int (0 : Int)) s4 a4 (.tmp 5) := D4.done 0
  clear D4
  refine tn ?_
  refine wp_block ?_
  refine loop (fun n1 a5 w1 => ∃ (t1 : GW) (k : Nat), t1.w = w1 ∧ FromL [] s0 t1 ∧ Ok 29 a5 ∧ At (Ty.nat k) t1 a5 (.tmp 5) ∧ At (Ty.lst Ty.ints a) t1 a5 (.tmp 0) ∧ At (Ty.lst Ty.ints b) t1 a5 (.tmp 1) ∧ (k ≤ a.length) ∧ (a.length = b.length) ∧ (∀ j, j < k → a.getD j [] = b.getD j []) ∧ n1 = a.length - k) (a.length - (0)) ?_ ?_
  ·
   exact ⟨s4, 0, rfl, F4, ok4, (cvi (by (first | rfl | omega | (simp_all; done) | (simp_all; omega))) q9), q7, q8, by omega, by omega, fun j hj => absurd hj (Nat.not_lt_zero j), rfl⟩
  ·
   rintro n2 a6 w2 ⟨t2, k, rfl, F5, ok5, q10, q11, q12, hk, hl, heq, rfl⟩
   refine wp_seq ?_
   refine wp_seq ?_
   refine reg (a := a6) (σ := t2) rfl (fun i_ => List.getD [(Ty.pr (Ty.nat k)), (Ty.pr (Ty.lst Ty.ints a)), (Ty.pr (Ty.nat (List.length a))), (Ty.pr (Ty.bool (decide (((k : Nat) : Int) < (((List.length a) : Nat) : Int)))))] i_ Pr.any) ok5 rfl ⟨?_, ?_, ?_, ?_, trivial⟩ ?_
   · intro ax tx hs okx sm
     exact run_plain rfl (y_move (kp (sm 5 rfl) hs q10))
   · intro ax tx hs okx sm
     exact run_plain rfl (y_move (kp (sm 0 rfl) hs q11))
   · intro ax tx hs okx sm d0
     have e1 : At (Ty.lst Ty.ints a) tx ax (.tmp 13) := d0 rfl
     exact run_plain rfl (y_len Try.underlying33 e1)
   · intro ax tx hs okx sm d0 d1
     have e0 : At (Ty.nat k) tx ax (.tmp 12) := d0 rfl
     have e2 : At (Ty.nat (List.length a)) tx ax (.tmp 14) := d1 rfl
     exact run_plain rfl (y_lss e0 e2)
   intro a7 s5 D5
   have ok6 := D5.ok
   have F6 := F5.step0 D5.stp
   have q13 : At (Ty.nat k) s5 a7 (.tmp 5) := D5.kt q10 rfl
   have q14 : At (Ty.lst Ty.ints a) s5 a7 (.tmp 0) := D5.kt q11 rfl
   have q15 : At (Ty.lst Ty.ints b) s5 a7 (.tmp 1) := D5.kt q12 rfl
   have q16 : At (Ty.bool (decide (((k : Nat) : Int) < (((List.length a) : Nat) : Int)))) s5 a7 (.tmp 15) := D5.done 3
   clear D5
   refine tn ?_
   refine cond_p (p := (((k : Nat) : Int) < (((List.length a) : Nat) : Int))) q16 (fun c2 => ?_) (fun c2 => ?_)
   ·
    refine wp_skip ?_
    refine tn ?_
    refine wp_seq ?_
    refine wp_block ?_
    refine wp_seq ?_
    refine reg (a := a7) (σ := s5) rfl (fun i_ => List.getD [(Ty.pr (Ty.lst Ty.ints a)), (Ty.pr (Ty.nat k)), (Ty.pr (Ty.ref [(Ty.lst Ty.int (a.getD k []))])), (Ty.pr (Ty.lst Ty.int (a.getD k []))), (Ty.pr (Ty.lst Ty.ints b)), (Ty.pr (Ty.nat k)), (Ty.pr (Ty.ref [(Ty.lst Ty.int (b.getD k []))])), (Ty.pr (Ty.lst Ty.int (b.getD k []))), (Ty.pr (Ty.bool (decide (((a.getD k [])) = ((b.getD k [])))))), (Ty.pr (Ty.bool (decide (((a.getD k [])) = ((b.getD k []))))))] i_ Pr.any) ok6 rfl ⟨?_, ?_, ?_, ?_, ?_, ?_, ?_, ?_, ?_, ?_, trivial⟩ ?_
    · intro ax tx hs okx sm
      exact run_plain rfl (y_move (kp (sm 0 rfl) hs q14))
    · intro ax tx hs okx sm
      exact run_plain rfl (y_move (kp (sm 5 rfl) hs q13))
    · intro ax tx hs okx sm d0 d1
      have e0 : At (Ty.lst Ty.ints a) tx ax (.tmp 18) := d0 rfl
      have e1 : At (Ty.nat k) tx ax (.tmp 19) := d1 rfl
      exact run_plain rfl (y_index1 Try.underlying33 Try.inf34 e0 e1 (by omega) (lst_get Ty.ints a [] k (by omega)))
    · intro ax tx hs okx sm d0
      have e2 : At (Ty.ref [(Ty.lst Ty.int (a.getD k []))]) tx ax (.tmp 20) := d0 rfl
      exact run_plain rfl (y_load Try.underlying34 rfl e2 rfl)
    · intro ax tx hs okx sm
      exact run_plain rfl (y_move (kp (sm 1 rfl) hs q15))
    · intro ax tx hs okx sm
      exact run_plain rfl (y_move (kp (sm 5 rfl) hs q13))
    · intro ax tx hs okx sm d0 d1
      have e4 : At (Ty.lst Ty.ints b) tx ax (.tmp 22) := d0 rfl
      have e5 : At (Ty.nat k) tx ax (.tmp 23) := d1 rfl
      exact run_plain rfl (y_index1 Try.underlying33 Try.inf34 e4 e5 (by omega) (lst_get Ty.ints b [] k (by omega)))
    · intro ax tx hs okx sm d0
      have e6 : At (Ty.ref [(Ty.lst Ty.int (b.getD k []))]) tx ax (.tmp 24) := d0 rfl
      exact run_plain rfl (y_load Try.underlying34 rfl e6 rfl)
    · intro ax tx hs okx sm d0 d1
      have e3 : At (Ty.lst Ty.int (a.getD k [])) tx ax (.tmp 21) := d0 rfl
      have e7 : At (Ty.lst Ty.int (b.getD k [])) tx ax (.tmp 25) := d1 rfl
      exact run_plain rfl (y_call #[ax.eval (.tmp 21), ax.eval (.tmp 25)] Try.func25 rfl rfl (by simp only [List.map_toArray, List.map_cons, List.map_nil]) (rsame_fn ((a.getD k [])) ((b.getD k [])) _ _ _ e3 e7 ))
    · intro ax tx hs okx sm d0 d1 d2 d3 d4 d5 d6 d7 d8 d9 d10
      have e8 : At (Ty.bool (decide (((a.getD k [])) = ((b.getD k []))))) tx ax (.tmp 26) := d0 rfl
      have e0 : At (Ty.lst Ty.ints a) tx ax (.tmp 18) := d2 rfl
      have e1 : At (Ty.nat k) tx ax (.tmp 19) := d3 rfl
      have e2 : At (Ty.ref [(Ty.lst Ty.int (a.getD k []))]) tx ax (.tmp 20) := d4 rfl
      have e3 : At (Ty.lst Ty.int (a.getD k [])) tx ax (.tmp 21) := d5 rfl
      have e4 : At (Ty.lst Ty.ints b) tx ax (.tmp 22) := d6 rfl
      have e5 : At (Ty.nat k) tx ax (.tmp 23) := d7 rfl
      have e6 : At (Ty.ref [(Ty.lst Ty.int (b.getD k []))]) tx ax (.tmp 24) := d8 rfl
      have e7 : At (Ty.lst Ty.int (b.getD k [])) tx ax (.tmp 25) := d9 rfl
      exact run_plain rfl (y_assign e8)
    intro a8 s6 D6
    have ok7 := D6.ok
    have F7 := F6.step0 D6.stp
    have q17 : At (Ty.nat k) s6 a8 (.tmp 5) := D6.kt q13 rfl
    have q18 : At (Ty.lst Ty.ints a) s6 a8 (.tmp 0) := D6.kt q14 rfl
    have q19 : At (Ty.lst Ty.ints b) s6 a8 (.tmp 1) := D6.kt q15 rfl
    have q20 : At (Ty.bool (decide (((a.getD k [])) = ((b.getD k []))))) s6 a8 (.tmp 6) := D6.done 9
    clear D6
    refine tn ?_
    refine wp_seq ?_
    refine reg (a := a8) (σ := s6) rfl (fun i_ => List.getD [(Ty.pr (Ty.bool (decide (((a.getD k [])) = ((b.getD k [])))))), (Ty.pr (Ty.bool (!(decide (((a.getD k [])) = ((b.getD k [])))))))] i_ Pr.any) ok7 rfl ⟨?_, ?_, trivial⟩ ?_
    · intro ax tx hs okx sm
      exact run_plain rfl (y_move (kp (sm 6 rfl) hs q20))
    · intro ax tx hs okx sm d0
      have e0 : At (Ty.bool (decide (((a.getD k [])) = ((b.getD k []))))) tx ax (.tmp 27) := d0 rfl
      exact run_plain rfl (y_not e0)
    intro a9 s7 D7
    have ok8 := D7.ok
    have F8 := F7.step0 D7.stp
    have q21 : At (Ty.nat k) s7 a9 (.tmp 5) := D7.kt q17 rfl
    have q22 : At (Ty.lst Ty.ints a) s7 a9 (.tmp 0) := D7.kt q18 rfl
    have q23 : At (Ty.lst Ty.ints b) s7 a9 (.tmp 1) := D7.kt q19 rfl
    have q24 : At (Ty.bool (!(decide (((a.getD k [])) = ((b.getD k [])))))) s7 a9 (.tmp 28) := D7.done 1
    clear D7
    refine tn ?_
    refine cond_t q24 (fun c3 => ?_) (fun c3 => ?_)
    ·
     refine wp_seq ?_
     refine reg (a := a9) (σ := s7) rfl (fun i_ => List.getD [(Ty.pr (Ty.bool false))] i_ Pr.any) ok8 rfl ⟨?_, trivial⟩ ?_
     · intro ax tx hs okx sm
       exact run_plain rfl (y_assign rfl)
     intro a10 s8 D8
     have ok9 := D8.ok
     have F9 := F8.step0 D8.stp
     have q25 : At (Ty.bool false) s8 a10 (.tmp 4) := D8.done 0
     clear D8
     refine tn ?_
     refine wp_ret ?_
     refine br ?_
     refine tr ?_
     refine tr ?_
     refine br ?_
     refine tr ?_
     exact retL1 rfl ok9 F9 (cvb (by (exact (decide_eq_false (fun e => by subst e; simp at c3)).symm)) q25)
    ·
     refine wp_skip ?_
     refine bn ?_
     refine tn ?_
     refine reg (a := a9) (σ := s7) rfl (fun i_ => List.getD [(Ty.pr (Ty.nat k)), (Ty.pr (Ty.int (((k : Nat) : Int) + (1 : Int)))), (Ty.pr (Ty.int (((k : Nat) : Int) + (1 : Int))))] i_ Pr.any) ok8 rfl ⟨?_, ?_, ?_, trivial⟩ ?_
     · intro ax tx hs okx sm
       exact run_plain rfl (y_move (kp (sm 5 rfl) hs q21))
     · intro ax tx hs okx sm d0
       have e0 : At (Ty.nat k) tx ax (.tmp 16) := d0 rfl
       exact run_plain rfl (y_add e0 rfl (w64 (by omega) (by omega)))
     · intro ax tx hs okx sm d0 d1 d2
       have e1 : At (Ty.int (((k : Nat) : Int) + (1 : Int))) tx ax (.tmp 17) := d0 rfl
       have e0 : At (Ty.nat k) tx ax (.tmp 16) := d1 rfl
       exact run_plain rfl (y_assign e1)
     intro a11 s9 D9
     have ok10 := D9.ok
     have F10 := F8.step0 D9.stp
     have q26 : At (Ty.lst Ty.ints a) s9 a11 (.tmp 0) := D9.kt q22 rfl
     have q27 : At (Ty.lst Ty.ints b) s9 a11 (.tmp 1) := D9.kt q23 rfl
     have q28 : At (Ty.int (((k : Nat) : Int) + (1 : Int))) s9 a11 (.tmp 5) := D9.done 2
     clear D9
     exact tn ⟨a.length - ((k+1)), by omega, s9, (k+1), rfl, F10, ok10, (cvi (by (first | rfl | omega | (simp_all; done) | (simp_all; omega))) q28), q26, q27, by omega, by omega, all_snocs heq (by simpa using c3), rfl⟩
   ·
    refine wp_exit ?_
    refine tx ?_
    refine tx ?_
    refine bx ?_
    refine tn ?_
    refine wp_seq ?_
    refine reg (a := a7) (σ := s5) rfl (fun i_ => List.getD [(Ty.pr (Ty.bool true))] i_ Pr.any) ok6 rfl ⟨?_, trivial⟩ ?_
    · intro ax tx hs okx sm
      exact run_plain rfl (y_assign rfl)
    intro a12 s10 D10
    have ok11 := D10.ok
    have F11 := F6.step0 D10.stp
    have q29 : At (Ty.bool true) s10 a12 (.tmp 4) := D10.done 0
    clear D10
    refine tn ?_
    refine wp_ret ?_
    exact retL1 rfl ok11 F11 (cvb (by (exact (decide_eq_true (lists_ext (by omega) (fun j hj => heq j (by omega)))).symm)) q29)


set_option maxHeartbeats 4000000 in
set_option maxRecDepth 100000 in
theorem rFact_fn : ∀ (m : Nat) (n : Nat) (σ : GW)  (v0 : Value) (hv0 : Ty.has (Ty.nat n) σ v0)  (hm : m = n) (hn : n ≤ 12), FnC Try.prog 35 #[v0] σ (Ty.nat (fct n)) := by
 intro m
 induction m using Nat.strongRecOn with
 | _ m ih =>
 intro n σ v0 hv0 hm hn
 refine fn_intro0 Try.func35 rfl Try.ntmps35 (Nat.le_of_ble_eq_true rfl) (fun s0 a0 hle F0 ok0 hargs => ?_)
 have p0 : At (Ty.nat n) s0 a0 (.tmp 0) := by have e := hargs 0 _ rfl; show Ty.has _ _ _; rw [e]; exact Ty.up _ hle hv0
 clear hargs
 refine wp_seq ?_
 refine reg (a := a0) (σ := s0) rfl (fun i_ => List.getD [(Ty.pr (Ty.int (0 : Int)))] i_ Pr.any) ok0 rfl ⟨?_, trivial⟩ ?_
 · intro ax tx hs okx sm
   exact run_plain rfl (y_assign rfl)
 intro a1 s1 D1
 have ok1 := D1.ok
 have F1 := F0.step0 D1.stp
 have q1 : At (Ty.nat n) s1 a1 (.tmp 0) := D1.kt p0 rfl
 clear D1
 refine tn ?_
 refine wp_seq ?_
 refine wp_seq ?_
 refine reg (a := a1) (σ := s1) rfl (fun i_ => List.getD [(Ty.pr (Ty.nat n)), (Ty.pr (Ty.bool (decide (((n : Nat) : Int) < (2 : Int)))))] i_ Pr.any) ok1 rfl ⟨?_, ?_, trivial⟩ ?_
 · intro ax tx hs okx sm
   exact run_plain rfl (y_move (kp (sm 0 rfl) hs q1))
 · intro ax tx hs okx sm d0
   have e0 : At (Ty.nat n) tx ax (.tmp 3) := d0 rfl
   exact run_plain rfl (y_lss e0 rfl)
 intro a2 s2 D2
 have ok2 := D2.ok
 have F2 := F1.step0 D2.stp
 have q2 : At (Ty.nat n) s2 a2 (.tmp 0) := D2.kt q1 rfl
 have q3 : At (Ty.bool (decide (((n : Nat) : Int) < (2 : Int)))) s2 a2 (.tmp 4) := D2.done 1
 clear D2
 refine tn ?_
 refine cond_p (p := (((n : Nat) : Int) < (2 : Int))) q3 (fun c1 => ?_) (fun c1 => ?_)
 ·
  refine wp_seq ?_
  refine reg (a := a2) (σ := s2) rfl (fun i_ => List.getD [(Ty.pr (Ty.int (1 : Int)))] i_ Pr.any) ok2 rfl ⟨?_, trivial⟩ ?_
  · intro ax tx hs okx sm
    exact run_plain rfl (y_assign rfl)
  intro a3 s3 D3
  have ok3 := D3.ok
  have F3 := F2.step0 D3.stp
  have q4 : At (Ty.int (1 : Int)) s3 a3 (.tmp 2) := D3.done 0
  clear D3
  refine tn ?_
  refine wp_ret ?_
  refine tr ?_
  exact retL1 rfl ok3 F3 (cvi (by (rw [fct_small (by omega)]; rfl)) q4)
 ·
  have hm2 : ((n : Nat) : Int) * ((fct (n - 1) : Nat) : Int) ≤ 479001600 ∧ 0 ≤ ((n : Nat) : Int) * ((fct (n - 1) : Nat) : Int) := (by have h1 := fct_le12 hn; have h2 := fct_rec (n := n) (by omega); rw [← Int.natCast_mul]; omega)
  refine wp_skip ?_
  refine tn ?_
  refine wp_seq ?_
  refine reg (a := a2) (σ := s2) rfl (fun i_ => List.getD [(Ty.pr (Ty.nat n)), (Ty.pr (Ty.nat n)), (Ty.pr (Ty.nat (n - 1))), (Ty.pr (Ty.nat (fct ((n - 1))))), (Ty.pr (Ty.nat (n * (fct ((n - 1)))))), (Ty.pr (Ty.nat (n * (fct ((n - 1))))))] i_ Pr.any) ok2 rfl ⟨?_, ?_, ?_, ?_, ?_, ?_, trivial⟩ ?_
  · intro ax tx hs okx sm
    exact run_plain rfl (y_move (kp (sm 0 rfl) hs q2))
  · intro ax tx hs okx sm
    exact run_plain rfl (y_move (kp (sm 0 rfl) hs q2))
  · intro ax tx hs okx sm d0
    have e1 : At (Ty.nat n) tx ax (.tmp 6) := d0 rfl
    exact run_plain rfl ((y_sub e1 rfl (w64 (by omega) (by omega))).mono (fun τ _ h => cvi (σ := τ) (by omega) h))
  · intro ax tx hs okx sm d0
    have e2 : At (Ty.nat (n - 1)) tx ax (.tmp 7) := d0 rfl
    exact run_plain rfl (y_call #[ax.eval (.tmp 7)] Try.func35 rfl rfl (by simp only [List.map_toArray, List.map_cons, List.map_nil]) (ih (((n - 1))) (by omega) ((n - 1)) _ _ (cvi (σ := tx) (by omega) e2) (by omega) (by omega)))
  · intro ax tx hs okx sm d0 d1
    have e0 : At (Ty.nat n) tx ax (.tmp 5) := d0 rfl
    have e3 : At (Ty.nat (fct ((n - 1)))) tx ax (.tmp 8) := d1 rfl
    exact run_plain rfl ((y_mul e0 e3 (w64 (by omega) (by omega))).mono (fun τ _ h => cvi (σ := τ) (by first | omega | exact (Int.natCast_mul _ _).symm) h))
  · intro ax tx hs okx sm d0 d1 d2 d3 d4 d5 d6
    have e4 : At (Ty.nat (n * (fct ((n - 1))))) tx ax (.tmp 9) := d0 rfl
    have e3 : At (Ty.nat (fct ((n - 1)))) tx ax (.tmp 8) := d1 rfl
    have e0 : At (Ty.nat n) tx ax (.tmp 5) := d2 rfl
    have e1 : At (Ty.nat n) tx ax (.tmp 6) := d3 rfl
    have e2 : At (Ty.nat (n - 1)) tx ax (.tmp 7) := d4 rfl
    exact run_plain rfl (y_assign e4)
  intro a4 s4 D4
  have ok4 := D4.ok
  have F4 := F2.step0 D4.stp
  have q5 : At (Ty.nat (n * (fct ((n - 1))))) s4 a4 (.tmp 2) := D4.done 5
  clear D4
  refine tn ?_
  refine wp_ret ?_
  exact retL1 rfl ok4 F4 (cvi (by (rw [fct_rec (by omega)])) q5)


set_option maxHeartbeats 4000000 in
set_option maxRecDepth 100000 in
theorem rRank_fn (r : List Int) (σ : GW)  (v0 : Value) (hv0 : Ty.has (Ty.lst Ty.int r) σ v0)  (hr : IsRow r) :
    FnC Try.prog 47 #[v0] σ (Ty.nat (rankL r)) := by
 have hln := hr.le
 refine fn_intro0 Try.func47 rfl Try.ntmps47 (Nat.le_of_ble_eq_true rfl) (fun s0 a0 hle F0 ok0 hargs => ?_)
 have p0 : At (Ty.lst Ty.int r) s0 a0 (.tmp 0) := by have e := hargs 0 _ rfl; show Ty.has _ _ _; rw [e]; exact Ty.up _ hle hv0
 have b1 := sl_le p0
 clear hargs
 refine wp_seq ?_
 refine reg (a := a0) (σ := s0) rfl (fun i_ => List.getD [(Ty.pr (Ty.int (0 : Int)))] i_ Pr.any) ok0 rfl ⟨?_, trivial⟩ ?_
 · intro ax tx hs okx sm
   exact run_plain rfl (y_assign rfl)
 intro a1 s1 D1
 have ok1 := D1.ok
 have F1 := F0.step0 D1.stp
 have q1 : At (Ty.lst Ty.int r) s1 a1 (.tmp 0) := D1.kt p0 rfl
 clear D1
 refine tn ?_
 refine wp_seq ?_
 refine reg (a := a1) (σ := s1) rfl (fun i_ => List.getD [(Ty.pr (Ty.int (0 : Int)))] i_ Pr.any) ok1 rfl ⟨?_, trivial⟩ ?_
 · intro ax tx hs okx sm
   exact run_plain rfl (y_assign rfl)
 intro a2 s2 D2
 have ok2 := D2.ok
 have F2 := F1.step0 D2.stp
 have q2 : At (Ty.lst Ty.int r) s2 a2 (.tmp 0) := D2.kt q1 rfl
 have q3 : At (Ty.int (0 : Int)) s2 a2 (.tmp 3) := D2.done 0
 clear D2
 refine tn ?_
 refine wp_seq ?_
 refine wp_seq ?_
 refine reg (a := a2) (σ := s2) rfl (fun i_ => List.getD [(Ty.pr (Ty.int (0 : Int)))] i_ Pr.any) ok2 rfl ⟨?_, trivial⟩ ?_
 · intro ax tx hs okx sm
   exact run_plain rfl (y_assign rfl)
 intro a3 s3 D3
 have ok3 := D3.ok
 have F3 := F2.step0 D3.stp
 have q4 : At (Ty.lst Ty.int r) s3 a3 (.tmp 0) := D3.kt q2 rfl
 have q5 : At (Ty.int (0 : Int)) s3 a3 (.tmp 3) := D3.kt q3 rfl
 have q6 : At (Ty.int (0 : Int)) s3 a3 (.tmp 4) := D3.done 0
 clear D3
 refine tn ?_
 refine wp_block ?_
 refine loop (fun n1 a4 w1 => ∃ (t1 : GW) (i : Nat) (q : Nat), t1.w = w1 ∧ FromL [] s0 t1 ∧ Ok 44 a4 ∧ At (Ty.nat i) t1 a4 (.tmp 4) ∧ At (Ty.nat q) t1 a4 (.tmp 3) ∧ At (Ty.lst Ty.int r) t1 a4 (.tmp 0) ∧ (i ≤ r.length) ∧ (q + rankL (r.drop i) = rankL r) ∧ n1 = r.length - i) (r.length - (0)) ?_ ?_
 ·
  exact ⟨s3, 0, 0, rfl, F3, ok3, (cvi (by (first | rfl | omega | (simp_all; done) | (simp_all; omega))) q6), (cvi (by (first | rfl | omega | (simp_all; done) | (simp_all; omega))) q5), q4, by omega, by simp, rfl⟩
 ·
  rintro n2 a5 w2 ⟨t2, i, q, rfl, F4, ok4, q7, q8, q9, hi, hq, rfl⟩
  have hrl := rank_le12 hln
  refine wp_seq ?_
  refine wp_seq ?_
  refine reg (a := a5) (σ := t2) rfl (fun i_ => List.getD [(Ty.pr (Ty.nat i)), (Ty.pr (Ty.lst Ty.int r)), (Ty.pr (Ty.nat (List.length r))), (Ty.pr (Ty.bool (decide (((i : Nat) : Int) < (((List.length r) : Nat) : Int)))))] i_ Pr.any) ok4 rfl ⟨?_, ?_, ?_, ?_, trivial⟩ ?_
  · intro ax tx hs okx sm
    exact run_plain rfl (y_move (kp (sm 4 rfl) hs q7))
  · intro ax tx hs okx sm
    exact run_plain rfl (y_move (kp (sm 0 rfl) hs q9))
  · intro ax tx hs okx sm d0
    have e1 : At (Ty.lst Ty.int r) tx ax (.tmp 8) := d0 rfl
    exact run_plain rfl (y_len Try.underlying34 e1)
  · intro ax tx hs okx sm d0 d1
    have e0 : At (Ty.nat i) tx ax (.tmp 7) := d0 rfl
    have e2 : At (Ty.nat (List.length r)) tx ax (.tmp 9) := d1 rfl
    exact run_plain rfl (y_lss e0 e2)
  intro a6 s4 D4
  have ok5 := D4.ok
  have F5 := F4.step0 D4.stp
  have q10 : At (Ty.nat i) s4 a6 (.tmp 4) := D4.kt q7 rfl
  have q11 : At (Ty.nat q) s4 a6 (.tmp 3) := D4.kt q8 rfl
  have q12 : At (Ty.lst Ty.int r) s4 a6 (.tmp 0) := D4.kt q9 rfl
  have q13 : At (Ty.bool (decide (((i : Nat) : Int) < (((List.length r) : Nat) : Int)))) s4 a6 (.tmp 10) := D4.done 3
  clear D4
  refine tn ?_
  refine cond_p (p := (((i : Nat) : Int) < (((List.length r) : Nat) : Int))) q13 (fun c1 => ?_) (fun c1 => ?_)
  ·
   have hmb := rank_mul hln (by omega) hq; have hbd := hr.at (i := i) (by omega)
   refine wp_skip ?_
   refine tn ?_
   refine wp_seq ?_
   refine wp_block ?_
   refine wp_seq ?_
   refine reg (a := a6) (σ := s4) rfl (fun i_ => List.getD [(Ty.pr (Ty.lst Ty.int r)), (Ty.pr (Ty.nat i)), (Ty.pr (Ty.ref [(Ty.int (r.getD i 0))])), (Ty.pr (Ty.int (r.getD i 0))), (Ty.pr (Ty.int (r.getD i 0)))] i_ Pr.any) ok5 rfl ⟨?_, ?_, ?_, ?_, ?_, trivial⟩ ?_
   · intro ax tx hs okx sm
     exact run_plain rfl (y_move (kp (sm 0 rfl) hs q12))
   · intro ax tx hs okx sm
     exact run_plain rfl (y_move (kp (sm 4 rfl) hs q10))
   · intro ax tx hs okx sm d0 d1
     have e0 : At (Ty.lst Ty.int r) tx ax (.tmp 13) := d0 rfl
     have e1 : At (Ty.nat i) tx ax (.tmp 14) := d1 rfl
     exact run_plain rfl (y_index1 Try.underlying34 Try.inf3 e0 e1 (by omega) (lst_get Ty.int r 0 i (by omega)))
   · intro ax tx hs okx sm d0
     have e2 : At (Ty.ref [(Ty.int (r.getD i 0))]) tx ax (.tmp 15) := d0 rfl
     exact run_plain rfl (y_load Try.underlying3 rfl e2 rfl)
   · intro ax tx hs okx sm d0 d1 d2 d3 d4
     have e3 : At (Ty.int (r.getD i 0)) tx ax (.tmp 16) := d0 rfl
     have e0 : At (Ty.lst Ty.int r) tx ax (.tmp 13) := d1 rfl
     have e1 : At (Ty.nat i) tx ax (.tmp 14) := d2 rfl
     have e2 : At (Ty.ref [(Ty.int (r.getD i 0))]) tx ax (.tmp 15) := d3 rfl
     exact run_plain rfl (y_assign e3)
   intro a7 s5 D5
   have ok6 := D5.ok
   have F6 := F5.step0 D5.stp
   have q14 : At (Ty.nat i) s5 a7 (.tmp 4) := D5.kt q10 rfl
   have q15 : At (Ty.nat q) s5 a7 (.tmp 3) := D5.kt q11 rfl
   have q16 : At (Ty.lst Ty.int r) s5 a7 (.tmp 0) := D5.kt q12 rfl
   have q17 : At (Ty.int (r.getD i 0)) s5 a7 (.tmp 5) := D5.done 4
   clear D5
   refine tn ?_
   refine wp_seq ?_
   refine wp_seq ?_
   refine reg (a := a7) (σ := s5) rfl (fun i_ => List.getD [(Ty.pr (Ty.int (0 : Int)))] i_ Pr.any) ok6 rfl ⟨?_, trivial⟩ ?_
   · intro ax tx hs okx sm
     exact run_plain rfl (y_assign rfl)
   intro a8 s6 D6
   have ok7 := D6.ok
   have F7 := F6.step0 D6.stp
   have q18 : At (Ty.nat i) s6 a8 (.tmp 4) := D6.kt q14 rfl
   have q19 : At (Ty.nat q) s6 a8 (.tmp 3) := D6.kt q15 rfl
   have q20 : At (Ty.lst Ty.int r) s6 a8 (.tmp 0) := D6.kt q16 rfl
   have q21 : At (Ty.int (r.getD i 0)) s6 a8 (.tmp 5) := D6.kt q17 rfl
   have q22 : At (Ty.int (0 : Int)) s6 a8 (.tmp 6) := D6.done 0
   clear D6
   refine tn ?_
   refine wp_block ?_
   refine loop (fun n3 a9 w3 => ∃ (t3 : GW) (j : Nat), t3.w = w3 ∧ FromL [] s0 t3 ∧ Ok 44 a9 ∧ At (Ty.nat j) t3 a9 (.tmp 6) ∧ At (Ty.int (r.getD i 0 - ((lessN (r.getD i 0) (r.take j) : Nat) : Int))) t3 a9 (.tmp 5) ∧ At (Ty.nat i) t3 a9 (.tmp 4) ∧ At (Ty.nat q) t3 a9 (.tmp 3) ∧ At (Ty.lst Ty.int r) t3 a9 (.tmp 0) ∧ (j ≤ i) ∧ n3 = i - j) (i - (0)) ?_ ?_
   ·
    exact ⟨s6, 0, rfl, F7, ok7, (cvi (by (first | rfl | omega | (simp_all; done) | (simp_all; omega))) q22), (cvi (by (simp [lessN])) q21), q18, q19, q20, by omega, rfl⟩
   ·
    rintro n4 a10 w4 ⟨t4, j, rfl, F8, ok8, q23, q24, q25, q26, q27, hj, rfl⟩
    have hll := lessN_le (r.getD i 0) (r.take j)
    have htl := List.length_take_le j r
    refine wp_seq ?_
    refine wp_seq ?_
    refine reg (a := a10) (σ := t4) rfl (fun i_ => List.getD [(Ty.pr (Ty.nat j)), (Ty.pr (Ty.nat i)), (Ty.pr (Ty.bool (decide (((j : Nat) : Int) < ((i : Nat) : Int)))))] i_ Pr.any) ok8 rfl ⟨?_, ?_, ?_, trivial⟩ ?_
    · intro ax tx hs okx sm
      exact run_plain rfl (y_move (kp (sm 6 rfl) hs q23))
    · intro ax tx hs okx sm
      exact run_plain rfl (y_move (kp (sm 4 rfl) hs q25))
    · intro ax tx hs okx sm d0 d1
      have e0 : At (Ty.nat j) tx ax (.tmp 17) := d0 rfl
      have e1 : At (Ty.nat i) tx ax (.tmp 18) := d1 rfl
      exact run_plain rfl (y_lss e0 e1)
    intro a11 s7 D7
    have ok9 := D7.ok
    have F9 := F8.step0 D7.stp
    have q28 : At (Ty.nat j) s7 a11 (.tmp 6) := D7.kt q23 rfl
    have q29 : At (Ty.int (r.getD i 0 - ((lessN (r.getD i 0) (r.take j) : Nat) : Int))) s7 a11 (.tmp 5) := D7.kt q24 rfl
    have q30 : At (Ty.nat i) s7 a11 (.tmp 4) := D7.kt q25 rfl
    have q31 : At (Ty.nat q) s7 a11 (.tmp 3) := D7.kt q26 rfl
    have q32 : At (Ty.lst Ty.int r) s7 a11 (.tmp 0) := D7.kt q27 rfl
    have q33 : At (Ty.bool (decide (((j : Nat) : Int) < ((i : Nat) : Int)))) s7 a11 (.tmp 19) := D7.done 2
    clear D7
    refine tn ?_
    refine cond_p (p := (((j : Nat) : Int) < ((i : Nat) : Int))) q33 (fun c2 => ?_) (fun c2 => ?_)
    ·
     refine wp_skip ?_
     refine tn ?_
     refine wp_seq ?_
     refine wp_block ?_
     refine wp_seq ?_
     refine reg (a := a11) (σ := s7) rfl (fun i_ => List.getD [(Ty.pr (Ty.lst Ty.int r)), (Ty.pr (Ty.nat j)), (Ty.pr (Ty.ref [(Ty.int (r.getD j 0))])), (Ty.pr (Ty.int (r.getD j 0))), (Ty.pr (Ty.lst Ty.int r)), (Ty.pr (Ty.nat i)), (Ty.pr (Ty.ref [(Ty.int (r.getD i 0))])), (Ty.pr (Ty.int (r.getD i 0))), (Ty.pr (Ty.bool (decide ((r.getD j 0) < (r.getD i 0)))))] i_ Pr.any) ok9 rfl ⟨?_, ?_, ?_, ?_, ?_, ?_, ?_, ?_, ?_, trivial⟩ ?_
     · intro ax tx hs okx sm
       exact run_plain rfl (y_move (kp (sm 0 rfl) hs q32))
     · intro ax tx hs okx sm
       exact run_plain rfl (y_move (kp (sm 6 rfl) hs q28))
     · intro ax tx hs okx sm d0 d1
       have e0 : At (Ty.lst Ty.int r) tx ax (.tmp 22) := d0 rfl
       have e1 : At (Ty.nat j) tx ax (.tmp 23) := d1 rfl
       exact run_plain rfl (y_index1 Try.underlying34 Try.inf3 e0 e1 (by omega) (lst_get Ty.int r 0 j (by omega)))
     · intro ax tx hs okx sm d0
       have e2 : At (Ty.ref [(Ty.int (r.getD j 0))]) tx ax (.tmp 24) := d0 rfl
       exact run_plain rfl (y_load Try.underlying3 rfl e2 rfl)
     · intro ax tx hs okx sm
       exact run_plain rfl (y_move (kp (sm 0 rfl) hs q32))
     · intro ax tx hs okx sm
       exact run_plain rfl (y_move (kp (sm 4 rfl) hs q30))
     · intro ax tx hs okx sm d0 d1
       have e4 : At (Ty.lst Ty.int r) tx ax (.tmp 26) := d0 rfl
       have e5 : At (Ty.nat i) tx ax (.tmp 27) := d1 rfl
       exact run_plain rfl (y_index1 Try.underlying34 Try.inf3 e4 e5 (by omega) (lst_get Ty.int r 0 i (by omega)))
     · intro ax tx hs okx sm d0
       have e6 : At (Ty.ref [(Ty.int (r.getD i 0))]) tx ax (.tmp 28) := d0 rfl
       exact run_plain rfl (y_load Try.underlying3 rfl e6 rfl)
     · intro ax tx hs okx sm d0 d1
       have e3 : At (Ty.int (r.getD j 0)) tx ax (.tmp 25) := d0 rfl
       have e7 : At (Ty.int (r.getD i 0)) tx ax (.tmp 29) := d1 rfl
       exact run_plain rfl (y_lss e3 e7)
     intro a12 s8 D8
     have ok10 := D8.ok
     have F10 := F9.step0 D8.stp
     have q34 : At (Ty.nat j) s8 a12 (.tmp 6) := D8.kt q28 rfl
     have q35 : At (Ty.int (r.getD i 0 - ((lessN (r.getD i 0) (r.take j) : Nat) : Int))) s8 a12 (.tmp 5) := D8.kt q29 rfl
     have q36 : At (Ty.nat i) s8 a12 (.tmp 4) := D8.kt q30 rfl
     have q37 : At (Ty.nat q) s8 a12 (.tmp 3) := D8.kt q31 rfl
     have q38 : At (Ty.lst Ty.int r) s8 a12 (.tmp 0) := D8.kt q32 rfl
     have q39 : At (Ty.bool (decide ((r.getD j 0) < (r.getD i 0)))) s8 a12 (.tmp 30) := D8.done 8
     clear D8
     refine tn ?_
     refine cond_p (p := ((r.getD j 0) < (r.getD i 0))) q39 (fun c3 => ?_) (fun c3 => ?_)
     ·
      refine reg (a := a12) (σ := s8) rfl (fun i_ => List.getD [(Ty.pr (Ty.int (r.getD i 0 - ((lessN (r.getD i 0) (r.take j) : Nat) : Int)))), (Ty.pr (Ty.int ((r.getD i 0 - ((lessN (r.getD i 0) (r.take j) : Nat) : Int)) - (1 : Int)))), (Ty.pr (Ty.int ((r.getD i 0 - ((lessN (r.getD i 0) (r.take j) : Nat) : Int)) - (1 : Int))))] i_ Pr.any) ok10 rfl ⟨?_, ?_, ?_, trivial⟩ ?_
      · intro ax tx hs okx sm
        exact run_plain rfl (y_move (kp (sm 5 rfl) hs q35))
      · intro ax tx hs okx sm d0
        have e0 : At (Ty.int (r.getD i 0 - ((lessN (r.getD i 0) (r.take j) : Nat) : Int))) tx ax (.tmp 31) := d0 rfl
        exact run_plain rfl (y_sub e0 rfl (w64 (by omega) (by omega)))
      · intro ax tx hs okx sm d0 d1 d2
        have e1 : At (Ty.int ((r.getD i 0 - ((lessN (r.getD i 0) (r.take j) : Nat) : Int)) - (1 : Int))) tx ax (.tmp 32) := d0 rfl
        have e0 : At (Ty.int (r.getD i 0 - ((lessN (r.getD i 0) (r.take j) : Nat) : Int))) tx ax (.tmp 31) := d1 rfl
        exact run_plain rfl (y_assign e1)
      intro a13 s9 D9
      have ok11 := D9.ok
      have F11 := F10.step0 D9.stp
      have q40 : At (Ty.nat j) s9 a13 (.tmp 6) := D9.kt q34 rfl
      have q41 : At (Ty.nat i) s9 a13 (.tmp 4) := D9.kt q36 rfl
      have q42 : At (Ty.nat q) s9 a13 (.tmp 3) := D9.kt q37 rfl
      have q43 : At (Ty.lst Ty.int r) s9 a13 (.tmp 0) := D9.kt q38 rfl
      have q44 : At (Ty.int ((r.getD i 0 - ((lessN (r.getD i 0) (r.take j) : Nat) : Int)) - (1 : Int))) s9 a13 (.tmp 5) := D9.done 2
      clear D9
      refine bn ?_
      refine tn ?_
      refine reg (a := a13) (σ := s9) rfl (fun i_ => List.getD [(Ty.pr (Ty.nat j)), (Ty.pr (Ty.nat (j + 1))), (Ty.pr (Ty.nat (j + 1)))] i_ Pr.any) ok11 rfl ⟨?_, ?_, ?_, trivial⟩ ?_
      · intro ax tx hs okx sm
        exact run_plain rfl (y_move (kp (sm 6 rfl) hs q40))
      · intro ax tx hs okx sm d0
        have e0 : At (Ty.nat j) tx ax (.tmp 20) := d0 rfl
        exact run_plain rfl ((y_add e0 rfl (w64 (by omega) (by omega))).mono (fun τ _ h => cvi (σ := τ) (by first | omega | exact (Int.natCast_mul _ _).symm) h))
      · intro ax tx hs okx sm d0 d1 d2
        have e1 : At (Ty.nat (j + 1)) tx ax (.tmp 21) := d0 rfl
        have e0 : At (Ty.nat j) tx ax (.tmp 20) := d1 rfl
        exact run_plain rfl (y_assign e1)
      intro a14 s10 D10
      have ok12 := D10.ok
      have F12 := F11.step0 D10.stp
      have q45 : At (Ty.nat i) s10 a14 (.tmp 4) := D10.kt q41 rfl
      have q46 : At (Ty.nat q) s10 a14 (.tmp 3) := D10.kt q42 rfl
      have q47 : At (Ty.lst Ty.int r) s10 a14 (.tmp 0) := D10.kt q43 rfl
      have q48 : At (Ty.int ((r.getD i 0 - ((lessN (r.getD i 0) (r.take j) : Nat) : Int)) - (1 : Int))) s10 a14 (.tmp 5) := D10.kt q44 rfl
      have q49 : At (Ty.nat (j + 1)) s10 a14 (.tmp 6) := D10.done 2
      clear D10
      exact tn ⟨i - ((j+1)), by omega, s10, (j+1), rfl, F12, ok12, (cvi (by (first | rfl | omega | (simp_all; done) | (simp_all; omega))) q49), (cvi (by (rw [lessN_snoc _ _ _ (by omega), if_pos (by assumption)]; omega)) q48), q45, q46, q47, by omega, rfl⟩
     ·
      refine wp_skip ?_
      refine bn ?_
      refine tn ?_
      refine reg (a := a12) (σ := s8) rfl (fun i_ => List.getD [(Ty.pr (Ty.nat j)), (Ty.pr (Ty.nat (j + 1))), (Ty.pr (Ty.nat (j + 1)))] i_ Pr.any) ok10 rfl ⟨?_, ?_, ?_, trivial⟩ ?_
      · intro ax tx hs okx sm
        exact run_plain rfl (y_move (kp (sm 6 rfl) hs q34))
      · intro ax tx hs okx sm d0
        have e0 : At (Ty.nat j) tx ax (.tmp 20) := d0 rfl
        exact run_plain rfl ((y_add e0 rfl (w64 (by omega) (by omega))).mono (fun τ _ h => cvi (σ := τ) (by first | omega | exact (Int.natCast_mul _ _).symm) h))
      · intro ax tx hs okx sm d0 d1 d2
        have e1 : At (Ty.nat (j + 1)) tx ax (.tmp 21) := d0 rfl
        have e0 : At (Ty.nat j) tx ax (.tmp 20) := d1 rfl
        exact run_plain rfl (y_assign e1)
      intro a15 s11 D11
      have ok13 := D11.ok
      have F13 := F10.step0 D11.stp
      have q50 : At (Ty.int (r.getD i 0 - ((lessN (r.getD i 0) (r.take j) : Nat) : Int))) s11 a15 (.tmp 5) := D11.kt q35 rfl
      have q51 : At (Ty.nat i) s11 a15 (.tmp 4) := D11.kt q36 rfl
      have q52 : At (Ty.nat q) s11 a15 (.tmp 3) := D11.kt q37 rfl
      have q53 : At (Ty.lst Ty.int r) s11 a15 (.tmp 0) := D11.kt q38 rfl
      have q54 : At (Ty.nat (j + 1)) s11 a15 (.tmp 6) := D11.done 2
      clear D11
      exact tn ⟨i - ((j+1)), by omega, s11, (j+1), rfl, F13, ok13, (cvi (by (first | rfl | omega | (simp_all; done) | (simp_all; omega))) q54), (cvi (by (rw [lessN_snoc _ _ _ (by omega), if_neg (by assumption)]; rfl)) q50), q51, q52, q53, by omega, rfl⟩
    ·
     have q55 : At (Ty.nat (lessN (r.getD i 0) (r.drop (i + 1)))) s7 a11 (.tmp 5) := cvt (T := (Ty.int (r.getD i 0 - ((lessN (r.getD i 0) (r.take j) : Nat) : Int)))) (U := (Ty.nat (lessN (r.getD i 0) (r.drop (i + 1))))) (by have e : j = i := (by omega); rw [e]; exact congrArg Ty.int (less_after hr (by omega))) q29
     refine wp_exit ?_
     refine tx ?_
     refine tx ?_
     refine bx ?_
     refine tn ?_
     refine reg (a := a11) (σ := s7) rfl (fun i_ => List.getD [(Ty.pr (Ty.nat q)), (Ty.pr (Ty.nat (lessN (r.getD i 0) (r.drop (i + 1))))), (Ty.pr (Ty.lst Ty.int r)), (Ty.pr (Ty.nat (List.length r))), (Ty.pr (Ty.nat ((List.length r) - 1))), (Ty.pr (Ty.nat i)), (Ty.pr (Ty.nat (((List.length r) - 1) - i))), (Ty.pr (Ty.nat (fct ((((List.length r) - 1) - i))))), (Ty.pr (Ty.nat ((lessN (r.getD i 0) (r.drop (i + 1))) * (fct ((((List.length r) - 1) - i)))))), (Ty.pr (Ty.nat (q + ((lessN (r.getD i 0) (r.drop (i + 1))) * (fct ((((List.length r) - 1) - i))))))), (Ty.pr (Ty.nat (q + ((lessN (r.getD i 0) (r.drop (i + 1))) * (fct ((((List.length r) - 1) - i)))))))] i_ Pr.any) ok9 rfl ⟨?_, ?_, ?_, ?_, ?_, ?_, ?_, ?_, ?_, ?_, ?_, trivial⟩ ?_
     · intro ax tx hs okx sm
       exact run_plain rfl (y_move (kp (sm 3 rfl) hs q31))
     · intro ax tx hs okx sm
       exact run_plain rfl (y_move (kp (sm 5 rfl) hs q55))
     · intro ax tx hs okx sm
       exact run_plain rfl (y_move (kp (sm 0 rfl) hs q32))
     · intro ax tx hs okx sm d0
       have e2 : At (Ty.lst Ty.int r) tx ax (.tmp 35) := d0 rfl
       exact run_plain rfl (y_len Try.underlying34 e2)
     · intro ax tx hs okx sm d0
       have e3 : At (Ty.nat (List.length r)) tx ax (.tmp 36) := d0 rfl
       exact run_plain rfl ((y_sub e3 rfl (w64 (by omega) (by omega))).mono (fun τ _ h => cvi (σ := τ) (by omega) h))
     · intro ax tx hs okx sm
       exact run_plain rfl (y_move (kp (sm 4 rfl) hs q30))
     · intro ax tx hs okx sm d0 d1
       have e4 : At (Ty.nat ((List.length r) - 1)) tx ax (.tmp 37) := d0 rfl
       have e5 : At (Ty.nat i) tx ax (.tmp 38) := d1 rfl
       exact run_plain rfl ((y_sub e4 e5 (w64 (by omega) (by omega))).mono (fun τ _ h => cvi (σ := τ) (by omega) h))
     · intro ax tx hs okx sm d0
       have e6 : At (Ty.nat (((List.length r) - 1) - i)) tx ax (.tmp 39) := d0 rfl
       exact run_plain rfl (y_call #[ax.eval (.tmp 39)] Try.func35 rfl rfl (by simp only [List.map_toArray, List.map_cons, List.map_nil]) (rFact_fn (((((List.length r) - 1) - i))) ((((List.length r) - 1) - i)) _ _ (cvi (σ := tx) (by omega) e6) (by omega) (by omega)))
     · intro ax tx hs okx sm d0 d1
       have e1 : At (Ty.nat (lessN (r.getD i 0) (r.drop (i + 1)))) tx ax (.tmp 34) := d0 rfl
       have e7 : At (Ty.nat (fct ((((List.length r) - 1) - i)))) tx ax (.tmp 40) := d1 rfl
       exact run_plain rfl ((y_mul e1 e7 (w64 (by omega) (by omega))).mono (fun τ _ h => cvi (σ := τ) (by first | omega | exact (Int.natCast_mul _ _).symm) h))
     · intro ax tx hs okx sm d0 d1
       have e0 : At (Ty.nat q) tx ax (.tmp 33) := d0 rfl
       have e8 : At (Ty.nat ((lessN (r.getD i 0) (r.drop (i + 1))) * (fct ((((List.length r) - 1) - i))))) tx ax (.tmp 41) := d1 rfl
       exact run_plain rfl ((y_add e0 e8 (w64 (by omega) (by omega))).mono (fun τ _ h => cvi (σ := τ) (by first | omega | exact (Int.natCast_mul _ _).symm) h))
     · intro ax tx hs okx sm d0 d1 d2 d3 d4 d5 d6 d7 d8 d9 d10 d11
       have e9 : At (Ty.nat (q + ((lessN (r.getD i 0) (r.drop (i + 1))) * (fct ((((List.length r) - 1) - i)))))) tx ax (.tmp 42) := d0 rfl
       have e7 : At (Ty.nat (fct ((((List.length r) - 1) - i)))) tx ax (.tmp 40) := d1 rfl
       have e0 : At (Ty.nat q) tx ax (.tmp 33) := d2 rfl
       have e1 : At (Ty.nat (lessN (r.getD i 0) (r.drop (i + 1)))) tx ax (.tmp 34) := d3 rfl
       have e2 : At (Ty.lst Ty.int r) tx ax (.tmp 35) := d4 rfl
       have e3 : At (Ty.nat (List.length r)) tx ax (.tmp 36) := d5 rfl
       have e4 : At (Ty.nat ((List.length r) - 1)) tx ax (.tmp 37) := d6 rfl
       have e5 : At (Ty.nat i) tx ax (.tmp 38) := d7 rfl
       have e6 : At (Ty.nat (((List.length r) - 1) - i)) tx ax (.tmp 39) := d8 rfl
       have e8 : At (Ty.nat ((lessN (r.getD i 0) (r.drop (i + 1))) * (fct ((((List.length r) - 1) - i))))) tx ax (.tmp 41) := d10 rfl
       exact run_plain rfl (y_assign e9)
     intro a16 s12 D12
     have ok14 := D12.ok
     have F14 := F9.step0 D12.stp
     have q56 : At (Ty.nat i) s12 a16 (.tmp 4) := D12.kt q30 rfl
     have q57 : At (Ty.lst Ty.int r) s12 a16 (.tmp 0) := D12.kt q32 rfl
     have q58 : At (Ty.nat (q + ((lessN (r.getD i 0) (r.drop (i + 1))) * (fct ((((List.length r) - 1) - i)))))) s12 a16 (.tmp 3) := D12.done 10
     clear D12
     refine bn ?_
     refine tn ?_
     refine reg (a := a16) (σ := s12) rfl (fun i_ => List.getD [(Ty.pr (Ty.nat i)), (Ty.pr (Ty.nat (i + 1))), (Ty.pr (Ty.nat (i + 1)))] i_ Pr.any) ok14 rfl ⟨?_, ?_, ?_, trivial⟩ ?_
     · intro ax tx hs okx sm
       exact run_plain rfl (y_move (kp (sm 4 rfl) hs q56))
     · intro ax tx hs okx sm d0
       have e0 : At (Ty.nat i) tx ax (.tmp 11) := d0 rfl
       exact run_plain rfl ((y_add e0 rfl (w64 (by omega) (by omega))).mono (fun τ _ h => cvi (σ := τ) (by first | omega | exact (Int.natCast_mul _ _).symm) h))
     · intro ax tx hs okx sm d0 d1 d2
       have e1 : At (Ty.nat (i + 1)) tx ax (.tmp 12) := d0 rfl
       have e0 : At (Ty.nat i) tx ax (.tmp 11) := d1 rfl
       exact run_plain rfl (y_assign e1)
     intro a17 s13 D13
     have ok15 := D13.ok
     have F15 := F14.step0 D13.stp
     have q59 : At (Ty.lst Ty.int r) s13 a17 (.tmp 0) := D13.kt q57 rfl
     have q60 : At (Ty.nat (q + ((lessN (r.getD i 0) (r.drop (i + 1))) * (fct ((((List.length r) - 1) - i)))))) s13 a17 (.tmp 3) := D13.kt q58 rfl
     have q61 : At (Ty.nat (i + 1)) s13 a17 (.tmp 4) := D13.done 2
     clear D13
     exact tn ⟨r.length - ((i+1)), by omega, s13, (i+1), (q + lessN (r.getD i 0) (r.drop (i + 1)) * fct (r.length - 1 - i)), rfl, F15, ok15, (cvi (by (first | rfl | omega | (simp_all; done) | (simp_all; omega))) q61), (cvi (by (first | rfl | omega | (simp_all; done) | (simp_all; omega))) q60), q59, by omega, rank_step' (by omega) hq, rfl⟩
  ·
   refine wp_exit ?_
   refine tx ?_
   refine tx ?_
   refine bx ?_
   refine tn ?_
   refine wp_seq ?_
   refine reg (a := a6) (σ := s4) rfl (fun i_ => List.getD [(Ty.pr (Ty.nat q)), (Ty.pr (Ty.nat q))] i_ Pr.any) ok5 rfl ⟨?_, ?_, trivial⟩ ?_
   · intro ax tx hs okx sm
     exact run_plain rfl (y_move (kp (sm 3 rfl) hs q11))
   · intro ax tx hs okx sm d0 d1
     have e0 : At (Ty.nat q) tx ax (.tmp 43) := d0 rfl
     exact run_plain rfl (y_assign e0)
   intro a18 s14 D14
   have ok16 := D14.ok
   have F16 := F5.step0 D14.stp
   have q62 : At (Ty.nat q) s14 a18 (.tmp 2) := D14.done 1
   clear D14
   refine tn ?_
   refine wp_ret ?_
   exact retL1 rfl ok16 F16 (cvi (by (obtain rfl : i = r.length := (by omega); exact congrArg _ (by rw [List.drop_length] at hq; exact hq))) q62)


set_option maxRecDepth 100000 in
theorem rUndo_fn (r : List Int) (σ : GW) (v0 : Value) (hv0 : Ty.has (Ty.lst Ty.int r) σ v0) (hr : IsRow r) :
    FnC Try.prog 48 #[v0] σ (Ty.lst Ty.int (undoL r)) := by
 have hln := hr.le
 refine fn_intro Try.func48 rfl Try.ntmps48 (Nat.le_of_ble_eq_true rfl) (fun s0 a0 hle F0 ok0 hargs => ?_)
 have p0 : At (Ty.lst Ty.int r) s0 a0 (.tmp 0) := by have e := hargs 0 _ rfl; show Ty.has _ _ _; rw [e]; exact Ty.up _ hle hv0
 have b1 := sl_le p0
 clear hargs
 refine wp_seq ?_
 refine reg (a := a0) (σ := s0) rfl (fun i_ => List.getD [(Ty.pr (Ty.val (Value.slice none 0 0)))] i_ Pr.any) ok0 rfl ⟨?_, trivial⟩ ?_
 · intro ax tx hs okx sm
   exact run_plain rfl (y_assign rfl)
 intro a1 s1 D1
 have ok1 := D1.ok
 have F1 := F0.step0 D1.stp
 have q1 : At (Ty.lst Ty.int r) s1 a1 (.tmp 0) := D1.kt p0 rfl
 clear D1
 refine tn ?_
 refine wp_seq ?_
 refine reg (a := a1) (σ := s1) rfl (fun i_ => List.getD [(Ty.pr (Ty.lst Ty.int r)), (Ty.pr (Ty.nat (List.length r))), (Pr.own 11 3 1 (List.length r) (List.map Ty.int (List.replicate (List.length r) 0))), (Pr.own 11 3 1 (List.length r) (List.map Ty.int (List.replicate (List.length r) 0)))] i_ Pr.any) ok1 rfl ⟨?_, ?_, ?_, ?_, trivial⟩ ?_
 · intro ax tx hs okx sm
   exact run_plain rfl (y_move (kp (sm 0 rfl) hs q1))
 · intro ax tx hs okx sm d0
   have e0 : At (Ty.lst Ty.int r) tx ax (.tmp 5) := d0 rfl
   exact run_plain rfl (y_len Try.underlying34 e0)
 · intro ax tx hs okx sm d0 d1
   have e1 : At (Ty.nat (List.length r)) tx ax (.tmp 6) := d0 rfl
   exact run_plain rfl ((y_make (k := 11) (T := Ty.int 0) (n := (List.length r)) Try.underlying34 Try.inf3 rfl (fun _ => rfl) e1 e1 (by omega) (by omega)).mono (fun _ _ h => cvo (by simp) (by simp) h))
 · intro ax tx hs okx sm d0 d1 d2 d3
   have e2 : (Pr.own 11 3 1 (List.length r) (List.map Ty.int (List.replicate (List.length r) 0))).has tx (ax.eval (.tmp 7)) := d0 rfl
   have e0 : At (Ty.lst Ty.int r) tx ax (.tmp 5) := d1 rfl
   have e1 : At (Ty.nat (List.length r)) tx ax (.tmp 6) := d2 rfl
   exact run_plain rfl (y_assign e2)
 intro a2 s2 D2
 have ok2 := D2.ok
 have F2 := F1.step0 D2.stp
 have q2 : At (Ty.lst Ty.int r) s2 a2 (.tmp 0) := D2.kt q1 rfl
 have q3 : (Pr.own 11 3 1 (List.length r) (List.map Ty.int (List.replicate (List.length r) 0))).has s2 (a2.eval (.tmp 3)) := D2.done 3
 clear D2
 refine tn ?_
 refine wp_seq ?_
 refine wp_seq ?_
 refine reg (a := a2) (σ := s2) rfl (fun i_ => List.getD [(Ty.pr (Ty.int (0 : Int)))] i_ Pr.any) ok2 rfl ⟨?_, trivial⟩ ?_
 · intro ax tx hs okx sm
   exact run_plain rfl (y_assign rfl)
 intro a3 s3 D3
 have ok3 := D3.ok
 have F3 := F2.step0 D3.stp
 have q4 : At (Ty.lst Ty.int r) s3 a3 (.tmp 0) := D3.kt q2 rfl
 have q5 : (Pr.own 11 3 1 (List.length r) (List.map Ty.int (List.replicate (List.length r) 0))).has s3 (a3.eval (.tmp 3)) := D3.ko q3 rfl
 have q6 : At (Ty.int (0 : Int)) s3 a3 (.tmp 4) := D3.done 0
 clear D3
 refine tn ?_
 refine wp_block ?_
 refine loop (fun n1 a4 w1 => ∃ (t1 : GW) (k : Nat), t1.w = w1 ∧ From s0 t1 ∧ Ok 22 a4 ∧ (Pr.own 11 3 1 (List.length (undoTo r k)) (List.map Ty.int (undoTo r k))).has t1 (a4.eval (.tmp 3)) ∧ At (Ty.nat k) t1 a4 (.tmp 4) ∧ At (Ty.lst Ty.int r) t1 a4 (.tmp 0) ∧ (k ≤ r.length) ∧ n1 = r.length - k) (r.length - (0)) ?_ ?_
 ·
  exact ⟨s3, 0, rfl, F3, ok3, (cvo (by (simp [undoTo_zero])) (by (simp [undoTo_zero])) q5), (cvi (by (first | rfl | omega | (simp_all; done) | (simp_all; omega))) q6), q4, by omega, rfl⟩
 ·
  rintro n2 a5 w2 ⟨t2, k, rfl, F4, ok4, q7, q8, q9, hk, rfl⟩
  have hp := undoTo_len r k
  refine wp_seq ?_
  refine wp_seq ?_
  refine reg (a := a5) (σ := t2) rfl (fun i_ => List.getD [(Ty.pr (Ty.nat k)), (Ty.pr (Ty.lst Ty.int r)), (Ty.pr (Ty.nat (List.length r))), (Ty.pr (Ty.bool (decide (((k : Nat) : Int) < (((List.length r) : Nat) : Int)))))] i_ Pr.any) ok4 rfl ⟨?_, ?_, ?_, ?_, trivial⟩ ?_
  · intro ax tx hs okx sm
    exact run_plain rfl (y_move (kp (sm 4 rfl) hs q8))
  · intro ax tx hs okx sm
    exact run_plain rfl (y_move (kp (sm 0 rfl) hs q9))
  · intro ax tx hs okx sm d0
    have e1 : At (Ty.lst Ty.int r) tx ax (.tmp 9) := d0 rfl
    exact run_plain rfl (y_len Try.underlying34 e1)
  · intro ax tx hs okx sm d0 d1
    have e0 : At (Ty.nat k) tx ax (.tmp 8) := d0 rfl
    have e2 : At (Ty.nat (List.length r)) tx ax (.tmp 10) := d1 rfl
    exact run_plain rfl (y_lss e0 e2)
  intro a6 s4 D4
  have ok5 := D4.ok
  have F5 := F4.step0 D4.stp
  have q10 : (Pr.own 11 3 1 (List.length (undoTo r k)) (List.map Ty.int (undoTo r k))).has s4 (a6.eval (.tmp 3)) := D4.ko q7 rfl
  have q11 : At (Ty.nat k) s4 a6 (.tmp 4) := D4.kt q8 rfl
  have q12 : At (Ty.lst Ty.int r) s4 a6 (.tmp 0) := D4.kt q9 rfl
  have q13 : At (Ty.bool (decide (((k : Nat) : Int) < (((List.length r) : Nat) : Int)))) s4 a6 (.tmp 11) := D4.done 3
  clear D4
  refine tn ?_
  refine cond_p (p := (((k : Nat) : Int) < (((List.length r) : Nat) : Int))) q13 (fun c1 => ?_) (fun c1 => ?_)
  ·
   have hq := hr.at (i := k) (by omega)
   refine wp_skip ?_
   refine tn ?_
   refine wp_seq ?_
   refine wp_block ?_
   refine reg2 (a := a6) (σ := s4) rfl 7 (fun i_ => List.getD [(Ty.pr (Ty.val (a6.eval (.tmp 3)))), (Ty.pr (Ty.lst Ty.int r)), (Ty.pr (Ty.nat k)), (Ty.pr (Ty.ref [(Ty.int (r.getD k 0))])), (Ty.pr (Ty.int (r.getD k 0))), (Ty.pr (Ty.nat k)), (Ty.pr (Ty.val (cellPtr (a6.eval (.tmp 3)) ((r.getD k 0)).toNat)))] i_ Pr.any) ok5 rfl (by decide) rfl ⟨?_, ?_, ?_, ?_, ?_, ?_, ?_, trivial⟩ ?_
   · intro ax tx hs okx sm
     exact run_plain rfl (y_move (sm 3 rfl))
   · intro ax tx hs okx sm
     exact run_plain rfl (y_move (kp (sm 0 rfl) hs q12))
   · intro ax tx hs okx sm
     exact run_plain rfl (y_move (kp (sm 4 rfl) hs q11))
   · intro ax tx hs okx sm d0 d1
     have e1 : At (Ty.lst Ty.int r) tx ax (.tmp 15) := d0 rfl
     have e2 : At (Ty.nat k) tx ax (.tmp 16) := d1 rfl
     exact run_plain rfl (y_index1 Try.underlying34 Try.inf3 e1 e2 (by omega) (lst_get Ty.int r 0 k (by omega)))
   · intro ax tx hs okx sm d0
     have e3 : At (Ty.ref [(Ty.int (r.getD k 0))]) tx ax (.tmp 17) := d0 rfl
     exact run_plain rfl (y_load Try.underlying3 rfl e3 rfl)
   · intro ax tx hs okx sm
     exact run_plain rfl (y_move (kp (sm 4 rfl) hs q11))
   · intro ax tx hs okx sm d0 d1 d2 d3 d4 d5 d6 d7
     have e0 : At (Ty.val (a6.eval (.tmp 3))) tx ax (.tmp 14) := d0 rfl
     have e4 : At (Ty.int (r.getD k 0)) tx ax (.tmp 18) := d1 rfl
     have e1 : At (Ty.lst Ty.int r) tx ax (.tmp 15) := d3 rfl
     have e2 : At (Ty.nat k) tx ax (.tmp 16) := d4 rfl
     have e3 : At (Ty.ref [(Ty.int (r.getD k 0))]) tx ax (.tmp 17) := d5 rfl
     have e5 : At (Ty.nat k) tx ax (.tmp 19) := d7 rfl
     exact run_plain rfl (own_index1 (i := (r.getD k 0)) Try.underlying34 Try.inf3 ((Pr.own 11 3 1 (List.length (undoTo r k)) (List.map Ty.int (undoTo r k))).up hs q10) e0 e4 (by omega) (by omega))
   intro a7 s5 D5
   have ok6 := D5.ok
   have F6 := F5.step0 D5.stp
   have q14 := (Pr.own 11 3 1 (List.length (undoTo r k)) (List.map Ty.int (undoTo r k))).up D5.stp q10
   have q15 : a7.eval (.tmp 3) = a6.eval (.tmp 3) := D5.same 3 rfl
   have q16 : At (Ty.nat k) s5 a7 (.tmp 4) := D5.kt q11 rfl
   have q17 : At (Ty.lst Ty.int r) s5 a7 (.tmp 0) := D5.kt q12 rfl
   have q18 : At (Ty.nat k) s5 a7 (.tmp 19) := D5.done 5 (by decide)
   have q19 : At (Ty.val (cellPtr (a6.eval (.tmp 3)) ((r.getD k 0)).toNat)) s5 a7 (.tmp 20) := D5.done 6 (by decide)
   clear D5
   refine tail_step0 (m := 11) (R := (fun _ τ => Own τ 11 3 1 (a6.eval (.tmp 3)) (List.length (undoTo r k)) ((List.map Ty.int (undoTo r k)).set ((r.getD k 0)).toNat (Ty.nat k)))) rfl rfl (m_store Try.inf3 (by decide) q14 q19 (by simp only [List.length_map, List.length_set]; omega) q18 (one_val rfl)) (fun v1 s6 hs1 r1 => ?_)
   have F7 := F6.step hs1 (by decide)
   have q20 : At (Ty.nat k) s6 a7 (.tmp 4) := kpm hs1 (by decide) rfl q16
   have q21 : At (Ty.lst Ty.int r) s6 a7 (.tmp 0) := kpm hs1 (by decide) rfl q17
   have q22 : At (Ty.nat k) s6 a7 (.tmp 19) := kpm hs1 (by decide) rfl q18
   have q23 : (Pr.own 11 3 1 (List.length ((undoTo r k).set ((r.getD k 0)).toNat ((k : Nat) : Int))) (List.map Ty.int ((undoTo r k).set ((r.getD k 0)).toNat ((k : Nat) : Int)))).has s6 (a6.eval (.tmp 3)) := (cvo (by simp) (by simp) r1)
   refine wpList_nil ?_
   have q24 : (Pr.own 11 3 1 (List.length ((undoTo r k).set ((r.getD k 0)).toNat ((k : Nat) : Int))) (List.map Ty.int ((undoTo r k).set ((r.getD k 0)).toNat ((k : Nat) : Int)))).has s6 (a7.eval (.tmp 3)) := al q15 q23
   refine bn ?_
   refine tn ?_
   refine reg (a := a7) (σ := s6) rfl (fun i_ => List.getD [(Ty.pr (Ty.nat k)), (Ty.pr (Ty.int (((k : Nat) : Int) + (1 : Int)))), (Ty.pr (Ty.int (((k : Nat) : Int) + (1 : Int))))] i_ Pr.any) ok6 rfl ⟨?_, ?_, ?_, trivial⟩ ?_
   · intro ax tx hs okx sm
     exact run_plain rfl (y_move (kp (sm 4 rfl) hs q20))
   · intro ax tx hs okx sm d0
     have e0 : At (Ty.nat k) tx ax (.tmp 12) := d0 rfl
     exact run_plain rfl (y_add e0 rfl (w64 (by omega) (by omega)))
   · intro ax tx hs okx sm d0 d1 d2
     have e1 : At (Ty.int (((k : Nat) : Int) + (1 : Int))) tx ax (.tmp 13) := d0 rfl
     have e0 : At (Ty.nat k) tx ax (.tmp 12) := d1 rfl
     exact run_plain rfl (y_assign e1)
   intro a9 s7 D6
   have ok8 := D6.ok
   have F8 := F7.step0 D6.stp
   have q25 : (Pr.own 11 3 1 (List.length ((undoTo r k).set ((r.getD k 0)).toNat ((k : Nat) : Int))) (List.map Ty.int ((undoTo r k).set ((r.getD k 0)).toNat ((k : Nat) : Int)))).has s7 (a9.eval (.tmp 3)) := D6.ko q24 rfl
   have q26 : At (Ty.lst Ty.int r) s7 a9 (.tmp 0) := D6.kt q21 rfl
   have q27 : At (Ty.int (((k : Nat) : Int) + (1 : Int))) s7 a9 (.tmp 4) := D6.done 2
   clear D6
   exact tn ⟨r.length - ((k+1)), by omega, s7, (k+1), rfl, F8, ok8, (cvo (by (rw [undoTo_step r k hr (by omega)])) (by (rw [undoTo_step r k hr (by omega)])) q25), (cvi (by (first | rfl | omega | (simp_all; done) | (simp_all; omega))) q27), q26, by omega, rfl⟩
  ·
   refine wp_exit ?_
   refine tx ?_
   refine tx ?_
   refine bx ?_
   refine tn ?_
   refine wp_seq ?_
   refine reg (a := a6) (σ := s4) rfl (fun i_ => List.getD [(Ty.pr (Ty.val (a6.eval (.tmp 3)))), (Ty.pr (Ty.val (a6.eval (.tmp 3))))] i_ Pr.any) ok5 rfl ⟨?_, ?_, trivial⟩ ?_
   · intro ax tx hs okx sm
     exact run_plain rfl (y_move (sm 3 rfl))
   · intro ax tx hs okx sm d0 d1
     have e0 : At (Ty.val (a6.eval (.tmp 3))) tx ax (.tmp 21) := d0 rfl
     exact run_plain rfl (y_assign e0)
   intro a10 s8 D7
   have ok9 := D7.ok
   have F9 := F5.step0 D7.stp
   have q28 : (Pr.own 11 3 1 (List.length (undoTo r k)) (List.map Ty.int (undoTo r k))).has s8 (a10.eval (.tmp 2)) := al (show _ = _ from D7.done 1) ((Pr.own 11 3 1 (List.length (undoTo r k)) (List.map Ty.int (undoTo r k))).up D7.stp q10)
   clear D7
   refine tn ?_
   refine wp_ret ?_
   obtain ⟨t3, e1, h1, q29⟩ := Own.seal q28 (by decide)
   rw [← e1]
   have F10 := F9.step h1 (by decide)
   exact ret1 rfl ok9 F10 (cvt (by (obtain rfl : k = r.length := (by omega); rw [undoTo_all r hr])) q29)


set_option maxHeartbeats 4000000 in
set_option maxRecDepth 100000 in
theorem rSignOf_fn (b : Int) (σ : GW)  (v0 : Value) (hv0 : Ty.has (Ty.int b) σ v0)  (hb : 0 ≤ b ∧ b < 12) :
    FnC Try.prog 67 #[v0] σ (Ty.val (Value.string (ByteArray.extract SIGNS (b).toNat (b + 1).toNat))) := by
 have hsz := signs_size
 refine fn_intro0 Try.func67 rfl Try.ntmps67 (Nat.le_of_ble_eq_true rfl) (fun s0 a0 hle F0 ok0 hargs => ?_)
 have p0 : At (Ty.int b) s0 a0 (.tmp 0) := by have e := hargs 0 _ rfl; show Ty.has _ _ _; rw [e]; exact Ty.up _ hle hv0
 clear hargs
 refine wp_seq ?_
 refine reg (a := a0) (σ := s0) rfl (fun i_ => List.getD [(Ty.pr (Ty.val (Value.string (ByteArray.mk #[]))))] i_ Pr.any) ok0 rfl ⟨?_, trivial⟩ ?_
 · intro ax tx hs okx sm
   exact run_plain rfl (y_assign rfl)
 intro a1 s1 D1
 have ok1 := D1.ok
 have F1 := F0.step0 D1.stp
 have q1 : At (Ty.int b) s1 a1 (.tmp 0) := D1.kt p0 rfl
 clear D1
 refine tn ?_
 refine wp_seq ?_
 refine reg (a := a1) (σ := s1) rfl (fun i_ => List.getD [(Ty.pr (Ty.int b)), (Ty.pr (Ty.int b)), (Ty.pr (Ty.int (b + (1 : Int)))), (Ty.pr (Ty.val (Value.string (ByteArray.extract SIGNS (b).toNat ((b + (1 : Int))).toNat)))), (Ty.pr (Ty.val (Value.string (ByteArray.extract SIGNS (b).toNat ((b + (1 : Int))).toNat))))] i_ Pr.any) ok1 rfl ⟨?_, ?_, ?_, ?_, ?_, trivial⟩ ?_
 · intro ax tx hs okx sm
   exact run_plain rfl (y_move (kp (sm 0 rfl) hs q1))
 · intro ax tx hs okx sm
   exact run_plain rfl (y_move (kp (sm 0 rfl) hs q1))
 · intro ax tx hs okx sm d0
   have e1 : At (Ty.int b) tx ax (.tmp 4) := d0 rfl
   exact run_plain rfl (y_add e1 rfl (w64 (by omega) (by omega)))
 · intro ax tx hs okx sm d0 d1
   have e0 : At (Ty.int b) tx ax (.tmp 3) := d0 rfl
   have e2 : At (Ty.int (b + (1 : Int))) tx ax (.tmp 5) := d1 rfl
   exact run_plain rfl (y_sft (l := (b).toNat) (h := ((b + (1 : Int))).toNat) Try.underlying9 rfl (toN (σ := tx) e0 (by omega)) (toN (σ := tx) e2 (by omega)) (by omega) (by omega))
 · intro ax tx hs okx sm d0 d1 d2 d3 d4
   have e3 : At (Ty.val (Value.string (ByteArray.extract SIGNS (b).toNat ((b + (1 : Int))).toNat))) tx ax (.tmp 6) := d0 rfl
   have e0 : At (Ty.int b) tx ax (.tmp 3) := d1 rfl
   have e1 : At (Ty.int b) tx ax (.tmp 4) := d2 rfl
   have e2 : At (Ty.int (b + (1 : Int))) tx ax (.tmp 5) := d3 rfl
   exact run_plain rfl (y_assign e3)
 intro a2 s2 D2
 have ok2 := D2.ok
 have F2 := F1.step0 D2.stp
 have q2 : At (Ty.val (Value.string (ByteArray.extract SIGNS (b).toNat ((b + (1 : Int))).toNat))) s2 a2 (.tmp 2) := D2.done 4
 clear D2
 refine tn ?_
 refine wp_ret ?_
 exact retL1 rfl ok2 F2 (cvt (by (first | rfl | omega | (simp_all; done) | (simp_all; omega))) q2)


set_option maxHeartbeats 4000000 in
set_option maxRecDepth 100000 in
theorem rText_fn (r : List Int) (σ : GW)  (v0 : Value) (hv0 : Ty.has (Ty.lst Ty.int r) σ v0)  (hr : ∀ i, i < r.length → 0 ≤ r.getD i 0 ∧ r.getD i 0 < 12) (hl : r.length ≤ 1000000) :
    FnC Try.prog 49 #[v0] σ (Ty.val (Value.string (bsL (signsB r)))) := by
 refine fn_intro0 Try.func49 rfl Try.ntmps49 (Nat.le_of_ble_eq_true rfl) (fun s0 a0 hle F0 ok0 hargs => ?_)
 have p0 : At (Ty.lst Ty.int r) s0 a0 (.tmp 0) := by have e := hargs 0 _ rfl; show Ty.has _ _ _; rw [e]; exact Ty.up _ hle hv0
 have b1 := sl_le p0
 clear hargs
 refine wp_seq ?_
 refine reg (a := a0) (σ := s0) rfl (fun i_ => List.getD [(Ty.pr (Ty.val (Value.string (ByteArray.mk #[]))))] i_ Pr.any) ok0 rfl ⟨?_, trivial⟩ ?_
 · intro ax tx hs okx sm
   exact run_plain rfl (y_assign rfl)
 intro a1 s1 D1
 have ok1 := D1.ok
 have F1 := F0.step0 D1.stp
 have q1 : At (Ty.lst Ty.int r) s1 a1 (.tmp 0) := D1.kt p0 rfl
 clear D1
 refine tn ?_
 refine wp_seq ?_
 refine reg (a := a1) (σ := s1) rfl (fun i_ => List.getD [(Ty.pr (Ty.val (Value.string (ByteArray.mk #[]))))] i_ Pr.any) ok1 rfl ⟨?_, trivial⟩ ?_
 · intro ax tx hs okx sm
   exact run_plain rfl (y_assign rfl)
 intro a2 s2 D2
 have ok2 := D2.ok
 have F2 := F1.step0 D2.stp
 have q2 : At (Ty.lst Ty.int r) s2 a2 (.tmp 0) := D2.kt q1 rfl
 have q3 : At (Ty.val (Value.string (ByteArray.mk #[]))) s2 a2 (.tmp 3) := D2.done 0
 clear D2
 refine tn ?_
 refine wp_seq ?_
 refine wp_seq ?_
 refine reg (a := a2) (σ := s2) rfl (fun i_ => List.getD [(Ty.pr (Ty.int (0 : Int)))] i_ Pr.any) ok2 rfl ⟨?_, trivial⟩ ?_
 · intro ax tx hs okx sm
   exact run_plain rfl (y_assign rfl)
 intro a3 s3 D3
 have ok3 := D3.ok
 have F3 := F2.step0 D3.stp
 have q4 : At (Ty.lst Ty.int r) s3 a3 (.tmp 0) := D3.kt q2 rfl
 have q5 : At (Ty.val (Value.string (ByteArray.mk #[]))) s3 a3 (.tmp 3) := D3.kt q3 rfl
 have q6 : At (Ty.int (0 : Int)) s3 a3 (.tmp 4) := D3.done 0
 clear D3
 refine tn ?_
 refine wp_block ?_
 refine loop (fun n1 a4 w1 => ∃ (t1 : GW) (k : Nat), t1.w = w1 ∧ FromL [] s0 t1 ∧ Ok 19 a4 ∧ At (Ty.nat k) t1 a4 (.tmp 4) ∧ At (Ty.val (Value.string (bsL (signsB (r.take k))))) t1 a4 (.tmp 3) ∧ At (Ty.lst Ty.int r) t1 a4 (.tmp 0) ∧ (k ≤ r.length) ∧ n1 = r.length - k) (r.length - (0)) ?_ ?_
 ·
  exact ⟨s3, 0, rfl, F3, ok3, (cvi (by (first | rfl | omega | (simp_all; done) | (simp_all; omega))) q6), (cvt (by (simp [signsB]; rfl)) q5), q4, by omega, rfl⟩
 ·
  rintro n2 a5 w2 ⟨t2, k, rfl, F4, ok4, q7, q8, q9, hk, rfl⟩
  have hbs := bsL_size (signsB (r.take k))
  have hsl := signsB_len (r.take k)
  have htl := List.length_take_le k r
  refine wp_seq ?_
  refine wp_seq ?_
  refine reg (a := a5) (σ := t2) rfl (fun i_ => List.getD [(Ty.pr (Ty.nat k)), (Ty.pr (Ty.lst Ty.int r)), (Ty.pr (Ty.nat (List.length r))), (Ty.pr (Ty.bool (decide (((k : Nat) : Int) < (((List.length r) : Nat) : Int)))))] i_ Pr.any) ok4 rfl ⟨?_, ?_, ?_, ?_, trivial⟩ ?_
  · intro ax tx hs okx sm
    exact run_plain rfl (y_move (kp (sm 4 rfl) hs q7))
  · intro ax tx hs okx sm
    exact run_plain rfl (y_move (kp (sm 0 rfl) hs q9))
  · intro ax tx hs okx sm d0
    have e1 : At (Ty.lst Ty.int r) tx ax (.tmp 6) := d0 rfl
    exact run_plain rfl (y_len Try.underlying34 e1)
  · intro ax tx hs okx sm d0 d1
    have e0 : At (Ty.nat k) tx ax (.tmp 5) := d0 rfl
    have e2 : At (Ty.nat (List.length r)) tx ax (.tmp 7) := d1 rfl
    exact run_plain rfl (y_lss e0 e2)
  intro a6 s4 D4
  have ok5 := D4.ok
  have F5 := F4.step0 D4.stp
  have q10 : At (Ty.nat k) s4 a6 (.tmp 4) := D4.kt q7 rfl
  have q11 : At (Ty.val (Value.string (bsL (signsB (r.take k))))) s4 a6 (.tmp 3) := D4.kt q8 rfl
  have q12 : At (Ty.lst Ty.int r) s4 a6 (.tmp 0) := D4.kt q9 rfl
  have q13 : At (Ty.bool (decide (((k : Nat) : Int) < (((List.length r) : Nat) : Int)))) s4 a6 (.tmp 8) := D4.done 3
  clear D4
  refine tn ?_
  refine cond_p (p := (((k : Nat) : Int) < (((List.length r) : Nat) : Int))) q13 (fun c1 => ?_) (fun c1 => ?_)
  ·
   have hrk := hr k (by omega); have hsg : (SIGNS.extract (r.getD k 0).toNat (r.getD k 0 + 1).toNat).size ≤ 12 := (by rw [ByteArray.size_extract, signs_size]; omega)
   refine wp_skip ?_
   refine tn ?_
   refine wp_seq ?_
   refine wp_block ?_
   refine reg (a := a6) (σ := s4) rfl (fun i_ => List.getD [(Ty.pr (Ty.val (Value.string (bsL (signsB (r.take k)))))), (Ty.pr (Ty.lst Ty.int r)), (Ty.pr (Ty.nat k)), (Ty.pr (Ty.ref [(Ty.int (r.getD k 0))])), (Ty.pr (Ty.int (r.getD k 0))), (Ty.pr (Ty.val (Value.string (ByteArray.extract SIGNS (((r.getD k 0))).toNat (((r.getD k 0)) + 1).toNat)))), (Ty.pr (Ty.val (Value.string ((bsL (signsB (r.take k))) ++ (ByteArray.extract SIGNS (((r.getD k 0))).toNat (((r.getD k 0)) + 1).toNat))))), (Ty.pr (Ty.val (Value.string ((bsL (signsB (r.take k))) ++ (ByteArray.extract SIGNS (((r.getD k 0))).toNat (((r.getD k 0)) + 1).toNat)))))] i_ Pr.any) ok5 rfl ⟨?_, ?_, ?_, ?_, ?_, ?_, ?_, ?_, trivial⟩ ?_
   · intro ax tx hs okx sm
     exact run_plain rfl (y_move (kp (sm 3 rfl) hs q11))
   · intro ax tx hs okx sm
     exact run_plain rfl (y_move (kp (sm 0 rfl) hs q12))
   · intro ax tx hs okx sm
     exact run_plain rfl (y_move (kp (sm 4 rfl) hs q10))
   · intro ax tx hs okx sm d0 d1
     have e1 : At (Ty.lst Ty.int r) tx ax (.tmp 12) := d0 rfl
     have e2 : At (Ty.nat k) tx ax (.tmp 13) := d1 rfl
     exact run_plain rfl (y_index1 Try.underlying34 Try.inf3 e1 e2 (by omega) (lst_get Ty.int r 0 k (by omega)))
   · intro ax tx hs okx sm d0
     have e3 : At (Ty.ref [(Ty.int (r.getD k 0))]) tx ax (.tmp 14) := d0 rfl
     exact run_plain rfl (y_load Try.underlying3 rfl e3 rfl)
   · intro ax tx hs okx sm d0
     have e4 : At (Ty.int (r.getD k 0)) tx ax (.tmp 15) := d0 rfl
     exact run_plain rfl (y_call #[ax.eval (.tmp 15)] Try.func67 rfl rfl (by simp only [List.map_toArray, List.map_cons, List.map_nil]) (rSignOf_fn ((r.getD k 0)) _ _ (cvi (σ := tx) (by omega) e4) (by omega)))
   · intro ax tx hs okx sm d0 d1
     have e0 : At (Ty.val (Value.string (bsL (signsB (r.take k))))) tx ax (.tmp 11) := d0 rfl
     have e5 : At (Ty.val (Value.string (ByteArray.extract SIGNS (((r.getD k 0))).toNat (((r.getD k 0)) + 1).toNat))) tx ax (.tmp 16) := d1 rfl
     exact run_plain rfl (y_scat e0 e5 (by omega))
   · intro ax tx hs okx sm d0 d1 d2 d3 d4 d5 d6 d7 d8
     have e6 : At (Ty.val (Value.string ((bsL (signsB (r.take k))) ++ (ByteArray.extract SIGNS (((r.getD k 0))).toNat (((r.getD k 0)) + 1).toNat)))) tx ax (.tmp 17) := d0 rfl
     have e5 : At (Ty.val (Value.string (ByteArray.extract SIGNS (((r.getD k 0))).toNat (((r.getD k 0)) + 1).toNat))) tx ax (.tmp 16) := d1 rfl
     have e0 : At (Ty.val (Value.string (bsL (signsB (r.take k))))) tx ax (.tmp 11) := d2 rfl
     have e1 : At (Ty.lst Ty.int r) tx ax (.tmp 12) := d3 rfl
     have e2 : At (Ty.nat k) tx ax (.tmp 13) := d4 rfl
     have e3 : At (Ty.ref [(Ty.int (r.getD k 0))]) tx ax (.tmp 14) := d5 rfl
     have e4 : At (Ty.int (r.getD k 0)) tx ax (.tmp 15) := d6 rfl
     exact run_plain rfl (y_assign e6)
   intro a7 s5 D5
   have ok6 := D5.ok
   have F6 := F5.step0 D5.stp
   have q14 : At (Ty.nat k) s5 a7 (.tmp 4) := D5.kt q10 rfl
   have q15 : At (Ty.lst Ty.int r) s5 a7 (.tmp 0) := D5.kt q12 rfl
   have q16 : At (Ty.val (Value.string ((bsL (signsB (r.take k))) ++ (ByteArray.extract SIGNS (((r.getD k 0))).toNat (((r.getD k 0)) + 1).toNat)))) s5 a7 (.tmp 3) := D5.done 7
   clear D5
   refine bn ?_
   refine tn ?_
   refine reg (a := a7) (σ := s5) rfl (fun i_ => List.getD [(Ty.pr (Ty.nat k)), (Ty.pr (Ty.int (((k : Nat) : Int) + (1 : Int)))), (Ty.pr (Ty.int (((k : Nat) : Int) + (1 : Int))))] i_ Pr.any) ok6 rfl ⟨?_, ?_, ?_, trivial⟩ ?_
   · intro ax tx hs okx sm
     exact run_plain rfl (y_move (kp (sm 4 rfl) hs q14))
   · intro ax tx hs okx sm d0
     have e0 : At (Ty.nat k) tx ax (.tmp 9) := d0 rfl
     exact run_plain rfl (y_add e0 rfl (w64 (by omega) (by omega)))
   · intro ax tx hs okx sm d0 d1 d2
     have e1 : At (Ty.int (((k : Nat) : Int) + (1 : Int))) tx ax (.tmp 10) := d0 rfl
     have e0 : At (Ty.nat k) tx ax (.tmp 9) := d1 rfl
     exact run_plain rfl (y_assign e1)
   intro a8 s6 D6
   have ok7 := D6.ok
   have F7 := F6.step0 D6.stp
   have q17 : At (Ty.lst Ty.int r) s6 a8 (.tmp 0) := D6.kt q15 rfl
   have q18 : At (Ty.val (Value.string ((bsL (signsB (r.take k))) ++ (ByteArray.extract SIGNS (((r.getD k 0))).toNat (((r.getD k 0)) + 1).toNat)))) s6 a8 (.tmp 3) := D6.kt q16 rfl
   have q19 : At (Ty.int (((k : Nat) : Int) + (1 : Int))) s6 a8 (.tmp 4) := D6.done 2
   clear D6
   exact tn ⟨r.length - ((k+1)), by omega, s6, (k+1), rfl, F7, ok7, (cvi (by (first | rfl | omega | (simp_all; done) | (simp_all; omega))) q19), (cvt (by (rw [sign_cat (by omega) hrk.1 hrk.2])) q18), q17, by omega, rfl⟩
  ·
   refine wp_exit ?_
   refine tx ?_
   refine tx ?_
   refine bx ?_
   refine tn ?_
   refine wp_seq ?_
   refine reg (a := a6) (σ := s4) rfl (fun i_ => List.getD [(Ty.pr (Ty.val (Value.string (bsL (signsB (r.take k)))))), (Ty.pr (Ty.val (Value.string (bsL (signsB (r.take k))))))] i_ Pr.any) ok5 rfl ⟨?_, ?_, trivial⟩ ?_
   · intro ax tx hs okx sm
     exact run_plain rfl (y_move (kp (sm 3 rfl) hs q11))
   · intro ax tx hs okx sm d0 d1
     have e0 : At (Ty.val (Value.string (bsL (signsB (r.take k))))) tx ax (.tmp 18) := d0 rfl
     exact run_plain rfl (y_assign e0)
   intro a9 s7 D7
   have ok8 := D7.ok
   have F8 := F5.step0 D7.stp
   have q20 : At (Ty.val (Value.string (bsL (signsB (r.take k))))) s7 a9 (.tmp 2) := D7.done 1
   clear D7
   refine tn ?_
   refine wp_ret ?_
   exact retL1 rfl ok8 F8 (cvt (by (obtain rfl : k = r.length := (by omega); rw [List.take_length])) q20)


set_option maxRecDepth 100000 in
theorem two_fn (a : List Int) (b : List Int) (σ : GW) (v0 v1 : Value) (hv0 : Ty.has (Ty.lst Ty.int a) σ v0) (hv1 : Ty.has (Ty.lst Ty.int b) σ v1)  :
    FnC Try.prog 97 #[v0, v1] σ (Ty.int (twoMay a b)) := by
 refine fn_intro Try.func97 rfl Try.ntmps97 (Nat.le_of_ble_eq_true rfl) (fun s0 a0 hle F0 ok0 hargs => ?_)
 have p0 : At (Ty.lst Ty.int a) s0 a0 (.tmp 0) := by have e := hargs 0 _ rfl; show Ty.has _ _ _; rw [e]; exact Ty.up _ hle hv0
 have b1 := sl_le p0
 have p1 : At (Ty.lst Ty.int b) s0 a0 (.tmp 1) := by have e := hargs 1 _ rfl; show Ty.has _ _ _; rw [e]; exact Ty.up _ hle hv1
 have b2 := sl_le p1
 clear hargs
 refine wp_seq ?_
 refine reg (a := a0) (σ := s0) rfl (fun i_ => List.getD [(Ty.pr (Ty.int (0 : Int)))] i_ Pr.any) ok0 rfl ⟨?_, trivial⟩ ?_
 · intro ax tx hs okx sm
   exact run_plain rfl (y_assign rfl)
 intro a1 s1 D1
 have ok1 := D1.ok
 have F1 := F0.step0 D1.stp
 have q1 : At (Ty.lst Ty.int a) s1 a1 (.tmp 0) := D1.kt p0 rfl
 have q2 : At (Ty.lst Ty.int b) s1 a1 (.tmp 1) := D1.kt p1 rfl
 clear D1
 refine tn ?_
 refine wp_seq ?_
 refine wp_seq ?_
 refine reg (a := a1) (σ := s1) rfl (fun i_ => List.getD [(Ty.pr (Ty.lst Ty.int a)), (Ty.pr (Ty.int (rowMay (a)))), (Ty.pr (Ty.int (rowMay (a))))] i_ Pr.any) ok1 rfl ⟨?_, ?_, ?_, trivial⟩ ?_
 · intro ax tx hs okx sm
   exact run_plain rfl (y_move (kp (sm 0 rfl) hs q1))
 · intro ax tx hs okx sm d0
   have e0 : At (Ty.lst Ty.int a) tx ax (.tmp 7) := d0 rfl
   exact run_plain rfl (y_call #[ax.eval (.tmp 7)] Try.func44 rfl rfl (by simp only [List.map_toArray, List.map_cons, List.map_nil]) (rowCheck_fn (a) _ _ e0 ))
 · intro ax tx hs okx sm d0 d1 d2 d3
   have e1 : At (Ty.int (rowMay (a))) tx ax (.tmp 8) := d0 rfl
   have e0 : At (Ty.lst Ty.int a) tx ax (.tmp 7) := d2 rfl
   exact run_plain rfl (y_assign e1)
 intro a2 s2 D2
 have ok2 := D2.ok
 have F2 := F1.step0 D2.stp
 have q3 : At (Ty.lst Ty.int a) s2 a2 (.tmp 0) := D2.kt q1 rfl
 have q4 : At (Ty.lst Ty.int b) s2 a2 (.tmp 1) := D2.kt q2 rfl
 have q5 : At (Ty.int (rowMay (a))) s2 a2 (.tmp 5) := D2.done 2
 clear D2
 refine tn ?_
 refine wp_seq ?_
 refine reg (a := a2) (σ := s2) rfl (fun i_ => List.getD [(Ty.pr (Ty.int (rowMay (a)))), (Ty.pr (Ty.bool (decide ((rowMay (a)) ≠ (0 : Int)))))] i_ Pr.any) ok2 rfl ⟨?_, ?_, trivial⟩ ?_
 · intro ax tx hs okx sm
   exact run_plain rfl (y_move (kp (sm 5 rfl) hs q5))
 · intro ax tx hs okx sm d0
   have e0 : At (Ty.int (rowMay (a))) tx ax (.tmp 9) := d0 rfl
   exact run_plain rfl (y_neq e0 rfl)
 intro a3 s3 D3
 have ok3 := D3.ok
 have F3 := F2.step0 D3.stp
 have q6 : At (Ty.lst Ty.int a) s3 a3 (.tmp 0) := D3.kt q3 rfl
 have q7 : At (Ty.lst Ty.int b) s3 a3 (.tmp 1) := D3.kt q4 rfl
 have q8 : At (Ty.int (rowMay (a))) s3 a3 (.tmp 5) := D3.kt q5 rfl
 have q9 : At (Ty.bool (decide ((rowMay (a)) ≠ (0 : Int)))) s3 a3 (.tmp 10) := D3.done 1
 clear D3
 refine tn ?_
 refine cond_p (p := ((rowMay (a)) ≠ (0 : Int))) q9 (fun c1 => ?_) (fun c1 => ?_)
 ·
  refine wp_seq ?_
  refine reg (a := a3) (σ := s3) rfl (fun i_ => List.getD [(Ty.pr (Ty.int (rowMay (a)))), (Ty.pr (Ty.int (rowMay (a))))] i_ Pr.any) ok3 rfl ⟨?_, ?_, trivial⟩ ?_
  · intro ax tx hs okx sm
    exact run_plain rfl (y_move (kp (sm 5 rfl) hs q8))
  · intro ax tx hs okx sm d0 d1
    have e0 : At (Ty.int (rowMay (a))) tx ax (.tmp 11) := d0 rfl
    exact run_plain rfl (y_assign e0)
  intro a4 s4 D4
  have ok4 := D4.ok
  have F4 := F3.step0 D4.stp
  have q10 : At (Ty.int (rowMay (a))) s4 a4 (.tmp 4) := D4.done 1
  clear D4
  refine tn ?_
  refine wp_ret ?_
  refine tr ?_
  exact ret1 rfl ok4 F4 (cvi (by (exact (twoMay_1 (by assumption)).symm)) q10)
 ·
  refine wp_skip ?_
  refine tn ?_
  refine wp_seq ?_
  refine wp_seq ?_
  refine reg (a := a3) (σ := s3) rfl (fun i_ => List.getD [(Ty.pr (Ty.lst Ty.int b)), (Ty.pr (Ty.int (rowMay (b)))), (Ty.pr (Ty.int (rowMay (b))))] i_ Pr.any) ok3 rfl ⟨?_, ?_, ?_, trivial⟩ ?_
  · intro ax tx hs okx sm
    exact run_plain rfl (y_move (kp (sm 1 rfl) hs q7))
  · intro ax tx hs okx sm d0
    have e0 : At (Ty.lst Ty.int b) tx ax (.tmp 12) := d0 rfl
    exact run_plain rfl (y_call #[ax.eval (.tmp 12)] Try.func44 rfl rfl (by simp only [List.map_toArray, List.map_cons, List.map_nil]) (rowCheck_fn (b) _ _ e0 ))
  · intro ax tx hs okx sm d0 d1 d2 d3
    have e1 : At (Ty.int (rowMay (b))) tx ax (.tmp 13) := d0 rfl
    have e0 : At (Ty.lst Ty.int b) tx ax (.tmp 12) := d2 rfl
    exact run_plain rfl (y_assign e1)
  intro a5 s5 D5
  have ok5 := D5.ok
  have F5 := F3.step0 D5.stp
  have q11 : At (Ty.lst Ty.int a) s5 a5 (.tmp 0) := D5.kt q6 rfl
  have q12 : At (Ty.lst Ty.int b) s5 a5 (.tmp 1) := D5.kt q7 rfl
  have q13 : At (Ty.int (rowMay (b))) s5 a5 (.tmp 6) := D5.done 2
  clear D5
  refine tn ?_
  refine wp_seq ?_
  refine reg (a := a5) (σ := s5) rfl (fun i_ => List.getD [(Ty.pr (Ty.int (rowMay (b)))), (Ty.pr (Ty.bool (decide ((rowMay (b)) ≠ (0 : Int)))))] i_ Pr.any) ok5 rfl ⟨?_, ?_, trivial⟩ ?_
  · intro ax tx hs okx sm
    exact run_plain rfl (y_move (kp (sm 6 rfl) hs q13))
  · intro ax tx hs okx sm d0
    have e0 : At (Ty.int (rowMay (b))) tx ax (.tmp 14) := d0 rfl
    exact run_plain rfl (y_neq e0 rfl)
  intro a6 s6 D6
  have ok6 := D6.ok
  have F6 := F5.step0 D6.stp
  have q14 : At (Ty.lst Ty.int a) s6 a6 (.tmp 0) := D6.kt q11 rfl
  have q15 : At (Ty.lst Ty.int b) s6 a6 (.tmp 1) := D6.kt q12 rfl
  have q16 : At (Ty.int (rowMay (b))) s6 a6 (.tmp 6) := D6.kt q13 rfl
  have q17 : At (Ty.bool (decide ((rowMay (b)) ≠ (0 : Int)))) s6 a6 (.tmp 15) := D6.done 1
  clear D6
  refine tn ?_
  refine cond_p (p := ((rowMay (b)) ≠ (0 : Int))) q17 (fun c2 => ?_) (fun c2 => ?_)
  ·
   refine wp_seq ?_
   refine reg (a := a6) (σ := s6) rfl (fun i_ => List.getD [(Ty.pr (Ty.int (rowMay (b)))), (Ty.pr (Ty.int (rowMay (b))))] i_ Pr.any) ok6 rfl ⟨?_, ?_, trivial⟩ ?_
   · intro ax tx hs okx sm
     exact run_plain rfl (y_move (kp (sm 6 rfl) hs q16))
   · intro ax tx hs okx sm d0 d1
     have e0 : At (Ty.int (rowMay (b))) tx ax (.tmp 16) := d0 rfl
     exact run_plain rfl (y_assign e0)
   intro a7 s7 D7
   have ok7 := D7.ok
   have F7 := F6.step0 D7.stp
   have q18 : At (Ty.int (rowMay (b))) s7 a7 (.tmp 4) := D7.done 1
   clear D7
   refine tn ?_
   refine wp_ret ?_
   refine tr ?_
   exact ret1 rfl ok7 F7 (cvi (by (exact (twoMay_2 (by omega) (by assumption)).symm)) q18)
  ·
   refine wp_skip ?_
   refine tn ?_
   refine wp_seq ?_
   refine wp_seq ?_
   refine reg (a := a6) (σ := s6) rfl (fun i_ => List.getD [(Ty.pr (Ty.lst Ty.int a)), (Ty.pr (Ty.nat (List.length a))), (Ty.pr (Ty.lst Ty.int b)), (Ty.pr (Ty.nat (List.length b))), (Ty.pr (Ty.bool (decide ((((List.length a) : Nat) : Int) ≠ (((List.length b) : Nat) : Int)))))] i_ Pr.any) ok6 rfl ⟨?_, ?_, ?_, ?_, ?_, trivial⟩ ?_
   · intro ax tx hs okx sm
     exact run_plain rfl (y_move (kp (sm 0 rfl) hs q14))
   · intro ax tx hs okx sm d0
     have e0 : At (Ty.lst Ty.int a) tx ax (.tmp 17) := d0 rfl
     exact run_plain rfl (y_len Try.underlying34 e0)
   · intro ax tx hs okx sm
     exact run_plain rfl (y_move (kp (sm 1 rfl) hs q15))
   · intro ax tx hs okx sm d0
     have e2 : At (Ty.lst Ty.int b) tx ax (.tmp 19) := d0 rfl
     exact run_plain rfl (y_len Try.underlying34 e2)
   · intro ax tx hs okx sm d0 d1
     have e1 : At (Ty.nat (List.length a)) tx ax (.tmp 18) := d0 rfl
     have e3 : At (Ty.nat (List.length b)) tx ax (.tmp 20) := d1 rfl
     exact run_plain rfl (y_neq e1 e3)
   intro a8 s8 D8
   have ok8 := D8.ok
   have F8 := F6.step0 D8.stp
   have q19 : At (Ty.bool (decide ((((List.length a) : Nat) : Int) ≠ (((List.length b) : Nat) : Int)))) s8 a8 (.tmp 21) := D8.done 4
   clear D8
   refine tn ?_
   refine cond_p (p := ((((List.length a) : Nat) : Int) ≠ (((List.length b) : Nat) : Int))) q19 (fun c3 => ?_) (fun c3 => ?_)
   ·
    refine wp_seq ?_
    refine reg (a := a8) (σ := s8) rfl (fun i_ => List.getD [(Ty.pr (Ty.int (1 : Int)))] i_ Pr.any) ok8 rfl ⟨?_, trivial⟩ ?_
    · intro ax tx hs okx sm
      exact run_plain rfl (y_assign rfl)
    intro a9 s9 D9
    have ok9 := D9.ok
    have F9 := F8.step0 D9.stp
    have q20 : At (Ty.int (1 : Int)) s9 a9 (.tmp 4) := D9.done 0
    clear D9
    refine tn ?_
    refine wp_ret ?_
    refine tr ?_
    exact ret1 rfl ok9 F9 (cvi (by (exact (twoMay_3 (by omega) (by omega) (by omega)).symm)) q20)
   ·
    refine wp_skip ?_
    refine tn ?_
    refine wp_seq ?_
    refine reg (a := a8) (σ := s8) rfl (fun i_ => List.getD [(Ty.pr (Ty.int (0 : Int)))] i_ Pr.any) ok8 rfl ⟨?_, trivial⟩ ?_
    · intro ax tx hs okx sm
      exact run_plain rfl (y_assign rfl)
    intro a10 s10 D10
    have ok10 := D10.ok
    have F10 := F8.step0 D10.stp
    have q21 : At (Ty.int (0 : Int)) s10 a10 (.tmp 4) := D10.done 0
    clear D10
    refine tn ?_
    refine wp_ret ?_
    exact ret1 rfl ok10 F10 (cvi (by (exact (twoMay_0 (by omega) (by omega) (by omega)).symm)) q21)


set_option maxRecDepth 100000 in
theorem product_fn (a : List Int) (b : List Int) (σ : GW) (v0 v1 : Value) (hv0 : Ty.has (Ty.lst Ty.int a) σ v0) (hv1 : Ty.has (Ty.lst Ty.int b) σ v1) (hl : a.length = b.length) (hbd : ∀ i, i < b.length → 0 ≤ b.getD i 0 ∧ b.getD i 0 < a.length) (hs : a.length ≤ 1000000) :
    FnC Try.prog 98 #[v0, v1] σ (Ty.lst Ty.int (byL a b)) := by
 refine fn_intro Try.func98 rfl Try.ntmps98 (Nat.le_of_ble_eq_true rfl) (fun s0 a0 hle F0 ok0 hargs => ?_)
 have p0 : At (Ty.lst Ty.int a) s0 a0 (.tmp 0) := by have e := hargs 0 _ rfl; show Ty.has _ _ _; rw [e]; exact Ty.up _ hle hv0
 have b1 := sl_le p0
 have p1 : At (Ty.lst Ty.int b) s0 a0 (.tmp 1) := by have e := hargs 1 _ rfl; show Ty.has _ _ _; rw [e]; exact Ty.up _ hle hv1
 have b2 := sl_le p1
 clear hargs
 refine wp_seq ?_
 refine reg (a := a0) (σ := s0) rfl (fun i_ => List.getD [(Ty.pr (Ty.val (Value.slice none 0 0)))] i_ Pr.any) ok0 rfl ⟨?_, trivial⟩ ?_
 · intro ax tx hs okx sm
   exact run_plain rfl (y_assign rfl)
 intro a1 s1 D1
 have ok1 := D1.ok
 have F1 := F0.step0 D1.stp
 have q1 : At (Ty.lst Ty.int a) s1 a1 (.tmp 0) := D1.kt p0 rfl
 have q2 : At (Ty.lst Ty.int b) s1 a1 (.tmp 1) := D1.kt p1 rfl
 clear D1
 refine tn ?_
 refine wp_seq ?_
 refine reg (a := a1) (σ := s1) rfl (fun i_ => List.getD [(Ty.pr (Ty.lst Ty.int a)), (Ty.pr (Ty.nat (List.length a))), (Pr.own 11 3 1 (List.length a) (List.map Ty.int (List.replicate (List.length a) 0))), (Pr.own 11 3 1 (List.length a) (List.map Ty.int (List.replicate (List.length a) 0)))] i_ Pr.any) ok1 rfl ⟨?_, ?_, ?_, ?_, trivial⟩ ?_
 · intro ax tx hs okx sm
   exact run_plain rfl (y_move (kp (sm 0 rfl) hs q1))
 · intro ax tx hs okx sm d0
   have e0 : At (Ty.lst Ty.int a) tx ax (.tmp 8) := d0 rfl
   exact run_plain rfl (y_len Try.underlying34 e0)
 · intro ax tx hs okx sm d0 d1
   have e1 : At (Ty.nat (List.length a)) tx ax (.tmp 9) := d0 rfl
   exact run_plain rfl ((y_make (k := 11) (T := Ty.int 0) (n := (List.length a)) Try.underlying34 Try.inf3 rfl (fun _ => rfl) e1 e1 (by omega) (by omega)).mono (fun _ _ h => cvo (by simp) (by simp) h))
 · intro ax tx hs okx sm d0 d1 d2 d3
   have e2 : (Pr.own 11 3 1 (List.length a) (List.map Ty.int (List.replicate (List.length a) 0))).has tx (ax.eval (.tmp 10)) := d0 rfl
   have e0 : At (Ty.lst Ty.int a) tx ax (.tmp 8) := d1 rfl
   have e1 : At (Ty.nat (List.length a)) tx ax (.tmp 9) := d2 rfl
   exact run_plain rfl (y_assign e2)
 intro a2 s2 D2
 have ok2 := D2.ok
 have F2 := F1.step0 D2.stp
 have q3 : At (Ty.lst Ty.int a) s2 a2 (.tmp 0) := D2.kt q1 rfl
 have q4 : At (Ty.lst Ty.int b) s2 a2 (.tmp 1) := D2.kt q2 rfl
 have q5 : (Pr.own 11 3 1 (List.length a) (List.map Ty.int (List.replicate (List.length a) 0))).has s2 (a2.eval (.tmp 5)) := D2.done 3
 clear D2
 refine tn ?_
 refine wp_seq ?_
 refine wp_seq ?_
 refine reg (a := a2) (σ := s2) rfl (fun i_ => List.getD [(Ty.pr (Ty.lst Ty.int b)), (Ty.pr (Ty.nat (List.length b))), (Ty.pr (Ty.int (0 : Int)))] i_ Pr.any) ok2 rfl ⟨?_, ?_, ?_, trivial⟩ ?_
 · intro ax tx hs okx sm
   exact run_plain rfl (y_move (kp (sm 1 rfl) hs q4))
 · intro ax tx hs okx sm d0
   have e0 : At (Ty.lst Ty.int b) tx ax (.tmp 11) := d0 rfl
   exact run_plain rfl (y_len Try.underlying34 e0)
 · intro ax tx hs okx sm
   exact run_plain rfl (y_move rfl)
 intro a3 s3 D3
 have ok3 := D3.ok
 have F3 := F2.step0 D3.stp
 have q6 : At (Ty.lst Ty.int a) s3 a3 (.tmp 0) := D3.kt q3 rfl
 have q7 : (Pr.own 11 3 1 (List.length a) (List.map Ty.int (List.replicate (List.length a) 0))).has s3 (a3.eval (.tmp 5)) := D3.ko q5 rfl
 have q8 : At (Ty.lst Ty.int b) s3 a3 (.tmp 11) := D3.done 0
 have q9 : At (Ty.nat (List.length b)) s3 a3 (.tmp 12) := D3.done 1
 have q10 : At (Ty.int (0 : Int)) s3 a3 (.tmp 13) := D3.done 2
 clear D3
 refine tn ?_
 refine wp_block ?_
 refine loop (fun n1 a4 w1 => ∃ (t1 : GW) (k : Nat), t1.w = w1 ∧ From s0 t1 ∧ Ok 27 a4 ∧ At (Ty.nat k) t1 a4 (.tmp 13) ∧ (Pr.own 11 3 1 (List.length (byTo a b k)) (List.map Ty.int (byTo a b k))).has t1 (a4.eval (.tmp 5)) ∧ At (Ty.lst Ty.int a) t1 a4 (.tmp 0) ∧ At (Ty.lst Ty.int b) t1 a4 (.tmp 11) ∧ At (Ty.nat (List.length b)) t1 a4 (.tmp 12) ∧ (k ≤ b.length) ∧ n1 = b.length - k) (b.length - (0)) ?_ ?_
 ·
  exact ⟨s3, 0, rfl, F3, ok3, (cvi (by (first | rfl | omega | (simp_all; done) | (simp_all; omega))) q10), (cvo (by (simp [byTo_zero])) (by (simp [byTo_zero])) q7), q6, q8, q9, by omega, rfl⟩
 ·
  rintro n2 a5 w2 ⟨t2, k, rfl, F4, ok4, q11, q12, q13, q14, q15, hk, rfl⟩
  have hp := byTo_len a b k
  refine wp_seq ?_
  refine reg (a := a5) (σ := t2) rfl (fun i_ => List.getD [(Ty.pr (Ty.bool (decide (((k : Nat) : Int) < (((List.length b) : Nat) : Int)))))] i_ Pr.any) ok4 rfl ⟨?_, trivial⟩ ?_
  · intro ax tx hs okx sm
    exact run_plain rfl (y_lss (kp (sm 13 rfl) hs q11) (kp (sm 12 rfl) hs q15))
  intro a6 s4 D4
  have ok5 := D4.ok
  have F5 := F4.step0 D4.stp
  have q16 : At (Ty.nat k) s4 a6 (.tmp 13) := D4.kt q11 rfl
  have q17 : (Pr.own 11 3 1 (List.length (byTo a b k)) (List.map Ty.int (byTo a b k))).has s4 (a6.eval (.tmp 5)) := D4.ko q12 rfl
  have q18 : At (Ty.lst Ty.int a) s4 a6 (.tmp 0) := D4.kt q13 rfl
  have q19 : At (Ty.lst Ty.int b) s4 a6 (.tmp 11) := D4.kt q14 rfl
  have q20 : At (Ty.nat (List.length b)) s4 a6 (.tmp 12) := D4.kt q15 rfl
  have q21 : At (Ty.bool (decide (((k : Nat) : Int) < (((List.length b) : Nat) : Int)))) s4 a6 (.tmp 14) := D4.done 0
  clear D4
  refine tn ?_
  refine wp_seq ?_
  refine cond_p (p := (((k : Nat) : Int) < (((List.length b) : Nat) : Int))) q21 (fun c1 => ?_) (fun c1 => ?_)
  ·
   have hq := hbd k (by omega)
   refine wp_skip ?_
   refine tn ?_
   refine wp_seq ?_
   refine wp_block ?_
   refine wp_seq ?_
   refine reg (a := a6) (σ := s4) rfl (fun i_ => List.getD [(Ty.pr (Ty.nat k)), (Ty.pr (Ty.ref [(Ty.int (b.getD k 0))])), (Ty.pr (Ty.int (b.getD k 0))), (Ty.pr (Ty.nat k)), (Ty.pr (Ty.int (b.getD k 0)))] i_ Pr.any) ok5 rfl ⟨?_, ?_, ?_, ?_, ?_, trivial⟩ ?_
   · intro ax tx hs okx sm
     exact run_plain rfl (y_move (kp (sm 13 rfl) hs q16))
   · intro ax tx hs okx sm
     exact run_plain rfl (y_index1 Try.underlying34 Try.inf3 (kp (sm 11 rfl) hs q19) (kp (sm 13 rfl) hs q16) (by omega) (lst_get Ty.int b 0 k (by omega)))
   · intro ax tx hs okx sm d0
     have e1 : At (Ty.ref [(Ty.int (b.getD k 0))]) tx ax (.tmp 16) := d0 rfl
     exact run_plain rfl (y_load Try.underlying3 rfl e1 rfl)
   · intro ax tx hs okx sm d0 d1 d2 d3
     have e0 : At (Ty.nat k) tx ax (.tmp 15) := d0 rfl
     have e1 : At (Ty.ref [(Ty.int (b.getD k 0))]) tx ax (.tmp 16) := d2 rfl
     have e2 : At (Ty.int (b.getD k 0)) tx ax (.tmp 17) := d3 rfl
     exact run_plain rfl (y_assign e0)
   · intro ax tx hs okx sm d0 d1 d2 d3 d4 d5
     have e2 : At (Ty.int (b.getD k 0)) tx ax (.tmp 17) := d0 rfl
     have e3 : At (Ty.nat k) tx ax (.tmp 6) := d1 rfl
     have e0 : At (Ty.nat k) tx ax (.tmp 15) := d2 rfl
     have e1 : At (Ty.ref [(Ty.int (b.getD k 0))]) tx ax (.tmp 16) := d3 rfl
     exact run_plain rfl (y_assign e2)
   intro a7 s5 D5
   have ok6 := D5.ok
   have F6 := F5.step0 D5.stp
   have q22 : At (Ty.nat k) s5 a7 (.tmp 13) := D5.kt q16 rfl
   have q23 : (Pr.own 11 3 1 (List.length (byTo a b k)) (List.map Ty.int (byTo a b k))).has s5 (a7.eval (.tmp 5)) := D5.ko q17 rfl
   have q24 : At (Ty.lst Ty.int a) s5 a7 (.tmp 0) := D5.kt q18 rfl
   have q25 : At (Ty.lst Ty.int b) s5 a7 (.tmp 11) := D5.kt q19 rfl
   have q26 : At (Ty.nat (List.length b)) s5 a7 (.tmp 12) := D5.kt q20 rfl
   have q27 : At (Ty.nat k) s5 a7 (.tmp 6) := D5.done 3
   have q28 : At (Ty.int (b.getD k 0)) s5 a7 (.tmp 7) := D5.done 4
   clear D5
   refine tn ?_
   refine reg2 (a := a7) (σ := s5) rfl 7 (fun i_ => List.getD [(Ty.pr (Ty.val (a7.eval (.tmp 5)))), (Ty.pr (Ty.nat k)), (Ty.pr (Ty.lst Ty.int a)), (Ty.pr (Ty.int (b.getD k 0))), (Ty.pr (Ty.ref [(Ty.int (a.getD ((b.getD k 0)).toNat 0))])), (Ty.pr (Ty.int (a.getD ((b.getD k 0)).toNat 0))), (Ty.pr (Ty.val (cellPtr (a7.eval (.tmp 5)) k)))] i_ Pr.any) ok6 rfl (by decide) rfl ⟨?_, ?_, ?_, ?_, ?_, ?_, ?_, trivial⟩ ?_
   · intro ax tx hs okx sm
     exact run_plain rfl (y_move (sm 5 rfl))
   · intro ax tx hs okx sm
     exact run_plain rfl (y_move (kp (sm 6 rfl) hs q27))
   · intro ax tx hs okx sm
     exact run_plain rfl (y_move (kp (sm 0 rfl) hs q24))
   · intro ax tx hs okx sm
     exact run_plain rfl (y_move (kp (sm 7 rfl) hs q28))
   · intro ax tx hs okx sm d0 d1
     have e2 : At (Ty.lst Ty.int a) tx ax (.tmp 20) := d0 rfl
     have e3 : At (Ty.int (b.getD k 0)) tx ax (.tmp 21) := d1 rfl
     exact run_plain rfl (y_index1 Try.underlying34 Try.inf3 e2 e3 (by omega) (lst_get Ty.int a 0 ((b.getD k 0)).toNat (by omega)))
   · intro ax tx hs okx sm d0
     have e4 : At (Ty.ref [(Ty.int (a.getD ((b.getD k 0)).toNat 0))]) tx ax (.tmp 22) := d0 rfl
     exact run_plain rfl (y_load Try.underlying3 rfl e4 rfl)
   · intro ax tx hs okx sm d0 d1 d2 d3 d4 d5 d6 d7
     have e0 : At (Ty.val (a7.eval (.tmp 5))) tx ax (.tmp 18) := d0 rfl
     have e1 : At (Ty.nat k) tx ax (.tmp 19) := d1 rfl
     have e2 : At (Ty.lst Ty.int a) tx ax (.tmp 20) := d4 rfl
     have e3 : At (Ty.int (b.getD k 0)) tx ax (.tmp 21) := d5 rfl
     have e4 : At (Ty.ref [(Ty.int (a.getD ((b.getD k 0)).toNat 0))]) tx ax (.tmp 22) := d6 rfl
     have e5 : At (Ty.int (a.getD ((b.getD k 0)).toNat 0)) tx ax (.tmp 23) := d7 rfl
     exact run_plain rfl (own_index1 (i := ((k : Nat) : Int)) Try.underlying34 Try.inf3 ((Pr.own 11 3 1 (List.length (byTo a b k)) (List.map Ty.int (byTo a b k))).up hs q23) e0 e1 (by omega) (by omega))
   intro a8 s6 D6
   have ok7 := D6.ok
   have F7 := F6.step0 D6.stp
   have q29 := (Pr.own 11 3 1 (List.length (byTo a b k)) (List.map Ty.int (byTo a b k))).up D6.stp q23
   have q30 : At (Ty.nat k) s6 a8 (.tmp 13) := D6.kt q22 rfl
   have q31 : a8.eval (.tmp 5) = a7.eval (.tmp 5) := D6.same 5 rfl
   have q32 : At (Ty.lst Ty.int a) s6 a8 (.tmp 0) := D6.kt q24 rfl
   have q33 : At (Ty.lst Ty.int b) s6 a8 (.tmp 11) := D6.kt q25 rfl
   have q34 : At (Ty.nat (List.length b)) s6 a8 (.tmp 12) := D6.kt q26 rfl
   have q35 : At (Ty.int (a.getD ((b.getD k 0)).toNat 0)) s6 a8 (.tmp 23) := D6.done 5 (by decide)
   have q36 : At (Ty.val (cellPtr (a7.eval (.tmp 5)) k)) s6 a8 (.tmp 24) := D6.done 6 (by decide)
   clear D6
   refine tail_step0 (m := 11) (R := (fun _ τ => Own τ 11 3 1 (a7.eval (.tmp 5)) (List.length (byTo a b k)) ((List.map Ty.int (byTo a b k)).set k (Ty.int (a.getD ((b.getD k 0)).toNat 0))))) rfl rfl (m_store Try.inf3 (by decide) q29 q36 (by simp only [List.length_map, List.length_set]; omega) q35 (one_val rfl)) (fun v1 s7 hs1 r1 => ?_)
   have F8 := F7.step hs1 (by decide)
   have q37 : At (Ty.nat k) s7 a8 (.tmp 13) := kpm hs1 (by decide) rfl q30
   have q38 : At (Ty.lst Ty.int a) s7 a8 (.tmp 0) := kpm hs1 (by decide) rfl q32
   have q39 : At (Ty.lst Ty.int b) s7 a8 (.tmp 11) := kpm hs1 (by decide) rfl q33
   have q40 : At (Ty.nat (List.length b)) s7 a8 (.tmp 12) := kpm hs1 (by decide) rfl q34
   have q41 : At (Ty.int (a.getD ((b.getD k 0)).toNat 0)) s7 a8 (.tmp 23) := kpm hs1 (by decide) rfl q35
   have q42 : (Pr.own 11 3 1 (List.length ((byTo a b k).set k (a.getD ((b.getD k 0)).toNat 0))) (List.map Ty.int ((byTo a b k).set k (a.getD ((b.getD k 0)).toNat 0)))).has s7 (a7.eval (.tmp 5)) := (cvo (by simp) (by simp) r1)
   refine wpList_nil ?_
   have q43 : (Pr.own 11 3 1 (List.length ((byTo a b k).set k (a.getD ((b.getD k 0)).toNat 0))) (List.map Ty.int ((byTo a b k).set k (a.getD ((b.getD k 0)).toNat 0)))).has s7 (a8.eval (.tmp 5)) := al q31 q42
   refine bn ?_
   refine tn ?_
   refine reg (a := a8) (σ := s7) rfl (fun i_ => List.getD [(Ty.pr (Ty.int (((k : Nat) : Int) + (1 : Int)))), (Ty.pr (Ty.int (((k : Nat) : Int) + (1 : Int))))] i_ Pr.any) ok7 rfl ⟨?_, ?_, trivial⟩ ?_
   · intro ax tx hs okx sm
     exact run_plain rfl (y_add (kp (sm 13 rfl) hs q37) rfl (w64 (by omega) (by omega)))
   · intro ax tx hs okx sm d0
     have e0 : At (Ty.int (((k : Nat) : Int) + (1 : Int))) tx ax (.tmp 25) := d0 rfl
     exact run_plain rfl (y_move e0)
   intro a10 s8 D7
   have ok9 := D7.ok
   have F9 := F8.step0 D7.stp
   have q44 : (Pr.own 11 3 1 (List.length ((byTo a b k).set k (a.getD ((b.getD k 0)).toNat 0))) (List.map Ty.int ((byTo a b k).set k (a.getD ((b.getD k 0)).toNat 0)))).has s8 (a10.eval (.tmp 5)) := D7.ko q43 rfl
   have q45 : At (Ty.lst Ty.int a) s8 a10 (.tmp 0) := D7.kt q38 rfl
   have q46 : At (Ty.lst Ty.int b) s8 a10 (.tmp 11) := D7.kt q39 rfl
   have q47 : At (Ty.nat (List.length b)) s8 a10 (.tmp 12) := D7.kt q40 rfl
   have q48 : At (Ty.int (((k : Nat) : Int) + (1 : Int))) s8 a10 (.tmp 13) := D7.done 1
   clear D7
   exact tn ⟨b.length - ((k+1)), by omega, s8, (k+1), rfl, F9, ok9, (cvi (by (first | rfl | omega | (simp_all; done) | (simp_all; omega))) q48), (cvo (by (rw [byTo_step a b k])) (by (rw [byTo_step a b k])) q44), q45, q46, q47, by omega, rfl⟩
  ·
   refine wp_exit ?_
   refine tx ?_
   refine tx ?_
   refine bx ?_
   refine tn ?_
   refine wp_seq ?_
   refine reg (a := a6) (σ := s4) rfl (fun i_ => List.getD [(Ty.pr (Ty.val (a6.eval (.tmp 5)))), (Ty.pr (Ty.val (a6.eval (.tmp 5))))] i_ Pr.any) ok5 rfl ⟨?_, ?_, trivial⟩ ?_
   · intro ax tx hs okx sm
     exact run_plain rfl (y_move (sm 5 rfl))
   · intro ax tx hs okx sm d0 d1
     have e0 : At (Ty.val (a6.eval (.tmp 5))) tx ax (.tmp 26) := d0 rfl
     exact run_plain rfl (y_assign e0)
   intro a11 s9 D8
   have ok10 := D8.ok
   have F10 := F5.step0 D8.stp
   have q49 : (Pr.own 11 3 1 (List.length (byTo a b k)) (List.map Ty.int (byTo a b k))).has s9 (a11.eval (.tmp 4)) := al (show _ = _ from D8.done 1) ((Pr.own 11 3 1 (List.length (byTo a b k)) (List.map Ty.int (byTo a b k))).up D8.stp q17)
   clear D8
   refine tn ?_
   refine wp_ret ?_
   obtain ⟨t3, e1, h1, q50⟩ := Own.seal q49 (by decide)
   rw [← e1]
   have F11 := F10.step h1 (by decide)
   exact ret1 rfl ok10 F11 (cvt (by (obtain rfl : k = b.length := (by omega); rw [byTo_all a b hl])) q50)


set_option maxRecDepth 100000 in
theorem times_fn (a : List Int) (b : List Int) (σ : GW) (v0 v1 : Value) (hv0 : Ty.has (Ty.lst Ty.int a) σ v0) (hv1 : Ty.has (Ty.lst Ty.int b) σ v1)  :
    FnC Try.prog 50 #[v0, v1] σ (Ty.tup2 (Ty.lst Ty.int (if twoMay a b = 0 then byL a b else [])) (Ty.int (twoMay a b))) := by
 refine fn_intro Try.func50 rfl Try.ntmps50 (Nat.le_of_ble_eq_true rfl) (fun s0 a0 hle F0 ok0 hargs => ?_)
 have p0 : At (Ty.lst Ty.int a) s0 a0 (.tmp 0) := by have e := hargs 0 _ rfl; show Ty.has _ _ _; rw [e]; exact Ty.up _ hle hv0
 have b1 := sl_le p0
 have p1 : At (Ty.lst Ty.int b) s0 a0 (.tmp 1) := by have e := hargs 1 _ rfl; show Ty.has _ _ _; rw [e]; exact Ty.up _ hle hv1
 have b2 := sl_le p1
 clear hargs
 refine wp_seq ?_
 refine reg (a := a0) (σ := s0) rfl (fun i_ => List.getD [(Ty.pr (Ty.val (Value.slice none 0 0))), (Ty.pr (Ty.int (0 : Int)))] i_ Pr.any) ok0 rfl ⟨?_, ?_, trivial⟩ ?_
 · intro ax tx hs okx sm
   exact run_plain rfl (y_assign rfl)
 · intro ax tx hs okx sm d0
   have e0 : At (Ty.val (Value.slice none 0 0)) tx ax (.tmp 4) := d0 rfl
   exact run_plain rfl (y_assign rfl)
 intro a1 s1 D1
 have ok1 := D1.ok
 have F1 := F0.step0 D1.stp
 have q1 : At (Ty.lst Ty.int a) s1 a1 (.tmp 0) := D1.kt p0 rfl
 have q2 : At (Ty.lst Ty.int b) s1 a1 (.tmp 1) := D1.kt p1 rfl
 clear D1
 refine tn ?_
 refine wp_seq ?_
 refine wp_seq ?_
 refine reg (a := a1) (σ := s1) rfl (fun i_ => List.getD [(Ty.pr (Ty.lst Ty.int a)), (Ty.pr (Ty.lst Ty.int b)), (Ty.pr (Ty.int (twoMay a b))), (Ty.pr (Ty.int (twoMay a b)))] i_ Pr.any) ok1 rfl ⟨?_, ?_, ?_, ?_, trivial⟩ ?_
 · intro ax tx hs okx sm
   exact run_plain rfl (y_move (kp (sm 0 rfl) hs q1))
 · intro ax tx hs okx sm
   exact run_plain rfl (y_move (kp (sm 1 rfl) hs q2))
 · intro ax tx hs okx sm d0 d1
   have e0 : At (Ty.lst Ty.int a) tx ax (.tmp 7) := d0 rfl
   have e1 : At (Ty.lst Ty.int b) tx ax (.tmp 8) := d1 rfl
   exact run_plain rfl (y_call #[ax.eval (.tmp 7), ax.eval (.tmp 8)] Try.func97 rfl rfl (by simp only [List.map_toArray, List.map_cons, List.map_nil]) (two_fn (a) (b) _ _ _ e0 e1 ))
 · intro ax tx hs okx sm d0 d1 d2 d3 d4
   have e2 : At (Ty.int (twoMay a b)) tx ax (.tmp 9) := d0 rfl
   have e0 : At (Ty.lst Ty.int a) tx ax (.tmp 7) := d2 rfl
   have e1 : At (Ty.lst Ty.int b) tx ax (.tmp 8) := d3 rfl
   exact run_plain rfl (y_assign e2)
 intro a2 s2 D2
 have ok2 := D2.ok
 have F2 := F1.step0 D2.stp
 have q3 : At (Ty.lst Ty.int a) s2 a2 (.tmp 0) := D2.kt q1 rfl
 have q4 : At (Ty.lst Ty.int b) s2 a2 (.tmp 1) := D2.kt q2 rfl
 have q5 : At (Ty.int (twoMay a b)) s2 a2 (.tmp 6) := D2.done 3
 clear D2
 refine tn ?_
 refine wp_seq ?_
 refine reg (a := a2) (σ := s2) rfl (fun i_ => List.getD [(Ty.pr (Ty.int (twoMay a b))), (Ty.pr (Ty.bool (decide ((twoMay a b) ≠ (0 : Int)))))] i_ Pr.any) ok2 rfl ⟨?_, ?_, trivial⟩ ?_
 · intro ax tx hs okx sm
   exact run_plain rfl (y_move (kp (sm 6 rfl) hs q5))
 · intro ax tx hs okx sm d0
   have e0 : At (Ty.int (twoMay a b)) tx ax (.tmp 10) := d0 rfl
   exact run_plain rfl (y_neq e0 rfl)
 intro a3 s3 D3
 have ok3 := D3.ok
 have F3 := F2.step0 D3.stp
 have q6 : At (Ty.lst Ty.int a) s3 a3 (.tmp 0) := D3.kt q3 rfl
 have q7 : At (Ty.lst Ty.int b) s3 a3 (.tmp 1) := D3.kt q4 rfl
 have q8 : At (Ty.int (twoMay a b)) s3 a3 (.tmp 6) := D3.kt q5 rfl
 have q9 : At (Ty.bool (decide ((twoMay a b) ≠ (0 : Int)))) s3 a3 (.tmp 11) := D3.done 1
 clear D3
 refine tn ?_
 refine cond_p (p := ((twoMay a b) ≠ (0 : Int))) q9 (fun c1 => ?_) (fun c1 => ?_)
 ·
  refine wp_seq ?_
  refine reg (a := a3) (σ := s3) rfl (fun i_ => List.getD [(Ty.pr (Ty.int (twoMay a b))), (Ty.pr (Ty.val (Value.slice none 0 0))), (Ty.pr (Ty.int (twoMay a b)))] i_ Pr.any) ok3 rfl ⟨?_, ?_, ?_, trivial⟩ ?_
  · intro ax tx hs okx sm d0
    exact run_plain rfl (y_move (kp (sm 6 rfl) hs q8))
  · intro ax tx hs okx sm d0
    exact run_plain rfl (y_assign rfl)
  · intro ax tx hs okx sm d0 d1 d2 d3
    have e0 : At (Ty.int (twoMay a b)) tx ax (.tmp 12) := d0 rfl
    have e1 : At (Ty.val (Value.slice none 0 0)) tx ax (.tmp 4) := d1 rfl
    exact run_plain rfl (y_assign e0)
  intro a4 s4 D4
  have ok4 := D4.ok
  have F4 := F3.step0 D4.stp
  have q10 : At (Ty.val (Value.slice none 0 0)) s4 a4 (.tmp 4) := D4.done 1
  have q11 : At (Ty.int (twoMay a b)) s4 a4 (.tmp 5) := D4.done 2
  clear D4
  refine tn ?_
  refine wp_ret ?_
  refine tr ?_
  exact ret2 rfl ok4 F4 (nil_lst (by (rw [if_neg c1])) q10) q11
 ·
  obtain ⟨hra, hrb, hl⟩ := twoMay_ok.1 (Classical.not_not.1 c1); have hs1 : a.length ≤ 1000000 := (by have := hra.le; omega); have hbd : ∀ i, i < b.length → 0 ≤ b.getD i 0 ∧ b.getD i 0 < a.length := (fun i hi => by rw [hl]; exact hrb.at hi)
  refine wp_skip ?_
  refine tn ?_
  refine wp_seq ?_
  refine reg (a := a3) (σ := s3) rfl (fun i_ => List.getD [(Ty.pr (Ty.lst Ty.int a)), (Ty.pr (Ty.lst Ty.int b)), (Ty.pr (Ty.lst Ty.int (byL a b))), (Ty.pr (Ty.lst Ty.int (byL a b))), (Ty.pr (Ty.int (0 : Int)))] i_ Pr.any) ok3 rfl ⟨?_, ?_, ?_, ?_, ?_, trivial⟩ ?_
  · intro ax tx hs okx sm
    exact run_plain rfl (y_move (kp (sm 0 rfl) hs q6))
  · intro ax tx hs okx sm
    exact run_plain rfl (y_move (kp (sm 1 rfl) hs q7))
  · intro ax tx hs okx sm d0 d1
    have e0 : At (Ty.lst Ty.int a) tx ax (.tmp 13) := d0 rfl
    have e1 : At (Ty.lst Ty.int b) tx ax (.tmp 14) := d1 rfl
    exact run_plain rfl (y_call #[ax.eval (.tmp 13), ax.eval (.tmp 14)] Try.func98 rfl rfl (by simp only [List.map_toArray, List.map_cons, List.map_nil]) (product_fn (a) (b) _ _ _ e0 e1 (by first | assumption | omega) (by first | assumption | omega) (by first | assumption | omega)))
  · intro ax tx hs okx sm d0 d1 d2 d3 d4
    have e2 : At (Ty.lst Ty.int (byL a b)) tx ax (.tmp 15) := d0 rfl
    have e0 : At (Ty.lst Ty.int a) tx ax (.tmp 13) := d2 rfl
    have e1 : At (Ty.lst Ty.int b) tx ax (.tmp 14) := d3 rfl
    exact run_plain rfl (y_assign e2)
  · intro ax tx hs okx sm d0 d1 d2 d3 d4
    have e3 : At (Ty.lst Ty.int (byL a b)) tx ax (.tmp 4) := d0 rfl
    have e0 : At (Ty.lst Ty.int a) tx ax (.tmp 13) := d1 rfl
    have e1 : At (Ty.lst Ty.int b) tx ax (.tmp 14) := d2 rfl
    have e2 : At (Ty.lst Ty.int (byL a b)) tx ax (.tmp 15) := d3 rfl
    exact run_plain rfl (y_assign rfl)
  intro a5 s5 D5
  have ok5 := D5.ok
  have F5 := F3.step0 D5.stp
  have q12 : At (Ty.lst Ty.int (byL a b)) s5 a5 (.tmp 4) := D5.done 3
  have q13 : At (Ty.int (0 : Int)) s5 a5 (.tmp 5) := D5.done 4
  clear D5
  refine tn ?_
  refine wp_ret ?_
  exact ret2 rfl ok5 F5 (cvt (by (rw [if_pos (Classical.not_not.1 c1)])) q12) (cvi (by (exact (Classical.not_not.1 c1).symm)) q13)


set_option maxRecDepth 100000 in
theorem first_fn (n : Nat) (σ : GW) (v0 : Value) (hv0 : Ty.has (Ty.nat n) σ v0) (hn : n ≤ 1000000) :
    FnC Try.prog 99 #[v0] σ (Ty.lst Ty.int (roundsL n)) := by
 refine fn_intro Try.func99 rfl Try.ntmps99 (Nat.le_of_ble_eq_true rfl) (fun s0 a0 hle F0 ok0 hargs => ?_)
 have p0 : At (Ty.nat n) s0 a0 (.tmp 0) := by have e := hargs 0 _ rfl; show Ty.has _ _ _; rw [e]; exact Ty.up _ hle hv0
 clear hargs
 refine wp_seq ?_
 refine reg (a := a0) (σ := s0) rfl (fun i_ => List.getD [(Ty.pr (Ty.val (Value.slice none 0 0)))] i_ Pr.any) ok0 rfl ⟨?_, trivial⟩ ?_
 · intro ax tx hs okx sm
   exact run_plain rfl (y_assign rfl)
 intro a1 s1 D1
 have ok1 := D1.ok
 have F1 := F0.step0 D1.stp
 have q1 : At (Ty.nat n) s1 a1 (.tmp 0) := D1.kt p0 rfl
 clear D1
 refine tn ?_
 refine wp_seq ?_
 refine reg (a := a1) (σ := s1) rfl (fun i_ => List.getD [(Ty.pr (Ty.nat n)), (Pr.own 11 3 1 n (List.map Ty.int (List.replicate n 0))), (Pr.own 11 3 1 n (List.map Ty.int (List.replicate n 0)))] i_ Pr.any) ok1 rfl ⟨?_, ?_, ?_, trivial⟩ ?_
 · intro ax tx hs okx sm
   exact run_plain rfl (y_move (kp (sm 0 rfl) hs q1))
 · intro ax tx hs okx sm d0 d1
   have e0 : At (Ty.nat n) tx ax (.tmp 5) := d0 rfl
   exact run_plain rfl ((y_make (k := 11) (T := Ty.int 0) (n := n) Try.underlying34 Try.inf3 rfl (fun _ => rfl) e0 e0 (by omega) (by omega)).mono (fun _ _ h => cvo (by simp) (by simp) h))
 · intro ax tx hs okx sm d0 d1 d2
   have e1 : (Pr.own 11 3 1 n (List.map Ty.int (List.replicate n 0))).has tx (ax.eval (.tmp 6)) := d0 rfl
   have e0 : At (Ty.nat n) tx ax (.tmp 5) := d1 rfl
   exact run_plain rfl (y_assign e1)
 intro a2 s2 D2
 have ok2 := D2.ok
 have F2 := F1.step0 D2.stp
 have q2 : (Pr.own 11 3 1 n (List.map Ty.int (List.replicate n 0))).has s2 (a2.eval (.tmp 3)) := D2.done 2
 clear D2
 refine tn ?_
 refine wp_seq ?_
 refine wp_seq ?_
 refine reg (a := a2) (σ := s2) rfl (fun i_ => List.getD [(Ty.pr (Ty.val (a2.eval (.tmp 3)))), (Ty.pr (Ty.nat n)), (Ty.pr (Ty.int (0 : Int)))] i_ Pr.any) ok2 rfl ⟨?_, ?_, ?_, trivial⟩ ?_
 · intro ax tx hs okx sm
   exact run_plain rfl (y_move (sm 3 rfl))
 · intro ax tx hs okx sm d0
   have e0 : At (Ty.val (a2.eval (.tmp 3))) tx ax (.tmp 7) := d0 rfl
   exact run_plain rfl (own_len Try.underlying34 (al e0 ((Pr.own 11 3 1 n (List.map Ty.int (List.replicate n 0))).up hs q2)))
 · intro ax tx hs okx sm
   exact run_plain rfl (y_move rfl)
 intro a3 s3 D3
 have ok3 := D3.ok
 have F3 := F2.step0 D3.stp
 have q3 : (Pr.own 11 3 1 n (List.map Ty.int (List.replicate n 0))).has s3 (a3.eval (.tmp 3)) := D3.ko q2 rfl
 have q4 : At (Ty.nat n) s3 a3 (.tmp 8) := D3.done 1
 have q5 : At (Ty.int (0 : Int)) s3 a3 (.tmp 9) := D3.done 2
 clear D3
 refine tn ?_
 refine wp_block ?_
 refine loop (fun n1 a4 w1 => ∃ (t1 : GW) (k : Nat), t1.w = w1 ∧ From s0 t1 ∧ Ok 18 a4 ∧ At (Ty.nat k) t1 a4 (.tmp 9) ∧ (Pr.own 11 3 1 (List.length (firstTo n k)) (List.map Ty.int (firstTo n k))).has t1 (a4.eval (.tmp 3)) ∧ At (Ty.nat n) t1 a4 (.tmp 8) ∧ (k ≤ n) ∧ n1 = n - k) (n - (0)) ?_ ?_
 ·
  exact ⟨s3, 0, rfl, F3, ok3, (cvi (by (first | rfl | omega | (simp_all; done) | (simp_all; omega))) q5), (cvo (by (simp [firstTo_zero])) (by (simp [firstTo_zero])) q3), q4, by omega, rfl⟩
 ·
  rintro n2 a5 w2 ⟨t2, k, rfl, F4, ok4, q6, q7, q8, hk, rfl⟩
  have hp := firstTo_len n k
  refine wp_seq ?_
  refine reg (a := a5) (σ := t2) rfl (fun i_ => List.getD [(Ty.pr (Ty.bool (decide (((k : Nat) : Int) < ((n : Nat) : Int)))))] i_ Pr.any) ok4 rfl ⟨?_, trivial⟩ ?_
  · intro ax tx hs okx sm
    exact run_plain rfl (y_lss (kp (sm 9 rfl) hs q6) (kp (sm 8 rfl) hs q8))
  intro a6 s4 D4
  have ok5 := D4.ok
  have F5 := F4.step0 D4.stp
  have q9 : At (Ty.nat k) s4 a6 (.tmp 9) := D4.kt q6 rfl
  have q10 : (Pr.own 11 3 1 (List.length (firstTo n k)) (List.map Ty.int (firstTo n k))).has s4 (a6.eval (.tmp 3)) := D4.ko q7 rfl
  have q11 : At (Ty.nat n) s4 a6 (.tmp 8) := D4.kt q8 rfl
  have q12 : At (Ty.bool (decide (((k : Nat) : Int) < ((n : Nat) : Int)))) s4 a6 (.tmp 10) := D4.done 0
  clear D4
  refine tn ?_
  refine wp_seq ?_
  refine cond_p (p := (((k : Nat) : Int) < ((n : Nat) : Int))) q12 (fun c1 => ?_) (fun c1 => ?_)
  ·
   refine wp_skip ?_
   refine tn ?_
   refine wp_seq ?_
   refine wp_block ?_
   refine wp_seq ?_
   refine reg (a := a6) (σ := s4) rfl (fun i_ => List.getD [(Ty.pr (Ty.nat k)), (Ty.pr (Ty.nat k))] i_ Pr.any) ok5 rfl ⟨?_, ?_, trivial⟩ ?_
   · intro ax tx hs okx sm
     exact run_plain rfl (y_move (kp (sm 9 rfl) hs q9))
   · intro ax tx hs okx sm d0 d1
     have e0 : At (Ty.nat k) tx ax (.tmp 11) := d0 rfl
     exact run_plain rfl (y_assign e0)
   intro a7 s5 D5
   have ok6 := D5.ok
   have F6 := F5.step0 D5.stp
   have q13 : At (Ty.nat k) s5 a7 (.tmp 9) := D5.kt q9 rfl
   have q14 : (Pr.own 11 3 1 (List.length (firstTo n k)) (List.map Ty.int (firstTo n k))).has s5 (a7.eval (.tmp 3)) := D5.ko q10 rfl
   have q15 : At (Ty.nat n) s5 a7 (.tmp 8) := D5.kt q11 rfl
   have q16 : At (Ty.nat k) s5 a7 (.tmp 4) := D5.done 1
   clear D5
   refine tn ?_
   refine reg2 (a := a7) (σ := s5) rfl 4 (fun i_ => List.getD [(Ty.pr (Ty.val (a7.eval (.tmp 3)))), (Ty.pr (Ty.nat k)), (Ty.pr (Ty.nat k)), (Ty.pr (Ty.val (cellPtr (a7.eval (.tmp 3)) k)))] i_ Pr.any) ok6 rfl (by decide) rfl ⟨?_, ?_, ?_, ?_, trivial⟩ ?_
   · intro ax tx hs okx sm
     exact run_plain rfl (y_move (sm 3 rfl))
   · intro ax tx hs okx sm
     exact run_plain rfl (y_move (kp (sm 4 rfl) hs q16))
   · intro ax tx hs okx sm
     exact run_plain rfl (y_move (kp (sm 4 rfl) hs q16))
   · intro ax tx hs okx sm d0 d1 d2 d3 d4
     have e0 : At (Ty.val (a7.eval (.tmp 3))) tx ax (.tmp 12) := d0 rfl
     have e1 : At (Ty.nat k) tx ax (.tmp 13) := d1 rfl
     have e2 : At (Ty.nat k) tx ax (.tmp 14) := d4 rfl
     exact run_plain rfl (own_index1 (i := ((k : Nat) : Int)) Try.underlying34 Try.inf3 ((Pr.own 11 3 1 (List.length (firstTo n k)) (List.map Ty.int (firstTo n k))).up hs q14) e0 e1 (by omega) (by omega))
   intro a8 s6 D6
   have ok7 := D6.ok
   have F7 := F6.step0 D6.stp
   have q17 := (Pr.own 11 3 1 (List.length (firstTo n k)) (List.map Ty.int (firstTo n k))).up D6.stp q14
   have q18 : At (Ty.nat k) s6 a8 (.tmp 9) := D6.kt q13 rfl
   have q19 : a8.eval (.tmp 3) = a7.eval (.tmp 3) := D6.same 3 rfl
   have q20 : At (Ty.nat n) s6 a8 (.tmp 8) := D6.kt q15 rfl
   have q21 : At (Ty.nat k) s6 a8 (.tmp 14) := D6.done 2 (by decide)
   have q22 : At (Ty.val (cellPtr (a7.eval (.tmp 3)) k)) s6 a8 (.tmp 15) := D6.done 3 (by decide)
   clear D6
   refine tail_step0 (m := 11) (R := (fun _ τ => Own τ 11 3 1 (a7.eval (.tmp 3)) (List.length (firstTo n k)) ((List.map Ty.int (firstTo n k)).set k (Ty.nat k)))) rfl rfl (m_store Try.inf3 (by decide) q17 q22 (by simp only [List.length_map, List.length_set]; omega) q21 (one_val rfl)) (fun v1 s7 hs1 r1 => ?_)
   have F8 := F7.step hs1 (by decide)
   have q23 : At (Ty.nat k) s7 a8 (.tmp 9) := kpm hs1 (by decide) rfl q18
   have q24 : At (Ty.nat n) s7 a8 (.tmp 8) := kpm hs1 (by decide) rfl q20
   have q25 : At (Ty.nat k) s7 a8 (.tmp 14) := kpm hs1 (by decide) rfl q21
   have q26 : (Pr.own 11 3 1 (List.length ((firstTo n k).set k ((k : Nat) : Int))) (List.map Ty.int ((firstTo n k).set k ((k : Nat) : Int)))).has s7 (a7.eval (.tmp 3)) := (cvo (by simp) (by simp) r1)
   refine wpList_nil ?_
   have q27 : (Pr.own 11 3 1 (List.length ((firstTo n k).set k ((k : Nat) : Int))) (List.map Ty.int ((firstTo n k).set k ((k : Nat) : Int)))).has s7 (a8.eval (.tmp 3)) := al q19 q26
   refine bn ?_
   refine tn ?_
   refine reg (a := a8) (σ := s7) rfl (fun i_ => List.getD [(Ty.pr (Ty.int (((k : Nat) : Int) + (1 : Int)))), (Ty.pr (Ty.int (((k : Nat) : Int) + (1 : Int))))] i_ Pr.any) ok7 rfl ⟨?_, ?_, trivial⟩ ?_
   · intro ax tx hs okx sm
     exact run_plain rfl (y_add (kp (sm 9 rfl) hs q23) rfl (w64 (by omega) (by omega)))
   · intro ax tx hs okx sm d0
     have e0 : At (Ty.int (((k : Nat) : Int) + (1 : Int))) tx ax (.tmp 16) := d0 rfl
     exact run_plain rfl (y_move e0)
   intro a10 s8 D7
   have ok9 := D7.ok
   have F9 := F8.step0 D7.stp
   have q28 : (Pr.own 11 3 1 (List.length ((firstTo n k).set k ((k : Nat) : Int))) (List.map Ty.int ((firstTo n k).set k ((k : Nat) : Int)))).has s8 (a10.eval (.tmp 3)) := D7.ko q27 rfl
   have q29 : At (Ty.nat n) s8 a10 (.tmp 8) := D7.kt q24 rfl
   have q30 : At (Ty.int (((k : Nat) : Int) + (1 : Int))) s8 a10 (.tmp 9) := D7.done 1
   clear D7
   exact tn ⟨n - ((k+1)), by omega, s8, (k+1), rfl, F9, ok9, (cvi (by (first | rfl | omega | (simp_all; done) | (simp_all; omega))) q30), (cvo (by (rw [firstTo_step n k])) (by (rw [firstTo_step n k])) q28), q29, by omega, rfl⟩
  ·
   refine wp_exit ?_
   refine tx ?_
   refine tx ?_
   refine bx ?_
   refine tn ?_
   refine wp_seq ?_
   refine reg (a := a6) (σ := s4) rfl (fun i_ => List.getD [(Ty.pr (Ty.val (a6.eval (.tmp 3)))), (Ty.pr (Ty.val (a6.eval (.tmp 3))))] i_ Pr.any) ok5 rfl ⟨?_, ?_, trivial⟩ ?_
   · intro ax tx hs okx sm
     exact run_plain rfl (y_move (sm 3 rfl))
   · intro ax tx hs okx sm d0 d1
     have e0 : At (Ty.val (a6.eval (.tmp 3))) tx ax (.tmp 17) := d0 rfl
     exact run_plain rfl (y_assign e0)
   intro a11 s9 D8
   have ok10 := D8.ok
   have F10 := F5.step0 D8.stp
   have q31 : (Pr.own 11 3 1 (List.length (firstTo n k)) (List.map Ty.int (firstTo n k))).has s9 (a11.eval (.tmp 2)) := al (show _ = _ from D8.done 1) ((Pr.own 11 3 1 (List.length (firstTo n k)) (List.map Ty.int (firstTo n k))).up D8.stp q10)
   clear D8
   refine tn ?_
   refine wp_ret ?_
   obtain ⟨t3, e1, h1, q32⟩ := Own.seal q31 (by decide)
   rw [← e1]
   have F11 := F10.step h1 (by decide)
   exact ret1 rfl ok10 F11 (cvt (by (obtain rfl : k = n := (by omega); rw [firstTo_all])) q32)


end Go.Proofs.Ytlhnpkaohfoicaa
