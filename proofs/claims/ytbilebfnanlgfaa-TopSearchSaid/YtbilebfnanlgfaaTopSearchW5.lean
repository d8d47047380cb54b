/- The functions that the law TopSearch reaches, each by its contract. Part 5. -/
import Derived.Test.YtbilebfnanlgfaaTopSearchW4
namespace Go.Proofs.Ytbilebfnanlgfaa
open Go.KL

set_option maxHeartbeats 4000000 in
set_option maxRecDepth 100000 in
theorem rBelow_fn (a : List Int) (b : List Int) (σ : GW)  (v0 v1 : Value) (hv0 : Ty.has (Ty.lst Ty.int a) σ v0) (hv1 : Ty.has (Ty.lst Ty.int b) σ v1)   :
    FnC Try.prog 39 #[v0, v1] σ (Ty.bool (belowL a b)) := by
 refine fn_intro0 Try.func39 rfl Try.ntmps39 (Nat.le_of_ble_eq_true rfl) (fun s0 a0 hle F0 ok0 hargs => ?_)
 have p0 : At (Ty.lst Ty.int a) s0 a0 (.tmp 0) := by have e := hargs 0 _ rfl; show Ty.has _ _ _; rw [e]; exact Ty.up _ hle hv0
 have b1 := sl_le p0
 have p1 : At (Ty.lst Ty.int b) s0 a0 (.tmp 1) := by have e := hargs 1 _ rfl; show Ty.has _ _ _; rw [e]; exact Ty.up _ hle hv1
 have b2 := sl_le p1
 clear hargs
 refine wp_seq ?_
 refine reg (a := a0) (σ := s0) rfl (fun i_ => List.getD [(Ty.pr (Ty.bool false))] i_ Pr.any) ok0 rfl ⟨?_, trivial⟩ ?_
 · intro ax tx hs okx sm
   exact run_plain rfl (y_assign rfl)
 intro a1 s1 D1
 have ok1 := D1.ok
 have F1 := F0.step0 D1.stp
 have q1 := D1.kt p0 rfl
 have q2 := D1.kt p1 rfl
 clear D1
 refine tn ?_
 refine wp_seq ?_
 refine wp_seq ?_
 refine reg (a := a1) (σ := s1) rfl (fun i_ => List.getD [(Ty.pr (Ty.int (0 : Int)))] i_ Pr.any) ok1 rfl ⟨?_, trivial⟩ ?_
 · intro ax tx hs okx sm
   exact run_plain rfl (y_assign rfl)
 intro a2 s2 D2
 have ok2 := D2.ok
 have F2 := F1.step0 D2.stp
 have q3 := D2.kt q1 rfl
 have q4 := D2.kt q2 rfl
 have q5 : At (Ty.int (0 : Int)) s2 a2 (.tmp 5) := D2.done 0
 clear D2
 refine tn ?_
 refine wp_block ?_
 refine loop (fun n1 a3 w1 => ∃ (t1 : GW) (i : Nat), t1.w = w1 ∧ FromL [] s0 t1 ∧ Ok 41 a3 ∧ At (Ty.nat i) t1 a3 (.tmp 5) ∧ At (Ty.lst Ty.int a) t1 a3 (.tmp 0) ∧ At (Ty.lst Ty.int b) t1 a3 (.tmp 1) ∧ (i ≤ a.length) ∧ (i ≤ b.length) ∧ (belowL (a.drop i) (b.drop i) = belowL a b) ∧ n1 = a.length - i) (a.length - (0)) ?_ ?_
 ·
  exact ⟨s2, 0, rfl, F2, ok2, (cvi (by (first | rfl | omega | (simp_all; done) | (simp_all; omega))) q5), q3, q4, by omega, by omega, rfl, rfl⟩
 ·
  rintro n2 a4 w2 ⟨t2, i, rfl, F3, ok3, q6, q7, q8, hi, hi2, hb, rfl⟩
  refine wp_seq ?_
  refine wp_seq ?_
  refine reg (a := a4) (σ := t2) rfl (fun i_ => List.getD [(Ty.pr (Ty.nat i)), (Ty.pr (Ty.lst Ty.int a)), (Ty.pr (Ty.nat (List.length a))), (Ty.pr (Ty.bool (decide (((i : Nat) : Int) < (((List.length a) : Nat) : Int))))), (Ty.pr (Ty.bool (decide (((i : Nat) : Int) < (((List.length a) : Nat) : Int))))), (Ty.pr (Ty.grd ((decide (((i : Nat) : Int) < (((List.length a) : Nat) : Int))) = true) (Ty.nat i))), (Ty.pr (Ty.grd ((decide (((i : Nat) : Int) < (((List.length a) : Nat) : Int))) = true) (Ty.lst Ty.int b))), (Ty.pr (Ty.grd ((decide (((i : Nat) : Int) < (((List.length a) : Nat) : Int))) = true) (Ty.nat (List.length b)))), (Ty.pr (Ty.grd ((decide (((i : Nat) : Int) < (((List.length a) : Nat) : Int))) = true) (Ty.bool (decide (((i : Nat) : Int) < (((List.length b) : Nat) : Int)))))), (Ty.pr (Ty.bool ((decide (((i : Nat) : Int) < (((List.length a) : Nat) : Int))) && (decide (((i : Nat) : Int) < (((List.length b) : Nat) : Int))))))] i_ Pr.any) ok3 rfl ⟨?_, ?_, ?_, ?_, ?_, ?_, ?_, ?_, ?_, ?_, trivial⟩ ?_
  · intro ax tx hs okx sm
    exact run_plain rfl (y_move (kp (sm 5 rfl) hs q6))
  · intro ax tx hs okx sm
    exact run_plain rfl (y_move (kp (sm 0 rfl) hs q7))
  · intro ax tx hs okx sm d0
    have e1 := ed d0 rfl rfl rfl
    exact run_plain rfl (y_len Try.underlying23 e1)
  · intro ax tx hs okx sm d0 d1
    have e0 := ed d0 rfl rfl rfl
    have e2 := ed d1 rfl rfl rfl
    exact run_plain rfl (y_lss e0 e2)
  · intro ax tx hs okx sm d0
    have e3 := ed d0 rfl rfl rfl
    exact run_plain rfl (y_move e3)
  · intro ax tx hs okx sm d0
    have e4 := ed d0 rfl rfl rfl
    refine run_guard (T := (Ty.nat i)) okx rfl rfl (by decide) e4 (fun hg => ?_)
    have hp := of_decide_eq_true hg
    exact y_move (kp (sm 5 rfl) hs q6)
  · intro ax tx hs okx sm d0
    have e4 := ed d0 rfl rfl rfl
    refine run_guard (T := (Ty.lst Ty.int b)) okx rfl rfl (by decide) e4 (fun hg => ?_)
    have hp := of_decide_eq_true hg
    exact y_move (kp (sm 1 rfl) hs q8)
  · intro ax tx hs okx sm d0 d1
    have e6 := ed d0 rfl rfl rfl
    have e4 := ed d1 rfl rfl rfl
    refine run_guard (T := (Ty.nat (List.length b))) okx rfl rfl (by decide) e4 (fun hg => ?_)
    have hp := of_decide_eq_true hg
    exact y_len Try.underlying23 (e6.1 hg)
  · intro ax tx hs okx sm d0 d1 d2
    have e5 := ed d0 rfl rfl rfl
    have e7 := ed d1 rfl rfl rfl
    have e4 := ed d2 rfl rfl rfl
    refine run_guard (T := (Ty.bool (decide (((i : Nat) : Int) < (((List.length b) : Nat) : Int))))) okx rfl rfl (by decide) e4 (fun hg => ?_)
    have hp := of_decide_eq_true hg
    exact y_lss (e5.1 hg) (e7.1 hg)
  · intro ax tx hs okx sm d0 d1
    have e4 := ed d0 rfl rfl rfl
    have e8 := ed d1 rfl rfl rfl
    exact run_plain rfl (y_pick_and e4 e8 rfl)
  intro a5 s3 D3
  have ok4 := D3.ok
  have F4 := F3.step0 D3.stp
  have q9 := D3.kt q6 rfl
  have q10 := D3.kt q7 rfl
  have q11 := D3.kt q8 rfl
  have q12 : At (Ty.bool ((decide (((i : Nat) : Int) < (((List.length a) : Nat) : Int))) && (decide (((i : Nat) : Int) < (((List.length b) : Nat) : Int))))) s3 a5 (.tmp 15) := D3.done 9
  clear D3
  refine tn ?_
  refine cond_t q12 (fun c1 => ?_) (fun c1 => ?_)
  ·
   obtain ⟨d1, d2⟩ := Bool.and_eq_true_iff.mp c1
   replace d1 := of_decide_eq_true d1
   replace d2 := of_decide_eq_true d2
   simp only [Bool.and_eq_true, decide_eq_true_eq] at c1
   refine wp_skip ?_
   refine tn ?_
   refine wp_seq ?_
   refine wp_block ?_
   refine wp_seq ?_
   refine reg (a := a5) (σ := s3) rfl (fun i_ => List.getD [(Ty.pr (Ty.lst Ty.int a)), (Ty.pr (Ty.nat i)), (Ty.pr (Ty.ref [(Ty.int (a.getD i 0))])), (Ty.pr (Ty.int (a.getD i 0))), (Ty.pr (Ty.lst Ty.int b)), (Ty.pr (Ty.nat i)), (Ty.pr (Ty.ref [(Ty.int (b.getD i 0))])), (Ty.pr (Ty.int (b.getD i 0))), (Ty.pr (Ty.bool (decide ((a.getD i 0) ≠ (b.getD i 0)))))] i_ Pr.any) ok4 rfl ⟨?_, ?_, ?_, ?_, ?_, ?_, ?_, ?_, ?_, trivial⟩ ?_
   · intro ax tx hs okx sm
     exact run_plain rfl (y_move (kp (sm 0 rfl) hs q10))
   · intro ax tx hs okx sm
     exact run_plain rfl (y_move (kp (sm 5 rfl) hs q9))
   · intro ax tx hs okx sm d0 d1
     have e0 := ed d0 rfl rfl rfl
     have e1 := ed d1 rfl rfl rfl
     exact run_plain rfl (y_index1 Try.underlying23 Try.inf3 e0 e1 (by omega) (lst_get Ty.int a 0 i (by omega)))
   · intro ax tx hs okx sm d0
     have e2 := ed d0 rfl rfl rfl
     exact run_plain rfl (y_load Try.underlying3 rfl e2 rfl)
   · intro ax tx hs okx sm
     exact run_plain rfl (y_move (kp (sm 1 rfl) hs q11))
   · intro ax tx hs okx sm
     exact run_plain rfl (y_move (kp (sm 5 rfl) hs q9))
   · intro ax tx hs okx sm d0 d1
     have e4 := ed d0 rfl rfl rfl
     have e5 := ed d1 rfl rfl rfl
     exact run_plain rfl (y_index1 Try.underlying23 Try.inf3 e4 e5 (by omega) (lst_get Ty.int b 0 i (by omega)))
   · intro ax tx hs okx sm d0
     have e6 := ed d0 rfl rfl rfl
     exact run_plain rfl (y_load Try.underlying3 rfl e6 rfl)
   · intro ax tx hs okx sm d0 d1
     have e3 := ed d0 rfl rfl rfl
     have e7 := ed d1 rfl rfl rfl
     exact run_plain rfl (y_neq e3 e7)
   intro a6 s4 D4
   have ok5 := D4.ok
   have F5 := F4.step0 D4.stp
   have q13 := D4.kt q9 rfl
   have q14 := D4.kt q10 rfl
   have q15 := D4.kt q11 rfl
   have q16 : At (Ty.bool (decide ((a.getD i 0) ≠ (b.getD i 0)))) s4 a6 (.tmp 26) := D4.done 8
   clear D4
   refine tn ?_
   refine cond_p (p := ((a.getD i 0) ≠ (b.getD i 0))) q16 (fun c2 => ?_) (fun c2 => ?_)
   ·
    refine wp_seq ?_
    refine reg (a := a6) (σ := s4) rfl (fun i_ => List.getD [(Ty.pr (Ty.lst Ty.int a)), (Ty.pr (Ty.nat i)), (Ty.pr (Ty.ref [(Ty.int (a.getD i 0))])), (Ty.pr (Ty.int (a.getD i 0))), (Ty.pr (Ty.lst Ty.int b)), (Ty.pr (Ty.nat i)), (Ty.pr (Ty.ref [(Ty.int (b.getD i 0))])), (Ty.pr (Ty.int (b.getD i 0))), (Ty.pr (Ty.bool (decide ((a.getD i 0) < (b.getD i 0))))), (Ty.pr (Ty.bool (decide ((a.getD i 0) < (b.getD i 0)))))] i_ Pr.any) ok5 rfl ⟨?_, ?_, ?_, ?_, ?_, ?_, ?_, ?_, ?_, ?_, trivial⟩ ?_
    · intro ax tx hs okx sm
      exact run_plain rfl (y_move (kp (sm 0 rfl) hs q14))
    · intro ax tx hs okx sm
      exact run_plain rfl (y_move (kp (sm 5 rfl) hs q13))
    · intro ax tx hs okx sm d0 d1
      have e0 := ed d0 rfl rfl rfl
      have e1 := ed d1 rfl rfl rfl
      exact run_plain rfl (y_index1 Try.underlying23 Try.inf3 e0 e1 (by omega) (lst_get Ty.int a 0 i (by omega)))
    · intro ax tx hs okx sm d0
      have e2 := ed d0 rfl rfl rfl
      exact run_plain rfl (y_load Try.underlying3 rfl e2 rfl)
    · intro ax tx hs okx sm
      exact run_plain rfl (y_move (kp (sm 1 rfl) hs q15))
    · intro ax tx hs okx sm
      exact run_plain rfl (y_move (kp (sm 5 rfl) hs q13))
    · intro ax tx hs okx sm d0 d1
      have e4 := ed d0 rfl rfl rfl
      have e5 := ed d1 rfl rfl rfl
      exact run_plain rfl (y_index1 Try.underlying23 Try.inf3 e4 e5 (by omega) (lst_get Ty.int b 0 i (by omega)))
    · intro ax tx hs okx sm d0
      have e6 := ed d0 rfl rfl rfl
      exact run_plain rfl (y_load Try.underlying3 rfl e6 rfl)
    · intro ax tx hs okx sm d0 d1
      have e3 := ed d0 rfl rfl rfl
      have e7 := ed d1 rfl rfl rfl
      exact run_plain rfl (y_lss e3 e7)
    · intro ax tx hs okx sm d0 d1 d2 d3 d4 d5 d6 d7 d8 d9
      have e8 := ed d0 rfl rfl rfl
      exact run_plain rfl (y_assign e8)
    intro a7 s5 D5
    have ok6 := D5.ok
    have F6 := F5.step0 D5.stp
    have q17 : At (Ty.bool (decide ((a.getD i 0) < (b.getD i 0)))) s5 a7 (.tmp 4) := D5.done 9
    clear D5
    refine tn ?_
    refine wp_ret ?_
    refine br ?_
    refine tr ?_
    refine tr ?_
    refine br ?_
    refine tr ?_
    exact retL1 rfl ok6 F6 (cvb (by (exact below_ne hb (by omega) (by omega) (by assumption))) q17)
   ·
    refine wp_skip ?_
    refine bn ?_
    refine tn ?_
    refine reg (a := a6) (σ := s4) rfl (fun i_ => List.getD [(Ty.pr (Ty.nat i)), (Ty.pr (Ty.int (((i : Nat) : Int) + (1 : Int)))), (Ty.pr (Ty.int (((i : Nat) : Int) + (1 : Int))))] i_ Pr.any) ok5 rfl ⟨?_, ?_, ?_, trivial⟩ ?_
    · intro ax tx hs okx sm
      exact run_plain rfl (y_move (kp (sm 5 rfl) hs q13))
    · intro ax tx hs okx sm d0
      have e0 := ed d0 rfl rfl rfl
      exact run_plain rfl (y_add e0 rfl (w64 (by omega) (by omega)))
    · intro ax tx hs okx sm d0 d1 d2
      have e1 := ed d0 rfl rfl rfl
      exact run_plain rfl (y_assign e1)
    intro a8 s6 D6
    have ok7 := D6.ok
    have F7 := F5.step0 D6.stp
    have q18 := D6.kt q14 rfl
    have q19 := D6.kt q15 rfl
    have q20 : At (Ty.int (((i : Nat) : Int) + (1 : Int))) s6 a8 (.tmp 5) := D6.done 2
    clear D6
    exact tn ⟨a.length - ((i+1)), by omega, s6, (i+1), rfl, F7, ok7, (cvi (by (first | rfl | omega | (simp_all; done) | (simp_all; omega))) q20), q18, q19, by omega, by omega, below_step hb (by omega) (by omega) (by assumption), rfl⟩
  ·
   have hc1 : ¬ (i < a.length ∧ i < b.length) := (by intro h; simp only [Bool.and_eq_false_iff, decide_eq_false_iff_not] at c1; omega)
   refine wp_exit ?_
   refine tx ?_
   refine tx ?_
   refine bx ?_
   refine tn ?_
   refine wp_seq ?_
   refine reg (a := a5) (σ := s3) rfl (fun i_ => List.getD [(Ty.pr (Ty.lst Ty.int a)), (Ty.pr (Ty.nat (List.length a))), (Ty.pr (Ty.lst Ty.int b)), (Ty.pr (Ty.nat (List.length b))), (Ty.pr (Ty.bool (decide ((((List.length a) : Nat) : Int) < (((List.length b) : Nat) : Int))))), (Ty.pr (Ty.bool (decide ((((List.length a) : Nat) : Int) < (((List.length b) : Nat) : Int)))))] i_ Pr.any) ok4 rfl ⟨?_, ?_, ?_, ?_, ?_, ?_, trivial⟩ ?_
   · intro ax tx hs okx sm
     exact run_plain rfl (y_move (kp (sm 0 rfl) hs q10))
   · intro ax tx hs okx sm d0
     have e0 := ed d0 rfl rfl rfl
     exact run_plain rfl (y_len Try.underlying23 e0)
   · intro ax tx hs okx sm
     exact run_plain rfl (y_move (kp (sm 1 rfl) hs q11))
   · intro ax tx hs okx sm d0
     have e2 := ed d0 rfl rfl rfl
     exact run_plain rfl (y_len Try.underlying23 e2)
   · intro ax tx hs okx sm d0 d1
     have e1 := ed d0 rfl rfl rfl
     have e3 := ed d1 rfl rfl rfl
     exact run_plain rfl (y_lss e1 e3)
   · intro ax tx hs okx sm d0 d1 d2 d3 d4 d5
     have e4 := ed d0 rfl rfl rfl
     exact run_plain rfl (y_assign e4)
   intro a9 s7 D7
   have ok8 := D7.ok
   have F8 := F4.step0 D7.stp
   have q21 : At (Ty.bool (decide ((((List.length a) : Nat) : Int) < (((List.length b) : Nat) : Int)))) s7 a9 (.tmp 4) := D7.done 5
   clear D7
   refine tn ?_
   refine wp_ret ?_
   exact retL1 rfl ok8 F8 (cvb (by (exact below_end hb (by omega) (by omega) hc1)) q21)


set_option maxRecDepth 100000 in
theorem rsame_fn (xs : List Int) (ys : List Int) (σ : GW) (v0 v1 : Value) (hv0 : Ty.has (Ty.lst Ty.int xs) σ v0) (hv1 : Ty.has (Ty.lst Ty.int ys) σ v1)  :
    FnC Try.prog 14 #[v0, v1] σ (Ty.bool (decide (xs = ys))) := by
 refine fn_intro Try.func14 rfl Try.ntmps14 (Nat.le_of_ble_eq_true rfl) (fun s0 a0 hle F0 ok0 hargs => ?_)
 have p0 : At (Ty.lst Ty.int xs) s0 a0 (.tmp 0) := by have e := hargs 0 _ rfl; show Ty.has _ _ _; rw [e]; exact Ty.up _ hle hv0
 have b1 := sl_le p0
 have p1 : At (Ty.lst Ty.int ys) s0 a0 (.tmp 1) := by have e := hargs 1 _ rfl; show Ty.has _ _ _; rw [e]; exact Ty.up _ hle hv1
 have b2 := sl_le p1
 clear hargs
 refine wp_seq ?_
 refine reg (a := a0) (σ := s0) rfl (fun i_ => List.getD [(Ty.pr (Ty.bool false))] i_ Pr.any) ok0 rfl ⟨?_, trivial⟩ ?_
 · intro ax tx hs okx sm
   exact run_plain rfl (y_assign rfl)
 intro a1 s1 D1
 have ok1 := D1.ok
 have F1 := F0.step0 D1.stp
 have q1 := D1.kt p0 rfl
 have q2 := D1.kt p1 rfl
 clear D1
 refine tn ?_
 refine wp_seq ?_
 refine wp_seq ?_
 refine reg (a := a1) (σ := s1) rfl (fun i_ => List.getD [(Ty.pr (Ty.lst Ty.int xs)), (Ty.pr (Ty.nat (List.length xs))), (Ty.pr (Ty.lst Ty.int ys)), (Ty.pr (Ty.nat (List.length ys))), (Ty.pr (Ty.bool (decide ((((List.length xs) : Nat) : Int) ≠ (((List.length ys) : Nat) : Int)))))] i_ Pr.any) ok1 rfl ⟨?_, ?_, ?_, ?_, ?_, trivial⟩ ?_
 · intro ax tx hs okx sm
   exact run_plain rfl (y_move (kp (sm 0 rfl) hs q1))
 · intro ax tx hs okx sm d0
   have e0 := ed d0 rfl rfl rfl
   exact run_plain rfl (y_len Try.underlying23 e0)
 · intro ax tx hs okx sm
   exact run_plain rfl (y_move (kp (sm 1 rfl) hs q2))
 · intro ax tx hs okx sm d0
   have e2 := ed d0 rfl rfl rfl
   exact run_plain rfl (y_len Try.underlying23 e2)
 · intro ax tx hs okx sm d0 d1
   have e1 := ed d0 rfl rfl rfl
   have e3 := ed d1 rfl rfl rfl
   exact run_plain rfl (y_neq e1 e3)
 intro a2 s2 D2
 have ok2 := D2.ok
 have F2 := F1.step0 D2.stp
 have q3 := D2.kt q1 rfl
 have q4 := D2.kt q2 rfl
 have q5 : At (Ty.bool (decide ((((List.length xs) : Nat) : Int) ≠ (((List.length ys) : Nat) : Int)))) s2 a2 (.tmp 10) := D2.done 4
 clear D2
 refine tn ?_
 refine cond_p (p := ((((List.length xs) : Nat) : Int) ≠ (((List.length ys) : Nat) : Int))) q5 (fun c1 => ?_) (fun c1 => ?_)
 ·
  refine wp_seq ?_
  refine reg (a := a2) (σ := s2) rfl (fun i_ => List.getD [(Ty.pr (Ty.bool false))] i_ Pr.any) ok2 rfl ⟨?_, trivial⟩ ?_
  · intro ax tx hs okx sm
    exact run_plain rfl (y_assign rfl)
  intro a3 s3 D3
  have ok3 := D3.ok
  have F3 := F2.step0 D3.stp
  have q6 : At (Ty.bool false) s3 a3 (.tmp 4) := D3.done 0
  clear D3
  refine tn ?_
  refine wp_ret ?_
  refine tr ?_
  exact ret1 rfl ok3 F3 (cvb (by (rw [decide_eq_false]; intro e; subst e; omega)) q6)
 ·
  refine wp_skip ?_
  refine tn ?_
  refine wp_seq ?_
  refine wp_seq ?_
  refine reg (a := a2) (σ := s2) rfl (fun i_ => List.getD [(Ty.pr (Ty.int (0 : Int)))] i_ Pr.any) ok2 rfl ⟨?_, trivial⟩ ?_
  · intro ax tx hs okx sm
    exact run_plain rfl (y_assign rfl)
  intro a4 s4 D4
  have ok4 := D4.ok
  have F4 := F2.step0 D4.stp
  have q7 := D4.kt q3 rfl
  have q8 := D4.kt q4 rfl
  have q9 : At (Ty.int (0 : Int)) s4 a4 (.tmp 5) := D4.done 0
  clear D4
  refine tn ?_
  refine wp_block ?_
  refine loop (fun n1 a5 w1 => ∃ (t1 : GW) (k : Nat), t1.w = w1 ∧ From s0 t1 ∧ Ok 26 a5 ∧ At (Ty.nat k) t1 a5 (.tmp 5) ∧ At (Ty.lst Ty.int xs) t1 a5 (.tmp 0) ∧ At (Ty.lst Ty.int ys) t1 a5 (.tmp 1) ∧ (k ≤ xs.length) ∧ (xs.length = ys.length) ∧ (∀ j, j < k → xs.getD j 0 = ys.getD j 0) ∧ n1 = xs.length - k) (xs.length - (0)) ?_ ?_
  ·
   exact ⟨s4, 0, rfl, F4, ok4, (cvi (by (first | rfl | omega | (simp_all; done) | (simp_all; omega))) q9), q7, q8, by omega, by omega, fun j hj => absurd hj (Nat.not_lt_zero j), rfl⟩
  ·
   rintro n2 a6 w2 ⟨t2, k, rfl, F5, ok5, q10, q11, q12, hk, hl, heq, rfl⟩
   refine wp_seq ?_
   refine wp_seq ?_
   refine reg (a := a6) (σ := t2) rfl (fun i_ => List.getD [(Ty.pr (Ty.nat k)), (Ty.pr (Ty.lst Ty.int xs)), (Ty.pr (Ty.nat (List.length xs))), (Ty.pr (Ty.bool (decide (((k : Nat) : Int) < (((List.length xs) : Nat) : Int)))))] i_ Pr.any) ok5 rfl ⟨?_, ?_, ?_, ?_, trivial⟩ ?_
   · intro ax tx hs okx sm
     exact run_plain rfl (y_move (kp (sm 5 rfl) hs q10))
   · intro ax tx hs okx sm
     exact run_plain rfl (y_move (kp (sm 0 rfl) hs q11))
   · intro ax tx hs okx sm d0
     have e1 := ed d0 rfl rfl rfl
     exact run_plain rfl (y_len Try.underlying23 e1)
   · intro ax tx hs okx sm d0 d1
     have e0 := ed d0 rfl rfl rfl
     have e2 := ed d1 rfl rfl rfl
     exact run_plain rfl (y_lss e0 e2)
   intro a7 s5 D5
   have ok6 := D5.ok
   have F6 := F5.step0 D5.stp
   have q13 := D5.kt q10 rfl
   have q14 := D5.kt q11 rfl
   have q15 := D5.kt q12 rfl
   have q16 : At (Ty.bool (decide (((k : Nat) : Int) < (((List.length xs) : Nat) : Int)))) s5 a7 (.tmp 14) := D5.done 3
   clear D5
   refine tn ?_
   refine cond_p (p := (((k : Nat) : Int) < (((List.length xs) : Nat) : Int))) q16 (fun c2 => ?_) (fun c2 => ?_)
   ·
    refine wp_skip ?_
    refine tn ?_
    refine wp_seq ?_
    refine wp_block ?_
    refine wp_seq ?_
    refine reg (a := a7) (σ := s5) rfl (fun i_ => List.getD [(Ty.pr (Ty.lst Ty.int xs)), (Ty.pr (Ty.nat k)), (Ty.pr (Ty.ref [(Ty.int (xs.getD k 0))])), (Ty.pr (Ty.int (xs.getD k 0))), (Ty.pr (Ty.lst Ty.int ys)), (Ty.pr (Ty.nat k)), (Ty.pr (Ty.ref [(Ty.int (ys.getD k 0))])), (Ty.pr (Ty.int (ys.getD k 0))), (Ty.pr (Ty.bool (decide ((xs.getD k 0) ≠ (ys.getD k 0)))))] i_ Pr.any) ok6 rfl ⟨?_, ?_, ?_, ?_, ?_, ?_, ?_, ?_, ?_, trivial⟩ ?_
    · intro ax tx hs okx sm
      exact run_plain rfl (y_move (kp (sm 0 rfl) hs q14))
    · intro ax tx hs okx sm
      exact run_plain rfl (y_move (kp (sm 5 rfl) hs q13))
    · intro ax tx hs okx sm d0 d1
      have e0 := ed d0 rfl rfl rfl
      have e1 := ed d1 rfl rfl rfl
      exact run_plain rfl (y_index1 Try.underlying23 Try.inf3 e0 e1 (by omega) (lst_get Ty.int xs 0 k (by omega)))
    · intro ax tx hs okx sm d0
      have e2 := ed d0 rfl rfl rfl
      exact run_plain rfl (y_load Try.underlying3 rfl e2 rfl)
    · intro ax tx hs okx sm
      exact run_plain rfl (y_move (kp (sm 1 rfl) hs q15))
    · intro ax tx hs okx sm
      exact run_plain rfl (y_move (kp (sm 5 rfl) hs q13))
    · intro ax tx hs okx sm d0 d1
      have e4 := ed d0 rfl rfl rfl
      have e5 := ed d1 rfl rfl rfl
      exact run_plain rfl (y_index1 Try.underlying23 Try.inf3 e4 e5 (by omega) (lst_get Ty.int ys 0 k (by omega)))
    · intro ax tx hs okx sm d0
      have e6 := ed d0 rfl rfl rfl
      exact run_plain rfl (y_load Try.underlying3 rfl e6 rfl)
    · intro ax tx hs okx sm d0 d1
      have e3 := ed d0 rfl rfl rfl
      have e7 := ed d1 rfl rfl rfl
      exact run_plain rfl (y_neq e3 e7)
    intro a8 s6 D6
    have ok7 := D6.ok
    have F7 := F6.step0 D6.stp
    have q17 := D6.kt q13 rfl
    have q18 := D6.kt q14 rfl
    have q19 := D6.kt q15 rfl
    have q20 : At (Ty.bool (decide ((xs.getD k 0) ≠ (ys.getD k 0)))) s6 a8 (.tmp 25) := D6.done 8
    clear D6
    refine tn ?_
    refine cond_p (p := ((xs.getD k 0) ≠ (ys.getD k 0))) q20 (fun c3 => ?_) (fun c3 => ?_)
    ·
     refine wp_seq ?_
     refine reg (a := a8) (σ := s6) rfl (fun i_ => List.getD [(Ty.pr (Ty.bool false))] i_ Pr.any) ok7 rfl ⟨?_, trivial⟩ ?_
     · intro ax tx hs okx sm
       exact run_plain rfl (y_assign rfl)
     intro a9 s7 D7
     have ok8 := D7.ok
     have F8 := F7.step0 D7.stp
     have q21 : At (Ty.bool false) s7 a9 (.tmp 4) := D7.done 0
     clear D7
     refine tn ?_
     refine wp_ret ?_
     refine br ?_
     refine tr ?_
     refine tr ?_
     refine br ?_
     refine tr ?_
     exact ret1 rfl ok8 F8 (cvb (by (exact (decide_eq_false (fun e => by subst e; simp_all)).symm)) q21)
    ·
     refine wp_skip ?_
     refine bn ?_
     refine tn ?_
     refine reg (a := a8) (σ := s6) rfl (fun i_ => List.getD [(Ty.pr (Ty.nat k)), (Ty.pr (Ty.int (((k : Nat) : Int) + (1 : Int)))), (Ty.pr (Ty.int (((k : Nat) : Int) + (1 : Int))))] i_ Pr.any) ok7 rfl ⟨?_, ?_, ?_, trivial⟩ ?_
     · intro ax tx hs okx sm
       exact run_plain rfl (y_move (kp (sm 5 rfl) hs q17))
     · intro ax tx hs okx sm d0
       have e0 := ed d0 rfl rfl rfl
       exact run_plain rfl (y_add e0 rfl (w64 (by omega) (by omega)))
     · intro ax tx hs okx sm d0 d1 d2
       have e1 := ed d0 rfl rfl rfl
       exact run_plain rfl (y_assign e1)
     intro a10 s8 D8
     have ok9 := D8.ok
     have F9 := F7.step0 D8.stp
     have q22 := D8.kt q18 rfl
     have q23 := D8.kt q19 rfl
     have q24 : At (Ty.int (((k : Nat) : Int) + (1 : Int))) s8 a10 (.tmp 5) := D8.done 2
     clear D8
     exact tn ⟨xs.length - ((k+1)), by omega, s8, (k+1), rfl, F9, ok9, (cvi (by (first | rfl | omega | (simp_all; done) | (simp_all; omega))) q24), q22, q23, by omega, by omega, all_snoc heq (by assumption), rfl⟩
   ·
    refine wp_exit ?_
    refine tx ?_
    refine tx ?_
    refine bx ?_
    refine tn ?_
    refine wp_seq ?_
    refine reg (a := a7) (σ := s5) rfl (fun i_ => List.getD [(Ty.pr (Ty.bool true))] i_ Pr.any) ok6 rfl ⟨?_, trivial⟩ ?_
    · intro ax tx hs okx sm
      exact run_plain rfl (y_assign rfl)
    intro a11 s9 D9
    have ok10 := D9.ok
    have F10 := F6.step0 D9.stp
    have q25 : At (Ty.bool true) s9 a11 (.tmp 4) := D9.done 0
    clear D9
    refine tn ?_
    refine wp_ret ?_
    exact ret1 rfl ok10 F10 (cvb (by (exact (decide_eq_true (list_ext (by omega) (fun j hj => heq j (by omega)))).symm)) q25)


end Go.Proofs.Ytbilebfnanlgfaa
