/- The functions that the law TopRow reaches, each by its contract. Part 1. -/
import Derived.Test.YtlhnpkaohfoicaaKlRead
import Derived.Test.YtlhnpkaohfoicaaProg
namespace Go.Proofs.Ytlhnpkaohfoicaa
open Go.KL

set_option maxRecDepth 100000 in
theorem pick_fn (c : Int) (n : Nat) (σ : GW) (v0 v1 : Value) (hv0 : Ty.has (Ty.int c) σ v0) (hv1 : Ty.has (Ty.nat n) σ v1) (hc : -9223372036854775808 ≤ c ∧ c ≤ 9223372036854775807) (hn : 0 < n) :
    FnC Try.prog 56 #[v0, v1] σ (Ty.nat (pick c n)) := by
 refine fn_intro Try.func56 rfl Try.ntmps56 (Nat.le_of_ble_eq_true rfl) (fun s0 a0 hle F0 ok0 hargs => ?_)
 have p0 : At (Ty.int c) s0 a0 (.tmp 0) := by have e := hargs 0 _ rfl; show Ty.has _ _ _; rw [e]; exact Ty.up _ hle hv0
 have p1 : At (Ty.nat n) s0 a0 (.tmp 1) := by have e := hargs 1 _ rfl; show Ty.has _ _ _; rw [e]; exact Ty.up _ hle hv1
 clear hargs
 refine wp_seq ?_
 refine reg (a := a0) (σ := s0) rfl (fun i_ => List.getD [(Ty.pr (Ty.int (0 : Int)))] i_ Pr.any) ok0 rfl ⟨?_, trivial⟩ ?_
 · intro ax tx hs okx sm
   exact run_plain rfl (y_assign rfl)
 intro a1 s1 D1
 have ok1 := D1.ok
 have F1 := F0.step0 D1.stp
 have q1 : At (Ty.int c) s1 a1 (.tmp 0) := D1.kt p0 rfl
 have q2 : At (Ty.nat n) s1 a1 (.tmp 1) := D1.kt p1 rfl
 clear D1
 refine tn ?_
 refine wp_seq ?_
 refine wp_seq ?_
 refine reg (a := a1) (σ := s1) rfl (fun i_ => List.getD [(Ty.pr (Ty.int c)), (Ty.pr (Ty.bool (decide (c < (0 : Int)))))] i_ Pr.any) ok1 rfl ⟨?_, ?_, trivial⟩ ?_
 · intro ax tx hs okx sm
   exact run_plain rfl (y_move (kp (sm 0 rfl) hs q1))
 · intro ax tx hs okx sm d0
   have e0 : At (Ty.int c) tx ax (.tmp 5) := d0 rfl
   exact run_plain rfl (y_lss e0 rfl)
 intro a2 s2 D2
 have ok2 := D2.ok
 have F2 := F1.step0 D2.stp
 have q3 : At (Ty.int c) s2 a2 (.tmp 0) := D2.kt q1 rfl
 have q4 : At (Ty.nat n) s2 a2 (.tmp 1) := D2.kt q2 rfl
 have q5 : At (Ty.bool (decide (c < (0 : Int)))) s2 a2 (.tmp 6) := D2.done 1
 clear D2
 refine tn ?_
 refine cond_p (p := (c < (0 : Int))) q5 (fun c1 => ?_) (fun c1 => ?_)
 ·
  refine reg (a := a2) (σ := s2) rfl (fun i_ => List.getD [(Ty.pr (Ty.int c)), (Ty.pr (Ty.int (c + (1 : Int)))), (Ty.pr (Ty.int (-(c + (1 : Int))))), (Ty.pr (Ty.int (-(c + (1 : Int)))))] i_ Pr.any) ok2 rfl ⟨?_, ?_, ?_, ?_, trivial⟩ ?_
  · intro ax tx hs okx sm
    exact run_plain rfl (y_move (kp (sm 0 rfl) hs q3))
  · intro ax tx hs okx sm d0
    have e0 : At (Ty.int c) tx ax (.tmp 7) := d0 rfl
    exact run_plain rfl (y_add e0 rfl (w64 (by omega) (by omega)))
  · intro ax tx hs okx sm d0
    have e1 : At (Ty.int (c + (1 : Int))) tx ax (.tmp 8) := d0 rfl
    exact run_plain rfl (y_neg e1 (w64 (by omega) (by omega)))
  · intro ax tx hs okx sm d0 d1 d2 d3
    have e2 : At (Ty.int (-(c + (1 : Int)))) tx ax (.tmp 9) := d0 rfl
    have e0 : At (Ty.int c) tx ax (.tmp 7) := d1 rfl
    have e1 : At (Ty.int (c + (1 : Int))) tx ax (.tmp 8) := d2 rfl
    exact run_plain rfl (y_assign e2)
  intro a3 s3 D3
  have ok3 := D3.ok
  have F3 := F2.step0 D3.stp
  have q6 : At (Ty.nat n) s3 a3 (.tmp 1) := D3.kt q4 rfl
  have q7 : At (Ty.int (-(c + (1 : Int)))) s3 a3 (.tmp 0) := D3.done 3
  clear D3
  refine tn ?_
  refine wp_seq ?_
  refine reg (a := a3) (σ := s3) rfl (fun i_ => List.getD [(Ty.pr (Ty.int (-(c + (1 : Int))))), (Ty.pr (Ty.nat n)), (Ty.pr (Ty.nat (((-(c + (1 : Int)))).toNat % n))), (Ty.pr (Ty.nat (((-(c + (1 : Int)))).toNat % n)))] i_ Pr.any) ok3 rfl ⟨?_, ?_, ?_, ?_, trivial⟩ ?_
  · intro ax tx hs okx sm
    exact run_plain rfl (y_move (kp (sm 0 rfl) hs q7))
  · intro ax tx hs okx sm
    exact run_plain rfl (y_move (kp (sm 1 rfl) hs q6))
  · intro ax tx hs okx sm d0 d1
    have e0 : At (Ty.int (-(c + (1 : Int)))) tx ax (.tmp 10) := d0 rfl
    have e1 : At (Ty.nat n) tx ax (.tmp 11) := d1 rfl
    exact run_plain rfl (y_remN (toN (σ := tx) e0 (by omega)) e1 (by omega))
  · intro ax tx hs okx sm d0 d1 d2 d3
    have e2 : At (Ty.nat (((-(c + (1 : Int)))).toNat % n)) tx ax (.tmp 12) := d0 rfl
    have e0 : At (Ty.int (-(c + (1 : Int)))) tx ax (.tmp 10) := d1 rfl
    have e1 : At (Ty.nat n) tx ax (.tmp 11) := d2 rfl
    exact run_plain rfl (y_assign e2)
  intro a4 s4 D4
  have ok4 := D4.ok
  have F4 := F3.step0 D4.stp
  have q8 : At (Ty.nat (((-(c + (1 : Int)))).toNat % n)) s4 a4 (.tmp 4) := D4.done 3
  clear D4
  refine tn ?_
  refine wp_ret ?_
  exact ret1 rfl ok4 F4 (cvi (by (unfold pick; rw [if_pos (by assumption)])) q8)
 ·
  refine wp_skip ?_
  refine tn ?_
  refine wp_seq ?_
  refine reg (a := a2) (σ := s2) rfl (fun i_ => List.getD [(Ty.pr (Ty.int c)), (Ty.pr (Ty.nat n)), (Ty.pr (Ty.nat ((c).toNat % n))), (Ty.pr (Ty.nat ((c).toNat % n)))] i_ Pr.any) ok2 rfl ⟨?_, ?_, ?_, ?_, trivial⟩ ?_
  · intro ax tx hs okx sm
    exact run_plain rfl (y_move (kp (sm 0 rfl) hs q3))
  · intro ax tx hs okx sm
    exact run_plain rfl (y_move (kp (sm 1 rfl) hs q4))
  · intro ax tx hs okx sm d0 d1
    have e0 : At (Ty.int c) tx ax (.tmp 10) := d0 rfl
    have e1 : At (Ty.nat n) tx ax (.tmp 11) := d1 rfl
    exact run_plain rfl (y_remN (toN (σ := tx) e0 (by omega)) e1 (by omega))
  · intro ax tx hs okx sm d0 d1 d2 d3
    have e2 : At (Ty.nat ((c).toNat % n)) tx ax (.tmp 12) := d0 rfl
    have e0 : At (Ty.int c) tx ax (.tmp 10) := d1 rfl
    have e1 : At (Ty.nat n) tx ax (.tmp 11) := d2 rfl
    exact run_plain rfl (y_assign e2)
  intro a5 s5 D5
  have ok5 := D5.ok
  have F5 := F2.step0 D5.stp
  have q9 : At (Ty.nat ((c).toNat % n)) s5 a5 (.tmp 4) := D5.done 3
  clear D5
  refine tn ?_
  refine wp_ret ?_
  exact ret1 rfl ok5 F5 (cvi (by (unfold pick; rw [if_neg (by assumption)])) q9)


set_option maxHeartbeats 4000000 in
set_option maxRecDepth 100000 in
theorem rFact_fn : ∀ (m : Nat) (n : Nat) (σ : GW)  (v0 : Value) (hv0 : Ty.has (Ty.nat n) σ v0)  (hm : m = n) (hn : n ≤ 12), FnC Try.prog 35 #[v0] σ (Ty.nat (fct n)) := by
 intro m
 induction m using Nat.strongRecOn with
 | _ m ih =>
 intro n σ v0 hv0 hm hn
 refine fn_intro0 Try.func35 rfl Try.ntmps35 (Nat.le_of_ble_eq_true rfl) (fun s0 a0 hle F0 ok0 hargs => ?_)
 have p0 : At (Ty.nat n) s0 a0 (.tmp 0) := by have e := hargs 0 _ rfl; show Ty.has _ _ _; rw [e]; exact Ty.up _ hle hv0
 clear hargs
 refine wp_seq ?_
 refine reg (a := a0) (σ := s0) rfl (fun i_ => List.getD [(Ty.pr (Ty.int (0 : Int)))] i_ Pr.any) ok0 rfl ⟨?_, trivial⟩ ?_
 · intro ax tx hs okx sm
   exact run_plain rfl (y_assign rfl)
 intro a1 s1 D1
 have ok1 := D1.ok
 have F1 := F0.step0 D1.stp
 have q1 : At (Ty.nat n) s1 a1 (.tmp 0) := D1.kt p0 rfl
 clear D1
 refine tn ?_
 refine wp_seq ?_
 refine wp_seq ?_
 refine reg (a := a1) (σ := s1) rfl (fun i_ => List.getD [(Ty.pr (Ty.nat n)), (Ty.pr (Ty.bool (decide (((n : Nat) : Int) < (2 : Int)))))] i_ Pr.any) ok1 rfl ⟨?_, ?_, trivial⟩ ?_
 · intro ax tx hs okx sm
   exact run_plain rfl (y_move (kp (sm 0 rfl) hs q1))
 · intro ax tx hs okx sm d0
   have e0 : At (Ty.nat n) tx ax (.tmp 3) := d0 rfl
   exact run_plain rfl (y_lss e0 rfl)
 intro a2 s2 D2
 have ok2 := D2.ok
 have F2 := F1.step0 D2.stp
 have q2 : At (Ty.nat n) s2 a2 (.tmp 0) := D2.kt q1 rfl
 have q3 : At (Ty.bool (decide (((n : Nat) : Int) < (2 : Int)))) s2 a2 (.tmp 4) := D2.done 1
 clear D2
 refine tn ?_
 refine cond_p (p := (((n : Nat) : Int) < (2 : Int))) q3 (fun c1 => ?_) (fun c1 => ?_)
 ·
  refine wp_seq ?_
  refine reg (a := a2) (σ := s2) rfl (fun i_ => List.getD [(Ty.pr (Ty.int (1 : Int)))] i_ Pr.any) ok2 rfl ⟨?_, trivial⟩ ?_
  · intro ax tx hs okx sm
    exact run_plain rfl (y_assign rfl)
  intro a3 s3 D3
  have ok3 := D3.ok
  have F3 := F2.step0 D3.stp
  have q4 : At (Ty.int (1 : Int)) s3 a3 (.tmp 2) := D3.done 0
  clear D3
  refine tn ?_
  refine wp_ret ?_
  refine tr ?_
  exact retL1 rfl ok3 F3 (cvi (by (rw [fct_small (by omega)]; rfl)) q4)
 ·
  have hm2 : ((n : Nat) : Int) * ((fct (n - 1) : Nat) : Int) ≤ 479001600 ∧ 0 ≤ ((n : Nat) : Int) * ((fct (n - 1) : Nat) : Int) := (by have h1 := fct_le12 hn; have h2 := fct_rec (n := n) (by omega); rw [← Int.natCast_mul]; omega)
  refine wp_skip ?_
  refine tn ?_
  refine wp_seq ?_
  refine reg (a := a2) (σ := s2) rfl (fun i_ => List.getD [(Ty.pr (Ty.nat n)), (Ty.pr (Ty.nat n)), (Ty.pr (Ty.nat (n - 1))), (Ty.pr (Ty.nat (fct ((n - 1))))), (Ty.pr (Ty.nat (n * (fct ((n - 1)))))), (Ty.pr (Ty.nat (n * (fct ((n - 1))))))] i_ Pr.any) ok2 rfl ⟨?_, ?_, ?_, ?_, ?_, ?_, trivial⟩ ?_
  · intro ax tx hs okx sm
    exact run_plain rfl (y_move (kp (sm 0 rfl) hs q2))
  · intro ax tx hs okx sm
    exact run_plain rfl (y_move (kp (sm 0 rfl) hs q2))
  · intro ax tx hs okx sm d0
    have e1 : At (Ty.nat n) tx ax (.tmp 6) := d0 rfl
    exact run_plain rfl ((y_sub e1 rfl (w64 (by omega) (by omega))).mono (fun τ _ h => cvi (σ := τ) (by omega) h))
  · intro ax tx hs okx sm d0
    have e2 : At (Ty.nat (n - 1)) tx ax (.tmp 7) := d0 rfl
    exact run_plain rfl (y_call #[ax.eval (.tmp 7)] Try.func35 rfl rfl (by simp only [List.map_toArray, List.map_cons, List.map_nil]) (ih (((n - 1))) (by omega) ((n - 1)) _ _ (cvi (σ := tx) (by omega) e2) (by omega) (by omega)))
  · intro ax tx hs okx sm d0 d1
    have e0 : At (Ty.nat n) tx ax (.tmp 5) := d0 rfl
    have e3 : At (Ty.nat (fct ((n - 1)))) tx ax (.tmp 8) := d1 rfl
    exact run_plain rfl ((y_mul e0 e3 (w64 (by omega) (by omega))).mono (fun τ _ h => cvi (σ := τ) (by first | omega | exact (Int.natCast_mul _ _).symm) h))
  · intro ax tx hs okx sm d0 d1 d2 d3 d4 d5 d6
    have e4 : At (Ty.nat (n * (fct ((n - 1))))) tx ax (.tmp 9) := d0 rfl
    have e3 : At (Ty.nat (fct ((n - 1)))) tx ax (.tmp 8) := d1 rfl
    have e0 : At (Ty.nat n) tx ax (.tmp 5) := d2 rfl
    have e1 : At (Ty.nat n) tx ax (.tmp 6) := d3 rfl
    have e2 : At (Ty.nat (n - 1)) tx ax (.tmp 7) := d4 rfl
    exact run_plain rfl (y_assign e4)
  intro a4 s4 D4
  have ok4 := D4.ok
  have F4 := F2.step0 D4.stp
  have q5 : At (Ty.nat (n * (fct ((n - 1))))) s4 a4 (.tmp 2) := D4.done 5
  clear D4
  refine tn ?_
  refine wp_ret ?_
  exact retL1 rfl ok4 F4 (cvi (by (rw [fct_rec (by omega)])) q5)


set_option maxHeartbeats 4000000 in
set_option maxRecDepth 100000 in
theorem rowAll_fn (n : Nat) (σ : GW)  (v0 : Value) (hv0 : Ty.has (Ty.nat n) σ v0)  (hn : n ≤ 12) :
    FnC Try.prog 84 #[v0] σ (Ty.nat (fct n)) := by
 refine fn_intro0 Try.func84 rfl Try.ntmps84 (Nat.le_of_ble_eq_true rfl) (fun s0 a0 hle F0 ok0 hargs => ?_)
 have p0 : At (Ty.nat n) s0 a0 (.tmp 0) := by have e := hargs 0 _ rfl; show Ty.has _ _ _; rw [e]; exact Ty.up _ hle hv0
 clear hargs
 refine wp_seq ?_
 refine reg (a := a0) (σ := s0) rfl (fun i_ => List.getD [(Ty.pr (Ty.int (0 : Int)))] i_ Pr.any) ok0 rfl ⟨?_, trivial⟩ ?_
 · intro ax tx hs okx sm
   exact run_plain rfl (y_assign rfl)
 intro a1 s1 D1
 have ok1 := D1.ok
 have F1 := F0.step0 D1.stp
 have q1 : At (Ty.nat n) s1 a1 (.tmp 0) := D1.kt p0 rfl
 clear D1
 refine tn ?_
 refine wp_seq ?_
 refine reg (a := a1) (σ := s1) rfl (fun i_ => List.getD [(Ty.pr (Ty.int (1 : Int)))] i_ Pr.any) ok1 rfl ⟨?_, trivial⟩ ?_
 · intro ax tx hs okx sm
   exact run_plain rfl (y_assign rfl)
 intro a2 s2 D2
 have ok2 := D2.ok
 have F2 := F1.step0 D2.stp
 have q2 : At (Ty.nat n) s2 a2 (.tmp 0) := D2.kt q1 rfl
 have q3 : At (Ty.int (1 : Int)) s2 a2 (.tmp 3) := D2.done 0
 clear D2
 refine tn ?_
 refine wp_seq ?_
 refine wp_seq ?_
 refine reg (a := a2) (σ := s2) rfl (fun i_ => List.getD [(Ty.pr (Ty.int (2 : Int)))] i_ Pr.any) ok2 rfl ⟨?_, trivial⟩ ?_
 · intro ax tx hs okx sm
   exact run_plain rfl (y_assign rfl)
 intro a3 s3 D3
 have ok3 := D3.ok
 have F3 := F2.step0 D3.stp
 have q4 : At (Ty.nat n) s3 a3 (.tmp 0) := D3.kt q2 rfl
 have q5 : At (Ty.int (1 : Int)) s3 a3 (.tmp 3) := D3.kt q3 rfl
 have q6 : At (Ty.int (2 : Int)) s3 a3 (.tmp 4) := D3.done 0
 clear D3
 refine tn ?_
 refine wp_block ?_
 refine loop (fun n1 a4 w1 => ∃ (t1 : GW) (j : Nat), t1.w = w1 ∧ FromL [] s0 t1 ∧ Ok 14 a4 ∧ At (Ty.nat (fct j)) t1 a4 (.tmp 3) ∧ At (Ty.nat (j + 1)) t1 a4 (.tmp 4) ∧ At (Ty.nat n) t1 a4 (.tmp 0) ∧ (1 ≤ j) ∧ (j ≤ n ∨ j = 1) ∧ n1 = n + 1 - j) (n + 1 - (1)) ?_ ?_
 ·
  exact ⟨s3, 1, rfl, F3, ok3, (cvi (by (rfl)) q5), (cvi (by (rfl)) q6), q4, by omega, by omega, rfl⟩
 ·
  rintro n2 a5 w2 ⟨t2, j, rfl, F4, ok4, q7, q8, q9, hj, hj2, rfl⟩
  refine wp_seq ?_
  refine wp_seq ?_
  refine reg (a := a5) (σ := t2) rfl (fun i_ => List.getD [(Ty.pr (Ty.nat (j + 1))), (Ty.pr (Ty.nat n)), (Ty.pr (Ty.bool (decide ((((j + 1) : Nat) : Int) ≤ ((n : Nat) : Int)))))] i_ Pr.any) ok4 rfl ⟨?_, ?_, ?_, trivial⟩ ?_
  · intro ax tx hs okx sm
    exact run_plain rfl (y_move (kp (sm 4 rfl) hs q8))
  · intro ax tx hs okx sm
    exact run_plain rfl (y_move (kp (sm 0 rfl) hs q9))
  · intro ax tx hs okx sm d0 d1
    have e0 : At (Ty.nat (j + 1)) tx ax (.tmp 5) := d0 rfl
    have e1 : At (Ty.nat n) tx ax (.tmp 6) := d1 rfl
    exact run_plain rfl (y_leq e0 e1)
  intro a6 s4 D4
  have ok5 := D4.ok
  have F5 := F4.step0 D4.stp
  have q10 : At (Ty.nat (fct j)) s4 a6 (.tmp 3) := D4.kt q7 rfl
  have q11 : At (Ty.nat (j + 1)) s4 a6 (.tmp 4) := D4.kt q8 rfl
  have q12 : At (Ty.nat n) s4 a6 (.tmp 0) := D4.kt q9 rfl
  have q13 : At (Ty.bool (decide ((((j + 1) : Nat) : Int) ≤ ((n : Nat) : Int)))) s4 a6 (.tmp 7) := D4.done 2
  clear D4
  refine tn ?_
  refine cond_p (p := ((((j + 1) : Nat) : Int) ≤ ((n : Nat) : Int))) q13 (fun c1 => ?_) (fun c1 => ?_)
  ·
   have hm : ((fct j : Nat) : Int) * ((j + 1 : Nat) : Int) ≤ 479001600 ∧ 0 ≤ ((fct j : Nat) : Int) * ((j + 1 : Nat) : Int) := (by have := fct_le12 (n := j + 1) (by omega); rw [fct, Nat.mul_comm] at this; rw [← Int.natCast_mul]; omega)
   refine wp_skip ?_
   refine tn ?_
   refine wp_seq ?_
   refine wp_block ?_
   refine reg (a := a6) (σ := s4) rfl (fun i_ => List.getD [(Ty.pr (Ty.nat (fct j))), (Ty.pr (Ty.nat (j + 1))), (Ty.pr (Ty.nat ((fct j) * (j + 1)))), (Ty.pr (Ty.nat ((fct j) * (j + 1))))] i_ Pr.any) ok5 rfl ⟨?_, ?_, ?_, ?_, trivial⟩ ?_
   · intro ax tx hs okx sm
     exact run_plain rfl (y_move (kp (sm 3 rfl) hs q10))
   · intro ax tx hs okx sm
     exact run_plain rfl (y_move (kp (sm 4 rfl) hs q11))
   · intro ax tx hs okx sm d0 d1
     have e0 : At (Ty.nat (fct j)) tx ax (.tmp 10) := d0 rfl
     have e1 : At (Ty.nat (j + 1)) tx ax (.tmp 11) := d1 rfl
     exact run_plain rfl ((y_mul e0 e1 (w64 (by omega) (by omega))).mono (fun τ _ h => cvi (σ := τ) (by first | omega | exact (Int.natCast_mul _ _).symm) h))
   · intro ax tx hs okx sm d0 d1 d2 d3
     have e2 : At (Ty.nat ((fct j) * (j + 1))) tx ax (.tmp 12) := d0 rfl
     have e0 : At (Ty.nat (fct j)) tx ax (.tmp 10) := d1 rfl
     have e1 : At (Ty.nat (j + 1)) tx ax (.tmp 11) := d2 rfl
     exact run_plain rfl (y_assign e2)
   intro a7 s5 D5
   have ok6 := D5.ok
   have F6 := F5.step0 D5.stp
   have q14 : At (Ty.nat (j + 1)) s5 a7 (.tmp 4) := D5.kt q11 rfl
   have q15 : At (Ty.nat n) s5 a7 (.tmp 0) := D5.kt q12 rfl
   have q16 : At (Ty.nat ((fct j) * (j + 1))) s5 a7 (.tmp 3) := D5.done 3
   clear D5
   refine bn ?_
   refine tn ?_
   refine reg (a := a7) (σ := s5) rfl (fun i_ => List.getD [(Ty.pr (Ty.nat (j + 1))), (Ty.pr (Ty.nat ((j + 1) + 1))), (Ty.pr (Ty.nat ((j + 1) + 1)))] i_ Pr.any) ok6 rfl ⟨?_, ?_, ?_, trivial⟩ ?_
   · intro ax tx hs okx sm
     exact run_plain rfl (y_move (kp (sm 4 rfl) hs q14))
   · intro ax tx hs okx sm d0
     have e0 : At (Ty.nat (j + 1)) tx ax (.tmp 8) := d0 rfl
     exact run_plain rfl ((y_add e0 rfl (w64 (by omega) (by omega))).mono (fun τ _ h => cvi (σ := τ) (by first | omega | exact (Int.natCast_mul _ _).symm) h))
   · intro ax tx hs okx sm d0 d1 d2
     have e1 : At (Ty.nat ((j + 1) + 1)) tx ax (.tmp 9) := d0 rfl
     have e0 : At (Ty.nat (j + 1)) tx ax (.tmp 8) := d1 rfl
     exact run_plain rfl (y_assign e1)
   intro a8 s6 D6
   have ok7 := D6.ok
   have F7 := F6.step0 D6.stp
   have q17 : At (Ty.nat n) s6 a8 (.tmp 0) := D6.kt q15 rfl
   have q18 : At (Ty.nat ((fct j) * (j + 1))) s6 a8 (.tmp 3) := D6.kt q16 rfl
   have q19 : At (Ty.nat ((j + 1) + 1)) s6 a8 (.tmp 4) := D6.done 2
   clear D6
   exact tn ⟨n + 1 - ((j + 1)), by omega, s6, (j + 1), rfl, F7, ok7, (cvi (by (rw [fct, Nat.mul_comm])) q18), (cvi (by (omega)) q19), q17, by omega, by omega, rfl⟩
  ·
   refine wp_exit ?_
   refine tx ?_
   refine tx ?_
   refine bx ?_
   refine tn ?_
   refine wp_seq ?_
   refine reg (a := a6) (σ := s4) rfl (fun i_ => List.getD [(Ty.pr (Ty.nat (fct j))), (Ty.pr (Ty.nat (fct j)))] i_ Pr.any) ok5 rfl ⟨?_, ?_, trivial⟩ ?_
   · intro ax tx hs okx sm
     exact run_plain rfl (y_move (kp (sm 3 rfl) hs q10))
   · intro ax tx hs okx sm d0 d1
     have e0 : At (Ty.nat (fct j)) tx ax (.tmp 13) := d0 rfl
     exact run_plain rfl (y_assign e0)
   intro a9 s7 D7
   have ok8 := D7.ok
   have F8 := F5.step0 D7.stp
   have q20 : At (Ty.nat (fct j)) s7 a9 (.tmp 2) := D7.done 1
   clear D7
   refine tn ?_
   refine wp_ret ?_
   exact retL1 rfl ok8 F8 (cvi (by (rw [fct_all hj hj2 (by omega)])) q20)

theorem Try.inf3 : Info Try.prog 3 (.int .i64 0) 1 8 := by unfold Info; kernel_rfl
set_option maxHeartbeats 4000000 in
set_option maxRecDepth 100000 in
theorem firstO_fn (n : Nat) (σ : GW) (hlow : Low [] σ) (v0 : Value) (hv0 : Ty.has (Ty.nat n) σ v0)  (hn : n ≤ 1000000) :
    FnL Try.prog 99 #[v0] σ [] (fun v τ => ∃ (z : Value), (Ty.has (Ty.val z) τ v) ∧ (Own τ 42 3 1 z (List.length (roundsL n)) (List.map Ty.int (roundsL n)))) := by
 refine fn_introL hlow Try.func99 rfl Try.ntmps99 (Nat.le_of_ble_eq_true rfl) (fun a0 F0 ok0 hargs => ?_)
 have p0 : At (Ty.nat n) σ a0 (.tmp 0) := by have e := hargs 0 _ rfl; show Ty.has _ _ _; rw [e]; exact hv0
 clear hargs
 refine wp_seq ?_
 refine reg (a := a0) (σ := σ) rfl (fun i_ => List.getD [(Ty.pr (Ty.val (Value.slice none 0 0)))] i_ Pr.any) ok0 rfl ⟨?_, trivial⟩ ?_
 · intro ax tx hs okx sm
   exact run_plain rfl (y_assign rfl)
 intro a1 s1 D1
 have ok1 := D1.ok
 have F1 := F0.step0 D1.stp
 have q1 : At (Ty.nat n) s1 a1 (.tmp 0) := D1.kt p0 rfl
 clear D1
 refine tn ?_
 refine wp_seq ?_
 refine reg2 (a := a1) (σ := s1) rfl 2 (fun i_ => List.getD [(Ty.pr (Ty.nat n)), (Pr.own 42 3 1 n (List.map Ty.int (List.replicate n 0)))] i_ Pr.any) ok1 rfl (by decide) rfl ⟨?_, ?_, trivial⟩ ?_
 · intro ax tx hs okx sm
   exact run_plain rfl (y_move (kp (sm 0 rfl) hs q1))
 · intro ax tx hs okx sm d0 d1
   have e0 : At (Ty.nat n) tx ax (.tmp 5) := d0 rfl
   exact run_plain rfl ((y_make (k := 42) (T := Ty.int 0) (n := n) Try.underlying34 Try.inf3 rfl (fun _ => rfl) e0 e0 (by omega) (by omega)).mono (fun _ _ h => cvo (by simp) (by simp) h))
 intro a2 s2 D2
 have ok2 := D2.ok
 have F2 := F1.step0 D2.stp
 obtain ⟨x1, hx1⟩ : ∃ x, a2.eval (.tmp 6) = x := ⟨_, rfl⟩
 have q2 : At (Ty.val x1) s2 a2 (.tmp 6) := hx1
 have o1 : Own s2 42 3 1 x1 n (List.map Ty.int (List.replicate n 0)) := al2 (R := (Pr.own 42 3 1 n (List.map Ty.int (List.replicate n 0)))) hx1 (D2.done 1 (by decide))
 clear D2
 refine tailL (L := []) (R := (fun v τ => Pr.has (Ty.pr (Ty.val x1)) τ v)) rfl rfl (by decide) ok2 (Yld.toL (y_assign q2)) (fun a3 s3 hs1 ok3 r1 sm1 => ?_)
 have F3 := F2.stepL hs1 (by decide)
 have o2 := Own.keepL o1 hs1 (by decide) (by decide)
 have q3 : At (Ty.val x1) s3 a3 (.tmp 3) := r1
 clear r1
 refine wpList_nil ?_
 refine tn ?_
 refine wp_seq ?_
 refine wp_seq ?_
 refine reg (a := a3) (σ := s3) rfl (fun i_ => List.getD [(Ty.pr (Ty.val x1)), (Ty.pr (Ty.nat n)), (Ty.pr (Ty.int (0 : Int)))] i_ Pr.any) ok3 rfl ⟨?_, ?_, ?_, trivial⟩ ?_
 · intro ax tx hs okx sm
   exact run_plain rfl (y_move (kp (sm 3 rfl) hs q3))
 · intro ax tx hs okx sm d0
   have e0 : At (Ty.val x1) tx ax (.tmp 7) := d0 rfl
   exact run_plain rfl (own_len Try.underlying34 (al (R := (Pr.own 42 3 1 n (List.map Ty.int (List.replicate n 0)))) e0 (Own.k0 o2 hs)))
 · intro ax tx hs okx sm
   exact run_plain rfl (y_move rfl)
 intro a4 s4 D3
 have ok4 := D3.ok
 have F4 := F3.step0 D3.stp
 have q4 : At (Ty.val x1) s4 a4 (.tmp 3) := D3.kt q3 rfl
 have o3 := Own.k0 o2 D3.stp
 have q5 : At (Ty.nat n) s4 a4 (.tmp 8) := D3.done 1
 have q6 : At (Ty.int (0 : Int)) s4 a4 (.tmp 9) := D3.done 2
 clear D3
 refine tn ?_
 refine wp_block ?_
 refine loop (fun n1 a5 w1 => ∃ (t1 : GW) (k : Nat) (x3_0 : Value), t1.w = w1 ∧ FromL [] σ t1 ∧ Ok 18 a5 ∧ At (Ty.nat k) t1 a5 (.tmp 9) ∧ At (Ty.val x3_0) t1 a5 (.tmp 3) ∧ At (Ty.nat n) t1 a5 (.tmp 8) ∧ Own t1 42 3 1 x3_0 (List.length (firstTo n k)) (List.map Ty.int (firstTo n k)) ∧ (k ≤ n) ∧ n1 = n - k) (n - (0)) ?_ ?_
 ·
  exact ⟨s4, 0, x1, rfl, F4, ok4, (cvi (by (first | rfl | omega | (simp_all; done) | (simp_all; omega))) q6), q4, q5, (cvo (by (simp [firstTo_zero])) (by (simp [firstTo_zero])) o3), by omega, rfl⟩
 ·
  rintro n2 a6 w2 ⟨t2, k, x3_0, rfl, F5, ok5, q7, q8, q9, o4, hk, rfl⟩
  have hp := firstTo_len n k
  refine wp_seq ?_
  refine reg (a := a6) (σ := t2) rfl (fun i_ => List.getD [(Ty.pr (Ty.bool (decide (((k : Nat) : Int) < ((n : Nat) : Int)))))] i_ Pr.any) ok5 rfl ⟨?_, trivial⟩ ?_
  · intro ax tx hs okx sm
    exact run_plain rfl (y_lss (kp (sm 9 rfl) hs q7) (kp (sm 8 rfl) hs q9))
  intro a7 s5 D4
  have ok6 := D4.ok
  have F6 := F5.step0 D4.stp
  have q10 : At (Ty.nat k) s5 a7 (.tmp 9) := D4.kt q7 rfl
  have q11 : At (Ty.val x3_0) s5 a7 (.tmp 3) := D4.kt q8 rfl
  have q12 : At (Ty.nat n) s5 a7 (.tmp 8) := D4.kt q9 rfl
  have o5 := Own.k0 o4 D4.stp
  have q13 : At (Ty.bool (decide (((k : Nat) : Int) < ((n : Nat) : Int)))) s5 a7 (.tmp 10) := D4.done 0
  clear D4
  refine tn ?_
  refine wp_seq ?_
  refine cond_p (p := (((k : Nat) : Int) < ((n : Nat) : Int))) q13 (fun c1 => ?_) (fun c1 => ?_)
  ·
   refine wp_skip ?_
   refine tn ?_
   refine wp_seq ?_
   refine wp_block ?_
   refine wp_seq ?_
   refine reg (a := a7) (σ := s5) rfl (fun i_ => List.getD [(Ty.pr (Ty.nat k)), (Ty.pr (Ty.nat k))] i_ Pr.any) ok6 rfl ⟨?_, ?_, trivial⟩ ?_
   · intro ax tx hs okx sm
     exact run_plain rfl (y_move (kp (sm 9 rfl) hs q10))
   · intro ax tx hs okx sm d0 d1
     have e0 : At (Ty.nat k) tx ax (.tmp 11) := d0 rfl
     exact run_plain rfl (y_assign e0)
   intro a8 s6 D5
   have ok7 := D5.ok
   have F7 := F6.step0 D5.stp
   have q14 : At (Ty.nat k) s6 a8 (.tmp 9) := D5.kt q10 rfl
   have q15 : At (Ty.val x3_0) s6 a8 (.tmp 3) := D5.kt q11 rfl
   have q16 : At (Ty.nat n) s6 a8 (.tmp 8) := D5.kt q12 rfl
   have o6 := Own.k0 o5 D5.stp
   have q17 : At (Ty.nat k) s6 a8 (.tmp 4) := D5.done 1
   clear D5
   refine tn ?_
   refine reg2 (a := a8) (σ := s6) rfl 4 (fun i_ => List.getD [(Ty.pr (Ty.val x3_0)), (Ty.pr (Ty.nat k)), (Ty.pr (Ty.nat k)), (Ty.pr (Ty.val (cellPtr x3_0 k)))] i_ Pr.any) ok7 rfl (by decide) rfl ⟨?_, ?_, ?_, ?_, trivial⟩ ?_
   · intro ax tx hs okx sm
     exact run_plain rfl (y_move (kp (sm 3 rfl) hs q15))
   · intro ax tx hs okx sm
     exact run_plain rfl (y_move (kp (sm 4 rfl) hs q17))
   · intro ax tx hs okx sm
     exact run_plain rfl (y_move (kp (sm 4 rfl) hs q17))
   · intro ax tx hs okx sm d0 d1 d2 d3 d4
     have e0 : At (Ty.val x3_0) tx ax (.tmp 12) := d0 rfl
     have e1 : At (Ty.nat k) tx ax (.tmp 13) := d1 rfl
     have e2 : At (Ty.nat k) tx ax (.tmp 14) := d4 rfl
     exact run_plain rfl (own_index1 (i := ((k : Nat) : Int)) Try.underlying34 Try.inf3 (Own.k0 o6 hs) e0 e1 (by omega) (by omega))
   intro a9 s7 D6
   have ok8 := D6.ok
   have F8 := F7.step0 D6.stp
   have q18 : At (Ty.nat k) s7 a9 (.tmp 9) := D6.kt q14 rfl
   have q19 : At (Ty.val x3_0) s7 a9 (.tmp 3) := D6.kt q15 rfl
   have q20 : At (Ty.nat n) s7 a9 (.tmp 8) := D6.kt q16 rfl
   have o7 := Own.k0 o6 D6.stp
   have q21 : At (Ty.nat k) s7 a9 (.tmp 14) := D6.done 2 (by decide)
   have q22 : At (Ty.val (cellPtr x3_0 k)) s7 a9 (.tmp 15) := D6.done 3 (by decide)
   clear D6
   refine tailL0 (L := [42]) (R := (fun _ τ => Own τ 42 3 1 x3_0 (List.length (firstTo n k)) ((List.map Ty.int (firstTo n k)).set k (Ty.nat k)))) rfl rfl (YldM.toL (m_store Try.inf3 (by decide) o7 q22 (by simp only [List.length_map, List.length_set]; omega) q21 (one_val rfl))) (fun v1 s8 hs2 r2 => ?_)
   have F9 := F8.stepL hs2 (by decide)
   have q23 : At (Ty.nat k) s8 a9 (.tmp 9) := kpL hs2 (by decide) rfl q18
   have q24 : At (Ty.val x3_0) s8 a9 (.tmp 3) := kpL hs2 (by decide) rfl q19
   have q25 : At (Ty.nat n) s8 a9 (.tmp 8) := kpL hs2 (by decide) rfl q20
   have o8 : Own s8 42 3 1 x3_0 (List.length ((firstTo n k).set k ((k : Nat) : Int))) (List.map Ty.int ((firstTo n k).set k ((k : Nat) : Int))) := (cvo (by simp) (by simp) r2)
   clear r2
   refine wpList_nil ?_
   refine bn ?_
   refine tn ?_
   refine reg (a := a9) (σ := s8) rfl (fun i_ => List.getD [(Ty.pr (Ty.nat (k + 1))), (Ty.pr (Ty.nat (k + 1)))] i_ Pr.any) ok8 rfl ⟨?_, ?_, trivial⟩ ?_
   · intro ax tx hs okx sm
     exact run_plain rfl ((y_add (kp (sm 9 rfl) hs q23) rfl (w64 (by omega) (by omega))).mono (fun τ _ h => cvi (σ := τ) (by first | omega | exact (Int.natCast_mul _ _).symm) h))
   · intro ax tx hs okx sm d0
     have e0 : At (Ty.nat (k + 1)) tx ax (.tmp 16) := d0 rfl
     exact run_plain rfl (y_move e0)
   intro a10 s9 D7
   have ok9 := D7.ok
   have F10 := F9.step0 D7.stp
   have q27 : At (Ty.val x3_0) s9 a10 (.tmp 3) := D7.kt q24 rfl
   have q28 : At (Ty.nat n) s9 a10 (.tmp 8) := D7.kt q25 rfl
   have o9 := Own.k0 o8 D7.stp
   have q29 : At (Ty.nat (k + 1)) s9 a10 (.tmp 9) := D7.done 1
   clear D7
   exact tn ⟨n - ((k+1)), by omega, s9, (k+1), x3_0, rfl, F10, ok9, (cvi (by (first | rfl | omega | (simp_all; done) | (simp_all; omega))) q29), q27, q28, (cvo (by (rw [firstTo_step n k])) (by (rw [firstTo_step n k])) o9), by omega, rfl⟩
  ·
   refine wp_exit ?_
   refine tx ?_
   refine tx ?_
   refine bx ?_
   refine tn ?_
   refine wp_seq ?_
   refine reg (a := a7) (σ := s5) rfl (fun i_ => List.getD [(Ty.pr (Ty.val x3_0)), (Ty.pr (Ty.val x3_0))] i_ Pr.any) ok6 rfl ⟨?_, ?_, trivial⟩ ?_
   · intro ax tx hs okx sm
     exact run_plain rfl (y_move (kp (sm 3 rfl) hs q11))
   · intro ax tx hs okx sm d0 d1
     have e0 : At (Ty.val x3_0) tx ax (.tmp 17) := d0 rfl
     exact run_plain rfl (y_assign e0)
   intro a11 s10 D8
   have ok10 := D8.ok
   have F11 := F6.step0 D8.stp
   have o10 := Own.k0 o5 D8.stp
   have q30 : At (Ty.val x3_0) s10 a11 (.tmp 2) := D8.done 1
   clear D8
   refine tn ?_
   refine wp_ret ?_
   exact retL1 rfl ok10 F11 ⟨x3_0, q30, (cvo (by (obtain rfl : k = n := (by omega); rw [firstTo_all])) (by (obtain rfl : k = n := (by omega); rw [firstTo_all])) o10)⟩


set_option maxHeartbeats 4000000 in
set_option maxRecDepth 100000 in
theorem delete_fn (s : Value) (xs : List Int) (i : Nat) (σ : GW) (hlow : Low [40] σ) (v0 v1 v2 : Value) (hv0 : Ty.has (Ty.val s) σ v0) (hv1 : Ty.has (Ty.nat i) σ v1) (hv2 : Ty.has (Ty.nat (i + 1)) σ v2) (ho_s : Own σ 40 3 1 s (List.length xs) (List.map Ty.int xs)) (hi : i < xs.length) (hl : xs.length ≤ 1000000) :
    FnL Try.prog 100 #[v0, v1, v2] σ [40] (fun v τ => ∃ (z : Value), (Ty.has (Ty.val z) τ v) ∧ (Own τ 40 3 1 z (List.length (xs.eraseIdx i)) (List.map Ty.int (xs.eraseIdx i)))) := by
 refine fn_introL hlow Try.func100 rfl Try.ntmps100 (Nat.le_of_ble_eq_true rfl) (fun a0 F0 ok0 hargs => ?_)
 have p0 : At (Ty.val s) σ a0 (.tmp 0) := by have e := hargs 0 _ rfl; show Ty.has _ _ _; rw [e]; exact hv0
 have p1 : At (Ty.nat i) σ a0 (.tmp 1) := by have e := hargs 1 _ rfl; show Ty.has _ _ _; rw [e]; exact hv1
 have p2 : At (Ty.nat (i + 1)) σ a0 (.tmp 2) := by have e := hargs 2 _ rfl; show Ty.has _ _ _; rw [e]; exact hv2
 clear hargs
 refine wp_seq ?_
 refine reg (a := a0) (σ := σ) rfl (fun i_ => List.getD [(Ty.pr (Ty.val (Value.slice none 0 0)))] i_ Pr.any) ok0 rfl ⟨?_, trivial⟩ ?_
 · intro ax tx hs okx sm
   exact run_plain rfl (y_assign rfl)
 intro a1 s1 D1
 have ok1 := D1.ok
 have F1 := F0.step0 D1.stp
 have q1 : At (Ty.val s) s1 a1 (.tmp 0) := D1.kt p0 rfl
 have q2 : At (Ty.nat i) s1 a1 (.tmp 1) := D1.kt p1 rfl
 have q3 : At (Ty.nat (i + 1)) s1 a1 (.tmp 2) := D1.kt p2 rfl
 have o1 := Own.k0 ho_s D1.stp
 clear D1
 refine tn ?_
 refine wp_seq ?_
 refine reg (a := a1) (σ := s1) rfl (fun i_ => List.getD [(Ty.pr (Ty.val s)), (Ty.pr (Ty.nat i)), (Ty.pr (Ty.nat (i + 1))), (Ty.pr (Ty.val s)), (Ty.pr (Ty.nat (List.length xs))), Pr.any] i_ Pr.any) ok1 rfl ⟨?_, ?_, ?_, ?_, ?_, ?_, trivial⟩ ?_
 · intro ax tx hs okx sm
   exact run_plain rfl (y_move (kp (sm 0 rfl) hs q1))
 · intro ax tx hs okx sm
   exact run_plain rfl (y_move (kp (sm 1 rfl) hs q2))
 · intro ax tx hs okx sm
   exact run_plain rfl (y_move (kp (sm 2 rfl) hs q3))
 · intro ax tx hs okx sm
   exact run_plain rfl (y_move (kp (sm 0 rfl) hs q1))
 · intro ax tx hs okx sm d0
   have e3 : At (Ty.val s) tx ax (.tmp 11) := d0 rfl
   exact run_plain rfl (own_len Try.underlying34 (al (R := (Pr.own 40 3 1 (List.length xs) (List.map Ty.int xs))) e3 (Own.k0 o1 hs)))
 · intro ax tx hs okx sm d0 d1 d2 d3
   have e0 : At (Ty.val s) tx ax (.tmp 8) := d0 rfl
   have e1 : At (Ty.nat i) tx ax (.tmp 9) := d1 rfl
   have e2 : At (Ty.nat (i + 1)) tx ax (.tmp 10) := d2 rfl
   have e4 : At (Ty.nat (List.length xs)) tx ax (.tmp 12) := d3 rfl
   exact run_plain rfl (y_three (i := i) (j := (i + 1)) (m := (List.length xs)) Try.underlying34 Try.inf3 (Own.k0 o1 hs) e0 e1 e2 e4 (by omega) (by omega) (by omega))
 intro a2 s2 D2
 have ok2 := D2.ok
 have F2 := F1.step0 D2.stp
 have q4 : At (Ty.val s) s2 a2 (.tmp 0) := D2.kt q1 rfl
 have q5 : At (Ty.nat i) s2 a2 (.tmp 1) := D2.kt q2 rfl
 have q6 : At (Ty.nat (i + 1)) s2 a2 (.tmp 2) := D2.kt q3 rfl
 have o2 := Own.k0 o1 D2.stp
 clear D2
 refine tn ?_
 refine wp_seq ?_
 refine wp_seq ?_
 refine reg (a := a2) (σ := s2) rfl (fun i_ => List.getD [(Ty.pr (Ty.nat i)), (Ty.pr (Ty.nat (i + 1))), (Ty.pr (Ty.bool (decide (((i : Nat) : Int) = (((i + 1) : Nat) : Int)))))] i_ Pr.any) ok2 rfl ⟨?_, ?_, ?_, trivial⟩ ?_
 · intro ax tx hs okx sm
   exact run_plain rfl (y_move (kp (sm 1 rfl) hs q5))
 · intro ax tx hs okx sm
   exact run_plain rfl (y_move (kp (sm 2 rfl) hs q6))
 · intro ax tx hs okx sm d0 d1
   have e0 : At (Ty.nat i) tx ax (.tmp 14) := d0 rfl
   have e1 : At (Ty.nat (i + 1)) tx ax (.tmp 15) := d1 rfl
   exact run_plain rfl (y_eql e0 e1)
 intro a3 s3 D3
 have ok3 := D3.ok
 have F3 := F2.step0 D3.stp
 have q7 : At (Ty.val s) s3 a3 (.tmp 0) := D3.kt q4 rfl
 have q8 : At (Ty.nat i) s3 a3 (.tmp 1) := D3.kt q5 rfl
 have q9 : At (Ty.nat (i + 1)) s3 a3 (.tmp 2) := D3.kt q6 rfl
 have o3 := Own.k0 o2 D3.stp
 have q10 : At (Ty.bool (decide (((i : Nat) : Int) = (((i + 1) : Nat) : Int)))) s3 a3 (.tmp 16) := D3.done 2
 clear D3
 refine tn ?_
 refine cond_p (p := (((i : Nat) : Int) = (((i + 1) : Nat) : Int))) q10 (fun c1 => ?_) (fun c1 => ?_)
 ·
  exfalso
  omega
 ·
  refine wp_skip ?_
  refine tn ?_
  refine wp_seq ?_
  refine reg (a := a3) (σ := s3) rfl (fun i_ => List.getD [(Ty.pr (Ty.val s)), (Ty.pr (Ty.nat (List.length xs))), (Ty.pr (Ty.nat (List.length xs)))] i_ Pr.any) ok3 rfl ⟨?_, ?_, ?_, trivial⟩ ?_
  · intro ax tx hs okx sm
    exact run_plain rfl (y_move (kp (sm 0 rfl) hs q7))
  · intro ax tx hs okx sm d0
    have e0 : At (Ty.val s) tx ax (.tmp 18) := d0 rfl
    exact run_plain rfl (own_len Try.underlying34 (al (R := (Pr.own 40 3 1 (List.length xs) (List.map Ty.int xs))) e0 (Own.k0 o3 hs)))
  · intro ax tx hs okx sm d0 d1 d2
    have e1 : At (Ty.nat (List.length xs)) tx ax (.tmp 19) := d0 rfl
    have e0 : At (Ty.val s) tx ax (.tmp 18) := d1 rfl
    exact run_plain rfl (y_assign e1)
  intro a4 s4 D4
  have ok4 := D4.ok
  have F4 := F3.step0 D4.stp
  have q11 : At (Ty.val s) s4 a4 (.tmp 0) := D4.kt q7 rfl
  have q12 : At (Ty.nat i) s4 a4 (.tmp 1) := D4.kt q8 rfl
  have q13 : At (Ty.nat (i + 1)) s4 a4 (.tmp 2) := D4.kt q9 rfl
  have o4 := Own.k0 o3 D4.stp
  have q14 : At (Ty.nat (List.length xs)) s4 a4 (.tmp 7) := D4.done 2
  clear D4
  refine tn ?_
  refine wp_seq ?_
  refine reg2 (a := a4) (σ := s4) rfl 6 (fun i_ => List.getD [(Ty.pr (Ty.val s)), (Ty.pr (Ty.nat i)), (Ty.pr (Ty.val (preOf s i))), (Ty.pr (Ty.val s)), (Ty.pr (Ty.nat (i + 1))), (Ty.pr (Ty.val (sufOf s (i + 1))))] i_ Pr.any) ok4 rfl (by decide) rfl ⟨?_, ?_, ?_, ?_, ?_, ?_, trivial⟩ ?_
  · intro ax tx hs okx sm
    exact run_plain rfl (y_move (kp (sm 0 rfl) hs q11))
  · intro ax tx hs okx sm
    exact run_plain rfl (y_move (kp (sm 1 rfl) hs q12))
  · intro ax tx hs okx sm d0 d1
    have e0 : At (Ty.val s) tx ax (.tmp 20) := d0 rfl
    have e1 : At (Ty.nat i) tx ax (.tmp 21) := d1 rfl
    exact run_plain rfl (y_pre (i := i) Try.underlying34 Try.inf3 (Own.k0 o4 hs) e0 e1 (by omega))
  · intro ax tx hs okx sm
    exact run_plain rfl (y_move (kp (sm 0 rfl) hs q11))
  · intro ax tx hs okx sm
    exact run_plain rfl (y_move (kp (sm 2 rfl) hs q13))
  · intro ax tx hs okx sm d0 d1
    have e3 : At (Ty.val s) tx ax (.tmp 23) := d0 rfl
    have e4 : At (Ty.nat (i + 1)) tx ax (.tmp 24) := d1 rfl
    exact run_plain rfl (y_suf (j := (i + 1)) Try.underlying34 Try.inf3 (Own.k0 o4 hs) e3 e4 (by omega))
  intro a5 s5 D5
  have ok5 := D5.ok
  have F5 := F4.step0 D5.stp
  have q15 : At (Ty.val s) s5 a5 (.tmp 0) := D5.kt q11 rfl
  have q16 : At (Ty.nat (List.length xs)) s5 a5 (.tmp 7) := D5.kt q14 rfl
  have o5 := Own.k0 o4 D5.stp
  have q17 : At (Ty.val (preOf s i)) s5 a5 (.tmp 22) := D5.done 2 (by decide)
  have q18 : At (Ty.val (sufOf s (i + 1))) s5 a5 (.tmp 25) := D5.done 5 (by decide)
  clear D5
  refine tailL (L := [40]) (R := (fun r_ τ => capGe r_ (List.length xs) ∧ Own τ 40 3 1 r_ (i + ((List.length xs) - (i + 1))) ((List.map Ty.int xs).take i ++ (List.map Ty.int xs).drop (i + 1)))) rfl rfl (by decide) ok5 (YldM.toL (m_delapp (i := i) (j := (i + 1)) Try.underlying34 Try.inf3 (by decide) o5 q17 q18 (by omega) (by omega) (by omega) (one_map (fun _ => one_val rfl)))) (fun a6 s6 hs1 ok6 r1 sm1 => ?_)
  have F6 := F5.stepL hs1 (by decide)
  have q19 : At (Ty.val s) s6 a6 (.tmp 0) := kpL hs1 (by decide) (sm1 0 (by decide)) q15
  have q20 : At (Ty.nat (List.length xs)) s6 a6 (.tmp 7) := kpL hs1 (by decide) (sm1 7 (by decide)) q16
  obtain ⟨x1, hx1⟩ : ∃ x, a6.eval (.tmp 26) = x := ⟨_, rfl⟩
  have q21 : At (Ty.val x1) s6 a6 (.tmp 26) := hx1
  have hcap_x1 : capGe x1 (List.length xs) := hx1 ▸ (r1).1
  have o6 : Own s6 40 3 1 x1 (List.length (xs.eraseIdx i)) (List.map Ty.int (xs.eraseIdx i)) := al2 (R := (Pr.own 40 3 1 (List.length (xs.eraseIdx i)) (List.map Ty.int (xs.eraseIdx i)))) hx1 (cvo (by rw [List.length_eraseIdx, if_pos (by omega)]; omega) (del_list _ _ _) (r1).2)
  clear r1
  refine tailL (L := []) (R := (fun v τ => Pr.has (Ty.pr (Ty.val x1)) τ v)) rfl rfl (by decide) ok6 (Yld.toL (y_assign q21)) (fun a7 s7 hs2 ok7 r2 sm2 => ?_)
  have F7 := F6.stepL hs2 (by decide)
  have q22 : At (Ty.nat (List.length xs)) s7 a7 (.tmp 7) := kpL hs2 (by decide) (sm2 7 (by decide)) q20
  have o7 := Own.keepL o6 hs2 (by decide) (by decide)
  have q23 : At (Ty.val x1) s7 a7 (.tmp 0) := r2
  clear r2
  refine wpList_nil ?_
  have hel : (xs.eraseIdx i).length + 1 = xs.length := by rw [List.length_eraseIdx, if_pos (by omega)]; omega
  refine tn ?_
  refine wp_seq ?_
  refine reg2 (a := a7) (σ := s7) rfl 5 (fun i_ => List.getD [(Ty.pr (Ty.val x1)), (Ty.pr (Ty.val x1)), (Ty.pr (Ty.nat (List.length (xs.eraseIdx i)))), (Ty.pr (Ty.nat (List.length xs))), (Ty.pr (Ty.val (tailOf x1 (List.length (xs.eraseIdx i)) (List.length xs))))] i_ Pr.any) ok7 rfl (by decide) rfl ⟨?_, ?_, ?_, ?_, ?_, trivial⟩ ?_
  · intro ax tx hs okx sm
    exact run_plain rfl (y_move (kp (sm 0 rfl) hs q23))
  · intro ax tx hs okx sm
    exact run_plain rfl (y_move (kp (sm 0 rfl) hs q23))
  · intro ax tx hs okx sm d0
    have e1 : At (Ty.val x1) tx ax (.tmp 28) := d0 rfl
    exact run_plain rfl (own_len Try.underlying34 (al (R := (Pr.own 40 3 1 (List.length (xs.eraseIdx i)) (List.map Ty.int (xs.eraseIdx i)))) e1 (Own.k0 o7 hs)))
  · intro ax tx hs okx sm
    exact run_plain rfl (y_move (kp (sm 7 rfl) hs q22))
  · intro ax tx hs okx sm d0 d1 d2
    have e0 : At (Ty.val x1) tx ax (.tmp 27) := d0 rfl
    have e2 : At (Ty.nat (List.length (xs.eraseIdx i))) tx ax (.tmp 29) := d1 rfl
    have e3 : At (Ty.nat (List.length xs)) tx ax (.tmp 30) := d2 rfl
    exact run_plain rfl (y_tail (m := (List.length (xs.eraseIdx i))) (h := (List.length xs)) Try.underlying34 Try.inf3 (Own.k0 o7 hs) e0 e2 e3 (by omega) (by assumption))
  intro a8 s8 D6
  have ok8 := D6.ok
  have F8 := F7.step0 D6.stp
  have q24 : At (Ty.val x1) s8 a8 (.tmp 0) := D6.kt q23 rfl
  have o8 := Own.k0 o7 D6.stp
  have q25 : At (Ty.val (tailOf x1 (List.length (xs.eraseIdx i)) (List.length xs))) s8 a8 (.tmp 31) := D6.done 4 (by decide)
  clear D6
  refine tailL0 (L := [40]) (R := (fun _ τ => Own τ 40 3 1 x1 (List.length (xs.eraseIdx i)) (List.map Ty.int (xs.eraseIdx i)))) rfl rfl (YldM.toL (m_clr Try.underlying34 Try.inf3 rfl rfl (by decide) o8 q25 (by omega) (by assumption))) (fun v1 s9 hs3 r3 => ?_)
  have F9 := F8.stepL hs3 (by decide)
  have q26 : At (Ty.val x1) s9 a8 (.tmp 0) := kpL hs3 (by decide) rfl q24
  have o9 : Own s9 40 3 1 x1 (List.length (xs.eraseIdx i)) (List.map Ty.int (xs.eraseIdx i)) := r3
  clear r3
  refine wpList_nil ?_
  refine tn ?_
  refine wp_seq ?_
  refine reg (a := a8) (σ := s9) rfl (fun i_ => List.getD [(Ty.pr (Ty.val x1)), (Ty.pr (Ty.val x1))] i_ Pr.any) ok8 rfl ⟨?_, ?_, trivial⟩ ?_
  · intro ax tx hs okx sm
    exact run_plain rfl (y_move (kp (sm 0 rfl) hs q26))
  · intro ax tx hs okx sm d0 d1
    have e0 : At (Ty.val x1) tx ax (.tmp 32) := d0 rfl
    exact run_plain rfl (y_assign e0)
  intro a9 s10 D7
  have ok9 := D7.ok
  have F10 := F9.step0 D7.stp
  have o10 := Own.k0 o9 D7.stp
  have q28 : At (Ty.val x1) s10 a9 (.tmp 6) := D7.done 1
  clear D7
  refine tn ?_
  refine wp_ret ?_
  exact retL1 rfl ok9 F10 ⟨x1, q28, o10⟩


set_option maxHeartbeats 4000000 in
set_option maxRecDepth 100000 in
theorem rowAt_fn (n : Int) (k : Int) (σ : GW)  (v0 v1 : Value) (hv0 : Ty.has (Ty.int n) σ v0) (hv1 : Ty.has (Ty.int k) σ v1)  (hk64 : -9223372036854775808 ≤ k ∧ k ≤ 9223372036854775807) (hn64 : -9223372036854775808 ≤ n ∧ n ≤ 9223372036854775807) :
    FnC Try.prog 53 #[v0, v1] σ (Ty.tup2 (Ty.lst Ty.int (if atMay n k = 0 then atL (n).toNat (k).toNat else [])) (Ty.int (atMay n k))) := by
 refine fn_intro0 Try.func53 rfl Try.ntmps53 (Nat.le_of_ble_eq_true rfl) (fun s0 a0 hle F0 ok0 hargs => ?_)
 have p0 : At (Ty.int n) s0 a0 (.tmp 0) := by have e := hargs 0 _ rfl; show Ty.has _ _ _; rw [e]; exact Ty.up _ hle hv0
 have p1 : At (Ty.int k) s0 a0 (.tmp 1) := by have e := hargs 1 _ rfl; show Ty.has _ _ _; rw [e]; exact Ty.up _ hle hv1
 clear hargs
 refine wp_seq ?_
 refine reg (a := a0) (σ := s0) rfl (fun i_ => List.getD [(Ty.pr (Ty.val (Value.slice none 0 0))), (Ty.pr (Ty.int (0 : Int)))] i_ Pr.any) ok0 rfl ⟨?_, ?_, trivial⟩ ?_
 · intro ax tx hs okx sm
   exact run_plain rfl (y_assign rfl)
 · intro ax tx hs okx sm d0
   have e0 : At (Ty.val (Value.slice none 0 0)) tx ax (.tmp 4) := d0 rfl
   exact run_plain rfl (y_assign rfl)
 intro a1 s1 D1
 have ok1 := D1.ok
 have F1 := F0.step0 D1.stp
 have q1 : At (Ty.int n) s1 a1 (.tmp 0) := D1.kt p0 rfl
 have q2 : At (Ty.int k) s1 a1 (.tmp 1) := D1.kt p1 rfl
 clear D1
 refine tn ?_
 refine wp_seq ?_
 refine wp_seq ?_
 refine reg (a := a1) (σ := s1) rfl (fun i_ => List.getD [(Ty.pr (Ty.int n)), (Ty.pr (Ty.bool (decide (n < (1 : Int))))), (Ty.pr (Ty.bool (decide (n < (1 : Int))))), (Ty.pr (Ty.grd ((decide (n < (1 : Int))) = false) (Ty.int n))), (Ty.pr (Ty.grd ((decide (n < (1 : Int))) = false) (Ty.bool (decide ((12 : Int) < n))))), (Ty.pr (Ty.bool ((decide (n < (1 : Int))) || (decide ((12 : Int) < n)))))] i_ Pr.any) ok1 rfl ⟨?_, ?_, ?_, ?_, ?_, ?_, trivial⟩ ?_
 · intro ax tx hs okx sm
   exact run_plain rfl (y_move (kp (sm 0 rfl) hs q1))
 · intro ax tx hs okx sm d0
   have e0 : At (Ty.int n) tx ax (.tmp 10) := d0 rfl
   exact run_plain rfl (y_lss e0 rfl)
 · intro ax tx hs okx sm d0
   have e1 : At (Ty.bool (decide (n < (1 : Int)))) tx ax (.tmp 11) := d0 rfl
   exact run_plain rfl (y_move e1)
 · intro ax tx hs okx sm d0
   have e2 : At (Ty.bool (decide (n < (1 : Int)))) tx ax (.tmp 12) := d0 rfl
   refine run_guard (T := (Ty.int n)) okx rfl rfl (by decide) e2 (fun hg => ?_)
   have hp := of_decide_eq_false hg
   exact y_move (kp (sm 0 rfl) hs q1)
 · intro ax tx hs okx sm d0 d1
   have e3 : At (Ty.grd ((decide (n < (1 : Int))) = false) (Ty.int n)) tx ax (.tmp 13) := d0 rfl
   have e2 : At (Ty.bool (decide (n < (1 : Int)))) tx ax (.tmp 12) := d1 rfl
   refine run_guard (T := (Ty.bool (decide ((12 : Int) < n)))) okx rfl rfl (by decide) e2 (fun hg => ?_)
   have hp := of_decide_eq_false hg
   exact y_gtr (e3.1 hg) rfl
 · intro ax tx hs okx sm d0 d1
   have e2 : At (Ty.bool (decide (n < (1 : Int)))) tx ax (.tmp 12) := d0 rfl
   have e4 : At (Ty.grd ((decide (n < (1 : Int))) = false) (Ty.bool (decide ((12 : Int) < n)))) tx ax (.tmp 14) := d1 rfl
   exact run_plain rfl (y_pick_or e2 rfl e4)
 intro a2 s2 D2
 have ok2 := D2.ok
 have F2 := F1.step0 D2.stp
 have q3 : At (Ty.int n) s2 a2 (.tmp 0) := D2.kt q1 rfl
 have q4 : At (Ty.int k) s2 a2 (.tmp 1) := D2.kt q2 rfl
 have q5 : At (Ty.bool ((decide (n < (1 : Int))) || (decide ((12 : Int) < n)))) s2 a2 (.tmp 15) := D2.done 5
 clear D2
 refine tn ?_
 refine cond_t q5 (fun c1 => ?_) (fun c1 => ?_)
 ·
  simp only [Bool.or_eq_true, decide_eq_true_eq] at c1
  refine wp_seq ?_
  refine reg (a := a2) (σ := s2) rfl (fun i_ => List.getD [(Ty.pr (Ty.val (Value.slice none 0 0))), (Ty.pr (Ty.int (1 : Int)))] i_ Pr.any) ok2 rfl ⟨?_, ?_, trivial⟩ ?_
  · intro ax tx hs okx sm
    exact run_plain rfl (y_assign rfl)
  · intro ax tx hs okx sm d0 d1
    have e0 : At (Ty.val (Value.slice none 0 0)) tx ax (.tmp 4) := d0 rfl
    exact run_plain rfl (y_assign rfl)
  intro a3 s3 D3
  have ok3 := D3.ok
  have F3 := F2.step0 D3.stp
  have q6 : At (Ty.val (Value.slice none 0 0)) s3 a3 (.tmp 4) := D3.done 0
  have q7 : At (Ty.int (1 : Int)) s3 a3 (.tmp 5) := D3.done 1
  clear D3
  refine tn ?_
  refine wp_ret ?_
  refine tr ?_
  exact retL2 rfl ok3 F3 (hasT2 (nil_lst (by (rw [if_neg (by rw [atMay_cnt (by omega)]; decide)])) q6) (cvi (by (exact (atMay_cnt (by omega)).symm)) q7))
 ·
  obtain ⟨d1, d2⟩ := Bool.or_eq_false_iff.mp c1
  replace d1 := of_decide_eq_false d1
  replace d2 := of_decide_eq_false d2
  have hc1 : ¬ (n < 1 ∨ 12 < n) := by omega
  refine wp_skip ?_
  refine tn ?_
  refine wp_seq ?_
  refine wp_seq ?_
  refine reg (a := a2) (σ := s2) rfl (fun i_ => List.getD [(Ty.pr (Ty.int k)), (Ty.pr (Ty.bool (decide (k < (0 : Int))))), (Ty.pr (Ty.bool (decide (k < (0 : Int))))), (Ty.pr (Ty.grd ((decide (k < (0 : Int))) = false) (Ty.int k))), (Ty.pr (Ty.grd ((decide (k < (0 : Int))) = false) (Ty.int n))), (Ty.pr (Ty.grd ((decide (k < (0 : Int))) = false) (Ty.nat (fct ((n).toNat))))), (Ty.pr (Ty.grd ((decide (k < (0 : Int))) = false) (Ty.bool (decide ((((fct ((n).toNat)) : Nat) : Int) ≤ k))))), (Ty.pr (Ty.bool ((decide (k < (0 : Int))) || (decide ((((fct ((n).toNat)) : Nat) : Int) ≤ k)))))] i_ Pr.any) ok2 rfl ⟨?_, ?_, ?_, ?_, ?_, ?_, ?_, ?_, trivial⟩ ?_
  · intro ax tx hs okx sm
    exact run_plain rfl (y_move (kp (sm 1 rfl) hs q4))
  · intro ax tx hs okx sm d0
    have e0 : At (Ty.int k) tx ax (.tmp 16) := d0 rfl
    exact run_plain rfl (y_lss e0 rfl)
  · intro ax tx hs okx sm d0
    have e1 : At (Ty.bool (decide (k < (0 : Int)))) tx ax (.tmp 17) := d0 rfl
    exact run_plain rfl (y_move e1)
  · intro ax tx hs okx sm d0
    have e2 : At (Ty.bool (decide (k < (0 : Int)))) tx ax (.tmp 18) := d0 rfl
    refine run_guard (T := (Ty.int k)) okx rfl rfl (by decide) e2 (fun hg => ?_)
    have hp := of_decide_eq_false hg
    exact y_move (kp (sm 1 rfl) hs q4)
  · intro ax tx hs okx sm d0
    have e2 : At (Ty.bool (decide (k < (0 : Int)))) tx ax (.tmp 18) := d0 rfl
    refine run_guard (T := (Ty.int n)) okx rfl rfl (by decide) e2 (fun hg => ?_)
    have hp := of_decide_eq_false hg
    exact y_move (kp (sm 0 rfl) hs q3)
  · intro ax tx hs okx sm d0 d1 d2
    have e4 : At (Ty.grd ((decide (k < (0 : Int))) = false) (Ty.int n)) tx ax (.tmp 20) := d0 rfl
    have e2 : At (Ty.bool (decide (k < (0 : Int)))) tx ax (.tmp 18) := d1 rfl
    refine run_guard (T := (Ty.nat (fct ((n).toNat)))) okx rfl rfl (by decide) e2 (fun hg => ?_)
    have hp := of_decide_eq_false hg
    have hf12 := fct_le12 (n := (n).toNat) (by omega)
    exact y_call #[ax.eval (.tmp 20)] Try.func84 rfl rfl (by simp only [List.map_toArray, List.map_cons, List.map_nil]) (rowAll_fn ((n).toNat) _ _ (cvi (σ := tx) (by omega) (e4.1 hg)) (by omega))
  · intro ax tx hs okx sm d0 d1 d2
    have e3 : At (Ty.grd ((decide (k < (0 : Int))) = false) (Ty.int k)) tx ax (.tmp 19) := d0 rfl
    have e5 : At (Ty.grd ((decide (k < (0 : Int))) = false) (Ty.nat (fct ((n).toNat)))) tx ax (.tmp 21) := d1 rfl
    have e2 : At (Ty.bool (decide (k < (0 : Int)))) tx ax (.tmp 18) := d2 rfl
    refine run_guard (T := (Ty.bool (decide ((((fct ((n).toNat)) : Nat) : Int) ≤ k)))) okx rfl rfl (by decide) e2 (fun hg => ?_)
    have hp := of_decide_eq_false hg
    exact y_geq (e3.1 hg) (e5.1 hg)
  · intro ax tx hs okx sm d0 d1
    have e2 : At (Ty.bool (decide (k < (0 : Int)))) tx ax (.tmp 18) := d0 rfl
    have e6 : At (Ty.grd ((decide (k < (0 : Int))) = false) (Ty.bool (decide ((((fct ((n).toNat)) : Nat) : Int) ≤ k)))) tx ax (.tmp 22) := d1 rfl
    exact run_plain rfl (y_pick_or e2 rfl e6)
  intro a4 s4 D4
  have ok4 := D4.ok
  have F4 := F2.step0 D4.stp
  have q8 : At (Ty.int n) s4 a4 (.tmp 0) := D4.kt q3 rfl
  have q9 : At (Ty.int k) s4 a4 (.tmp 1) := D4.kt q4 rfl
  have q10 : At (Ty.bool ((decide (k < (0 : Int))) || (decide ((((fct ((n).toNat)) : Nat) : Int) ≤ k)))) s4 a4 (.tmp 23) := D4.done 7
  clear D4
  refine tn ?_
  refine cond_t q10 (fun c2 => ?_) (fun c2 => ?_)
  ·
   simp only [Bool.or_eq_true, decide_eq_true_eq] at c2
   refine wp_seq ?_
   refine reg (a := a4) (σ := s4) rfl (fun i_ => List.getD [(Ty.pr (Ty.val (Value.slice none 0 0))), (Ty.pr (Ty.int (12 : Int)))] i_ Pr.any) ok4 rfl ⟨?_, ?_, trivial⟩ ?_
   · intro ax tx hs okx sm
     exact run_plain rfl (y_assign rfl)
   · intro ax tx hs okx sm d0 d1
     have e0 : At (Ty.val (Value.slice none 0 0)) tx ax (.tmp 4) := d0 rfl
     exact run_plain rfl (y_assign rfl)
   intro a5 s5 D5
   have ok5 := D5.ok
   have F5 := F4.step0 D5.stp
   have q11 : At (Ty.val (Value.slice none 0 0)) s5 a5 (.tmp 4) := D5.done 0
   have q12 : At (Ty.int (12 : Int)) s5 a5 (.tmp 5) := D5.done 1
   clear D5
   refine tn ?_
   refine wp_ret ?_
   refine tr ?_
   exact retL2 rfl ok5 F5 (hasT2 (nil_lst (by (rw [if_neg (by rw [atMay_val hc1 (by omega)]; decide)])) q11) (cvi (by (exact (atMay_val hc1 (by omega)).symm)) q12))
  ·
   obtain ⟨d3, d4⟩ := Bool.or_eq_false_iff.mp c2
   replace d3 := of_decide_eq_false d3
   replace d4 := of_decide_eq_false d4
   have hc2 : ¬ (k < 0 ∨ ((fct (n).toNat : Nat) : Int) ≤ k) := (by omega); have hm0 := atMay_ok hc1 hc2
   refine wp_skip ?_
   refine tn ?_
   refine wp_seq ?_
   refine reg2 (a := a4) (σ := s4) rfl 1 (fun i_ => List.getD [(Ty.pr (Ty.int n))] i_ Pr.any) ok4 rfl (by decide) rfl ⟨?_, trivial⟩ ?_
   · intro ax tx hs okx sm
     exact run_plain rfl (y_move (kp (sm 0 rfl) hs q8))
   intro a6 s6 D6
   have ok6 := D6.ok
   have F6 := F4.step0 D6.stp
   have q13 : At (Ty.int n) s6 a6 (.tmp 0) := D6.kt q8 rfl
   have q14 : At (Ty.int k) s6 a6 (.tmp 1) := D6.kt q9 rfl
   have q15 : At (Ty.int n) s6 a6 (.tmp 24) := D6.done 0 (by decide)
   clear D6
   refine tailL (L := []) (R := (fun v τ' => ∃ τ, (fun v τ => ∃ (z : Value), (Ty.has (Ty.val z) τ v) ∧ (Own τ 42 3 1 z (List.length (roundsL ((n).toNat))) (List.map Ty.int (roundsL ((n).toNat))))) v τ ∧ Back [(42, 5)] τ τ')) rfl rfl (by decide) ok6 (y_callL (L := []) [] [(42, 5)] #[a6.eval (.tmp 24)] rfl (by decide) Try.func99 rfl rfl (by simp only [List.map_toArray, List.map_cons, List.map_nil]) (firstO_fn ((n).toNat) _ (GW.low_lend _ (by decide)) _ (Ty.up _ (GW.le_lend _ _) (cvi (σ := s6) (by omega) q15))  (by omega))) (fun a7 s7 hs1 ok7 r1 sm1 => ?_)
   have F7 := F6.stepL hs1 (by decide)
   have q16 : At (Ty.int n) s7 a7 (.tmp 0) := kpL hs1 (by decide) (sm1 0 (by decide)) q13
   have q17 : At (Ty.int k) s7 a7 (.tmp 1) := kpL hs1 (by decide) (sm1 1 (by decide)) q14
   obtain ⟨t1, ⟨x1, hT1, o1⟩, B1⟩ := r1
   have q18 : At (Ty.val x1) s7 a7 (.tmp 25) := Ty.up _ B1.le hT1
   have o2 : Own s7 5 3 1 x1 (List.length (roundsL ((n).toNat))) (List.map Ty.int (roundsL ((n).toNat))) := Own.ren o1 (B1.ren (by decide) rfl)
   refine tailL (L := []) (R := (fun v τ => Pr.has (Pr.own 6 3 1 0 (List.map Ty.int ([] : List Int))) τ v)) rfl rfl (by decide) ok7 (Yld.toL ((y_lit0 (k := 6) Try.underlying34 Try.inf3).mono (fun _ _ h => cvo (by simp) (by simp) h))) (fun a8 s8 hs2 ok8 r2 sm2 => ?_)
   have F8 := F7.stepL hs2 (by decide)
   have q19 : At (Ty.int n) s8 a8 (.tmp 0) := kpL hs2 (by decide) (sm2 0 (by decide)) q16
   have q20 : At (Ty.int k) s8 a8 (.tmp 1) := kpL hs2 (by decide) (sm2 1 (by decide)) q17
   have q21 : At (Ty.val x1) s8 a8 (.tmp 25) := kpL hs2 (by decide) (sm2 25 (by decide)) q18
   have o4 := Own.keepL o2 hs2 (by decide) (by decide)
   obtain ⟨x2, hx1⟩ : ∃ x, a8.eval (.tmp 26) = x := ⟨_, rfl⟩
   have q22 : At (Ty.val x2) s8 a8 (.tmp 26) := hx1
   have o3 : Own s8 6 3 1 x2 0 (List.map Ty.int ([] : List Int)) := al2 (R := (Pr.own 6 3 1 0 (List.map Ty.int ([] : List Int)))) hx1 r2
   clear r2
   refine tailL (L := []) (R := (fun v τ => Pr.has (Ty.pr (Ty.val x1)) τ v)) rfl rfl (by decide) ok8 (Yld.toL (y_assign q21)) (fun a9 s9 hs3 ok9 r3 sm3 => ?_)
   have F9 := F8.stepL hs3 (by decide)
   have q23 : At (Ty.int n) s9 a9 (.tmp 0) := kpL hs3 (by decide) (sm3 0 (by decide)) q19
   have q24 : At (Ty.int k) s9 a9 (.tmp 1) := kpL hs3 (by decide) (sm3 1 (by decide)) q20
   have q25 : At (Ty.val x2) s9 a9 (.tmp 26) := kpL hs3 (by decide) (sm3 26 (by decide)) q22
   have o5 := Own.keepL o4 hs3 (by decide) (by decide)
   have o6 := Own.keepL o3 hs3 (by decide) (by decide)
   have q26 : At (Ty.val x1) s9 a9 (.tmp 6) := r3
   clear r3
   refine tailL (L := []) (R := (fun v τ => Pr.has (Ty.pr (Ty.val x2)) τ v)) rfl rfl (by decide) ok9 (Yld.toL (y_assign q25)) (fun a10 s10 hs4 ok10 r4 sm4 => ?_)
   have F10 := F9.stepL hs4 (by decide)
   have q27 : At (Ty.int n) s10 a10 (.tmp 0) := kpL hs4 (by decide) (sm4 0 (by decide)) q23
   have q28 : At (Ty.int k) s10 a10 (.tmp 1) := kpL hs4 (by decide) (sm4 1 (by decide)) q24
   have q29 : At (Ty.val x1) s10 a10 (.tmp 6) := kpL hs4 (by decide) (sm4 6 (by decide)) q26
   have o7 := Own.keepL o5 hs4 (by decide) (by decide)
   have o8 := Own.keepL o6 hs4 (by decide) (by decide)
   have q30 : At (Ty.val x2) s10 a10 (.tmp 7) := r4
   clear r4
   refine wpList_nil ?_
   refine tn ?_
   refine wp_seq ?_
   refine wp_seq ?_
   refine reg (a := a10) (σ := s10) rfl (fun i_ => List.getD [(Ty.pr (Ty.int n)), (Ty.pr (Ty.int (n - (1 : Int)))), (Ty.pr (Ty.int (n - (1 : Int))))] i_ Pr.any) ok10 rfl ⟨?_, ?_, ?_, trivial⟩ ?_
   · intro ax tx hs okx sm
     exact run_plain rfl (y_move (kp (sm 0 rfl) hs q27))
   · intro ax tx hs okx sm d0
     have e0 : At (Ty.int n) tx ax (.tmp 27) := d0 rfl
     exact run_plain rfl (y_sub e0 rfl (w64 (by omega) (by omega)))
   · intro ax tx hs okx sm d0 d1 d2
     have e1 : At (Ty.int (n - (1 : Int))) tx ax (.tmp 28) := d0 rfl
     have e0 : At (Ty.int n) tx ax (.tmp 27) := d1 rfl
     exact run_plain rfl (y_assign e1)
   intro a11 s11 D7
   have ok11 := D7.ok
   have F11 := F10.step0 D7.stp
   have q31 : At (Ty.int k) s11 a11 (.tmp 1) := D7.kt q28 rfl
   have q32 : At (Ty.val x1) s11 a11 (.tmp 6) := D7.kt q29 rfl
   have q33 : At (Ty.val x2) s11 a11 (.tmp 7) := D7.kt q30 rfl
   have o9 := Own.k0 o7 D7.stp
   have o10 := Own.k0 o8 D7.stp
   have q34 : At (Ty.int (n - (1 : Int))) s11 a11 (.tmp 8) := D7.done 2
   clear D7
   refine tn ?_
   refine wp_block ?_
   refine loop (fun n1 a12 w1 => ∃ (t2 : GW) (m : Nat) (lf : List Int) (os : List Int) (q : Nat) (x6_0 x7_0 : Value), t2.w = w1 ∧ FromL [] s0 t2 ∧ Ok 57 a12 ∧ At (Ty.val x6_0) t2 a12 (.tmp 6) ∧ At (Ty.val x7_0) t2 a12 (.tmp 7) ∧ At (Ty.int (((m : Nat) : Int) - (1 : Int))) t2 a12 (.tmp 8) ∧ At (Ty.nat q) t2 a12 (.tmp 1) ∧ Own t2 5 3 1 x6_0 (List.length lf) (List.map Ty.int lf) ∧ Own t2 6 3 1 x7_0 (List.length os) (List.map Ty.int os) ∧ (os ++ atF m lf q = atL (n).toNat (k).toNat) ∧ (q < fct m) ∧ (lf.length = m) ∧ (os.length + m = (n).toNat) ∧ n1 = m + 1) (((n).toNat) + 1) ?_ ?_
   ·
    exact ⟨s11, (n).toNat, (roundsL (n).toNat), ([] : List Int), (k).toNat, x1, x2, rfl, F11, ok11, q32, q33, (cvi (by (first | rfl | omega | (simp_all; done) | (simp_all; omega))) q34), (cvi (by (first | rfl | omega | (simp_all; done) | (simp_all; omega))) q31), (cvo (by (simp)) (by (simp)) o9), (cvo (by (simp)) (by (simp)) o10), rfl, by omega, roundsL_len _, by simp, rfl⟩
   ·
    rintro n2 a13 w2 ⟨t3, m, lf, os, q, x6_0, x7_0, rfl, F12, ok12, q35, q36, q37, q38, o11, o12, hos, hq, hlf, hol, rfl⟩
    have hf12 := fct_le12 (n := m) (by omega)
    have hfp := fct_pos (m - 1)
    refine wp_seq ?_
    refine wp_seq ?_
    refine reg (a := a13) (σ := t3) rfl (fun i_ => List.getD [(Ty.pr (Ty.int (((m : Nat) : Int) - (1 : Int)))), (Ty.pr (Ty.bool (decide ((0 : Int) ≤ (((m : Nat) : Int) - (1 : Int))))))] i_ Pr.any) ok12 rfl ⟨?_, ?_, trivial⟩ ?_
    · intro ax tx hs okx sm
      exact run_plain rfl (y_move (kp (sm 8 rfl) hs q37))
    · intro ax tx hs okx sm d0
      have e0 : At (Ty.int (((m : Nat) : Int) - (1 : Int))) tx ax (.tmp 29) := d0 rfl
      exact run_plain rfl (y_geq e0 rfl)
    intro a14 s12 D8
    have ok13 := D8.ok
    have F13 := F12.step0 D8.stp
    have q39 : At (Ty.val x6_0) s12 a14 (.tmp 6) := D8.kt q35 rfl
    have q40 : At (Ty.val x7_0) s12 a14 (.tmp 7) := D8.kt q36 rfl
    have q41 : At (Ty.int (((m : Nat) : Int) - (1 : Int))) s12 a14 (.tmp 8) := D8.kt q37 rfl
    have q42 : At (Ty.nat q) s12 a14 (.tmp 1) := D8.kt q38 rfl
    have o13 := Own.k0 o11 D8.stp
    have o14 := Own.k0 o12 D8.stp
    have q43 : At (Ty.bool (decide ((0 : Int) ≤ (((m : Nat) : Int) - (1 : Int))))) s12 a14 (.tmp 30) := D8.done 1
    clear D8
    refine tn ?_
    refine cond_p (p := ((0 : Int) ≤ (((m : Nat) : Int) - (1 : Int)))) q43 (fun c3 => ?_) (fun c3 => ?_)
    ·
     have hdv := at_div (m := m) (q := q) (by omega) hq; have hdn : (0 : Int) ≤ ((q / fct (m - 1) : Nat) : Int) := Int.natCast_nonneg _; have hmn : (0 : Int) ≤ ((q % fct (m - 1) : Nat) : Int) := Int.natCast_nonneg _
     refine wp_skip ?_
     refine tn ?_
     refine wp_seq ?_
     refine wp_block ?_
     refine wp_seq ?_
     refine reg (a := a14) (σ := s12) rfl (fun i_ => List.getD [(Ty.pr (Ty.int (((m : Nat) : Int) - (1 : Int)))), (Ty.pr (Ty.nat (fct (((((m : Nat) : Int) - (1 : Int))).toNat)))), (Ty.pr (Ty.nat (fct (((((m : Nat) : Int) - (1 : Int))).toNat))))] i_ Pr.any) ok13 rfl ⟨?_, ?_, ?_, trivial⟩ ?_
     · intro ax tx hs okx sm
       exact run_plain rfl (y_move (kp (sm 8 rfl) hs q41))
     · intro ax tx hs okx sm d0
       have e0 : At (Ty.int (((m : Nat) : Int) - (1 : Int))) tx ax (.tmp 33) := d0 rfl
       exact run_plain rfl (y_call #[ax.eval (.tmp 33)] Try.func84 rfl rfl (by simp only [List.map_toArray, List.map_cons, List.map_nil]) (rowAll_fn (((((m : Nat) : Int) - (1 : Int))).toNat) _ _ (cvi (σ := tx) (by omega) e0) (by omega)))
     · intro ax tx hs okx sm d0 d1 d2 d3
       have e1 : At (Ty.nat (fct (((((m : Nat) : Int) - (1 : Int))).toNat))) tx ax (.tmp 34) := d0 rfl
       have e0 : At (Ty.int (((m : Nat) : Int) - (1 : Int))) tx ax (.tmp 33) := d2 rfl
       exact run_plain rfl (y_assign e1)
     intro a15 s13 D9
     have ok14 := D9.ok
     have F14 := F13.step0 D9.stp
     have q44 : At (Ty.val x6_0) s13 a15 (.tmp 6) := D9.kt q39 rfl
     have q45 : At (Ty.val x7_0) s13 a15 (.tmp 7) := D9.kt q40 rfl
     have q46 : At (Ty.int (((m : Nat) : Int) - (1 : Int))) s13 a15 (.tmp 8) := D9.kt q41 rfl
     have q47 : At (Ty.nat q) s13 a15 (.tmp 1) := D9.kt q42 rfl
     have o15 := Own.k0 o13 D9.stp
     have o16 := Own.k0 o14 D9.stp
     have q48 : At (Ty.nat (fct (((((m : Nat) : Int) - (1 : Int))).toNat))) s13 a15 (.tmp 9) := D9.done 2
     clear D9
     have q49 : At (Ty.nat (fct (m - 1))) s13 a15 (.tmp 9) := (cvi (by (have e : ((((m : Nat) : Int) - (1 : Int))).toNat = m - 1 := (by omega); rw [e])) q48)
     refine tn ?_
     refine wp_seq ?_
     refine reg2 (a := a15) (σ := s13) rfl 8 (fun i_ => List.getD [(Ty.pr (Ty.val x7_0)), (Ty.pr (Ty.val x6_0)), (Ty.pr (Ty.nat q)), (Ty.pr (Ty.nat (fct (m - 1)))), (Ty.pr (Ty.nat (q / (fct (m - 1))))), (Ty.pr (Ty.val (cellPtr x6_0 (q / (fct (m - 1)))))), (Ty.pr (Ty.int (lf.getD (q / (fct (m - 1))) 0))), (Ty.pr (Ty.sl 1 1 [(Ty.int (lf.getD (q / (fct (m - 1))) 0))]))] i_ Pr.any) ok14 rfl (by decide) rfl ⟨?_, ?_, ?_, ?_, ?_, ?_, ?_, ?_, trivial⟩ ?_
     · intro ax tx hs okx sm
       exact run_plain rfl (y_move (kp (sm 7 rfl) hs q45))
     · intro ax tx hs okx sm
       exact run_plain rfl (y_move (kp (sm 6 rfl) hs q44))
     · intro ax tx hs okx sm
       exact run_plain rfl (y_move (kp (sm 1 rfl) hs q47))
     · intro ax tx hs okx sm
       exact run_plain rfl (y_move (kp (sm 9 rfl) hs q49))
     · intro ax tx hs okx sm d0 d1
       have e2 : At (Ty.nat q) tx ax (.tmp 37) := d0 rfl
       have e3 : At (Ty.nat (fct (m - 1))) tx ax (.tmp 38) := d1 rfl
       exact run_plain rfl (y_quoN e2 e3 (by omega) (by omega))
     · intro ax tx hs okx sm d0 d1
       have e1 : At (Ty.val x6_0) tx ax (.tmp 36) := d0 rfl
       have e4 : At (Ty.nat (q / (fct (m - 1)))) tx ax (.tmp 39) := d1 rfl
       exact run_plain rfl (own_index1 (i := (((q / (fct (m - 1))) : Nat) : Int)) Try.underlying34 Try.inf3 (Own.k0 o15 hs) e1 e4 (by omega) (by omega))
     · intro ax tx hs okx sm d0
       have e5 : At (Ty.val (cellPtr x6_0 (q / (fct (m - 1))))) tx ax (.tmp 40) := d0 rfl
       exact run_plain rfl (own_load Try.underlying3 rfl (Own.k0 o15 hs) e5 (lst_get Ty.int lf 0 (q / (fct (m - 1))) (by omega)))
     · intro ax tx hs okx sm d0
       have e6 : At (Ty.int (lf.getD (q / (fct (m - 1))) 0)) tx ax (.tmp 41) := d0 rfl
       exact run_plain rfl (y_build1o Try.underlying34 Try.inf3 rfl (one_val rfl) e6)
     intro a16 s14 D10
     have ok15 := D10.ok
     have F15 := F14.step0 D10.stp
     have q50 : At (Ty.val x6_0) s14 a16 (.tmp 6) := D10.kt q44 rfl
     have q51 : At (Ty.val x7_0) s14 a16 (.tmp 7) := D10.kt q45 rfl
     have q52 : At (Ty.int (((m : Nat) : Int) - (1 : Int))) s14 a16 (.tmp 8) := D10.kt q46 rfl
     have q53 : At (Ty.nat q) s14 a16 (.tmp 1) := D10.kt q47 rfl
     have q54 : At (Ty.nat (fct (m - 1))) s14 a16 (.tmp 9) := D10.kt q49 rfl
     have o17 := Own.k0 o15 D10.stp
     have o18 := Own.k0 o16 D10.stp
     have q55 : At (Ty.val x7_0) s14 a16 (.tmp 35) := D10.done 0 (by decide)
     have q56 : At (Ty.sl 1 1 [(Ty.int (lf.getD (q / (fct (m - 1))) 0))]) s14 a16 (.tmp 42) := D10.done 7 (by decide)
     have b1 := sl_le q56
     clear D10
     refine tailL (L := [6]) (R := (fun v τ => Own τ 6 3 1 v ((List.length os) + 1) ((List.map Ty.int os) ++ [(Ty.int (lf.getD (q / (fct (m - 1))) 0))]))) rfl rfl (by decide) ok15 (YldM.toL (m_append Try.underlying34 Try.inf3 (by decide) rfl (by decide) (al (R := (Pr.own 6 3 1 (List.length os) (List.map Ty.int os))) q55 o18) q56 (by intro U hU; simp at hU; subst hU; exact one_val rfl) (by omega) (by omega))) (fun a17 s15 hs5 ok16 r5 sm5 => ?_)
     have F16 := F15.stepL hs5 (by decide)
     have q57 : At (Ty.val x6_0) s15 a17 (.tmp 6) := kpL hs5 (by decide) (sm5 6 (by decide)) q50
     have q58 : At (Ty.val x7_0) s15 a17 (.tmp 7) := kpL hs5 (by decide) (sm5 7 (by decide)) q51
     have q59 : At (Ty.int (((m : Nat) : Int) - (1 : Int))) s15 a17 (.tmp 8) := kpL hs5 (by decide) (sm5 8 (by decide)) q52
     have q60 : At (Ty.nat q) s15 a17 (.tmp 1) := kpL hs5 (by decide) (sm5 1 (by decide)) q53
     have q61 : At (Ty.nat (fct (m - 1))) s15 a17 (.tmp 9) := kpL hs5 (by decide) (sm5 9 (by decide)) q54
     have o20 := Own.keepL o17 hs5 (by decide) (by decide)
     obtain ⟨x3, hx2⟩ : ∃ x, a17.eval (.tmp 43) = x := ⟨_, rfl⟩
     have q62 : At (Ty.val x3) s15 a17 (.tmp 43) := hx2
     have o19 : Own s15 6 3 1 x3 (List.length (os ++ [(lf.getD (q / (fct (m - 1))) 0)])) (List.map Ty.int (os ++ [(lf.getD (q / (fct (m - 1))) 0)])) := al2 (R := (Pr.own 6 3 1 (List.length (os ++ [(lf.getD (q / (fct (m - 1))) 0)])) (List.map Ty.int (os ++ [(lf.getD (q / (fct (m - 1))) 0)])))) hx2 (cvo (by simp) (by first | (rw [List.map_append]; rfl) | simp) r5)
     clear r5
     refine tailL (L := []) (R := (fun v τ => Pr.has (Ty.pr (Ty.val x3)) τ v)) rfl rfl (by decide) ok16 (Yld.toL (y_assign q62)) (fun a18 s16 hs6 ok17 r6 sm6 => ?_)
     have F17 := F16.stepL hs6 (by decide)
     have q63 : At (Ty.val x6_0) s16 a18 (.tmp 6) := kpL hs6 (by decide) (sm6 6 (by decide)) q57
     have q64 : At (Ty.int (((m : Nat) : Int) - (1 : Int))) s16 a18 (.tmp 8) := kpL hs6 (by decide) (sm6 8 (by decide)) q59
     have q65 : At (Ty.nat q) s16 a18 (.tmp 1) := kpL hs6 (by decide) (sm6 1 (by decide)) q60
     have q66 : At (Ty.nat (fct (m - 1))) s16 a18 (.tmp 9) := kpL hs6 (by decide) (sm6 9 (by decide)) q61
     have o21 := Own.keepL o20 hs6 (by decide) (by decide)
     have o22 := Own.keepL o19 hs6 (by decide) (by decide)
     have q67 : At (Ty.val x3) s16 a18 (.tmp 7) := r6
     clear r6
     refine wpList_nil ?_
     refine tn ?_
     refine wp_seq ?_
     refine reg2 (a := a18) (σ := s16) rfl 8 (fun i_ => List.getD [(Ty.pr (Ty.val x6_0)), (Ty.pr (Ty.nat q)), (Ty.pr (Ty.nat (fct (m - 1)))), (Ty.pr (Ty.nat (q / (fct (m - 1))))), (Ty.pr (Ty.nat q)), (Ty.pr (Ty.nat (fct (m - 1)))), (Ty.pr (Ty.nat (q / (fct (m - 1))))), (Ty.pr (Ty.nat ((q / (fct (m - 1))) + 1)))] i_ Pr.any) ok17 rfl (by decide) rfl ⟨?_, ?_, ?_, ?_, ?_, ?_, ?_, ?_, trivial⟩ ?_
     · intro ax tx hs okx sm
       exact run_plain rfl (y_move (kp (sm 6 rfl) hs q63))
     · intro ax tx hs okx sm
       exact run_plain rfl (y_move (kp (sm 1 rfl) hs q65))
     · intro ax tx hs okx sm
       exact run_plain rfl (y_move (kp (sm 9 rfl) hs q66))
     · intro ax tx hs okx sm d0 d1
       have e1 : At (Ty.nat q) tx ax (.tmp 45) := d0 rfl
       have e2 : At (Ty.nat (fct (m - 1))) tx ax (.tmp 46) := d1 rfl
       exact run_plain rfl (y_quoN e1 e2 (by omega) (by omega))
     · intro ax tx hs okx sm
       exact run_plain rfl (y_move (kp (sm 1 rfl) hs q65))
     · intro ax tx hs okx sm
       exact run_plain rfl (y_move (kp (sm 9 rfl) hs q66))
     · intro ax tx hs okx sm d0 d1
       have e4 : At (Ty.nat q) tx ax (.tmp 48) := d0 rfl
       have e5 : At (Ty.nat (fct (m - 1))) tx ax (.tmp 49) := d1 rfl
       exact run_plain rfl (y_quoN e4 e5 (by omega) (by omega))
     · intro ax tx hs okx sm d0
       have e6 : At (Ty.nat (q / (fct (m - 1)))) tx ax (.tmp 50) := d0 rfl
       exact run_plain rfl ((y_add e6 rfl (w64 (by omega) (by omega))).mono (fun τ _ h => cvi (σ := τ) (by first | omega | exact (Int.natCast_mul _ _).symm) h))
     intro a19 s17 D11
     have ok18 := D11.ok
     have F18 := F17.step0 D11.stp
     have q68 : At (Ty.val x6_0) s17 a19 (.tmp 6) := D11.kt q63 rfl
     have q69 : At (Ty.int (((m : Nat) : Int) - (1 : Int))) s17 a19 (.tmp 8) := D11.kt q64 rfl
     have q70 : At (Ty.nat q) s17 a19 (.tmp 1) := D11.kt q65 rfl
     have q71 : At (Ty.nat (fct (m - 1))) s17 a19 (.tmp 9) := D11.kt q66 rfl
     have q72 : At (Ty.val x3) s17 a19 (.tmp 7) := D11.kt q67 rfl
     have o23 := Own.k0 o21 D11.stp
     have o24 := Own.k0 o22 D11.stp
     have q73 : At (Ty.val x6_0) s17 a19 (.tmp 44) := D11.done 0 (by decide)
     have q74 : At (Ty.nat (q / (fct (m - 1)))) s17 a19 (.tmp 47) := D11.done 3 (by decide)
     have q75 : At (Ty.nat ((q / (fct (m - 1))) + 1)) s17 a19 (.tmp 51) := D11.done 7 (by decide)
     clear D11
     refine tailL (L := [5]) (R := (fun v τ' => ∃ τ, (fun v τ => ∃ (z : Value), (Ty.has (Ty.val z) τ v) ∧ (Own τ 40 3 1 z (List.length ((lf).eraseIdx ((q / (fct (m - 1)))))) (List.map Ty.int ((lf).eraseIdx ((q / (fct (m - 1)))))))) v τ ∧ Back [(40, 5)] τ τ')) rfl rfl (by decide) ok18 (y_callL (L := [40]) [(5, 40)] [(40, 5)] #[a19.eval (.tmp 44), a19.eval (.tmp 47), a19.eval (.tmp 51)] rfl (by decide) Try.func100 rfl rfl (by simp only [List.map_toArray, List.map_cons, List.map_nil]) (delete_fn (x6_0) (lf) ((q / (fct (m - 1)))) _ (GW.low_lend _ (by decide)) _ _ _ (Ty.up _ (GW.le_lend _ _) q73) (Ty.up _ (GW.le_lend _ _) (cvi (σ := s17) (by omega) q74)) (Ty.up _ (GW.le_lend _ _) (cvi (σ := s17) (by omega) q75)) (Own.ren (cvo (by (simp)) (by (simp)) o23) (GW.ren_lend _ _ (by decide) rfl)) (by omega) (by omega))) (fun a20 s18 hs7 ok19 r7 sm7 => ?_)
     have F19 := F18.stepL hs7 (by decide)
     have q76 : At (Ty.val x6_0) s18 a20 (.tmp 6) := kpL hs7 (by decide) (sm7 6 (by decide)) q68
     have q77 : At (Ty.int (((m : Nat) : Int) - (1 : Int))) s18 a20 (.tmp 8) := kpL hs7 (by decide) (sm7 8 (by decide)) q69
     have q78 : At (Ty.nat q) s18 a20 (.tmp 1) := kpL hs7 (by decide) (sm7 1 (by decide)) q70
     have q79 : At (Ty.nat (fct (m - 1))) s18 a20 (.tmp 9) := kpL hs7 (by decide) (sm7 9 (by decide)) q71
     have q80 : At (Ty.val x3) s18 a20 (.tmp 7) := kpL hs7 (by decide) (sm7 7 (by decide)) q72
     have o27 := Own.keepL o24 hs7 (by decide) (by decide)
     obtain ⟨t4, ⟨x4, hT2, o25⟩, B2⟩ := r7
     have q81 : At (Ty.val x4) s18 a20 (.tmp 52) := Ty.up _ B2.le hT2
     have o26 : Own s18 5 3 1 x4 (List.length ((lf).eraseIdx ((q / (fct (m - 1)))))) (List.map Ty.int ((lf).eraseIdx ((q / (fct (m - 1)))))) := Own.ren o25 (B2.ren (by decide) rfl)
     refine tailL (L := []) (R := (fun v τ => Pr.has (Ty.pr (Ty.val x4)) τ v)) rfl rfl (by decide) ok19 (Yld.toL (y_assign q81)) (fun a21 s19 hs8 ok20 r8 sm8 => ?_)
     have F20 := F19.stepL hs8 (by decide)
     have q82 : At (Ty.int (((m : Nat) : Int) - (1 : Int))) s19 a21 (.tmp 8) := kpL hs8 (by decide) (sm8 8 (by decide)) q77
     have q83 : At (Ty.nat q) s19 a21 (.tmp 1) := kpL hs8 (by decide) (sm8 1 (by decide)) q78
     have q84 : At (Ty.nat (fct (m - 1))) s19 a21 (.tmp 9) := kpL hs8 (by decide) (sm8 9 (by decide)) q79
     have q85 : At (Ty.val x3) s19 a21 (.tmp 7) := kpL hs8 (by decide) (sm8 7 (by decide)) q80
     have o28 := Own.keepL o27 hs8 (by decide) (by decide)
     have o29 := Own.keepL o26 hs8 (by decide) (by decide)
     have q86 : At (Ty.val x4) s19 a21 (.tmp 6) := r8
     clear r8
     refine wpList_nil ?_
     refine tn ?_
     refine reg (a := a21) (σ := s19) rfl (fun i_ => List.getD [(Ty.pr (Ty.nat q)), (Ty.pr (Ty.nat (fct (m - 1)))), (Ty.pr (Ty.nat (q % (fct (m - 1))))), (Ty.pr (Ty.nat (q % (fct (m - 1)))))] i_ Pr.any) ok20 rfl ⟨?_, ?_, ?_, ?_, trivial⟩ ?_
     · intro ax tx hs okx sm
       exact run_plain rfl (y_move (kp (sm 1 rfl) hs q83))
     · intro ax tx hs okx sm
       exact run_plain rfl (y_move (kp (sm 9 rfl) hs q84))
     · intro ax tx hs okx sm d0 d1
       have e0 : At (Ty.nat q) tx ax (.tmp 53) := d0 rfl
       have e1 : At (Ty.nat (fct (m - 1))) tx ax (.tmp 54) := d1 rfl
       exact run_plain rfl (y_remN e0 e1 (by omega))
     · intro ax tx hs okx sm d0 d1 d2 d3
       have e2 : At (Ty.nat (q % (fct (m - 1)))) tx ax (.tmp 55) := d0 rfl
       have e0 : At (Ty.nat q) tx ax (.tmp 53) := d1 rfl
       have e1 : At (Ty.nat (fct (m - 1))) tx ax (.tmp 54) := d2 rfl
       exact run_plain rfl (y_assign e2)
     intro a22 s20 D12
     have ok21 := D12.ok
     have F21 := F20.step0 D12.stp
     have q87 : At (Ty.int (((m : Nat) : Int) - (1 : Int))) s20 a22 (.tmp 8) := D12.kt q82 rfl
     have q88 : At (Ty.val x3) s20 a22 (.tmp 7) := D12.kt q85 rfl
     have q89 : At (Ty.val x4) s20 a22 (.tmp 6) := D12.kt q86 rfl
     have o30 := Own.k0 o28 D12.stp
     have o31 := Own.k0 o29 D12.stp
     have q90 : At (Ty.nat (q % (fct (m - 1)))) s20 a22 (.tmp 1) := D12.done 3
     clear D12
     refine bn ?_
     refine tn ?_
     refine reg (a := a22) (σ := s20) rfl (fun i_ => List.getD [(Ty.pr (Ty.int (((m : Nat) : Int) - (1 : Int)))), (Ty.pr (Ty.int ((((m : Nat) : Int) - (1 : Int)) - (1 : Int)))), (Ty.pr (Ty.int ((((m : Nat) : Int) - (1 : Int)) - (1 : Int))))] i_ Pr.any) ok21 rfl ⟨?_, ?_, ?_, trivial⟩ ?_
     · intro ax tx hs okx sm
       exact run_plain rfl (y_move (kp (sm 8 rfl) hs q87))
     · intro ax tx hs okx sm d0
       have e0 : At (Ty.int (((m : Nat) : Int) - (1 : Int))) tx ax (.tmp 31) := d0 rfl
       exact run_plain rfl (y_sub e0 rfl (w64 (by omega) (by omega)))
     · intro ax tx hs okx sm d0 d1 d2
       have e1 : At (Ty.int ((((m : Nat) : Int) - (1 : Int)) - (1 : Int))) tx ax (.tmp 32) := d0 rfl
       have e0 : At (Ty.int (((m : Nat) : Int) - (1 : Int))) tx ax (.tmp 31) := d1 rfl
       exact run_plain rfl (y_assign e1)
     intro a23 s21 D13
     have ok22 := D13.ok
     have F22 := F21.step0 D13.stp
     have q91 : At (Ty.val x3) s21 a23 (.tmp 7) := D13.kt q88 rfl
     have q92 : At (Ty.val x4) s21 a23 (.tmp 6) := D13.kt q89 rfl
     have q93 : At (Ty.nat (q % (fct (m - 1)))) s21 a23 (.tmp 1) := D13.kt q90 rfl
     have o32 := Own.k0 o30 D13.stp
     have o33 := Own.k0 o31 D13.stp
     have q94 : At (Ty.int ((((m : Nat) : Int) - (1 : Int)) - (1 : Int))) s21 a23 (.tmp 8) := D13.done 2
     clear D13
     exact tn ⟨((m - 1)) + 1, by omega, s21, (m - 1), (lf.eraseIdx (q / (fct (m - 1)))), (os ++ [lf.getD (q / (fct (m - 1))) 0]), (q % (fct (m - 1))), x4, x3, rfl, F22, ok22, q92, q91, (cvi (by (first | rfl | omega | (simp_all; done) | (simp_all; omega))) q94), (cvi (by (first | rfl | omega | (simp_all; done) | (simp_all; omega))) q93), (cvo (by (simp)) (by (simp)) o33), (cvo (by (simp)) (by (simp)) o32), at_step hos (by omega), hdv.2, by rw [List.length_eraseIdx, if_pos (by omega)]; omega, by rw [List.length_append, List.length_singleton]; omega, rfl⟩
    ·
     refine wp_exit ?_
     refine tx ?_
     refine tx ?_
     refine bx ?_
     refine tn ?_
     refine wp_seq ?_
     refine reg (a := a14) (σ := s12) rfl (fun i_ => List.getD [(Ty.pr (Ty.val x7_0)), (Ty.pr (Ty.val x7_0)), (Ty.pr (Ty.int (0 : Int)))] i_ Pr.any) ok13 rfl ⟨?_, ?_, ?_, trivial⟩ ?_
     · intro ax tx hs okx sm
       exact run_plain rfl (y_move (kp (sm 7 rfl) hs q40))
     · intro ax tx hs okx sm d0 d1
       have e0 : At (Ty.val x7_0) tx ax (.tmp 56) := d0 rfl
       exact run_plain rfl (y_assign e0)
     · intro ax tx hs okx sm d0 d1 d2
       have e1 : At (Ty.val x7_0) tx ax (.tmp 4) := d0 rfl
       have e0 : At (Ty.val x7_0) tx ax (.tmp 56) := d1 rfl
       exact run_plain rfl (y_assign rfl)
     intro a24 s22 D14
     have ok23 := D14.ok
     have F23 := F13.step0 D14.stp
     have o34 := Own.k0 o13 D14.stp
     have o35 := Own.k0 o14 D14.stp
     have q95 : At (Ty.val x7_0) s22 a24 (.tmp 4) := D14.done 1
     have q96 : At (Ty.int (0 : Int)) s22 a24 (.tmp 5) := D14.done 2
     clear D14
     refine tn ?_
     refine wp_ret ?_
     obtain ⟨t5, e1, h1, q97⟩ := Own.seal o35 (by decide)
     rw [← e1]
     have F24 := F23.step h1 (by decide)
     have q98 : At (Ty.lst Ty.int os) t5 a24 (.tmp 4) := by have e : a24.eval (.tmp 4) = x7_0 := q95; show Ty.has _ _ _; rw [e]; exact q97
     have q99 := Ty.up (Ty.int (0 : Int)) (h1.le (by decide)) q96
     exact retL2 rfl ok23 F24 (hasT2 (cvt (by (rw [if_pos hm0, ← hos, show m = 0 by omega, atF, List.append_nil])) q98) (cvi (by (exact hm0.symm)) q99))

theorem Try.inf155 : Info Try.prog 155 (.agg (Array.replicate 12 (.int .i64 0))) 12 96 := by unfold Info; kernel_rfl
set_option maxRecDepth 100000 in
theorem rowCheck_fn (r : List Int) (σ : GW) (v0 : Value) (hv0 : Ty.has (Ty.lst Ty.int r) σ v0)  :
    FnC Try.prog 44 #[v0] σ (Ty.int (rowMay r)) := by
 refine fn_intro Try.func44 rfl Try.ntmps44 (Nat.le_of_ble_eq_true rfl) (fun s0 a0 hle F0 ok0 hargs => ?_)
 have p0 : At (Ty.lst Ty.int r) s0 a0 (.tmp 0) := by have e := hargs 0 _ rfl; show Ty.has _ _ _; rw [e]; exact Ty.up _ hle hv0
 have b1 := sl_le p0
 clear hargs
 refine wp_seq ?_
 refine reg (a := a0) (σ := s0) rfl (fun i_ => List.getD [(Ty.pr (Ty.int (0 : Int)))] i_ Pr.any) ok0 rfl ⟨?_, trivial⟩ ?_
 · intro ax tx hs okx sm
   exact run_plain rfl (y_assign rfl)
 intro a1 s1 D1
 have ok1 := D1.ok
 have F1 := F0.step0 D1.stp
 have q1 : At (Ty.lst Ty.int r) s1 a1 (.tmp 0) := D1.kt p0 rfl
 clear D1
 refine tn ?_
 refine wp_seq ?_
 refine wp_seq ?_
 refine reg (a := a1) (σ := s1) rfl (fun i_ => List.getD [(Ty.pr (Ty.lst Ty.int r)), (Ty.pr (Ty.nat (List.length r))), (Ty.pr (Ty.bool (decide ((((List.length r) : Nat) : Int) < (1 : Int))))), (Ty.pr (Ty.bool (decide ((((List.length r) : Nat) : Int) < (1 : Int))))), (Ty.pr (Ty.grd ((decide ((((List.length r) : Nat) : Int) < (1 : Int))) = false) (Ty.lst Ty.int r))), (Ty.pr (Ty.grd ((decide ((((List.length r) : Nat) : Int) < (1 : Int))) = false) (Ty.nat (List.length r)))), (Ty.pr (Ty.grd ((decide ((((List.length r) : Nat) : Int) < (1 : Int))) = false) (Ty.bool (decide ((12 : Int) < (((List.length r) : Nat) : Int)))))), (Ty.pr (Ty.bool ((decide ((((List.length r) : Nat) : Int) < (1 : Int))) || (decide ((12 : Int) < (((List.length r) : Nat) : Int))))))] i_ Pr.any) ok1 rfl ⟨?_, ?_, ?_, ?_, ?_, ?_, ?_, ?_, trivial⟩ ?_
 · intro ax tx hs okx sm
   exact run_plain rfl (y_move (kp (sm 0 rfl) hs q1))
 · intro ax tx hs okx sm d0
   have e0 : At (Ty.lst Ty.int r) tx ax (.tmp 6) := d0 rfl
   exact run_plain rfl (y_len Try.underlying34 e0)
 · intro ax tx hs okx sm d0
   have e1 : At (Ty.nat (List.length r)) tx ax (.tmp 7) := d0 rfl
   exact run_plain rfl (y_lss e1 rfl)
 · intro ax tx hs okx sm d0
   have e2 : At (Ty.bool (decide ((((List.length r) : Nat) : Int) < (1 : Int)))) tx ax (.tmp 8) := d0 rfl
   exact run_plain rfl (y_move e2)
 · intro ax tx hs okx sm d0
   have e3 : At (Ty.bool (decide ((((List.length r) : Nat) : Int) < (1 : Int)))) tx ax (.tmp 9) := d0 rfl
   refine run_guard (T := (Ty.lst Ty.int r)) okx rfl rfl (by decide) e3 (fun hg => ?_)
   have hp := of_decide_eq_false hg
   exact y_move (kp (sm 0 rfl) hs q1)
 · intro ax tx hs okx sm d0 d1
   have e4 : At (Ty.grd ((decide ((((List.length r) : Nat) : Int) < (1 : Int))) = false) (Ty.lst Ty.int r)) tx ax (.tmp 10) := d0 rfl
   have e3 : At (Ty.bool (decide ((((List.length r) : Nat) : Int) < (1 : Int)))) tx ax (.tmp 9) := d1 rfl
   refine run_guard (T := (Ty.nat (List.length r))) okx rfl rfl (by decide) e3 (fun hg => ?_)
   have hp := of_decide_eq_false hg
   exact y_len Try.underlying34 (e4.1 hg)
 · intro ax tx hs okx sm d0 d1
   have e5 : At (Ty.grd ((decide ((((List.length r) : Nat) : Int) < (1 : Int))) = false) (Ty.nat (List.length r))) tx ax (.tmp 11) := d0 rfl
   have e3 : At (Ty.bool (decide ((((List.length r) : Nat) : Int) < (1 : Int)))) tx ax (.tmp 9) := d1 rfl
   refine run_guard (T := (Ty.bool (decide ((12 : Int) < (((List.length r) : Nat) : Int))))) okx rfl rfl (by decide) e3 (fun hg => ?_)
   have hp := of_decide_eq_false hg
   exact y_gtr (e5.1 hg) rfl
 · intro ax tx hs okx sm d0 d1
   have e3 : At (Ty.bool (decide ((((List.length r) : Nat) : Int) < (1 : Int)))) tx ax (.tmp 9) := d0 rfl
   have e6 : At (Ty.grd ((decide ((((List.length r) : Nat) : Int) < (1 : Int))) = false) (Ty.bool (decide ((12 : Int) < (((List.length r) : Nat) : Int))))) tx ax (.tmp 12) := d1 rfl
   exact run_plain rfl (y_pick_or e3 rfl e6)
 intro a2 s2 D2
 have ok2 := D2.ok
 have F2 := F1.step0 D2.stp
 have q2 : At (Ty.lst Ty.int r) s2 a2 (.tmp 0) := D2.kt q1 rfl
 have q3 : At (Ty.bool ((decide ((((List.length r) : Nat) : Int) < (1 : Int))) || (decide ((12 : Int) < (((List.length r) : Nat) : Int))))) s2 a2 (.tmp 13) := D2.done 7
 clear D2
 refine tn ?_
 refine cond_t q3 (fun c1 => ?_) (fun c1 => ?_)
 ·
  simp only [Bool.or_eq_true, decide_eq_true_eq] at c1
  refine wp_seq ?_
  refine reg (a := a2) (σ := s2) rfl (fun i_ => List.getD [(Ty.pr (Ty.int (1 : Int)))] i_ Pr.any) ok2 rfl ⟨?_, trivial⟩ ?_
  · intro ax tx hs okx sm
    exact run_plain rfl (y_assign rfl)
  intro a3 s3 D3
  have ok3 := D3.ok
  have F3 := F2.step0 D3.stp
  have q4 : At (Ty.int (1 : Int)) s3 a3 (.tmp 2) := D3.done 0
  clear D3
  refine tn ?_
  refine wp_ret ?_
  refine tr ?_
  exact ret1 rfl ok3 F3 (cvi (by (exact (rowMay_cnt (by omega)).symm)) q4)
 ·
  obtain ⟨d1, d2⟩ := Bool.or_eq_false_iff.mp c1
  replace d1 := of_decide_eq_false d1
  replace d2 := of_decide_eq_false d2
  refine wp_skip ?_
  refine tn ?_
  refine wp_seq ?_
  refine reg (a := a2) (σ := s2) rfl (fun i_ => List.getD [(Pr.ownp 11 (List.map Ty.int (List.replicate 12 0)))] i_ Pr.any) ok2 rfl ⟨?_, trivial⟩ ?_
  · intro ax tx hs okx sm
    exact run_plain rfl (y_alloc Try.inf155 (by simp [Value.cells]) (alloc_zero 12 (by intro σ; exact rfl)))
  intro a4 s4 D4
  have ok4 := D4.ok
  have F4 := F2.step0 D4.stp
  have q5 : At (Ty.lst Ty.int r) s4 a4 (.tmp 0) := D4.kt q2 rfl
  have q6 : (Pr.ownp 11 (List.map Ty.int (List.replicate 12 0))).has s4 (a4.eval (.tmp 3)) := D4.done 0
  clear D4
  refine tn ?_
  refine wp_seq ?_
  refine wp_seq ?_
  refine reg (a := a4) (σ := s4) rfl (fun i_ => List.getD [(Ty.pr (Ty.lst Ty.int r)), (Ty.pr (Ty.nat (List.length r))), (Ty.pr (Ty.int (0 : Int)))] i_ Pr.any) ok4 rfl ⟨?_, ?_, ?_, trivial⟩ ?_
  · intro ax tx hs okx sm
    exact run_plain rfl (y_move (kp (sm 0 rfl) hs q5))
  · intro ax tx hs okx sm d0
    have e0 : At (Ty.lst Ty.int r) tx ax (.tmp 14) := d0 rfl
    exact run_plain rfl (y_len Try.underlying34 e0)
  · intro ax tx hs okx sm
    exact run_plain rfl (y_move rfl)
  intro a5 s5 D5
  have ok5 := D5.ok
  have F5 := F4.step0 D5.stp
  have q7 : At (Ty.lst Ty.int r) s5 a5 (.tmp 0) := D5.kt q5 rfl
  have q8 : (Pr.ownp 11 (List.map Ty.int (List.replicate 12 0))).has s5 (a5.eval (.tmp 3)) := D5.ko q6 rfl
  have q9 : At (Ty.lst Ty.int r) s5 a5 (.tmp 14) := D5.done 0
  have q10 : At (Ty.nat (List.length r)) s5 a5 (.tmp 15) := D5.done 1
  have q11 : At (Ty.int (0 : Int)) s5 a5 (.tmp 16) := D5.done 2
  clear D5
  refine tn ?_
  refine wp_block ?_
  refine loop (fun n1 a6 w1 => ∃ (t1 : GW) (k : Nat), t1.w = w1 ∧ From s0 t1 ∧ Ok 40 a6 ∧ At (Ty.nat k) t1 a6 (.tmp 16) ∧ (Pr.ownp 11 (List.map Ty.int (seenL r k))).has t1 (a6.eval (.tmp 3)) ∧ At (Ty.lst Ty.int r) t1 a6 (.tmp 0) ∧ At (Ty.lst Ty.int r) t1 a6 (.tmp 14) ∧ At (Ty.nat (List.length r)) t1 a6 (.tmp 15) ∧ (k ≤ r.length) ∧ (Upto r k) ∧ n1 = r.length - k) (r.length - (0)) ?_ ?_
  ·
   exact ⟨s5, 0, rfl, F5, ok5, (cvi (by (first | rfl | omega | (simp_all; done) | (simp_all; omega))) q11), (cvop (by (rw [seenL_zero])) q8), q7, q9, q10, by omega, Upto.zero r, rfl⟩
  ·
   rintro n2 a7 w2 ⟨t2, k, rfl, F6, ok6, q12, q13, q14, q15, q16, hk, hu, rfl⟩
   have hs := seenL_len r k
   refine wp_seq ?_
   refine reg (a := a7) (σ := t2) rfl (fun i_ => List.getD [(Ty.pr (Ty.bool (decide (((k : Nat) : Int) < (((List.length r) : Nat) : Int)))))] i_ Pr.any) ok6 rfl ⟨?_, trivial⟩ ?_
   · intro ax tx hs okx sm
     exact run_plain rfl (y_lss (kp (sm 16 rfl) hs q12) (kp (sm 15 rfl) hs q16))
   intro a8 s6 D6
   have ok7 := D6.ok
   have F7 := F6.step0 D6.stp
   have q17 : At (Ty.nat k) s6 a8 (.tmp 16) := D6.kt q12 rfl
   have q18 : (Pr.ownp 11 (List.map Ty.int (seenL r k))).has s6 (a8.eval (.tmp 3)) := D6.ko q13 rfl
   have q19 : At (Ty.lst Ty.int r) s6 a8 (.tmp 0) := D6.kt q14 rfl
   have q20 : At (Ty.lst Ty.int r) s6 a8 (.tmp 14) := D6.kt q15 rfl
   have q21 : At (Ty.nat (List.length r)) s6 a8 (.tmp 15) := D6.kt q16 rfl
   have q22 : At (Ty.bool (decide (((k : Nat) : Int) < (((List.length r) : Nat) : Int)))) s6 a8 (.tmp 17) := D6.done 0
   clear D6
   refine tn ?_
   refine wp_seq ?_
   refine cond_p (p := (((k : Nat) : Int) < (((List.length r) : Nat) : Int))) q22 (fun c2 => ?_) (fun c2 => ?_)
   ·
    refine wp_skip ?_
    refine tn ?_
    refine wp_seq ?_
    refine wp_block ?_
    refine wp_seq ?_
    refine reg (a := a8) (σ := s6) rfl (fun i_ => List.getD [(Ty.pr (Ty.ref [(Ty.int (r.getD k 0))])), (Ty.pr (Ty.int (r.getD k 0))), (Ty.pr (Ty.int (r.getD k 0)))] i_ Pr.any) ok7 rfl ⟨?_, ?_, ?_, trivial⟩ ?_
    · intro ax tx hs okx sm
      exact run_plain rfl (y_index1 Try.underlying34 Try.inf3 (kp (sm 14 rfl) hs q20) (kp (sm 16 rfl) hs q17) (by omega) (lst_get Ty.int r 0 k (by omega)))
    · intro ax tx hs okx sm d0
      have e0 : At (Ty.ref [(Ty.int (r.getD k 0))]) tx ax (.tmp 18) := d0 rfl
      exact run_plain rfl (y_load Try.underlying3 rfl e0 rfl)
    · intro ax tx hs okx sm d0 d1 d2
      have e1 : At (Ty.int (r.getD k 0)) tx ax (.tmp 19) := d0 rfl
      have e0 : At (Ty.ref [(Ty.int (r.getD k 0))]) tx ax (.tmp 18) := d1 rfl
      exact run_plain rfl (y_assign e1)
    intro a9 s7 D7
    have ok8 := D7.ok
    have F8 := F7.step0 D7.stp
    have q23 : At (Ty.nat k) s7 a9 (.tmp 16) := D7.kt q17 rfl
    have q24 : (Pr.ownp 11 (List.map Ty.int (seenL r k))).has s7 (a9.eval (.tmp 3)) := D7.ko q18 rfl
    have q25 : At (Ty.lst Ty.int r) s7 a9 (.tmp 0) := D7.kt q19 rfl
    have q26 : At (Ty.lst Ty.int r) s7 a9 (.tmp 14) := D7.kt q20 rfl
    have q27 : At (Ty.nat (List.length r)) s7 a9 (.tmp 15) := D7.kt q21 rfl
    have q28 : At (Ty.int (r.getD k 0)) s7 a9 (.tmp 5) := D7.done 2
    clear D7
    refine tn ?_
    refine wp_seq ?_
    refine wp_seq ?_
    refine reg (a := a9) (σ := s7) rfl (fun i_ => List.getD [(Ty.pr (Ty.int (r.getD k 0))), (Ty.pr (Ty.bool (decide ((r.getD k 0) < (0 : Int))))), (Ty.pr (Ty.bool (decide ((r.getD k 0) < (0 : Int))))), (Ty.pr (Ty.grd ((decide ((r.getD k 0) < (0 : Int))) = false) (Ty.int (r.getD k 0)))), (Ty.pr (Ty.grd ((decide ((r.getD k 0) < (0 : Int))) = false) (Ty.lst Ty.int r))), (Ty.pr (Ty.grd ((decide ((r.getD k 0) < (0 : Int))) = false) (Ty.nat (List.length r)))), (Ty.pr (Ty.grd ((decide ((r.getD k 0) < (0 : Int))) = false) (Ty.bool (decide ((((List.length r) : Nat) : Int) ≤ (r.getD k 0)))))), (Ty.pr (Ty.bool ((decide ((r.getD k 0) < (0 : Int))) || (decide ((((List.length r) : Nat) : Int) ≤ (r.getD k 0)))))), (Ty.pr (Ty.bool ((decide ((r.getD k 0) < (0 : Int))) || (decide ((((List.length r) : Nat) : Int) ≤ (r.getD k 0)))))), (Ty.pr (Ty.grd (((decide ((r.getD k 0) < (0 : Int))) || (decide ((((List.length r) : Nat) : Int) ≤ (r.getD k 0)))) = false) (Ty.int (r.getD k 0)))), (Ty.pr (Ty.grd (((decide ((r.getD k 0) < (0 : Int))) || (decide ((((List.length r) : Nat) : Int) ≤ (r.getD k 0)))) = false) (Ty.val (ptrAt (a9.eval (.tmp 3)) ((r.getD k 0)).toNat)))), (Ty.pr (Ty.grd (((decide ((r.getD k 0) < (0 : Int))) || (decide ((((List.length r) : Nat) : Int) ≤ (r.getD k 0)))) = false) (Ty.int ((seenL r k).getD ((r.getD k 0)).toNat 0)))), (Ty.pr (Ty.grd (((decide ((r.getD k 0) < (0 : Int))) || (decide ((((List.length r) : Nat) : Int) ≤ (r.getD k 0)))) = false) (Ty.bool (decide ((0 : Int) < ((seenL r k).getD ((r.getD k 0)).toNat 0)))))), (Ty.pr (Ty.bool (((decide ((r.getD k 0) < (0 : Int))) || (decide ((((List.length r) : Nat) : Int) ≤ (r.getD k 0)))) || (decide ((0 : Int) < ((seenL r k).getD ((r.getD k 0)).toNat 0))))))] i_ Pr.any) ok8 rfl ⟨?_, ?_, ?_, ?_, ?_, ?_, ?_, ?_, ?_, ?_, ?_, ?_, ?_, ?_, trivial⟩ ?_
    · intro ax tx hs okx sm
      exact run_plain rfl (y_move (kp (sm 5 rfl) hs q28))
    · intro ax tx hs okx sm d0
      have e0 : At (Ty.int (r.getD k 0)) tx ax (.tmp 20) := d0 rfl
      exact run_plain rfl (y_lss e0 rfl)
    · intro ax tx hs okx sm d0
      have e1 : At (Ty.bool (decide ((r.getD k 0) < (0 : Int)))) tx ax (.tmp 21) := d0 rfl
      exact run_plain rfl (y_move e1)
    · intro ax tx hs okx sm d0
      have e2 : At (Ty.bool (decide ((r.getD k 0) < (0 : Int)))) tx ax (.tmp 22) := d0 rfl
      refine run_guard (T := (Ty.int (r.getD k 0))) okx rfl rfl (by decide) e2 (fun hg => ?_)
      have hp := of_decide_eq_false hg
      exact y_move (kp (sm 5 rfl) hs q28)
    · intro ax tx hs okx sm d0
      have e2 : At (Ty.bool (decide ((r.getD k 0) < (0 : Int)))) tx ax (.tmp 22) := d0 rfl
      refine run_guard (T := (Ty.lst Ty.int r)) okx rfl rfl (by decide) e2 (fun hg => ?_)
      have hp := of_decide_eq_false hg
      exact y_move (kp (sm 0 rfl) hs q25)
    · intro ax tx hs okx sm d0 d1
      have e4 : At (Ty.grd ((decide ((r.getD k 0) < (0 : Int))) = false) (Ty.lst Ty.int r)) tx ax (.tmp 24) := d0 rfl
      have e2 : At (Ty.bool (decide ((r.getD k 0) < (0 : Int)))) tx ax (.tmp 22) := d1 rfl
      refine run_guard (T := (Ty.nat (List.length r))) okx rfl rfl (by decide) e2 (fun hg => ?_)
      have hp := of_decide_eq_false hg
      exact y_len Try.underlying34 (e4.1 hg)
    · intro ax tx hs okx sm d0 d1 d2
      have e3 : At (Ty.grd ((decide ((r.getD k 0) < (0 : Int))) = false) (Ty.int (r.getD k 0))) tx ax (.tmp 23) := d0 rfl
      have e5 : At (Ty.grd ((decide ((r.getD k 0) < (0 : Int))) = false) (Ty.nat (List.length r))) tx ax (.tmp 25) := d1 rfl
      have e2 : At (Ty.bool (decide ((r.getD k 0) < (0 : Int)))) tx ax (.tmp 22) := d2 rfl
      refine run_guard (T := (Ty.bool (decide ((((List.length r) : Nat) : Int) ≤ (r.getD k 0))))) okx rfl rfl (by decide) e2 (fun hg => ?_)
      have hp := of_decide_eq_false hg
      exact y_geq (e3.1 hg) (e5.1 hg)
    · intro ax tx hs okx sm d0 d1
      have e2 : At (Ty.bool (decide ((r.getD k 0) < (0 : Int)))) tx ax (.tmp 22) := d0 rfl
      have e6 : At (Ty.grd ((decide ((r.getD k 0) < (0 : Int))) = false) (Ty.bool (decide ((((List.length r) : Nat) : Int) ≤ (r.getD k 0))))) tx ax (.tmp 26) := d1 rfl
      exact run_plain rfl (y_pick_or e2 rfl e6)
    · intro ax tx hs okx sm d0 d1
      have e7 : At (Ty.bool ((decide ((r.getD k 0) < (0 : Int))) || (decide ((((List.length r) : Nat) : Int) ≤ (r.getD k 0))))) tx ax (.tmp 27) := d0 rfl
      have e2 : At (Ty.bool (decide ((r.getD k 0) < (0 : Int)))) tx ax (.tmp 22) := d1 rfl
      exact run_plain rfl (y_move e7)
    · intro ax tx hs okx sm d0
      have e8 : At (Ty.bool ((decide ((r.getD k 0) < (0 : Int))) || (decide ((((List.length r) : Nat) : Int) ≤ (r.getD k 0))))) tx ax (.tmp 28) := d0 rfl
      refine run_guard (T := (Ty.int (r.getD k 0))) okx rfl rfl (by decide) e8 (fun hg => ?_)
      obtain ⟨d3, d4⟩ := Bool.or_eq_false_iff.mp hg
      have d3 := of_decide_eq_false d3
      have d4 := of_decide_eq_false d4
      exact y_move (kp (sm 5 rfl) hs q28)
    · intro ax tx hs okx sm d0 d1
      have e9 : At (Ty.grd (((decide ((r.getD k 0) < (0 : Int))) || (decide ((((List.length r) : Nat) : Int) ≤ (r.getD k 0)))) = false) (Ty.int (r.getD k 0))) tx ax (.tmp 29) := d0 rfl
      have e8 : At (Ty.bool ((decide ((r.getD k 0) < (0 : Int))) || (decide ((((List.length r) : Nat) : Int) ≤ (r.getD k 0))))) tx ax (.tmp 28) := d1 rfl
      refine run_guard (T := (Ty.val (ptrAt (a9.eval (.tmp 3)) ((r.getD k 0)).toNat))) okx rfl rfl (by decide) e8 (fun hg => ?_)
      obtain ⟨d5, d6⟩ := Bool.or_eq_false_iff.mp hg
      have d5 := of_decide_eq_false d5
      have d6 := of_decide_eq_false d6
      exact ownp_index (i := (r.getD k 0)) Try.underlying155 Try.inf3 ((Pr.ownp 11 (List.map Ty.int (seenL r k))).up hs q24) (sm 3 rfl) (e9.1 hg) (by omega) (by omega)
    · intro ax tx hs okx sm d0 d1
      have e10 : At (Ty.grd (((decide ((r.getD k 0) < (0 : Int))) || (decide ((((List.length r) : Nat) : Int) ≤ (r.getD k 0)))) = false) (Ty.val (ptrAt (a9.eval (.tmp 3)) ((r.getD k 0)).toNat))) tx ax (.tmp 30) := d0 rfl
      have e8 : At (Ty.bool ((decide ((r.getD k 0) < (0 : Int))) || (decide ((((List.length r) : Nat) : Int) ≤ (r.getD k 0))))) tx ax (.tmp 28) := d1 rfl
      refine run_guard (T := (Ty.int ((seenL r k).getD ((r.getD k 0)).toNat 0))) okx rfl rfl (by decide) e8 (fun hg => ?_)
      obtain ⟨d7, d8⟩ := Bool.or_eq_false_iff.mp hg
      have d7 := of_decide_eq_false d7
      have d8 := of_decide_eq_false d8
      exact ownp_load Try.underlying3 rfl ((Pr.ownp 11 (List.map Ty.int (seenL r k))).up hs q24) (e10.1 hg) (lst_get Ty.int (seenL r k) 0 ((r.getD k 0)).toNat (by omega))
    · intro ax tx hs okx sm d0 d1
      have e11 : At (Ty.grd (((decide ((r.getD k 0) < (0 : Int))) || (decide ((((List.length r) : Nat) : Int) ≤ (r.getD k 0)))) = false) (Ty.int ((seenL r k).getD ((r.getD k 0)).toNat 0))) tx ax (.tmp 31) := d0 rfl
      have e8 : At (Ty.bool ((decide ((r.getD k 0) < (0 : Int))) || (decide ((((List.length r) : Nat) : Int) ≤ (r.getD k 0))))) tx ax (.tmp 28) := d1 rfl
      refine run_guard (T := (Ty.bool (decide ((0 : Int) < ((seenL r k).getD ((r.getD k 0)).toNat 0))))) okx rfl rfl (by decide) e8 (fun hg => ?_)
      obtain ⟨d9, d10⟩ := Bool.or_eq_false_iff.mp hg
      have d9 := of_decide_eq_false d9
      have d10 := of_decide_eq_false d10
      exact y_gtr (e11.1 hg) rfl
    · intro ax tx hs okx sm d0 d1
      have e8 : At (Ty.bool ((decide ((r.getD k 0) < (0 : Int))) || (decide ((((List.length r) : Nat) : Int) ≤ (r.getD k 0))))) tx ax (.tmp 28) := d0 rfl
      have e12 : At (Ty.grd (((decide ((r.getD k 0) < (0 : Int))) || (decide ((((List.length r) : Nat) : Int) ≤ (r.getD k 0)))) = false) (Ty.bool (decide ((0 : Int) < ((seenL r k).getD ((r.getD k 0)).toNat 0))))) tx ax (.tmp 32) := d1 rfl
      exact run_plain rfl (y_pick_or e8 rfl e12)
    intro a10 s8 D8
    have ok9 := D8.ok
    have F9 := F8.step0 D8.stp
    have q29 : At (Ty.nat k) s8 a10 (.tmp 16) := D8.kt q23 rfl
    have q30 : (Pr.ownp 11 (List.map Ty.int (seenL r k))).has s8 (a10.eval (.tmp 3)) := D8.ko q24 rfl
    have q31 : At (Ty.lst Ty.int r) s8 a10 (.tmp 0) := D8.kt q25 rfl
    have q32 : At (Ty.lst Ty.int r) s8 a10 (.tmp 14) := D8.kt q26 rfl
    have q33 : At (Ty.nat (List.length r)) s8 a10 (.tmp 15) := D8.kt q27 rfl
    have q34 : At (Ty.int (r.getD k 0)) s8 a10 (.tmp 5) := D8.kt q28 rfl
    have q35 : At (Ty.bool (((decide ((r.getD k 0) < (0 : Int))) || (decide ((((List.length r) : Nat) : Int) ≤ (r.getD k 0)))) || (decide ((0 : Int) < ((seenL r k).getD ((r.getD k 0)).toNat 0))))) s8 a10 (.tmp 33) := D8.done 13
    clear D8
    refine tn ?_
    refine cond_t q35 (fun c3 => ?_) (fun c3 => ?_)
    ·
     simp only [Bool.or_eq_true, decide_eq_true_eq] at c3
     refine wp_seq ?_
     refine reg (a := a10) (σ := s8) rfl (fun i_ => List.getD [(Ty.pr (Ty.int (2 : Int)))] i_ Pr.any) ok9 rfl ⟨?_, trivial⟩ ?_
     · intro ax tx hs okx sm
       exact run_plain rfl (y_assign rfl)
     intro a11 s9 D9
     have ok10 := D9.ok
     have F10 := F9.step0 D9.stp
     have q36 : At (Ty.int (2 : Int)) s9 a11 (.tmp 2) := D9.done 0
     clear D9
     refine tn ?_
     refine wp_ret ?_
     refine tr ?_
     refine br ?_
     refine tr ?_
     refine tr ?_
     refine br ?_
     refine tr ?_
     exact ret1 rfl ok10 F10 (cvi (by (by_cases hb : r.getD k 0 < 0 ∨ (r.length : Int) ≤ r.getD k 0; exact (not_row_bd (by omega) (by omega) (by omega) hb).symm; exact (not_row_twice (k := k) (by omega) (by omega) (by omega) (by omega) (by omega) (by omega)).symm)) q36)
    ·
     obtain ⟨d11, d12⟩ := Bool.or_eq_false_iff.mp c3
     obtain ⟨d13, d14⟩ := Bool.or_eq_false_iff.mp d11
     replace d13 := of_decide_eq_false d13
     replace d14 := of_decide_eq_false d14
     replace d12 := of_decide_eq_false d12
     have hq := seenL_bd r k (r.getD k 0).toNat
     refine wp_skip ?_
     refine tn ?_
     refine reg2 (a := a10) (σ := s8) rfl 5 (fun i_ => List.getD [(Ty.pr (Ty.int (r.getD k 0))), (Ty.pr (Ty.val (ptrAt (a10.eval (.tmp 3)) ((r.getD k 0)).toNat))), (Ty.pr (Ty.int ((seenL r k).getD ((r.getD k 0)).toNat 0))), (Ty.pr (Ty.int (((seenL r k).getD ((r.getD k 0)).toNat 0) + (1 : Int)))), (Ty.pr (Ty.val (ptrAt (a10.eval (.tmp 3)) ((r.getD k 0)).toNat)))] i_ Pr.any) ok9 rfl (by decide) rfl ⟨?_, ?_, ?_, ?_, ?_, trivial⟩ ?_
     · intro ax tx hs okx sm
       exact run_plain rfl (y_move (kp (sm 5 rfl) hs q34))
     · intro ax tx hs okx sm d0
       have e0 : At (Ty.int (r.getD k 0)) tx ax (.tmp 34) := d0 rfl
       exact run_plain rfl (ownp_index (i := (r.getD k 0)) Try.underlying155 Try.inf3 ((Pr.ownp 11 (List.map Ty.int (seenL r k))).up hs q30) (sm 3 rfl) e0 (by omega) (by omega))
     · intro ax tx hs okx sm d0
       have e1 : At (Ty.val (ptrAt (a10.eval (.tmp 3)) ((r.getD k 0)).toNat)) tx ax (.tmp 35) := d0 rfl
       exact run_plain rfl (ownp_load Try.underlying3 rfl ((Pr.ownp 11 (List.map Ty.int (seenL r k))).up hs q30) e1 (lst_get Ty.int (seenL r k) 0 ((r.getD k 0)).toNat (by omega)))
     · intro ax tx hs okx sm d0
       have e2 : At (Ty.int ((seenL r k).getD ((r.getD k 0)).toNat 0)) tx ax (.tmp 36) := d0 rfl
       exact run_plain rfl (y_add e2 rfl (w64 (by omega) (by omega)))
     · intro ax tx hs okx sm d0 d1 d2 d3 d4
       have e0 : At (Ty.int (r.getD k 0)) tx ax (.tmp 34) := d0 rfl
       have e1 : At (Ty.val (ptrAt (a10.eval (.tmp 3)) ((r.getD k 0)).toNat)) tx ax (.tmp 35) := d2 rfl
       have e2 : At (Ty.int ((seenL r k).getD ((r.getD k 0)).toNat 0)) tx ax (.tmp 36) := d3 rfl
       have e3 : At (Ty.int (((seenL r k).getD ((r.getD k 0)).toNat 0) + (1 : Int))) tx ax (.tmp 37) := d4 rfl
       exact run_plain rfl (ownp_index (i := (r.getD k 0)) Try.underlying155 Try.inf3 ((Pr.ownp 11 (List.map Ty.int (seenL r k))).up hs q30) (sm 3 rfl) e0 (by omega) (by omega))
     intro a12 s10 D10
     have ok11 := D10.ok
     have F11 := F9.step0 D10.stp
     have q37 := (Pr.ownp 11 (List.map Ty.int (seenL r k))).up D10.stp q30
     have q38 : At (Ty.nat k) s10 a12 (.tmp 16) := D10.kt q29 rfl
     have q39 : a12.eval (.tmp 3) = a10.eval (.tmp 3) := D10.same 3 rfl
     have q40 : At (Ty.lst Ty.int r) s10 a12 (.tmp 0) := D10.kt q31 rfl
     have q41 : At (Ty.lst Ty.int r) s10 a12 (.tmp 14) := D10.kt q32 rfl
     have q42 : At (Ty.nat (List.length r)) s10 a12 (.tmp 15) := D10.kt q33 rfl
     have q43 : At (Ty.int (((seenL r k).getD ((r.getD k 0)).toNat 0) + (1 : Int))) s10 a12 (.tmp 37) := D10.done 3 (by decide)
     have q44 : At (Ty.val (ptrAt (a10.eval (.tmp 3)) ((r.getD k 0)).toNat)) s10 a12 (.tmp 38) := D10.done 4 (by decide)
     clear D10
     refine tail_step0 (m := 11) (R := (fun _ τ => OwnP τ 11 (a10.eval (.tmp 3)) ((List.map Ty.int (seenL r k)).set ((r.getD k 0)).toNat (Ty.int (((seenL r k).getD ((r.getD k 0)).toNat 0) + (1 : Int)))))) rfl rfl (m_storep Try.inf3 (by decide) q37 q44 (by simp only [List.length_map, List.length_set]; omega) q43 (one_val rfl)) (fun v1 s11 hs1 r1 => ?_)
     have F12 := F11.step hs1 (by decide)
     have q45 : At (Ty.nat k) s11 a12 (.tmp 16) := kpm hs1 (by decide) rfl q38
     have q46 : At (Ty.lst Ty.int r) s11 a12 (.tmp 0) := kpm hs1 (by decide) rfl q40
     have q47 : At (Ty.lst Ty.int r) s11 a12 (.tmp 14) := kpm hs1 (by decide) rfl q41
     have q48 : At (Ty.nat (List.length r)) s11 a12 (.tmp 15) := kpm hs1 (by decide) rfl q42
     have q49 : At (Ty.int (((seenL r k).getD ((r.getD k 0)).toNat 0) + (1 : Int))) s11 a12 (.tmp 37) := kpm hs1 (by decide) rfl q43
     have q50 : (Pr.ownp 11 (List.map Ty.int ((seenL r k).set ((r.getD k 0)).toNat (((seenL r k).getD ((r.getD k 0)).toNat 0) + (1 : Int))))).has s11 (a10.eval (.tmp 3)) := (cvop (by simp) r1)
     refine wpList_nil ?_
     have q51 : (Pr.ownp 11 (List.map Ty.int ((seenL r k).set ((r.getD k 0)).toNat (((seenL r k).getD ((r.getD k 0)).toNat 0) + (1 : Int))))).has s11 (a12.eval (.tmp 3)) := al q39 q50
     refine bn ?_
     refine tn ?_
     refine reg (a := a12) (σ := s11) rfl (fun i_ => List.getD [(Ty.pr (Ty.int (((k : Nat) : Int) + (1 : Int)))), (Ty.pr (Ty.int (((k : Nat) : Int) + (1 : Int))))] i_ Pr.any) ok11 rfl ⟨?_, ?_, trivial⟩ ?_
     · intro ax tx hs okx sm
       exact run_plain rfl (y_add (kp (sm 16 rfl) hs q45) rfl (w64 (by omega) (by omega)))
     · intro ax tx hs okx sm d0
       have e0 : At (Ty.int (((k : Nat) : Int) + (1 : Int))) tx ax (.tmp 39) := d0 rfl
       exact run_plain rfl (y_move e0)
     intro a14 s12 D11
     have ok13 := D11.ok
     have F13 := F12.step0 D11.stp
     have q52 : (Pr.ownp 11 (List.map Ty.int ((seenL r k).set ((r.getD k 0)).toNat (((seenL r k).getD ((r.getD k 0)).toNat 0) + (1 : Int))))).has s12 (a14.eval (.tmp 3)) := D11.ko q51 rfl
     have q53 : At (Ty.lst Ty.int r) s12 a14 (.tmp 0) := D11.kt q46 rfl
     have q54 : At (Ty.lst Ty.int r) s12 a14 (.tmp 14) := D11.kt q47 rfl
     have q55 : At (Ty.nat (List.length r)) s12 a14 (.tmp 15) := D11.kt q48 rfl
     have q56 : At (Ty.int (((k : Nat) : Int) + (1 : Int))) s12 a14 (.tmp 16) := D11.done 1
     clear D11
     exact tn ⟨r.length - ((k+1)), by omega, s12, (k+1), rfl, F13, ok13, (cvi (by (first | rfl | omega | (simp_all; done) | (simp_all; omega))) q56), (cvop (by (exact congrArg _ (seenL_step r k (by omega) (by omega) (by omega)))) q52), q53, q54, q55, by omega, hu.step (by omega) (by omega) (by omega) (by omega) (by omega), rfl⟩
   ·
    refine wp_exit ?_
    refine tx ?_
    refine tx ?_
    refine bx ?_
    refine tn ?_
    refine wp_seq ?_
    refine reg (a := a8) (σ := s6) rfl (fun i_ => List.getD [(Ty.pr (Ty.int (0 : Int)))] i_ Pr.any) ok7 rfl ⟨?_, trivial⟩ ?_
    · intro ax tx hs okx sm
      exact run_plain rfl (y_assign rfl)
    intro a15 s13 D12
    have ok14 := D12.ok
    have F14 := F7.step0 D12.stp
    have q57 : At (Ty.int (0 : Int)) s13 a15 (.tmp 2) := D12.done 0
    clear D12
    refine tn ?_
    refine wp_ret ?_
    exact ret1 rfl ok14 F14 (cvi (by (exact (Upto.row (by have e : k = r.length := (by omega); rw [← e]; rw [e] at hu; rw [e]; exact hu) (by omega) (by omega)).symm)) q57)


set_option maxHeartbeats 4000000 in
set_option maxRecDepth 100000 in
theorem rowPlace_fn (r : List Int) (σ : GW)  (v0 : Value) (hv0 : Ty.has (Ty.lst Ty.int r) σ v0)  (hr : r.length ≤ 12) :
    FnC Try.prog 94 #[v0] σ (Ty.nat (rankL r)) := by
 refine fn_intro0 Try.func94 rfl Try.ntmps94 (Nat.le_of_ble_eq_true rfl) (fun s0 a0 hle F0 ok0 hargs => ?_)
 have p0 : At (Ty.lst Ty.int r) s0 a0 (.tmp 0) := by have e := hargs 0 _ rfl; show Ty.has _ _ _; rw [e]; exact Ty.up _ hle hv0
 have b1 := sl_le p0
 clear hargs
 refine wp_seq ?_
 refine reg (a := a0) (σ := s0) rfl (fun i_ => List.getD [(Ty.pr (Ty.int (0 : Int)))] i_ Pr.any) ok0 rfl ⟨?_, trivial⟩ ?_
 · intro ax tx hs okx sm
   exact run_plain rfl (y_assign rfl)
 intro a1 s1 D1
 have ok1 := D1.ok
 have F1 := F0.step0 D1.stp
 have q1 : At (Ty.lst Ty.int r) s1 a1 (.tmp 0) := D1.kt p0 rfl
 clear D1
 refine tn ?_
 refine wp_seq ?_
 refine reg (a := a1) (σ := s1) rfl (fun i_ => List.getD [(Ty.pr (Ty.int (0 : Int)))] i_ Pr.any) ok1 rfl ⟨?_, trivial⟩ ?_
 · intro ax tx hs okx sm
   exact run_plain rfl (y_assign rfl)
 intro a2 s2 D2
 have ok2 := D2.ok
 have F2 := F1.step0 D2.stp
 have q2 : At (Ty.lst Ty.int r) s2 a2 (.tmp 0) := D2.kt q1 rfl
 have q3 : At (Ty.int (0 : Int)) s2 a2 (.tmp 3) := D2.done 0
 clear D2
 refine tn ?_
 refine wp_seq ?_
 refine wp_seq ?_
 refine reg (a := a2) (σ := s2) rfl (fun i_ => List.getD [(Ty.pr (Ty.lst Ty.int r)), (Ty.pr (Ty.nat (List.length r))), (Ty.pr (Ty.int (0 : Int)))] i_ Pr.any) ok2 rfl ⟨?_, ?_, ?_, trivial⟩ ?_
 · intro ax tx hs okx sm
   exact run_plain rfl (y_move (kp (sm 0 rfl) hs q2))
 · intro ax tx hs okx sm d0
   have e0 : At (Ty.lst Ty.int r) tx ax (.tmp 9) := d0 rfl
   exact run_plain rfl (y_len Try.underlying34 e0)
 · intro ax tx hs okx sm
   exact run_plain rfl (y_move rfl)
 intro a3 s3 D3
 have ok3 := D3.ok
 have F3 := F2.step0 D3.stp
 have q4 : At (Ty.lst Ty.int r) s3 a3 (.tmp 0) := D3.kt q2 rfl
 have q5 : At (Ty.int (0 : Int)) s3 a3 (.tmp 3) := D3.kt q3 rfl
 have q6 : At (Ty.lst Ty.int r) s3 a3 (.tmp 9) := D3.done 0
 have q7 : At (Ty.nat (List.length r)) s3 a3 (.tmp 10) := D3.done 1
 have q8 : At (Ty.int (0 : Int)) s3 a3 (.tmp 11) := D3.done 2
 clear D3
 refine tn ?_
 refine wp_block ?_
 refine loop (fun n1 a4 w1 => ∃ (t1 : GW) (i : Nat) (q : Nat), t1.w = w1 ∧ FromL [] s0 t1 ∧ Ok 41 a4 ∧ At (Ty.nat i) t1 a4 (.tmp 11) ∧ At (Ty.nat q) t1 a4 (.tmp 3) ∧ At (Ty.lst Ty.int r) t1 a4 (.tmp 0) ∧ At (Ty.lst Ty.int r) t1 a4 (.tmp 9) ∧ At (Ty.nat (List.length r)) t1 a4 (.tmp 10) ∧ (i ≤ r.length) ∧ (q * fct (r.length - i) + rankL (r.drop i) = rankL r) ∧ n1 = r.length - i) (r.length - (0)) ?_ ?_
 ·
  exact ⟨s3, 0, 0, rfl, F3, ok3, (cvi (by (first | rfl | omega | (simp_all; done) | (simp_all; omega))) q8), (cvi (by (first | rfl | omega | (simp_all; done) | (simp_all; omega))) q5), q4, q6, q7, by omega, by simp, rfl⟩
 ·
  rintro n2 a5 w2 ⟨t2, i, q, rfl, F4, ok4, q9, q10, q11, q12, q13, hi, hq, rfl⟩
  have hpl := place_le hq
  have hrl := rank_le12 hr
  refine wp_seq ?_
  refine reg (a := a5) (σ := t2) rfl (fun i_ => List.getD [(Ty.pr (Ty.bool (decide (((i : Nat) : Int) < (((List.length r) : Nat) : Int)))))] i_ Pr.any) ok4 rfl ⟨?_, trivial⟩ ?_
  · intro ax tx hs okx sm
    exact run_plain rfl (y_lss (kp (sm 11 rfl) hs q9) (kp (sm 10 rfl) hs q13))
  intro a6 s4 D4
  have ok5 := D4.ok
  have F5 := F4.step0 D4.stp
  have q14 : At (Ty.nat i) s4 a6 (.tmp 11) := D4.kt q9 rfl
  have q15 : At (Ty.nat q) s4 a6 (.tmp 3) := D4.kt q10 rfl
  have q16 : At (Ty.lst Ty.int r) s4 a6 (.tmp 0) := D4.kt q11 rfl
  have q17 : At (Ty.lst Ty.int r) s4 a6 (.tmp 9) := D4.kt q12 rfl
  have q18 : At (Ty.nat (List.length r)) s4 a6 (.tmp 10) := D4.kt q13 rfl
  have q19 : At (Ty.bool (decide (((i : Nat) : Int) < (((List.length r) : Nat) : Int)))) s4 a6 (.tmp 12) := D4.done 0
  clear D4
  refine tn ?_
  refine wp_seq ?_
  refine cond_p (p := (((i : Nat) : Int) < (((List.length r) : Nat) : Int))) q19 (fun c1 => ?_) (fun c1 => ?_)
  ·
   have hmb := place_mul hr (by omega) hq
   refine wp_skip ?_
   refine tn ?_
   refine wp_seq ?_
   refine wp_block ?_
   refine wp_seq ?_
   refine reg (a := a6) (σ := s4) rfl (fun i_ => List.getD [(Ty.pr (Ty.nat i)), (Ty.pr (Ty.ref [(Ty.int (r.getD i 0))])), (Ty.pr (Ty.int (r.getD i 0))), (Ty.pr (Ty.nat i)), (Ty.pr (Ty.int (r.getD i 0)))] i_ Pr.any) ok5 rfl ⟨?_, ?_, ?_, ?_, ?_, trivial⟩ ?_
   · intro ax tx hs okx sm
     exact run_plain rfl (y_move (kp (sm 11 rfl) hs q14))
   · intro ax tx hs okx sm
     exact run_plain rfl (y_index1 Try.underlying34 Try.inf3 (kp (sm 9 rfl) hs q17) (kp (sm 11 rfl) hs q14) (by omega) (lst_get Ty.int r 0 i (by omega)))
   · intro ax tx hs okx sm d0
     have e1 : At (Ty.ref [(Ty.int (r.getD i 0))]) tx ax (.tmp 14) := d0 rfl
     exact run_plain rfl (y_load Try.underlying3 rfl e1 rfl)
   · intro ax tx hs okx sm d0 d1 d2 d3
     have e0 : At (Ty.nat i) tx ax (.tmp 13) := d0 rfl
     have e1 : At (Ty.ref [(Ty.int (r.getD i 0))]) tx ax (.tmp 14) := d2 rfl
     have e2 : At (Ty.int (r.getD i 0)) tx ax (.tmp 15) := d3 rfl
     exact run_plain rfl (y_assign e0)
   · intro ax tx hs okx sm d0 d1 d2 d3 d4 d5
     have e2 : At (Ty.int (r.getD i 0)) tx ax (.tmp 15) := d0 rfl
     have e3 : At (Ty.nat i) tx ax (.tmp 4) := d1 rfl
     have e0 : At (Ty.nat i) tx ax (.tmp 13) := d2 rfl
     have e1 : At (Ty.ref [(Ty.int (r.getD i 0))]) tx ax (.tmp 14) := d3 rfl
     exact run_plain rfl (y_assign e2)
   intro a7 s5 D5
   have ok6 := D5.ok
   have F6 := F5.step0 D5.stp
   have q20 : At (Ty.nat i) s5 a7 (.tmp 11) := D5.kt q14 rfl
   have q21 : At (Ty.nat q) s5 a7 (.tmp 3) := D5.kt q15 rfl
   have q22 : At (Ty.lst Ty.int r) s5 a7 (.tmp 0) := D5.kt q16 rfl
   have q23 : At (Ty.lst Ty.int r) s5 a7 (.tmp 9) := D5.kt q17 rfl
   have q24 : At (Ty.nat (List.length r)) s5 a7 (.tmp 10) := D5.kt q18 rfl
   have q25 : At (Ty.nat i) s5 a7 (.tmp 4) := D5.done 3
   have q26 : At (Ty.int (r.getD i 0)) s5 a7 (.tmp 5) := D5.done 4
   clear D5
   refine tn ?_
   refine wp_seq ?_
   refine reg (a := a7) (σ := s5) rfl (fun i_ => List.getD [(Ty.pr (Ty.int (0 : Int)))] i_ Pr.any) ok6 rfl ⟨?_, trivial⟩ ?_
   · intro ax tx hs okx sm
     exact run_plain rfl (y_assign rfl)
   intro a8 s6 D6
   have ok7 := D6.ok
   have F7 := F6.step0 D6.stp
   have q27 : At (Ty.nat i) s6 a8 (.tmp 11) := D6.kt q20 rfl
   have q28 : At (Ty.nat q) s6 a8 (.tmp 3) := D6.kt q21 rfl
   have q29 : At (Ty.lst Ty.int r) s6 a8 (.tmp 0) := D6.kt q22 rfl
   have q30 : At (Ty.lst Ty.int r) s6 a8 (.tmp 9) := D6.kt q23 rfl
   have q31 : At (Ty.nat (List.length r)) s6 a8 (.tmp 10) := D6.kt q24 rfl
   have q32 : At (Ty.nat i) s6 a8 (.tmp 4) := D6.kt q25 rfl
   have q33 : At (Ty.int (r.getD i 0)) s6 a8 (.tmp 5) := D6.kt q26 rfl
   have q34 : At (Ty.int (0 : Int)) s6 a8 (.tmp 6) := D6.done 0
   clear D6
   refine tn ?_
   refine wp_seq ?_
   refine wp_seq ?_
   refine reg (a := a8) (σ := s6) rfl (fun i_ => List.getD [(Ty.pr (Ty.lst Ty.int r)), (Ty.pr (Ty.nat i)), (Ty.pr (Ty.nat (i + 1))), (Ty.pr (Ty.lst Ty.int (r.drop (i + 1)))), (Ty.pr (Ty.nat (List.length (r.drop (i + 1))))), (Ty.pr (Ty.int (0 : Int)))] i_ Pr.any) ok7 rfl ⟨?_, ?_, ?_, ?_, ?_, ?_, trivial⟩ ?_
   · intro ax tx hs okx sm
     exact run_plain rfl (y_move (kp (sm 0 rfl) hs q29))
   · intro ax tx hs okx sm
     exact run_plain rfl (y_move (kp (sm 4 rfl) hs q32))
   · intro ax tx hs okx sm d0
     have e1 : At (Ty.nat i) tx ax (.tmp 17) := d0 rfl
     exact run_plain rfl ((y_add e1 rfl (w64 (by omega) (by omega))).mono (fun τ _ h => cvi (σ := τ) (by first | omega | exact (Int.natCast_mul _ _).symm) h))
   · intro ax tx hs okx sm d0 d1
     have e0 : At (Ty.lst Ty.int r) tx ax (.tmp 16) := d0 rfl
     have e2 : At (Ty.nat (i + 1)) tx ax (.tmp 18) := d1 rfl
     exact run_plain rfl (y_drop Try.underlying34 Try.inf3 e0 e2 (by omega))
   · intro ax tx hs okx sm d0
     have e3 : At (Ty.lst Ty.int (r.drop (i + 1))) tx ax (.tmp 19) := d0 rfl
     exact run_plain rfl (y_len Try.underlying34 e3)
   · intro ax tx hs okx sm
     exact run_plain rfl (y_move rfl)
   intro a9 s7 D7
   have ok8 := D7.ok
   have F8 := F7.step0 D7.stp
   have q35 : At (Ty.nat i) s7 a9 (.tmp 11) := D7.kt q27 rfl
   have q36 : At (Ty.nat q) s7 a9 (.tmp 3) := D7.kt q28 rfl
   have q37 : At (Ty.lst Ty.int r) s7 a9 (.tmp 0) := D7.kt q29 rfl
   have q38 : At (Ty.lst Ty.int r) s7 a9 (.tmp 9) := D7.kt q30 rfl
   have q39 : At (Ty.nat (List.length r)) s7 a9 (.tmp 10) := D7.kt q31 rfl
   have q40 : At (Ty.nat i) s7 a9 (.tmp 4) := D7.kt q32 rfl
   have q41 : At (Ty.int (r.getD i 0)) s7 a9 (.tmp 5) := D7.kt q33 rfl
   have q42 : At (Ty.int (0 : Int)) s7 a9 (.tmp 6) := D7.kt q34 rfl
   have q43 : At (Ty.lst Ty.int (r.drop (i + 1))) s7 a9 (.tmp 19) := D7.done 3
   have b2 := sl_le q43
   have q44 : At (Ty.nat (List.length (r.drop (i + 1)))) s7 a9 (.tmp 20) := D7.done 4
   have q45 : At (Ty.int (0 : Int)) s7 a9 (.tmp 21) := D7.done 5
   clear D7
   refine tn ?_
   refine wp_block ?_
   refine loop (fun n3 a10 w3 => ∃ (t3 : GW) (j : Nat), t3.w = w3 ∧ FromL [] s0 t3 ∧ Ok 41 a10 ∧ At (Ty.nat j) t3 a10 (.tmp 21) ∧ At (Ty.nat (lessN (r.getD i 0) ((r.drop (i + 1)).take j))) t3 a10 (.tmp 6) ∧ At (Ty.nat i) t3 a10 (.tmp 11) ∧ At (Ty.nat q) t3 a10 (.tmp 3) ∧ At (Ty.lst Ty.int r) t3 a10 (.tmp 0) ∧ At (Ty.lst Ty.int r) t3 a10 (.tmp 9) ∧ At (Ty.nat (List.length r)) t3 a10 (.tmp 10) ∧ At (Ty.nat i) t3 a10 (.tmp 4) ∧ At (Ty.int (r.getD i 0)) t3 a10 (.tmp 5) ∧ At (Ty.lst Ty.int (r.drop (i + 1))) t3 a10 (.tmp 19) ∧ At (Ty.nat (List.length (r.drop (i + 1)))) t3 a10 (.tmp 20) ∧ (j ≤ (r.drop (i + 1)).length) ∧ n3 = (r.drop (i + 1)).length - j) ((r.drop (i + 1)).length - (0)) ?_ ?_
   ·
    exact ⟨s7, 0, rfl, F8, ok8, (cvi (by (first | rfl | omega | (simp_all; done) | (simp_all; omega))) q45), (cvi (by (simp [lessN])) q42), q35, q36, q37, q38, q39, q40, q41, q43, q44, by omega, rfl⟩
   ·
    rintro n4 a11 w4 ⟨t4, j, rfl, F9, ok9, q46, q47, q48, q49, q50, q51, q52, q53, q54, q55, q56, hj, rfl⟩
    have hll := lessN_le (r.getD i 0) ((r.drop (i + 1)).take j)
    have htl := List.length_take_le j (r.drop (i + 1))
    have hdl : (r.drop (i + 1)).length = r.length - (i + 1) := List.length_drop
    refine wp_seq ?_
    refine reg (a := a11) (σ := t4) rfl (fun i_ => List.getD [(Ty.pr (Ty.bool (decide (((j : Nat) : Int) < (((List.length (r.drop (i + 1))) : Nat) : Int)))))] i_ Pr.any) ok9 rfl ⟨?_, trivial⟩ ?_
    · intro ax tx hs okx sm
      exact run_plain rfl (y_lss (kp (sm 21 rfl) hs q46) (kp (sm 20 rfl) hs q56))
    intro a12 s8 D8
    have ok10 := D8.ok
    have F10 := F9.step0 D8.stp
    have q57 : At (Ty.nat j) s8 a12 (.tmp 21) := D8.kt q46 rfl
    have q58 : At (Ty.nat (lessN (r.getD i 0) ((r.drop (i + 1)).take j))) s8 a12 (.tmp 6) := D8.kt q47 rfl
    have q59 : At (Ty.nat i) s8 a12 (.tmp 11) := D8.kt q48 rfl
    have q60 : At (Ty.nat q) s8 a12 (.tmp 3) := D8.kt q49 rfl
    have q61 : At (Ty.lst Ty.int r) s8 a12 (.tmp 0) := D8.kt q50 rfl
    have q62 : At (Ty.lst Ty.int r) s8 a12 (.tmp 9) := D8.kt q51 rfl
    have q63 : At (Ty.nat (List.length r)) s8 a12 (.tmp 10) := D8.kt q52 rfl
    have q64 : At (Ty.nat i) s8 a12 (.tmp 4) := D8.kt q53 rfl
    have q65 : At (Ty.int (r.getD i 0)) s8 a12 (.tmp 5) := D8.kt q54 rfl
    have q66 : At (Ty.lst Ty.int (r.drop (i + 1))) s8 a12 (.tmp 19) := D8.kt q55 rfl
    have q67 : At (Ty.nat (List.length (r.drop (i + 1)))) s8 a12 (.tmp 20) := D8.kt q56 rfl
    have q68 : At (Ty.bool (decide (((j : Nat) : Int) < (((List.length (r.drop (i + 1))) : Nat) : Int)))) s8 a12 (.tmp 22) := D8.done 0
    clear D8
    refine tn ?_
    refine wp_seq ?_
    refine cond_p (p := (((j : Nat) : Int) < (((List.length (r.drop (i + 1))) : Nat) : Int))) q68 (fun c2 => ?_) (fun c2 => ?_)
    ·
     refine wp_skip ?_
     refine tn ?_
     refine wp_seq ?_
     refine wp_block ?_
     refine wp_seq ?_
     refine reg (a := a12) (σ := s8) rfl (fun i_ => List.getD [(Ty.pr (Ty.ref [(Ty.int ((r.drop (i + 1)).getD j 0))])), (Ty.pr (Ty.int ((r.drop (i + 1)).getD j 0))), (Ty.pr (Ty.int ((r.drop (i + 1)).getD j 0)))] i_ Pr.any) ok10 rfl ⟨?_, ?_, ?_, trivial⟩ ?_
     · intro ax tx hs okx sm
       exact run_plain rfl (y_index1 Try.underlying34 Try.inf3 (kp (sm 19 rfl) hs q66) (kp (sm 21 rfl) hs q57) (by omega) (lst_get Ty.int (r.drop (i + 1)) 0 j (by omega)))
     · intro ax tx hs okx sm d0
       have e0 : At (Ty.ref [(Ty.int ((r.drop (i + 1)).getD j 0))]) tx ax (.tmp 23) := d0 rfl
       exact run_plain rfl (y_load Try.underlying3 rfl e0 rfl)
     · intro ax tx hs okx sm d0 d1 d2
       have e1 : At (Ty.int ((r.drop (i + 1)).getD j 0)) tx ax (.tmp 24) := d0 rfl
       have e0 : At (Ty.ref [(Ty.int ((r.drop (i + 1)).getD j 0))]) tx ax (.tmp 23) := d1 rfl
       exact run_plain rfl (y_assign e1)
     intro a13 s9 D9
     have ok11 := D9.ok
     have F11 := F10.step0 D9.stp
     have q69 : At (Ty.nat j) s9 a13 (.tmp 21) := D9.kt q57 rfl
     have q70 : At (Ty.nat (lessN (r.getD i 0) ((r.drop (i + 1)).take j))) s9 a13 (.tmp 6) := D9.kt q58 rfl
     have q71 : At (Ty.nat i) s9 a13 (.tmp 11) := D9.kt q59 rfl
     have q72 : At (Ty.nat q) s9 a13 (.tmp 3) := D9.kt q60 rfl
     have q73 : At (Ty.lst Ty.int r) s9 a13 (.tmp 0) := D9.kt q61 rfl
     have q74 : At (Ty.lst Ty.int r) s9 a13 (.tmp 9) := D9.kt q62 rfl
     have q75 : At (Ty.nat (List.length r)) s9 a13 (.tmp 10) := D9.kt q63 rfl
     have q76 : At (Ty.nat i) s9 a13 (.tmp 4) := D9.kt q64 rfl
     have q77 : At (Ty.int (r.getD i 0)) s9 a13 (.tmp 5) := D9.kt q65 rfl
     have q78 : At (Ty.lst Ty.int (r.drop (i + 1))) s9 a13 (.tmp 19) := D9.kt q66 rfl
     have q79 : At (Ty.nat (List.length (r.drop (i + 1)))) s9 a13 (.tmp 20) := D9.kt q67 rfl
     have q80 : At (Ty.int ((r.drop (i + 1)).getD j 0)) s9 a13 (.tmp 8) := D9.done 2
     clear D9
     refine tn ?_
     refine wp_seq ?_
     refine reg (a := a13) (σ := s9) rfl (fun i_ => List.getD [(Ty.pr (Ty.int ((r.drop (i + 1)).getD j 0))), (Ty.pr (Ty.int (r.getD i 0))), (Ty.pr (Ty.bool (decide (((r.drop (i + 1)).getD j 0) < (r.getD i 0)))))] i_ Pr.any) ok11 rfl ⟨?_, ?_, ?_, trivial⟩ ?_
     · intro ax tx hs okx sm
       exact run_plain rfl (y_move (kp (sm 8 rfl) hs q80))
     · intro ax tx hs okx sm
       exact run_plain rfl (y_move (kp (sm 5 rfl) hs q77))
     · intro ax tx hs okx sm d0 d1
       have e0 : At (Ty.int ((r.drop (i + 1)).getD j 0)) tx ax (.tmp 25) := d0 rfl
       have e1 : At (Ty.int (r.getD i 0)) tx ax (.tmp 26) := d1 rfl
       exact run_plain rfl (y_lss e0 e1)
     intro a14 s10 D10
     have ok12 := D10.ok
     have F12 := F11.step0 D10.stp
     have q81 : At (Ty.nat j) s10 a14 (.tmp 21) := D10.kt q69 rfl
     have q82 : At (Ty.nat (lessN (r.getD i 0) ((r.drop (i + 1)).take j))) s10 a14 (.tmp 6) := D10.kt q70 rfl
     have q83 : At (Ty.nat i) s10 a14 (.tmp 11) := D10.kt q71 rfl
     have q84 : At (Ty.nat q) s10 a14 (.tmp 3) := D10.kt q72 rfl
     have q85 : At (Ty.lst Ty.int r) s10 a14 (.tmp 0) := D10.kt q73 rfl
     have q86 : At (Ty.lst Ty.int r) s10 a14 (.tmp 9) := D10.kt q74 rfl
     have q87 : At (Ty.nat (List.length r)) s10 a14 (.tmp 10) := D10.kt q75 rfl
     have q88 : At (Ty.nat i) s10 a14 (.tmp 4) := D10.kt q76 rfl
     have q89 : At (Ty.int (r.getD i 0)) s10 a14 (.tmp 5) := D10.kt q77 rfl
     have q90 : At (Ty.lst Ty.int (r.drop (i + 1))) s10 a14 (.tmp 19) := D10.kt q78 rfl
     have q91 : At (Ty.nat (List.length (r.drop (i + 1)))) s10 a14 (.tmp 20) := D10.kt q79 rfl
     have q92 : At (Ty.bool (decide (((r.drop (i + 1)).getD j 0) < (r.getD i 0)))) s10 a14 (.tmp 27) := D10.done 2
     clear D10
     refine tn ?_
     refine cond_p (p := (((r.drop (i + 1)).getD j 0) < (r.getD i 0))) q92 (fun c3 => ?_) (fun c3 => ?_)
     ·
      refine reg (a := a14) (σ := s10) rfl (fun i_ => List.getD [(Ty.pr (Ty.nat (lessN (r.getD i 0) ((r.drop (i + 1)).take j)))), (Ty.pr (Ty.nat ((lessN (r.getD i 0) ((r.drop (i + 1)).take j)) + 1))), (Ty.pr (Ty.nat ((lessN (r.getD i 0) ((r.drop (i + 1)).take j)) + 1)))] i_ Pr.any) ok12 rfl ⟨?_, ?_, ?_, trivial⟩ ?_
      · intro ax tx hs okx sm
        exact run_plain rfl (y_move (kp (sm 6 rfl) hs q82))
      · intro ax tx hs okx sm d0
        have e0 : At (Ty.nat (lessN (r.getD i 0) ((r.drop (i + 1)).take j))) tx ax (.tmp 28) := d0 rfl
        exact run_plain rfl ((y_add e0 rfl (w64 (by omega) (by omega))).mono (fun τ _ h => cvi (σ := τ) (by first | omega | exact (Int.natCast_mul _ _).symm) h))
      · intro ax tx hs okx sm d0 d1 d2
        have e1 : At (Ty.nat ((lessN (r.getD i 0) ((r.drop (i + 1)).take j)) + 1)) tx ax (.tmp 29) := d0 rfl
        have e0 : At (Ty.nat (lessN (r.getD i 0) ((r.drop (i + 1)).take j))) tx ax (.tmp 28) := d1 rfl
        exact run_plain rfl (y_assign e1)
      intro a15 s11 D11
      have ok13 := D11.ok
      have F13 := F12.step0 D11.stp
      have q93 : At (Ty.nat j) s11 a15 (.tmp 21) := D11.kt q81 rfl
      have q94 : At (Ty.nat i) s11 a15 (.tmp 11) := D11.kt q83 rfl
      have q95 : At (Ty.nat q) s11 a15 (.tmp 3) := D11.kt q84 rfl
      have q96 : At (Ty.lst Ty.int r) s11 a15 (.tmp 0) := D11.kt q85 rfl
      have q97 : At (Ty.lst Ty.int r) s11 a15 (.tmp 9) := D11.kt q86 rfl
      have q98 : At (Ty.nat (List.length r)) s11 a15 (.tmp 10) := D11.kt q87 rfl
      have q99 : At (Ty.nat i) s11 a15 (.tmp 4) := D11.kt q88 rfl
      have q100 : At (Ty.int (r.getD i 0)) s11 a15 (.tmp 5) := D11.kt q89 rfl
      have q101 : At (Ty.lst Ty.int (r.drop (i + 1))) s11 a15 (.tmp 19) := D11.kt q90 rfl
      have q102 : At (Ty.nat (List.length (r.drop (i + 1)))) s11 a15 (.tmp 20) := D11.kt q91 rfl
      have q103 : At (Ty.nat ((lessN (r.getD i 0) ((r.drop (i + 1)).take j)) + 1)) s11 a15 (.tmp 6) := D11.done 2
      clear D11
      refine bn ?_
      refine tn ?_
      refine reg (a := a15) (σ := s11) rfl (fun i_ => List.getD [(Ty.pr (Ty.nat (j + 1))), (Ty.pr (Ty.nat (j + 1)))] i_ Pr.any) ok13 rfl ⟨?_, ?_, trivial⟩ ?_
      · intro ax tx hs okx sm
        exact run_plain rfl ((y_add (kp (sm 21 rfl) hs q93) rfl (w64 (by omega) (by omega))).mono (fun τ _ h => cvi (σ := τ) (by first | omega | exact (Int.natCast_mul _ _).symm) h))
      · intro ax tx hs okx sm d0
        have e0 : At (Ty.nat (j + 1)) tx ax (.tmp 30) := d0 rfl
        exact run_plain rfl (y_move e0)
      intro a16 s12 D12
      have ok14 := D12.ok
      have F14 := F13.step0 D12.stp
      have q104 : At (Ty.nat i) s12 a16 (.tmp 11) := D12.kt q94 rfl
      have q105 : At (Ty.nat q) s12 a16 (.tmp 3) := D12.kt q95 rfl
      have q106 : At (Ty.lst Ty.int r) s12 a16 (.tmp 0) := D12.kt q96 rfl
      have q107 : At (Ty.lst Ty.int r) s12 a16 (.tmp 9) := D12.kt q97 rfl
      have q108 : At (Ty.nat (List.length r)) s12 a16 (.tmp 10) := D12.kt q98 rfl
      have q109 : At (Ty.nat i) s12 a16 (.tmp 4) := D12.kt q99 rfl
      have q110 : At (Ty.int (r.getD i 0)) s12 a16 (.tmp 5) := D12.kt q100 rfl
      have q111 : At (Ty.lst Ty.int (r.drop (i + 1))) s12 a16 (.tmp 19) := D12.kt q101 rfl
      have q112 : At (Ty.nat (List.length (r.drop (i + 1)))) s12 a16 (.tmp 20) := D12.kt q102 rfl
      have q113 : At (Ty.nat ((lessN (r.getD i 0) ((r.drop (i + 1)).take j)) + 1)) s12 a16 (.tmp 6) := D12.kt q103 rfl
      have q114 : At (Ty.nat (j + 1)) s12 a16 (.tmp 21) := D12.done 1
      clear D12
      exact tn ⟨(r.drop (i + 1)).length - ((j+1)), by omega, s12, (j+1), rfl, F14, ok14, (cvi (by (first | rfl | omega | (simp_all; done) | (simp_all; omega))) q114), (cvi (by (rw [lessN_snoc _ _ _ (by omega), if_pos (by assumption)])) q113), q104, q105, q106, q107, q108, q109, q110, q111, q112, by omega, rfl⟩
     ·
      refine wp_skip ?_
      refine bn ?_
      refine tn ?_
      refine reg (a := a14) (σ := s10) rfl (fun i_ => List.getD [(Ty.pr (Ty.nat (j + 1))), (Ty.pr (Ty.nat (j + 1)))] i_ Pr.any) ok12 rfl ⟨?_, ?_, trivial⟩ ?_
      · intro ax tx hs okx sm
        exact run_plain rfl ((y_add (kp (sm 21 rfl) hs q81) rfl (w64 (by omega) (by omega))).mono (fun τ _ h => cvi (σ := τ) (by first | omega | exact (Int.natCast_mul _ _).symm) h))
      · intro ax tx hs okx sm d0
        have e0 : At (Ty.nat (j + 1)) tx ax (.tmp 30) := d0 rfl
        exact run_plain rfl (y_move e0)
      intro a17 s13 D13
      have ok15 := D13.ok
      have F15 := F12.step0 D13.stp
      have q115 : At (Ty.nat (lessN (r.getD i 0) ((r.drop (i + 1)).take j))) s13 a17 (.tmp 6) := D13.kt q82 rfl
      have q116 : At (Ty.nat i) s13 a17 (.tmp 11) := D13.kt q83 rfl
      have q117 : At (Ty.nat q) s13 a17 (.tmp 3) := D13.kt q84 rfl
      have q118 : At (Ty.lst Ty.int r) s13 a17 (.tmp 0) := D13.kt q85 rfl
      have q119 : At (Ty.lst Ty.int r) s13 a17 (.tmp 9) := D13.kt q86 rfl
      have q120 : At (Ty.nat (List.length r)) s13 a17 (.tmp 10) := D13.kt q87 rfl
      have q121 : At (Ty.nat i) s13 a17 (.tmp 4) := D13.kt q88 rfl
      have q122 : At (Ty.int (r.getD i 0)) s13 a17 (.tmp 5) := D13.kt q89 rfl
      have q123 : At (Ty.lst Ty.int (r.drop (i + 1))) s13 a17 (.tmp 19) := D13.kt q90 rfl
      have q124 : At (Ty.nat (List.length (r.drop (i + 1)))) s13 a17 (.tmp 20) := D13.kt q91 rfl
      have q125 : At (Ty.nat (j + 1)) s13 a17 (.tmp 21) := D13.done 1
      clear D13
      exact tn ⟨(r.drop (i + 1)).length - ((j+1)), by omega, s13, (j+1), rfl, F15, ok15, (cvi (by (first | rfl | omega | (simp_all; done) | (simp_all; omega))) q125), (cvi (by (rw [lessN_snoc _ _ _ (by omega), if_neg (by assumption)]; rfl)) q115), q116, q117, q118, q119, q120, q121, q122, q123, q124, by omega, rfl⟩
    ·
     refine wp_exit ?_
     refine tx ?_
     refine tx ?_
     refine bx ?_
     refine tn ?_
     refine reg (a := a12) (σ := s8) rfl (fun i_ => List.getD [(Ty.pr (Ty.nat q)), (Ty.pr (Ty.lst Ty.int r)), (Ty.pr (Ty.nat (List.length r))), (Ty.pr (Ty.nat i)), (Ty.pr (Ty.nat ((List.length r) - i))), (Ty.pr (Ty.nat (q * ((List.length r) - i)))), (Ty.pr (Ty.nat (lessN (r.getD i 0) ((r.drop (i + 1)).take j)))), (Ty.pr (Ty.nat ((q * ((List.length r) - i)) + (lessN (r.getD i 0) ((r.drop (i + 1)).take j))))), (Ty.pr (Ty.nat ((q * ((List.length r) - i)) + (lessN (r.getD i 0) ((r.drop (i + 1)).take j)))))] i_ Pr.any) ok10 rfl ⟨?_, ?_, ?_, ?_, ?_, ?_, ?_, ?_, ?_, trivial⟩ ?_
     · intro ax tx hs okx sm
       exact run_plain rfl (y_move (kp (sm 3 rfl) hs q60))
     · intro ax tx hs okx sm
       exact run_plain rfl (y_move (kp (sm 0 rfl) hs q61))
     · intro ax tx hs okx sm d0
       have e1 : At (Ty.lst Ty.int r) tx ax (.tmp 32) := d0 rfl
       exact run_plain rfl (y_len Try.underlying34 e1)
     · intro ax tx hs okx sm
       exact run_plain rfl (y_move (kp (sm 4 rfl) hs q64))
     · intro ax tx hs okx sm d0 d1
       have e2 : At (Ty.nat (List.length r)) tx ax (.tmp 33) := d0 rfl
       have e3 : At (Ty.nat i) tx ax (.tmp 34) := d1 rfl
       exact run_plain rfl ((y_sub e2 e3 (w64 (by omega) (by omega))).mono (fun τ _ h => cvi (σ := τ) (by omega) h))
     · intro ax tx hs okx sm d0 d1
       have e0 : At (Ty.nat q) tx ax (.tmp 31) := d0 rfl
       have e4 : At (Ty.nat ((List.length r) - i)) tx ax (.tmp 35) := d1 rfl
       exact run_plain rfl ((y_mul e0 e4 (w64 (by omega) (by omega))).mono (fun τ _ h => cvi (σ := τ) (by first | omega | exact (Int.natCast_mul _ _).symm) h))
     · intro ax tx hs okx sm
       exact run_plain rfl (y_move (kp (sm 6 rfl) hs q58))
     · intro ax tx hs okx sm d0 d1
       have e5 : At (Ty.nat (q * ((List.length r) - i))) tx ax (.tmp 36) := d0 rfl
       have e6 : At (Ty.nat (lessN (r.getD i 0) ((r.drop (i + 1)).take j))) tx ax (.tmp 37) := d1 rfl
       exact run_plain rfl ((y_add e5 e6 (w64 (by omega) (by omega))).mono (fun τ _ h => cvi (σ := τ) (by first | omega | exact (Int.natCast_mul _ _).symm) h))
     · intro ax tx hs okx sm d0 d1 d2 d3 d4 d5 d6 d7 d8
       have e7 : At (Ty.nat ((q * ((List.length r) - i)) + (lessN (r.getD i 0) ((r.drop (i + 1)).take j)))) tx ax (.tmp 38) := d0 rfl
       have e0 : At (Ty.nat q) tx ax (.tmp 31) := d1 rfl
       have e1 : At (Ty.lst Ty.int r) tx ax (.tmp 32) := d2 rfl
       have e2 : At (Ty.nat (List.length r)) tx ax (.tmp 33) := d3 rfl
       have e3 : At (Ty.nat i) tx ax (.tmp 34) := d4 rfl
       have e4 : At (Ty.nat ((List.length r) - i)) tx ax (.tmp 35) := d5 rfl
       have e5 : At (Ty.nat (q * ((List.length r) - i))) tx ax (.tmp 36) := d6 rfl
       have e6 : At (Ty.nat (lessN (r.getD i 0) ((r.drop (i + 1)).take j))) tx ax (.tmp 37) := d7 rfl
       exact run_plain rfl (y_assign e7)
     intro a18 s14 D14
     have ok16 := D14.ok
     have F16 := F10.step0 D14.stp
     have q126 : At (Ty.nat i) s14 a18 (.tmp 11) := D14.kt q59 rfl
     have q127 : At (Ty.lst Ty.int r) s14 a18 (.tmp 0) := D14.kt q61 rfl
     have q128 : At (Ty.lst Ty.int r) s14 a18 (.tmp 9) := D14.kt q62 rfl
     have q129 : At (Ty.nat (List.length r)) s14 a18 (.tmp 10) := D14.kt q63 rfl
     have q130 : At (Ty.nat ((q * ((List.length r) - i)) + (lessN (r.getD i 0) ((r.drop (i + 1)).take j)))) s14 a18 (.tmp 3) := D14.done 8
     clear D14
     refine bn ?_
     refine tn ?_
     refine reg (a := a18) (σ := s14) rfl (fun i_ => List.getD [(Ty.pr (Ty.nat (i + 1))), (Ty.pr (Ty.nat (i + 1)))] i_ Pr.any) ok16 rfl ⟨?_, ?_, trivial⟩ ?_
     · intro ax tx hs okx sm
       exact run_plain rfl ((y_add (kp (sm 11 rfl) hs q126) rfl (w64 (by omega) (by omega))).mono (fun τ _ h => cvi (σ := τ) (by first | omega | exact (Int.natCast_mul _ _).symm) h))
     · intro ax tx hs okx sm d0
       have e0 : At (Ty.nat (i + 1)) tx ax (.tmp 39) := d0 rfl
       exact run_plain rfl (y_move e0)
     intro a19 s15 D15
     have ok17 := D15.ok
     have F17 := F16.step0 D15.stp
     have q131 : At (Ty.lst Ty.int r) s15 a19 (.tmp 0) := D15.kt q127 rfl
     have q132 : At (Ty.lst Ty.int r) s15 a19 (.tmp 9) := D15.kt q128 rfl
     have q133 : At (Ty.nat (List.length r)) s15 a19 (.tmp 10) := D15.kt q129 rfl
     have q134 : At (Ty.nat ((q * ((List.length r) - i)) + (lessN (r.getD i 0) ((r.drop (i + 1)).take j)))) s15 a19 (.tmp 3) := D15.kt q130 rfl
     have q135 : At (Ty.nat (i + 1)) s15 a19 (.tmp 11) := D15.done 1
     clear D15
     obtain rfl : j = (r.drop (i + 1)).length := (by omega)
     exact tn ⟨r.length - ((i+1)), by omega, s15, (i+1), (q * (r.length - i) + lessN (r.getD i 0) (r.drop (i + 1))), rfl, F17, ok17, (cvi (by (first | rfl | omega | (simp_all; done) | (simp_all; omega))) q135), (cvi (by (rw [List.take_length])) q134), q131, q132, q133, by omega, place_step (by omega) hq, rfl⟩
  ·
   refine wp_exit ?_
   refine tx ?_
   refine tx ?_
   refine bx ?_
   refine tn ?_
   refine wp_seq ?_
   refine reg (a := a6) (σ := s4) rfl (fun i_ => List.getD [(Ty.pr (Ty.nat q)), (Ty.pr (Ty.nat q))] i_ Pr.any) ok5 rfl ⟨?_, ?_, trivial⟩ ?_
   · intro ax tx hs okx sm
     exact run_plain rfl (y_move (kp (sm 3 rfl) hs q15))
   · intro ax tx hs okx sm d0 d1
     have e0 : At (Ty.nat q) tx ax (.tmp 40) := d0 rfl
     exact run_plain rfl (y_assign e0)
   intro a20 s16 D16
   have ok18 := D16.ok
   have F18 := F5.step0 D16.stp
   have q136 : At (Ty.nat q) s16 a20 (.tmp 2) := D16.done 1
   clear D16
   refine tn ?_
   refine wp_ret ?_
   exact retL1 rfl ok18 F18 (cvi (by (obtain rfl : i = r.length := (by omega); exact congrArg _ (place_end hq))) q136)


set_option maxHeartbeats 4000000 in
set_option maxRecDepth 100000 in
theorem rowRank_fn (r : List Int) (σ : GW)  (v0 : Value) (hv0 : Ty.has (Ty.lst Ty.int r) σ v0)   :
    FnC Try.prog 41 #[v0] σ (Ty.tup2 (Ty.nat (if rowMay r = 0 then rankL r else 0)) (Ty.int (rowMay r))) := by
 refine fn_intro0 Try.func41 rfl Try.ntmps41 (Nat.le_of_ble_eq_true rfl) (fun s0 a0 hle F0 ok0 hargs => ?_)
 have p0 : At (Ty.lst Ty.int r) s0 a0 (.tmp 0) := by have e := hargs 0 _ rfl; show Ty.has _ _ _; rw [e]; exact Ty.up _ hle hv0
 have b1 := sl_le p0
 clear hargs
 refine wp_seq ?_
 refine reg (a := a0) (σ := s0) rfl (fun i_ => List.getD [(Ty.pr (Ty.int (0 : Int))), (Ty.pr (Ty.int (0 : Int)))] i_ Pr.any) ok0 rfl ⟨?_, ?_, trivial⟩ ?_
 · intro ax tx hs okx sm
   exact run_plain rfl (y_assign rfl)
 · intro ax tx hs okx sm d0
   have e0 : At (Ty.int (0 : Int)) tx ax (.tmp 2) := d0 rfl
   exact run_plain rfl (y_assign rfl)
 intro a1 s1 D1
 have ok1 := D1.ok
 have F1 := F0.step0 D1.stp
 have q1 : At (Ty.lst Ty.int r) s1 a1 (.tmp 0) := D1.kt p0 rfl
 clear D1
 refine tn ?_
 refine wp_seq ?_
 refine wp_seq ?_
 refine reg (a := a1) (σ := s1) rfl (fun i_ => List.getD [(Ty.pr (Ty.lst Ty.int r)), (Ty.pr (Ty.int (rowMay r))), (Ty.pr (Ty.int (rowMay r)))] i_ Pr.any) ok1 rfl ⟨?_, ?_, ?_, trivial⟩ ?_
 · intro ax tx hs okx sm
   exact run_plain rfl (y_move (kp (sm 0 rfl) hs q1))
 · intro ax tx hs okx sm d0
   have e0 : At (Ty.lst Ty.int r) tx ax (.tmp 5) := d0 rfl
   exact run_plain rfl (y_call #[ax.eval (.tmp 5)] Try.func44 rfl rfl (by simp only [List.map_toArray, List.map_cons, List.map_nil]) (rowCheck_fn (r) _ _ e0 ))
 · intro ax tx hs okx sm d0 d1 d2 d3
   have e1 : At (Ty.int (rowMay r)) tx ax (.tmp 6) := d0 rfl
   have e0 : At (Ty.lst Ty.int r) tx ax (.tmp 5) := d2 rfl
   exact run_plain rfl (y_assign e1)
 intro a2 s2 D2
 have ok2 := D2.ok
 have F2 := F1.step0 D2.stp
 have q2 : At (Ty.lst Ty.int r) s2 a2 (.tmp 0) := D2.kt q1 rfl
 have q3 : At (Ty.int (rowMay r)) s2 a2 (.tmp 4) := D2.done 2
 clear D2
 refine tn ?_
 refine wp_seq ?_
 refine reg (a := a2) (σ := s2) rfl (fun i_ => List.getD [(Ty.pr (Ty.int (rowMay r))), (Ty.pr (Ty.bool (decide ((rowMay r) ≠ (0 : Int)))))] i_ Pr.any) ok2 rfl ⟨?_, ?_, trivial⟩ ?_
 · intro ax tx hs okx sm
   exact run_plain rfl (y_move (kp (sm 4 rfl) hs q3))
 · intro ax tx hs okx sm d0
   have e0 : At (Ty.int (rowMay r)) tx ax (.tmp 7) := d0 rfl
   exact run_plain rfl (y_neq e0 rfl)
 intro a3 s3 D3
 have ok3 := D3.ok
 have F3 := F2.step0 D3.stp
 have q4 : At (Ty.lst Ty.int r) s3 a3 (.tmp 0) := D3.kt q2 rfl
 have q5 : At (Ty.int (rowMay r)) s3 a3 (.tmp 4) := D3.kt q3 rfl
 have q6 : At (Ty.bool (decide ((rowMay r) ≠ (0 : Int)))) s3 a3 (.tmp 8) := D3.done 1
 clear D3
 refine tn ?_
 refine cond_p (p := ((rowMay r) ≠ (0 : Int))) q6 (fun c1 => ?_) (fun c1 => ?_)
 ·
  refine wp_seq ?_
  refine reg (a := a3) (σ := s3) rfl (fun i_ => List.getD [(Ty.pr (Ty.int (rowMay r))), (Ty.pr (Ty.int (0 : Int))), (Ty.pr (Ty.int (rowMay r)))] i_ Pr.any) ok3 rfl ⟨?_, ?_, ?_, trivial⟩ ?_
  · intro ax tx hs okx sm d0
    exact run_plain rfl (y_move (kp (sm 4 rfl) hs q5))
  · intro ax tx hs okx sm d0
    exact run_plain rfl (y_assign rfl)
  · intro ax tx hs okx sm d0 d1 d2 d3
    have e0 : At (Ty.int (rowMay r)) tx ax (.tmp 9) := d0 rfl
    have e1 : At (Ty.int (0 : Int)) tx ax (.tmp 2) := d1 rfl
    exact run_plain rfl (y_assign e0)
  intro a4 s4 D4
  have ok4 := D4.ok
  have F4 := F3.step0 D4.stp
  have q7 : At (Ty.int (0 : Int)) s4 a4 (.tmp 2) := D4.done 1
  have q8 : At (Ty.int (rowMay r)) s4 a4 (.tmp 3) := D4.done 2
  clear D4
  refine tn ?_
  refine wp_ret ?_
  refine tr ?_
  exact retL2 rfl ok4 F4 (hasT2 (cvi (by (rw [if_neg c1]; rfl)) q7) q8)
 ·
  have h0 := Classical.not_not.1 c1; have hr := rowMay_ok.1 h0; have hrl := hr.le; have h12 : ∀ i, i < r.length → 0 ≤ r.getD i 0 ∧ r.getD i 0 < 12 := fun i hi => hr.lt12 hi
  refine wp_skip ?_
  refine tn ?_
  refine wp_seq ?_
  refine reg (a := a3) (σ := s3) rfl (fun i_ => List.getD [(Ty.pr (Ty.lst Ty.int r)), (Ty.pr (Ty.nat (rankL r))), (Ty.pr (Ty.nat (rankL r))), (Ty.pr (Ty.int (0 : Int)))] i_ Pr.any) ok3 rfl ⟨?_, ?_, ?_, ?_, trivial⟩ ?_
  · intro ax tx hs okx sm
    exact run_plain rfl (y_move (kp (sm 0 rfl) hs q4))
  · intro ax tx hs okx sm d0
    have e0 : At (Ty.lst Ty.int r) tx ax (.tmp 10) := d0 rfl
    exact run_plain rfl (y_call #[ax.eval (.tmp 10)] Try.func94 rfl rfl (by simp only [List.map_toArray, List.map_cons, List.map_nil]) (rowPlace_fn (r) _ _ e0 (by omega)))
  · intro ax tx hs okx sm d0 d1 d2 d3
    have e1 : At (Ty.nat (rankL r)) tx ax (.tmp 11) := d0 rfl
    have e0 : At (Ty.lst Ty.int r) tx ax (.tmp 10) := d2 rfl
    exact run_plain rfl (y_assign e1)
  · intro ax tx hs okx sm d0 d1 d2 d3
    have e2 : At (Ty.nat (rankL r)) tx ax (.tmp 2) := d0 rfl
    have e0 : At (Ty.lst Ty.int r) tx ax (.tmp 10) := d1 rfl
    have e1 : At (Ty.nat (rankL r)) tx ax (.tmp 11) := d2 rfl
    exact run_plain rfl (y_assign rfl)
  intro a5 s5 D5
  have ok5 := D5.ok
  have F5 := F3.step0 D5.stp
  have q9 : At (Ty.nat (rankL r)) s5 a5 (.tmp 2) := D5.done 2
  have q10 : At (Ty.int (0 : Int)) s5 a5 (.tmp 3) := D5.done 3
  clear D5
  refine tn ?_
  refine wp_ret ?_
  exact retL2 rfl ok5 F5 (hasT2 (cvi (by (rw [if_pos h0])) q9) (cvi (by (exact h0.symm)) q10))

theorem Try.inf175 : Info Try.prog 175 (.pointer none) 1 8 := by unfold Info; kernel_rfl
theorem Try.inf178 : Info Try.prog 178 (.agg #[.pointer none, .slice none 0 0]) 2 32 := by unfold Info; kernel_rfl
theorem Try.fld178_0 : fieldOf Try.prog 178 0 = some (175, 0) := by kernel_rfl
set_option maxHeartbeats 4000000 in
set_option maxRecDepth 100000 in
theorem copyCheck_fn (b buf : Value) (nb : Bool) (σ : GW) (hlow : Low [40] σ) (v0 : Value) (hv0 : Ty.has (Ty.val b) σ v0) (ho_b : OwnPT 178 σ 40 b [(Ty.val (bAddr nb b)), (Ty.val buf)])  :
    FnL Try.prog 130 #[v0] σ [40] (fun v τ => True ∧ (OwnPT 178 τ 40 b [(Ty.val (bAddr false b)), (Ty.val buf)])) := by
 refine fn_introL hlow Try.func130 rfl Try.ntmps130 (Nat.le_of_ble_eq_true rfl) (fun a0 F0 ok0 hargs => ?_)
 have p0 : At (Ty.val b) σ a0 (.tmp 0) := by have e := hargs 0 _ rfl; show Ty.has _ _ _; rw [e]; exact hv0
 clear hargs
 refine wp_seq ?_
 refine reg (a := a0) (σ := σ) rfl (fun i_ => List.getD [(Ty.pr (Ty.val b)), (Ty.pr (Ty.val b)), (Ty.pr (Ty.val (ptrAt b 0))), (Ty.pr (Ty.val (bAddr nb b))), (Ty.pr (Ty.bool nb))] i_ Pr.any) ok0 rfl ⟨?_, ?_, ?_, ?_, ?_, trivial⟩ ?_
 · intro ax tx hs okx sm
   exact run_plain rfl (y_move (kp (sm 0 rfl) hs p0))
 · intro ax tx hs okx sm d0
   have e0 : At (Ty.val b) tx ax (.tmp 2) := d0 rfl
   exact run_plain rfl (y_nilp (OwnPT.toP (OwnPT.k0 ho_b hs)) e0)
 · intro ax tx hs okx sm d0
   have e1 : At (Ty.val b) tx ax (.tmp 3) := d0 rfl
   exact run_plain rfl (ownp_field Try.fld178_0 Try.inf175 (by decide) (OwnPT.toP (OwnPT.k0 ho_b hs)) e1)
 · intro ax tx hs okx sm d0
   have e2 : At (Ty.val (ptrAt b 0)) tx ax (.tmp 4) := d0 rfl
   exact run_plain rfl (ownp_load Try.underlying175 rfl (OwnPT.toP (OwnPT.k0 ho_b hs)) e2 rfl)
 · intro ax tx hs okx sm d0
   have e3 : At (Ty.val (bAddr nb b)) tx ax (.tmp 5) := d0 rfl
   exact run_plain rfl (y_bnil Try.underlying175 Try.inf178 (OwnPT.k0 ho_b hs) e3 rfl)
 intro a1 s1 D1
 have ok1 := D1.ok
 have F1 := F0.step0 D1.stp
 have q1 : At (Ty.val b) s1 a1 (.tmp 0) := D1.kt p0 rfl
 have o1 := OwnPT.k0 ho_b D1.stp
 have q2 : At (Ty.bool nb) s1 a1 (.tmp 6) := D1.done 4
 clear D1
 refine tn ?_
 refine cond_t q2 (fun c1 => ?_) (fun c1 => ?_)
 ·
  refine reg2 (a := a1) (σ := s1) rfl 7 (fun i_ => List.getD [(Ty.pr (Ty.val b)), (Ty.pr (Ty.val b)), (Ty.pr (Ty.val b)), (Ty.pr (Ty.val b)), (Ty.pr (Ty.val b)), (Ty.pr (Ty.val b)), (Ty.pr (Ty.val (ptrAt b 0)))] i_ Pr.any) ok1 rfl (by decide) rfl ⟨?_, ?_, ?_, ?_, ?_, ?_, ?_, trivial⟩ ?_
  · intro ax tx hs okx sm
    exact run_plain rfl (y_move (kp (sm 0 rfl) hs q1))
  · intro ax tx hs okx sm
    exact run_plain rfl (y_move (kp (sm 0 rfl) hs q1))
  · intro ax tx hs okx sm d0
    have e1 : At (Ty.val b) tx ax (.tmp 8) := d0 rfl
    exact run_plain rfl (y_tounsafe Try.underlying175 Try.underlying213 Try.inf178 (by decide) (OwnPT.k0 o1 hs) (Nat.le_of_ble_eq_true rfl) e1)
  · intro ax tx hs okx sm d0
    have e2 : At (Ty.val b) tx ax (.tmp 9) := d0 rfl
    exact run_plain rfl (y_extern (R := (Ty.val b)) #[b] (by simp only [List.map_toArray, List.map_cons, List.map_nil, (show ax.eval (.tmp 9) = _ from e2)]) (by rw [run_callFunc_extern Try.func154 (by kernel_rfl) (by kernel_rfl) (by kernel_rfl) (e := Extern.AbiNoEscape.same) (by kernel_rfl), Lib.run_noEscape]; rfl) rfl)
  · intro ax tx hs okx sm d0
    have e3 : At (Ty.val b) tx ax (.tmp 10) := d0 rfl
    exact run_plain rfl (y_fromunsafe Try.underlying213 Try.underlying175 Try.inf178 (OwnPT.k0 o1 hs) e3 (by kernel_rfl))
  · intro ax tx hs okx sm d0 d1 d2 d3 d4 d5
    have e0 : At (Ty.val b) tx ax (.tmp 7) := d0 rfl
    have e1 : At (Ty.val b) tx ax (.tmp 8) := d2 rfl
    have e2 : At (Ty.val b) tx ax (.tmp 9) := d3 rfl
    have e3 : At (Ty.val b) tx ax (.tmp 10) := d4 rfl
    have e4 : At (Ty.val b) tx ax (.tmp 11) := d5 rfl
    exact run_plain rfl (y_nilp (OwnPT.toP (OwnPT.k0 o1 hs)) e0)
  · intro ax tx hs okx sm d0 d1 d2 d3 d4 d5
    have e5 : At (Ty.val b) tx ax (.tmp 12) := d0 rfl
    have e0 : At (Ty.val b) tx ax (.tmp 7) := d1 rfl
    have e1 : At (Ty.val b) tx ax (.tmp 8) := d2 rfl
    have e2 : At (Ty.val b) tx ax (.tmp 9) := d3 rfl
    have e3 : At (Ty.val b) tx ax (.tmp 10) := d4 rfl
    have e4 : At (Ty.val b) tx ax (.tmp 11) := d5 rfl
    exact run_plain rfl (ownp_field Try.fld178_0 Try.inf175 (by decide) (OwnPT.toP (OwnPT.k0 o1 hs)) e5)
  intro a2 s2 D2
  have ok2 := D2.ok
  have F2 := F1.step0 D2.stp
  have o2 := OwnPT.k0 o1 D2.stp
  have q3 : At (Ty.val b) s2 a2 (.tmp 11) := D2.done 4 (by decide)
  have q4 : At (Ty.val (ptrAt b 0)) s2 a2 (.tmp 13) := D2.done 6 (by decide)
  clear D2
  refine tailL0 (L := [40]) (R := (fun _ τ => OwnPT 178 τ 40 b ([(Ty.val (bAddr nb b)), (Ty.val buf)].set 0 (Ty.val b)))) rfl rfl (YldM.toL (m_storept Try.inf175 (by decide) o2 q4 (Nat.le_of_ble_eq_true rfl) q3 (one_val (OwnPT.one o2)))) (fun v1 s3 hs1 r1 => ?_)
  have F3 := F2.stepL hs1 (by decide)
  have o3 : OwnPT 178 s3 40 b [(Ty.val b), (Ty.val buf)] := r1
  clear r1
  refine wpList_nil ?_
  exact nL0 rfl ok2 F3 ⟨trivial, (ownpt_cell 0 (Ty.val (bAddr false b)) o3 rfl (fun _ _ h => (cvt (by (first | rfl | omega | (simp_all; done) | (simp_all; omega))) h)))⟩
 ·
  refine wp_seq ?_
  refine reg (a := a1) (σ := s1) rfl (fun i_ => List.getD [(Ty.pr (Ty.val b)), (Ty.pr (Ty.val b)), (Ty.pr (Ty.val (ptrAt b 0))), (Ty.pr (Ty.val (bAddr nb b))), (Ty.pr (Ty.val b)), (Ty.pr (Ty.bool false))] i_ Pr.any) ok1 rfl ⟨?_, ?_, ?_, ?_, ?_, ?_, trivial⟩ ?_
  · intro ax tx hs okx sm
    exact run_plain rfl (y_move (kp (sm 0 rfl) hs q1))
  · intro ax tx hs okx sm d0
    have e0 : At (Ty.val b) tx ax (.tmp 14) := d0 rfl
    exact run_plain rfl (y_nilp (OwnPT.toP (OwnPT.k0 o1 hs)) e0)
  · intro ax tx hs okx sm d0
    have e1 : At (Ty.val b) tx ax (.tmp 15) := d0 rfl
    exact run_plain rfl (ownp_field Try.fld178_0 Try.inf175 (by decide) (OwnPT.toP (OwnPT.k0 o1 hs)) e1)
  · intro ax tx hs okx sm d0
    have e2 : At (Ty.val (ptrAt b 0)) tx ax (.tmp 16) := d0 rfl
    exact run_plain rfl (ownp_load Try.underlying175 rfl (OwnPT.toP (OwnPT.k0 o1 hs)) e2 rfl)
  · intro ax tx hs okx sm
    exact run_plain rfl (y_move (kp (sm 0 rfl) hs q1))
  · intro ax tx hs okx sm d0 d1
    have e3 : At (Ty.val (bAddr nb b)) tx ax (.tmp 17) := d0 rfl
    have e4 : At (Ty.val b) tx ax (.tmp 18) := d1 rfl
    exact run_plain rfl (y_bself Try.underlying175 Try.inf178 (OwnPT.k0 o1 hs) (bAddr_f (by assumption) e3) e4)
  intro a3 s4 D3
  have ok3 := D3.ok
  have F4 := F1.step0 D3.stp
  have o4 := OwnPT.k0 o1 D3.stp
  have q6 : At (Ty.bool false) s4 a3 (.tmp 19) := D3.done 5
  clear D3
  refine tn ?_
  refine cond_t q6 (fun c2 => (by cases c2)) (fun _ => ?_)
  refine wp_skip ?_
  exact nL0 rfl ok3 F4 ⟨trivial, (ownpt_cell 0 (Ty.val (bAddr false b)) o4 rfl (fun _ _ h => (cvt (by (rw [c1])) h)))⟩

theorem Try.inf5 : Info Try.prog 5 (.int .u8 0) 1 1 := by unfold Info; kernel_rfl
theorem Try.inf176 : Info Try.prog 176 (.slice none 0 0) 1 24 := by unfold Info; kernel_rfl
theorem Try.fld178_1 : fieldOf Try.prog 178 1 = some (176, 1) := by kernel_rfl
set_option maxHeartbeats 4000000 in
set_option maxRecDepth 100000 in
theorem writeByte_fn (b buf : Value) (nb : Bool) (l : List UInt8) (c : UInt8) (σ : GW) (hlow : Low [40, 41] σ) (v0 v1 : Value) (hv0 : Ty.has (Ty.val b) σ v0) (hv1 : Ty.has (Ty.byte c) σ v1) (ho_b : OwnPT 178 σ 40 b [(Ty.val (bAddr nb b)), (Ty.val buf)]) (ho_buf : Own σ 41 5 1 buf (List.length l) (List.map Ty.byte l)) (hl : l.length ≤ 1000000000) :
    FnL Try.prog 117 #[v0, v1] σ [40, 41] (fun v τ => ∃ (bz : Value), (Ty.has (Ty.val Value.nilIface) τ v) ∧ (OwnPT 178 τ 40 b [(Ty.val (bAddr false b)), (Ty.val bz)]) ∧ (Own τ 41 5 1 bz (List.length (l ++ [c])) (List.map Ty.byte (l ++ [c])))) := by
 refine fn_introL hlow Try.func117 rfl Try.ntmps117 (Nat.le_of_ble_eq_true rfl) (fun a0 F0 ok0 hargs => ?_)
 have p0 : At (Ty.val b) σ a0 (.tmp 0) := by have e := hargs 0 _ rfl; show Ty.has _ _ _; rw [e]; exact hv0
 have p1 : At (Ty.byte c) σ a0 (.tmp 1) := by have e := hargs 1 _ rfl; show Ty.has _ _ _; rw [e]; exact hv1
 clear hargs
 refine wp_seq ?_
 refine reg (a := a0) (σ := σ) rfl (fun i_ => List.getD [(Ty.pr (Ty.val Value.nilIface))] i_ Pr.any) ok0 rfl ⟨?_, trivial⟩ ?_
 · intro ax tx hs okx sm
   exact run_plain rfl (y_assign rfl)
 intro a1 s1 D1
 have ok1 := D1.ok
 have F1 := F0.step0 D1.stp
 have q1 : At (Ty.val b) s1 a1 (.tmp 0) := D1.kt p0 rfl
 have q2 : At (Ty.byte c) s1 a1 (.tmp 1) := D1.kt p1 rfl
 have o1 := OwnPT.k0 ho_b D1.stp
 have o2 := Own.k0 ho_buf D1.stp
 clear D1
 refine tn ?_
 refine wp_seq ?_
 refine reg2 (a := a1) (σ := s1) rfl 1 (fun i_ => List.getD [(Ty.pr (Ty.val b))] i_ Pr.any) ok1 rfl (by decide) rfl ⟨?_, trivial⟩ ?_
 · intro ax tx hs okx sm
   exact run_plain rfl (y_move (kp (sm 0 rfl) hs q1))
 intro a2 s2 D2
 have ok2 := D2.ok
 have F2 := F1.step0 D2.stp
 have q3 : At (Ty.val b) s2 a2 (.tmp 0) := D2.kt q1 rfl
 have q4 : At (Ty.byte c) s2 a2 (.tmp 1) := D2.kt q2 rfl
 have o3 := OwnPT.k0 o1 D2.stp
 have o4 := Own.k0 o2 D2.stp
 have q5 : At (Ty.val b) s2 a2 (.tmp 5) := D2.done 0 (by decide)
 clear D2
 refine tailL (L := [40]) (R := (fun v τ' => ∃ τ, (fun v τ => True ∧ (OwnPT 178 τ 40 b [(Ty.val (bAddr false b)), (Ty.val buf)])) v τ ∧ Back [(40, 40)] τ τ')) rfl rfl (by decide) ok2 (y_callL (L := [40]) [(40, 40)] [(40, 40)] #[a2.eval (.tmp 5)] rfl (by decide) Try.func130 rfl rfl (by simp only [List.map_toArray, List.map_cons, List.map_nil]) (copyCheck_fn (b) (buf) (nb) _ (GW.low_lend _ (by decide)) _ (Ty.up _ (GW.le_lend _ _) q5) (OwnPT.ren o3 (GW.ren_lend _ _ (by decide) rfl)) )) (fun a3 s3 hs1 ok3 r1 sm1 => ?_)
 have F3 := F2.stepL hs1 (by decide)
 have q6 : At (Ty.val b) s3 a3 (.tmp 0) := kpL hs1 (by decide) (sm1 0 (by decide)) q3
 have q7 : At (Ty.byte c) s3 a3 (.tmp 1) := kpL hs1 (by decide) (sm1 1 (by decide)) q4
 have o7 := Own.keepL o4 hs1 (by decide) (by decide)
 obtain ⟨t1, ⟨hT1, o5⟩, B1⟩ := r1
 have o6 : OwnPT 178 s3 40 b [(Ty.val (bAddr false b)), (Ty.val buf)] := OwnPT.ren o5 (B1.ren (by decide) rfl)
 refine wpList_nil ?_
 refine tn ?_
 refine wp_seq ?_
 refine reg2 (a := a3) (σ := s3) rfl 7 (fun i_ => List.getD [(Ty.pr (Ty.val b)), (Ty.pr (Ty.val b)), (Ty.pr (Ty.val b)), (Ty.pr (Ty.val (ptrAt b 1))), (Ty.pr (Ty.val buf)), (Ty.pr (Ty.byte c)), (Ty.pr (Ty.sl 1 1 [(Ty.byte c)]))] i_ Pr.any) ok3 rfl (by decide) rfl ⟨?_, ?_, ?_, ?_, ?_, ?_, ?_, trivial⟩ ?_
 · intro ax tx hs okx sm
   exact run_plain rfl (y_move (kp (sm 0 rfl) hs q6))
 · intro ax tx hs okx sm
   exact run_plain rfl (y_move (kp (sm 0 rfl) hs q6))
 · intro ax tx hs okx sm d0
   have e1 : At (Ty.val b) tx ax (.tmp 8) := d0 rfl
   exact run_plain rfl (y_nilp (OwnPT.toP (OwnPT.k0 o6 hs)) e1)
 · intro ax tx hs okx sm d0
   have e2 : At (Ty.val b) tx ax (.tmp 9) := d0 rfl
   exact run_plain rfl (ownp_field Try.fld178_1 Try.inf176 (by decide) (OwnPT.toP (OwnPT.k0 o6 hs)) e2)
 · intro ax tx hs okx sm d0
   have e3 : At (Ty.val (ptrAt b 1)) tx ax (.tmp 10) := d0 rfl
   exact run_plain rfl (ownp_load Try.underlying176 rfl (OwnPT.toP (OwnPT.k0 o6 hs)) e3 rfl)
 · intro ax tx hs okx sm
   exact run_plain rfl (y_move (kp (sm 1 rfl) hs q7))
 · intro ax tx hs okx sm d0
   have e5 : At (Ty.byte c) tx ax (.tmp 12) := d0 rfl
   exact run_plain rfl (y_build1o Try.underlying176 Try.inf5 rfl (one_val rfl) e5)
 intro a4 s4 D3
 have ok4 := D3.ok
 have F4 := F3.step0 D3.stp
 have o8 := Own.k0 o7 D3.stp
 have o9 := OwnPT.k0 o6 D3.stp
 have q9 : At (Ty.val b) s4 a4 (.tmp 7) := D3.done 0 (by decide)
 have q10 : At (Ty.val buf) s4 a4 (.tmp 11) := D3.done 4 (by decide)
 have q11 : At (Ty.sl 1 1 [(Ty.byte c)]) s4 a4 (.tmp 13) := D3.done 6 (by decide)
 have b1 := sl_le q11
 clear D3
 refine tailL (L := [41]) (R := (fun v τ => Own τ 41 5 1 v ((List.length l) + 1) ((List.map Ty.byte l) ++ [(Ty.byte c)]))) rfl rfl (by decide) ok4 (YldM.toL (m_append Try.underlying176 Try.inf5 (by decide) rfl (by decide) (al (R := (Pr.own 41 5 1 (List.length l) (List.map Ty.byte l))) q10 o8) q11 (by intro U hU; simp at hU; subst hU; exact one_val rfl) (by omega) (by omega))) (fun a5 s5 hs2 ok5 r2 sm2 => ?_)
 have F5 := F4.stepL hs2 (by decide)
 have q12 : At (Ty.val b) s5 a5 (.tmp 7) := kpL hs2 (by decide) (sm2 7 (by decide)) q9
 have o11 := OwnPT.keepL o9 hs2 (by decide) (by decide)
 obtain ⟨x1, hx1⟩ : ∃ x, a5.eval (.tmp 14) = x := ⟨_, rfl⟩
 have q13 : At (Ty.val x1) s5 a5 (.tmp 14) := hx1
 have o10 : Own s5 41 5 1 x1 (List.length (l ++ [c])) (List.map Ty.byte (l ++ [c])) := al2 (R := (Pr.own 41 5 1 (List.length (l ++ [c])) (List.map Ty.byte (l ++ [c])))) hx1 (cvo (by simp) (by first | (rw [List.map_append]; rfl) | simp) r2)
 clear r2
 refine tailL (L := []) (R := (fun v τ => Pr.has (Ty.pr (Ty.val b)) τ v)) rfl rfl (by decide) ok5 (Yld.toL (y_nilp (OwnPT.toP o11) q12)) (fun a6 s6 hs3 ok6 r3 sm3 => ?_)
 have F6 := F5.stepL hs3 (by decide)
 have q14 : At (Ty.val x1) s6 a6 (.tmp 14) := kpL hs3 (by decide) (sm3 14 (by decide)) q13
 have o12 := OwnPT.keepL o11 hs3 (by decide) (by decide)
 have o13 := Own.keepL o10 hs3 (by decide) (by decide)
 have q15 : At (Ty.val b) s6 a6 (.tmp 15) := r3
 clear r3
 refine tailL (L := []) (R := (fun v τ => Pr.has (Ty.pr (Ty.val (ptrAt b 1))) τ v)) rfl rfl (by decide) ok6 (Yld.toL (ownp_field Try.fld178_1 Try.inf176 (by decide) (OwnPT.toP o12) q15)) (fun a7 s7 hs4 ok7 r4 sm4 => ?_)
 have F7 := F6.stepL hs4 (by decide)
 have q16 : At (Ty.val x1) s7 a7 (.tmp 14) := kpL hs4 (by decide) (sm4 14 (by decide)) q14
 have o14 := OwnPT.keepL o12 hs4 (by decide) (by decide)
 have o15 := Own.keepL o13 hs4 (by decide) (by decide)
 have q17 : At (Ty.val (ptrAt b 1)) s7 a7 (.tmp 16) := r4
 clear r4
 refine tailL0 (L := [40]) (R := (fun _ τ => OwnPT 178 τ 40 b ([(Ty.val (bAddr false b)), (Ty.val buf)].set 1 (Ty.val x1)))) rfl rfl (YldM.toL (m_storept Try.inf176 (by decide) o14 q17 (Nat.le_of_ble_eq_true rfl) q16 (one_val (Own.one o15)))) (fun v1 s8 hs5 r5 => ?_)
 have F8 := F7.stepL hs5 (by decide)
 have o17 := Own.keepL o15 hs5 (by decide) (by decide)
 have o16 : OwnPT 178 s8 40 b [(Ty.val (bAddr false b)), (Ty.val x1)] := r5
 clear r5
 refine wpList_nil ?_
 refine tn ?_
 refine wp_seq ?_
 refine reg (a := a7) (σ := s8) rfl (fun i_ => List.getD [(Ty.pr (Ty.val Value.nilIface))] i_ Pr.any) ok7 rfl ⟨?_, trivial⟩ ?_
 · intro ax tx hs okx sm
   exact run_plain rfl (y_assign rfl)
 intro a8 s9 D4
 have ok8 := D4.ok
 have F9 := F8.step0 D4.stp
 have o18 := Own.k0 o17 D4.stp
 have o19 := OwnPT.k0 o16 D4.stp
 have q19 : At (Ty.val Value.nilIface) s9 a8 (.tmp 4) := D4.done 0
 clear D4
 refine tn ?_
 refine wp_ret ?_
 exact retL1 rfl ok8 F9 ⟨x1, q19, o19, o18⟩


set_option maxHeartbeats 4000000 in
set_option maxRecDepth 100000 in
theorem bString_fn (b buf : Value) (nb : Bool) (l : List UInt8) (σ : GW) (hlow : Low [40, 41] σ) (v0 : Value) (hv0 : Ty.has (Ty.val b) σ v0) (ho_b : OwnPT 178 σ 40 b [(Ty.val (bAddr nb b)), (Ty.val buf)]) (ho_buf : Own σ 41 5 1 buf (List.length l) (List.map Ty.byte l))  :
    FnL Try.prog 118 #[v0] σ [40, 41] (fun v τ => (Ty.has (Ty.val (Value.string (bsL l))) τ v)) := by
 refine fn_introL hlow Try.func118 rfl Try.ntmps118 (Nat.le_of_ble_eq_true rfl) (fun a0 F0 ok0 hargs => ?_)
 have p0 : At (Ty.val b) σ a0 (.tmp 0) := by have e := hargs 0 _ rfl; show Ty.has _ _ _; rw [e]; exact hv0
 clear hargs
 refine wp_seq ?_
 refine reg (a := a0) (σ := σ) rfl (fun i_ => List.getD [(Ty.pr (Ty.val (Value.string (ByteArray.mk #[]))))] i_ Pr.any) ok0 rfl ⟨?_, trivial⟩ ?_
 · intro ax tx hs okx sm
   exact run_plain rfl (y_assign rfl)
 intro a1 s1 D1
 have ok1 := D1.ok
 have F1 := F0.step0 D1.stp
 have q1 : At (Ty.val b) s1 a1 (.tmp 0) := D1.kt p0 rfl
 have o1 := OwnPT.k0 ho_b D1.stp
 have o2 := Own.k0 ho_buf D1.stp
 clear D1
 refine tn ?_
 refine wp_seq ?_
 refine reg2 (a := a1) (σ := s1) rfl 10 (fun i_ => List.getD [(Ty.pr (Ty.val b)), (Ty.pr (Ty.val b)), (Ty.pr (Ty.val (ptrAt b 1))), (Ty.pr (Ty.val buf)), (Ty.pr (Ty.dptr buf (List.length l))), (Ty.pr (Ty.val b)), (Ty.pr (Ty.val b)), (Ty.pr (Ty.val (ptrAt b 1))), (Ty.pr (Ty.val buf)), (Ty.pr (Ty.nat (List.length l)))] i_ Pr.any) ok1 rfl (by decide) rfl ⟨?_, ?_, ?_, ?_, ?_, ?_, ?_, ?_, ?_, ?_, trivial⟩ ?_
 · intro ax tx hs okx sm
   exact run_plain rfl (y_move (kp (sm 0 rfl) hs q1))
 · intro ax tx hs okx sm d0
   have e0 : At (Ty.val b) tx ax (.tmp 3) := d0 rfl
   exact run_plain rfl (y_nilp (OwnPT.toP (OwnPT.k0 o1 hs)) e0)
 · intro ax tx hs okx sm d0
   have e1 : At (Ty.val b) tx ax (.tmp 4) := d0 rfl
   exact run_plain rfl (ownp_field Try.fld178_1 Try.inf176 (by decide) (OwnPT.toP (OwnPT.k0 o1 hs)) e1)
 · intro ax tx hs okx sm d0
   have e2 : At (Ty.val (ptrAt b 1)) tx ax (.tmp 5) := d0 rfl
   exact run_plain rfl (ownp_load Try.underlying176 rfl (OwnPT.toP (OwnPT.k0 o1 hs)) e2 rfl)
 · intro ax tx hs okx sm d0
   have e3 : At (Ty.val buf) tx ax (.tmp 6) := d0 rfl
   exact run_plain rfl (y_sdata Try.underlying193 (Own.k0 o2 hs) e3)
 · intro ax tx hs okx sm
   exact run_plain rfl (y_move (kp (sm 0 rfl) hs q1))
 · intro ax tx hs okx sm d0
   have e5 : At (Ty.val b) tx ax (.tmp 8) := d0 rfl
   exact run_plain rfl (y_nilp (OwnPT.toP (OwnPT.k0 o1 hs)) e5)
 · intro ax tx hs okx sm d0
   have e6 : At (Ty.val b) tx ax (.tmp 9) := d0 rfl
   exact run_plain rfl (ownp_field Try.fld178_1 Try.inf176 (by decide) (OwnPT.toP (OwnPT.k0 o1 hs)) e6)
 · intro ax tx hs okx sm d0
   have e7 : At (Ty.val (ptrAt b 1)) tx ax (.tmp 10) := d0 rfl
   exact run_plain rfl (ownp_load Try.underlying176 rfl (OwnPT.toP (OwnPT.k0 o1 hs)) e7 rfl)
 · intro ax tx hs okx sm d0
   have e8 : At (Ty.val buf) tx ax (.tmp 11) := d0 rfl
   exact run_plain rfl (own_len Try.underlying176 (al (R := (Pr.own 41 5 1 (List.length l) (List.map Ty.byte l))) e8 (Own.k0 o2 hs)))
 intro a2 s2 D2
 have ok2 := D2.ok
 have F2 := F1.step0 D2.stp
 have o3 := OwnPT.k0 o1 D2.stp
 have o4 := Own.k0 o2 D2.stp
 have q2 : At (Ty.dptr buf (List.length l)) s2 a2 (.tmp 7) := D2.done 4 (by decide)
 have q3 : At (Ty.nat (List.length l)) s2 a2 (.tmp 12) := D2.done 9 (by decide)
 clear D2
 refine tailL (L := [41]) (R := (fun v τ => (Ty.val (Value.string (bsL l))).has τ v)) rfl rfl (by decide) ok2 (YldM.toL (m_sstr (by decide) Try.underlying193 (by kernel_rfl) o4 q2 q3)) (fun a3 s3 hs1 ok3 r1 sm1 => ?_)
 have F3 := F2.stepL hs1 (by decide)
 have o5 := OwnPT.keepL o3 hs1 (by decide) (by decide)
 have q4 : At (Ty.val (Value.string (bsL l))) s3 a3 (.tmp 13) := r1
 clear r1
 refine tailL (L := []) (R := (fun v τ => Pr.has (Ty.pr (Ty.val (Value.string (bsL l)))) τ v)) rfl rfl (by decide) ok3 (Yld.toL (y_assign q4)) (fun a4 s4 hs2 ok4 r2 sm2 => ?_)
 have F4 := F3.stepL hs2 (by decide)
 have o6 := OwnPT.keepL o5 hs2 (by decide) (by decide)
 have q5 : At (Ty.val (Value.string (bsL l))) s4 a4 (.tmp 2) := r2
 clear r2
 refine wpList_nil ?_
 refine tn ?_
 refine wp_ret ?_
 exact retL1 rfl ok4 F4 q5


set_option maxHeartbeats 4000000 in
set_option maxRecDepth 100000 in
theorem signs_fn (r : List Int) (σ : GW)  (v0 : Value) (hv0 : Ty.has (Ty.lst Ty.int r) σ v0)  (hr : ∀ i, i < r.length → 0 ≤ r.getD i 0 ∧ r.getD i 0 < 12) (hl : r.length ≤ 1000000) :
    FnC Try.prog 96 #[v0] σ (Ty.val (Value.string (bsL (signsB r)))) := by
 have hsz := signs_size
 refine fn_intro0 Try.func96 rfl Try.ntmps96 (Nat.le_of_ble_eq_true rfl) (fun s0 a0 hle F0 ok0 hargs => ?_)
 have p0 : At (Ty.lst Ty.int r) s0 a0 (.tmp 0) := by have e := hargs 0 _ rfl; show Ty.has _ _ _; rw [e]; exact Ty.up _ hle hv0
 have b1 := sl_le p0
 clear hargs
 refine wp_seq ?_
 refine reg (a := a0) (σ := s0) rfl (fun i_ => List.getD [(Ty.pr (Ty.val (Value.string (ByteArray.mk #[]))))] i_ Pr.any) ok0 rfl ⟨?_, trivial⟩ ?_
 · intro ax tx hs okx sm
   exact run_plain rfl (y_assign rfl)
 intro a1 s1 D1
 have ok1 := D1.ok
 have F1 := F0.step0 D1.stp
 have q1 : At (Ty.lst Ty.int r) s1 a1 (.tmp 0) := D1.kt p0 rfl
 clear D1
 refine tn ?_
 refine wp_seq ?_
 refine reg (a := a1) (σ := s1) rfl (fun i_ => List.getD [(Pr.ownpt 178 5 [(Ty.val (Value.pointer none)), (Ty.val (Value.slice none 0 0))])] i_ Pr.any) ok1 rfl ⟨?_, trivial⟩ ?_
 · intro ax tx hs okx sm
   exact run_plain rfl (y_alloct Try.inf178 rfl (alloc_vals (vs := [.pointer none, .slice none 0 0]) rfl))
 intro a2 s2 D2
 have ok2 := D2.ok
 have F2 := F1.step0 D2.stp
 have q2 : At (Ty.lst Ty.int r) s2 a2 (.tmp 0) := D2.kt q1 rfl
 obtain ⟨x1, hx1⟩ : ∃ x, a2.eval (.tmp 3) = x := ⟨_, rfl⟩
 have q3 : At (Ty.val x1) s2 a2 (.tmp 3) := hx1
 have o1 : OwnPT 178 s2 5 x1 [(Ty.val (Value.pointer none)), (Ty.val (Value.slice none 0 0))] := al2 (R := (Pr.ownpt 178 5 [(Ty.val (Value.pointer none)), (Ty.val (Value.slice none 0 0))])) hx1 (D2.done 0)
 clear D2
 refine tn ?_
 refine wp_seq ?_
 refine wp_seq ?_
 refine reg (a := a2) (σ := s2) rfl (fun i_ => List.getD [(Ty.pr (Ty.lst Ty.int r)), (Ty.pr (Ty.nat (List.length r))), (Ty.pr (Ty.int (0 : Int)))] i_ Pr.any) ok2 rfl ⟨?_, ?_, ?_, trivial⟩ ?_
 · intro ax tx hs okx sm
   exact run_plain rfl (y_move (kp (sm 0 rfl) hs q2))
 · intro ax tx hs okx sm d0
   have e0 : At (Ty.lst Ty.int r) tx ax (.tmp 6) := d0 rfl
   exact run_plain rfl (y_len Try.underlying34 e0)
 · intro ax tx hs okx sm
   exact run_plain rfl (y_move rfl)
 intro a3 s3 D3
 have ok3 := D3.ok
 have F3 := F2.step0 D3.stp
 have q4 : At (Ty.val x1) s3 a3 (.tmp 3) := D3.kt q3 rfl
 have o2 := OwnPT.k0 o1 D3.stp
 have q5 : At (Ty.lst Ty.int r) s3 a3 (.tmp 6) := D3.done 0
 have q6 : At (Ty.nat (List.length r)) s3 a3 (.tmp 7) := D3.done 1
 have q7 : At (Ty.int (0 : Int)) s3 a3 (.tmp 8) := D3.done 2
 clear D3
 refine tn ?_
 refine wp_block ?_
 have o3 : Own s3 6 5 1 (Value.slice none 0 0) 0 (List.map Ty.byte ([] : List UInt8)) := Own.nil _ _ _ _
 refine loop (fun n1 a4 w1 => ∃ (t1 : GW) (k : Nat) (nz : Bool) (bf : Value), t1.w = w1 ∧ FromL [] s0 t1 ∧ Ok 17 a4 ∧ At (Ty.nat k) t1 a4 (.tmp 8) ∧ At (Ty.val x1) t1 a4 (.tmp 3) ∧ At (Ty.lst Ty.int r) t1 a4 (.tmp 6) ∧ At (Ty.nat (List.length r)) t1 a4 (.tmp 7) ∧ OwnPT 178 t1 5 x1 [(Ty.val (bAddr nz x1)), (Ty.val bf)] ∧ Own t1 6 5 1 bf (List.length (signsB (r.take k))) (List.map Ty.byte (signsB (r.take k))) ∧ (k ≤ r.length) ∧ n1 = r.length - k) (r.length - (0)) ?_ ?_
 ·
  exact ⟨s3, 0, true, (Value.slice none 0 0), rfl, F3, ok3, (cvi (by (first | rfl | omega | (simp_all; done) | (simp_all; omega))) q7), q4, q5, q6, (ownpt_cell 0 (Ty.val (bAddr (true) x1)) o2 rfl (fun _ _ h => (cvt (by (first | rfl | omega | (simp_all; done) | (simp_all; omega))) h))), (cvo (by (simp [signsB])) (by (simp [signsB])) o3), by omega, rfl⟩
 ·
  rintro n2 a5 w2 ⟨t2, k, nz, bf, rfl, F4, ok4, q8, q9, q10, q11, o4, o5, hk, rfl⟩
  have hsl := signsB_len (r.take k)
  have htl := List.length_take_le k r
  refine wp_seq ?_
  refine reg (a := a5) (σ := t2) rfl (fun i_ => List.getD [(Ty.pr (Ty.bool (decide (((k : Nat) : Int) < (((List.length r) : Nat) : Int)))))] i_ Pr.any) ok4 rfl ⟨?_, trivial⟩ ?_
  · intro ax tx hs okx sm
    exact run_plain rfl (y_lss (kp (sm 8 rfl) hs q8) (kp (sm 7 rfl) hs q11))
  intro a6 s4 D4
  have ok5 := D4.ok
  have F5 := F4.step0 D4.stp
  have q12 : At (Ty.nat k) s4 a6 (.tmp 8) := D4.kt q8 rfl
  have q13 : At (Ty.val x1) s4 a6 (.tmp 3) := D4.kt q9 rfl
  have q14 : At (Ty.lst Ty.int r) s4 a6 (.tmp 6) := D4.kt q10 rfl
  have q15 : At (Ty.nat (List.length r)) s4 a6 (.tmp 7) := D4.kt q11 rfl
  have o6 := OwnPT.k0 o4 D4.stp
  have o7 := Own.k0 o5 D4.stp
  have q16 : At (Ty.bool (decide (((k : Nat) : Int) < (((List.length r) : Nat) : Int)))) s4 a6 (.tmp 9) := D4.done 0
  clear D4
  refine tn ?_
  refine wp_seq ?_
  refine cond_p (p := (((k : Nat) : Int) < (((List.length r) : Nat) : Int))) q16 (fun c1 => ?_) (fun c1 => ?_)
  ·
   have hrk := hr k (by omega)
   refine wp_skip ?_
   refine tn ?_
   refine wp_seq ?_
   refine wp_block ?_
   refine wp_seq ?_
   refine reg (a := a6) (σ := s4) rfl (fun i_ => List.getD [(Ty.pr (Ty.ref [(Ty.int (r.getD k 0))])), (Ty.pr (Ty.int (r.getD k 0))), (Ty.pr (Ty.int (r.getD k 0)))] i_ Pr.any) ok5 rfl ⟨?_, ?_, ?_, trivial⟩ ?_
   · intro ax tx hs okx sm
     exact run_plain rfl (y_index1 Try.underlying34 Try.inf3 (kp (sm 6 rfl) hs q14) (kp (sm 8 rfl) hs q12) (by omega) (lst_get Ty.int r 0 k (by omega)))
   · intro ax tx hs okx sm d0
     have e0 : At (Ty.ref [(Ty.int (r.getD k 0))]) tx ax (.tmp 10) := d0 rfl
     exact run_plain rfl (y_load Try.underlying3 rfl e0 rfl)
   · intro ax tx hs okx sm d0 d1 d2
     have e1 : At (Ty.int (r.getD k 0)) tx ax (.tmp 11) := d0 rfl
     have e0 : At (Ty.ref [(Ty.int (r.getD k 0))]) tx ax (.tmp 10) := d1 rfl
     exact run_plain rfl (y_assign e1)
   intro a7 s5 D5
   have ok6 := D5.ok
   have F6 := F5.step0 D5.stp
   have q17 : At (Ty.nat k) s5 a7 (.tmp 8) := D5.kt q12 rfl
   have q18 : At (Ty.val x1) s5 a7 (.tmp 3) := D5.kt q13 rfl
   have q19 : At (Ty.lst Ty.int r) s5 a7 (.tmp 6) := D5.kt q14 rfl
   have q20 : At (Ty.nat (List.length r)) s5 a7 (.tmp 7) := D5.kt q15 rfl
   have o8 := OwnPT.k0 o6 D5.stp
   have o9 := Own.k0 o7 D5.stp
   have q21 : At (Ty.int (r.getD k 0)) s5 a7 (.tmp 5) := D5.done 2
   clear D5
   refine tn ?_
   refine reg2 (a := a7) (σ := s5) rfl 2 (fun i_ => List.getD [(Ty.pr (Ty.int (r.getD k 0))), (Ty.pr (Ty.val (Value.int .u8 (((SIGNS.get! ((r.getD k 0)).toNat).toNat : Nat) : Int))))] i_ Pr.any) ok6 rfl (by decide) rfl ⟨?_, ?_, trivial⟩ ?_
   · intro ax tx hs okx sm
     exact run_plain rfl (y_move (kp (sm 5 rfl) hs q21))
   · intro ax tx hs okx sm d0
     have e0 : At (Ty.int (r.getD k 0)) tx ax (.tmp 12) := d0 rfl
     exact run_plain rfl (y_sindex Try.underlying9 rfl e0 (by omega) (by omega))
   intro a8 s6 D6
   have ok7 := D6.ok
   have F7 := F6.step0 D6.stp
   have q22 : At (Ty.nat k) s6 a8 (.tmp 8) := D6.kt q17 rfl
   have q23 : At (Ty.val x1) s6 a8 (.tmp 3) := D6.kt q18 rfl
   have q24 : At (Ty.lst Ty.int r) s6 a8 (.tmp 6) := D6.kt q19 rfl
   have q25 : At (Ty.nat (List.length r)) s6 a8 (.tmp 7) := D6.kt q20 rfl
   have o10 := OwnPT.k0 o8 D6.stp
   have o11 := Own.k0 o9 D6.stp
   have q26 : At (Ty.val (Value.int .u8 (((SIGNS.get! ((r.getD k 0)).toNat).toNat : Nat) : Int))) s6 a8 (.tmp 13) := D6.done 1 (by decide)
   clear D6
   refine tailL (L := [5, 6]) (R := (fun v τ' => ∃ τ, (fun v τ => ∃ (bz : Value), (Ty.has (Ty.val Value.nilIface) τ v) ∧ (OwnPT 178 τ 40 x1 [(Ty.val (bAddr false (x1))), (Ty.val bz)]) ∧ (Own τ 41 5 1 bz (List.length (((signsB (r.take k))) ++ [((SIGNS.get! ((r.getD k 0)).toNat))])) (List.map Ty.byte (((signsB (r.take k))) ++ [((SIGNS.get! ((r.getD k 0)).toNat))])))) v τ ∧ Back [(40, 5), (41, 6)] τ τ')) rfl rfl (by decide) ok7 (y_callL (L := [40, 41]) [(5, 40), (6, 41)] [(40, 5), (41, 6)] #[a8.eval (.tmp 3), a8.eval (.tmp 13)] rfl (by decide) Try.func117 rfl rfl (by simp only [List.map_toArray, List.map_cons, List.map_nil]) (writeByte_fn (x1) (bf) (nz) ((signsB (r.take k))) ((SIGNS.get! ((r.getD k 0)).toNat)) _ (GW.low_lend _ (by decide)) _ _ (Ty.up _ (GW.le_lend _ _) q23) (Ty.up _ (GW.le_lend _ _) q26) (OwnPT.ren (ownpt_cell 0 (Ty.val (bAddr (nz) (x1))) o10 rfl (fun _ _ h => (cvt (by (first | rfl | omega | (simp_all; done) | (simp_all; omega))) h))) (GW.ren_lend _ _ (by decide) rfl)) (Own.ren (cvo (by (simp)) (by (simp)) o11) (GW.ren_lend _ _ (by decide) rfl)) (by omega))) (fun a9 s7 hs1 ok8 r1 sm1 => ?_)
   have F8 := F7.stepL hs1 (by decide)
   have q27 : At (Ty.nat k) s7 a9 (.tmp 8) := kpL hs1 (by decide) (sm1 8 (by decide)) q22
   have q28 : At (Ty.val x1) s7 a9 (.tmp 3) := kpL hs1 (by decide) (sm1 3 (by decide)) q23
   have q29 : At (Ty.lst Ty.int r) s7 a9 (.tmp 6) := kpL hs1 (by decide) (sm1 6 (by decide)) q24
   have q30 : At (Ty.nat (List.length r)) s7 a9 (.tmp 7) := kpL hs1 (by decide) (sm1 7 (by decide)) q25
   obtain ⟨t3, ⟨x2, hT1, o12, o13⟩, B1⟩ := r1
   have q31 : At (Ty.val Value.nilIface) s7 a9 (.tmp 14) := Ty.up _ B1.le hT1
   have o14 : OwnPT 178 s7 5 x1 [(Ty.val (bAddr false (x1))), (Ty.val x2)] := OwnPT.ren o12 (B1.ren (by decide) rfl)
   have o15 : Own s7 6 5 1 x2 (List.length (((signsB (r.take k))) ++ [((SIGNS.get! ((r.getD k 0)).toNat))])) (List.map Ty.byte (((signsB (r.take k))) ++ [((SIGNS.get! ((r.getD k 0)).toNat))])) := Own.ren o13 (B1.ren (by decide) rfl)
   refine wpList_nil ?_
   refine bn ?_
   refine tn ?_
   refine reg (a := a9) (σ := s7) rfl (fun i_ => List.getD [(Ty.pr (Ty.int (((k : Nat) : Int) + (1 : Int)))), (Ty.pr (Ty.int (((k : Nat) : Int) + (1 : Int))))] i_ Pr.any) ok8 rfl ⟨?_, ?_, trivial⟩ ?_
   · intro ax tx hs okx sm
     exact run_plain rfl (y_add (kp (sm 8 rfl) hs q27) rfl (w64 (by omega) (by omega)))
   · intro ax tx hs okx sm d0
     have e0 : At (Ty.int (((k : Nat) : Int) + (1 : Int))) tx ax (.tmp 15) := d0 rfl
     exact run_plain rfl (y_move e0)
   intro a10 s8 D7
   have ok9 := D7.ok
   have F9 := F8.step0 D7.stp
   have q32 : At (Ty.val x1) s8 a10 (.tmp 3) := D7.kt q28 rfl
   have q33 : At (Ty.lst Ty.int r) s8 a10 (.tmp 6) := D7.kt q29 rfl
   have q34 : At (Ty.nat (List.length r)) s8 a10 (.tmp 7) := D7.kt q30 rfl
   have o16 := OwnPT.k0 o14 D7.stp
   have o17 := Own.k0 o15 D7.stp
   have q35 : At (Ty.int (((k : Nat) : Int) + (1 : Int))) s8 a10 (.tmp 8) := D7.done 1
   clear D7
   exact tn ⟨r.length - ((k+1)), by omega, s8, (k+1), false, x2, rfl, F9, ok9, (cvi (by (first | rfl | omega | (simp_all; done) | (simp_all; omega))) q35), q32, q33, q34, (ownpt_cell 0 (Ty.val (bAddr (false) x1)) o16 rfl (fun _ _ h => (cvt (by (first | rfl | omega | (simp_all; done) | (simp_all; omega))) h))), (cvo (by (rw [signsB_take r k (by omega)])) (by (rw [signsB_take r k (by omega)])) o17), by omega, rfl⟩
  ·
   refine wp_exit ?_
   refine tx ?_
   refine tx ?_
   refine bx ?_
   refine tn ?_
   refine wp_seq ?_
   refine reg2 (a := a6) (σ := s4) rfl 0 (fun i_ => List.getD [] i_ Pr.any) ok5 rfl (by decide) rfl trivial ?_
   intro a11 s9 D8
   have ok10 := D8.ok
   have F10 := F5.step0 D8.stp
   have q36 : At (Ty.val x1) s9 a11 (.tmp 3) := D8.kt q13 rfl
   have o18 := OwnPT.k0 o6 D8.stp
   have o19 := Own.k0 o7 D8.stp
   clear D8
   refine tailL (L := [5, 6]) (R := (fun v τ' => ∃ τ, (fun v τ => (Ty.has (Ty.val (Value.string (bsL ((signsB (r.take k)))))) τ v)) v τ ∧ Back [(40, 5), (41, 6)] τ τ')) rfl rfl (by decide) ok10 (y_callL (L := [40, 41]) [(5, 40), (6, 41)] [(40, 5), (41, 6)] #[a11.eval (.tmp 3)] rfl (by decide) Try.func118 rfl rfl (by simp only [List.map_toArray, List.map_cons, List.map_nil]) (bString_fn (x1) (bf) (nz) ((signsB (r.take k))) _ (GW.low_lend _ (by decide)) _ (Ty.up _ (GW.le_lend _ _) q36) (OwnPT.ren (ownpt_cell 0 (Ty.val (bAddr (nz) (x1))) o18 rfl (fun _ _ h => (cvt (by (first | rfl | omega | (simp_all; done) | (simp_all; omega))) h))) (GW.ren_lend _ _ (by decide) rfl)) (Own.ren (cvo (by (simp)) (by (simp)) o19) (GW.ren_lend _ _ (by decide) rfl)) )) (fun a12 s10 hs2 ok11 r2 sm2 => ?_)
   have F11 := F10.stepL hs2 (by decide)
   obtain ⟨t4, hT2, B2⟩ := r2
   have q37 : At (Ty.val (Value.string (bsL ((signsB (r.take k)))))) s10 a12 (.tmp 16) := Ty.up _ B2.le hT2
   refine tailL (L := []) (R := (fun v τ => Pr.has (Ty.pr (Ty.val (Value.string (bsL ((signsB (r.take k))))))) τ v)) rfl rfl (by decide) ok11 (Yld.toL (y_assign q37)) (fun a13 s11 hs3 ok12 r3 sm3 => ?_)
   have F12 := F11.stepL hs3 (by decide)
   have q38 : At (Ty.val (Value.string (bsL ((signsB (r.take k)))))) s11 a13 (.tmp 2) := r3
   clear r3
   refine wpList_nil ?_
   refine tn ?_
   refine wp_ret ?_
   exact retL1 rfl ok12 F12 (cvt (by (obtain rfl : k = r.length := (by omega); rw [List.take_length])) q38)


set_option maxHeartbeats 4000000 in
set_option maxRecDepth 100000 in
theorem rowText_fn (r : List Int) (σ : GW)  (v0 : Value) (hv0 : Ty.has (Ty.lst Ty.int r) σ v0)   :
    FnC Try.prog 43 #[v0] σ (Ty.tup2 (Ty.val (Value.string (if rowMay r = 0 then bsL (signsB r) else ByteArray.empty))) (Ty.int (rowMay r))) := by
 refine fn_intro0 Try.func43 rfl Try.ntmps43 (Nat.le_of_ble_eq_true rfl) (fun s0 a0 hle F0 ok0 hargs => ?_)
 have p0 : At (Ty.lst Ty.int r) s0 a0 (.tmp 0) := by have e := hargs 0 _ rfl; show Ty.has _ _ _; rw [e]; exact Ty.up _ hle hv0
 have b1 := sl_le p0
 clear hargs
 refine wp_seq ?_
 refine reg (a := a0) (σ := s0) rfl (fun i_ => List.getD [(Ty.pr (Ty.val (Value.string (ByteArray.mk #[])))), (Ty.pr (Ty.int (0 : Int)))] i_ Pr.any) ok0 rfl ⟨?_, ?_, trivial⟩ ?_
 · intro ax tx hs okx sm
   exact run_plain rfl (y_assign rfl)
 · intro ax tx hs okx sm d0
   have e0 : At (Ty.val (Value.string (ByteArray.mk #[]))) tx ax (.tmp 2) := d0 rfl
   exact run_plain rfl (y_assign rfl)
 intro a1 s1 D1
 have ok1 := D1.ok
 have F1 := F0.step0 D1.stp
 have q1 : At (Ty.lst Ty.int r) s1 a1 (.tmp 0) := D1.kt p0 rfl
 clear D1
 refine tn ?_
 refine wp_seq ?_
 refine wp_seq ?_
 refine reg (a := a1) (σ := s1) rfl (fun i_ => List.getD [(Ty.pr (Ty.lst Ty.int r)), (Ty.pr (Ty.int (rowMay r))), (Ty.pr (Ty.int (rowMay r)))] i_ Pr.any) ok1 rfl ⟨?_, ?_, ?_, trivial⟩ ?_
 · intro ax tx hs okx sm
   exact run_plain rfl (y_move (kp (sm 0 rfl) hs q1))
 · intro ax tx hs okx sm d0
   have e0 : At (Ty.lst Ty.int r) tx ax (.tmp 5) := d0 rfl
   exact run_plain rfl (y_call #[ax.eval (.tmp 5)] Try.func44 rfl rfl (by simp only [List.map_toArray, List.map_cons, List.map_nil]) (rowCheck_fn (r) _ _ e0 ))
 · intro ax tx hs okx sm d0 d1 d2 d3
   have e1 : At (Ty.int (rowMay r)) tx ax (.tmp 6) := d0 rfl
   have e0 : At (Ty.lst Ty.int r) tx ax (.tmp 5) := d2 rfl
   exact run_plain rfl (y_assign e1)
 intro a2 s2 D2
 have ok2 := D2.ok
 have F2 := F1.step0 D2.stp
 have q2 : At (Ty.lst Ty.int r) s2 a2 (.tmp 0) := D2.kt q1 rfl
 have q3 : At (Ty.int (rowMay r)) s2 a2 (.tmp 4) := D2.done 2
 clear D2
 refine tn ?_
 refine wp_seq ?_
 refine reg (a := a2) (σ := s2) rfl (fun i_ => List.getD [(Ty.pr (Ty.int (rowMay r))), (Ty.pr (Ty.bool (decide ((rowMay r) ≠ (0 : Int)))))] i_ Pr.any) ok2 rfl ⟨?_, ?_, trivial⟩ ?_
 · intro ax tx hs okx sm
   exact run_plain rfl (y_move (kp (sm 4 rfl) hs q3))
 · intro ax tx hs okx sm d0
   have e0 : At (Ty.int (rowMay r)) tx ax (.tmp 7) := d0 rfl
   exact run_plain rfl (y_neq e0 rfl)
 intro a3 s3 D3
 have ok3 := D3.ok
 have F3 := F2.step0 D3.stp
 have q4 : At (Ty.lst Ty.int r) s3 a3 (.tmp 0) := D3.kt q2 rfl
 have q5 : At (Ty.int (rowMay r)) s3 a3 (.tmp 4) := D3.kt q3 rfl
 have q6 : At (Ty.bool (decide ((rowMay r) ≠ (0 : Int)))) s3 a3 (.tmp 8) := D3.done 1
 clear D3
 refine tn ?_
 refine cond_p (p := ((rowMay r) ≠ (0 : Int))) q6 (fun c1 => ?_) (fun c1 => ?_)
 ·
  refine wp_seq ?_
  refine reg (a := a3) (σ := s3) rfl (fun i_ => List.getD [(Ty.pr (Ty.int (rowMay r))), (Ty.pr (Ty.val (Value.string (ByteArray.mk #[])))), (Ty.pr (Ty.int (rowMay r)))] i_ Pr.any) ok3 rfl ⟨?_, ?_, ?_, trivial⟩ ?_
  · intro ax tx hs okx sm d0
    exact run_plain rfl (y_move (kp (sm 4 rfl) hs q5))
  · intro ax tx hs okx sm d0
    exact run_plain rfl (y_assign rfl)
  · intro ax tx hs okx sm d0 d1 d2 d3
    have e0 : At (Ty.int (rowMay r)) tx ax (.tmp 9) := d0 rfl
    have e1 : At (Ty.val (Value.string (ByteArray.mk #[]))) tx ax (.tmp 2) := d1 rfl
    exact run_plain rfl (y_assign e0)
  intro a4 s4 D4
  have ok4 := D4.ok
  have F4 := F3.step0 D4.stp
  have q7 : At (Ty.val (Value.string (ByteArray.mk #[]))) s4 a4 (.tmp 2) := D4.done 1
  have q8 : At (Ty.int (rowMay r)) s4 a4 (.tmp 3) := D4.done 2
  clear D4
  refine tn ?_
  refine wp_ret ?_
  refine tr ?_
  exact retL2 rfl ok4 F4 (hasT2 (cvt (by (rw [if_neg c1]; rfl)) q7) q8)
 ·
  have h0 := Classical.not_not.1 c1; have hr := rowMay_ok.1 h0; have hrl := hr.le; have h12 : ∀ i, i < r.length → 0 ≤ r.getD i 0 ∧ r.getD i 0 < 12 := fun i hi => hr.lt12 hi
  refine wp_skip ?_
  refine tn ?_
  refine wp_seq ?_
  refine reg (a := a3) (σ := s3) rfl (fun i_ => List.getD [(Ty.pr (Ty.lst Ty.int r)), (Ty.pr (Ty.val (Value.string (bsL (signsB r))))), (Ty.pr (Ty.val (Value.string (bsL (signsB r))))), (Ty.pr (Ty.int (0 : Int)))] i_ Pr.any) ok3 rfl ⟨?_, ?_, ?_, ?_, trivial⟩ ?_
  · intro ax tx hs okx sm
    exact run_plain rfl (y_move (kp (sm 0 rfl) hs q4))
  · intro ax tx hs okx sm d0
    have e0 : At (Ty.lst Ty.int r) tx ax (.tmp 10) := d0 rfl
    exact run_plain rfl (y_call #[ax.eval (.tmp 10)] Try.func96 rfl rfl (by simp only [List.map_toArray, List.map_cons, List.map_nil]) (signs_fn (r) _ _ e0 (by omega) (by omega)))
  · intro ax tx hs okx sm d0 d1 d2 d3
    have e1 : At (Ty.val (Value.string (bsL (signsB r)))) tx ax (.tmp 11) := d0 rfl
    have e0 : At (Ty.lst Ty.int r) tx ax (.tmp 10) := d2 rfl
    exact run_plain rfl (y_assign e1)
  · intro ax tx hs okx sm d0 d1 d2 d3
    have e2 : At (Ty.val (Value.string (bsL (signsB r)))) tx ax (.tmp 2) := d0 rfl
    have e0 : At (Ty.lst Ty.int r) tx ax (.tmp 10) := d1 rfl
    have e1 : At (Ty.val (Value.string (bsL (signsB r)))) tx ax (.tmp 11) := d2 rfl
    exact run_plain rfl (y_assign rfl)
  intro a5 s5 D5
  have ok5 := D5.ok
  have F5 := F3.step0 D5.stp
  have q9 : At (Ty.val (Value.string (bsL (signsB r)))) s5 a5 (.tmp 2) := D5.done 2
  have q10 : At (Ty.int (0 : Int)) s5 a5 (.tmp 3) := D5.done 3
  clear D5
  refine tn ?_
  refine wp_ret ?_
  exact retL2 rfl ok5 F5 (hasT2 (cvt (by (rw [if_pos h0])) q9) (cvi (by (exact h0.symm)) q10))


set_option maxHeartbeats 4000000 in
set_option maxRecDepth 100000 in
theorem slIndexByte_fn (s : ByteArray) (c : Int) (σ : GW)  (v0 v1 : Value) (hv0 : Ty.has (Ty.val (Value.string s)) σ v0) (hv1 : Ty.has (Ty.val (Value.int .u8 c)) σ v1)   :
    FnC Try.prog 155 #[v0, v1] σ (Ty.int (Lib.indexByte (ByteArray.data s).toList (c).toNat.toUInt8)) := by
 refine fn_intro0 Try.func155 rfl Try.ntmps155 (Nat.le_of_ble_eq_true rfl) (fun s0 a0 hle F0 ok0 hargs => ?_)
 have p0 : At (Ty.val (Value.string s)) s0 a0 (.tmp 0) := by have e := hargs 0 _ rfl; show Ty.has _ _ _; rw [e]; exact Ty.up _ hle hv0
 have p1 : At (Ty.val (Value.int .u8 c)) s0 a0 (.tmp 1) := by have e := hargs 1 _ rfl; show Ty.has _ _ _; rw [e]; exact Ty.up _ hle hv1
 clear hargs
 refine wp_seq ?_
 refine reg (a := a0) (σ := s0) rfl (fun i_ => List.getD [(Ty.pr (Ty.int (0 : Int)))] i_ Pr.any) ok0 rfl ⟨?_, trivial⟩ ?_
 · intro ax tx hs okx sm
   exact run_plain rfl (y_assign rfl)
 intro a1 s1 D1
 have ok1 := D1.ok
 have F1 := F0.step0 D1.stp
 have q1 : At (Ty.val (Value.string s)) s1 a1 (.tmp 0) := D1.kt p0 rfl
 have q2 : At (Ty.val (Value.int .u8 c)) s1 a1 (.tmp 1) := D1.kt p1 rfl
 clear D1
 refine tn ?_
 refine wp_seq ?_
 refine reg (a := a1) (σ := s1) rfl (fun i_ => List.getD [(Ty.pr (Ty.val (Value.string s))), (Ty.pr (Ty.val (Value.int .u8 c))), (Ty.pr (Ty.int (Lib.indexByte (ByteArray.data s).toList (c).toNat.toUInt8))), (Ty.pr (Ty.int (Lib.indexByte (ByteArray.data s).toList (c).toNat.toUInt8)))] i_ Pr.any) ok1 rfl ⟨?_, ?_, ?_, ?_, trivial⟩ ?_
 · intro ax tx hs okx sm
   exact run_plain rfl (y_move (kp (sm 0 rfl) hs q1))
 · intro ax tx hs okx sm
   exact run_plain rfl (y_move (kp (sm 1 rfl) hs q2))
 · intro ax tx hs okx sm d0 d1
   have e0 : At (Ty.val (Value.string s)) tx ax (.tmp 5) := d0 rfl
   have e1 : At (Ty.val (Value.int .u8 c)) tx ax (.tmp 6) := d1 rfl
   exact run_plain rfl (y_extern (R := (Ty.int (Lib.indexByte (ByteArray.data s).toList (c).toNat.toUInt8))) #[(Value.string s), (Value.int .u8 c)] (by simp only [List.map_toArray, List.map_cons, List.map_nil, (show ax.eval (.tmp 5) = _ from e0), (show ax.eval (.tmp 6) = _ from e1)]) (by rw [run_callFunc_extern Try.func170 (by kernel_rfl) (by kernel_rfl) (by kernel_rfl) (e := Extern.BytealgIndexByte.indexByte) (by kernel_rfl), Lib.run_indexByteString]; rfl) rfl)
 · intro ax tx hs okx sm d0 d1 d2 d3 d4
   have e2 : At (Ty.int (Lib.indexByte (ByteArray.data s).toList (c).toNat.toUInt8)) tx ax (.tmp 7) := d0 rfl
   have e0 : At (Ty.val (Value.string s)) tx ax (.tmp 5) := d2 rfl
   have e1 : At (Ty.val (Value.int .u8 c)) tx ax (.tmp 6) := d3 rfl
   exact run_plain rfl (y_assign e2)
 intro a2 s2 D2
 have ok2 := D2.ok
 have F2 := F1.step0 D2.stp
 have q3 : At (Ty.int (Lib.indexByte (ByteArray.data s).toList (c).toNat.toUInt8)) s2 a2 (.tmp 4) := D2.done 3
 clear D2
 refine tn ?_
 refine wp_ret ?_
 exact retL1 rfl ok2 F2 q3


set_option maxHeartbeats 4000000 in
set_option maxRecDepth 100000 in
theorem sIndexByte_fn (s : ByteArray) (c : Int) (σ : GW)  (v0 v1 : Value) (hv0 : Ty.has (Ty.val (Value.string s)) σ v0) (hv1 : Ty.has (Ty.val (Value.int .u8 c)) σ v1)   :
    FnC Try.prog 131 #[v0, v1] σ (Ty.int (Lib.indexByte (ByteArray.data s).toList (c).toNat.toUInt8)) := by
 refine fn_intro0 Try.func131 rfl Try.ntmps131 (Nat.le_of_ble_eq_true rfl) (fun s0 a0 hle F0 ok0 hargs => ?_)
 have p0 : At (Ty.val (Value.string s)) s0 a0 (.tmp 0) := by have e := hargs 0 _ rfl; show Ty.has _ _ _; rw [e]; exact Ty.up _ hle hv0
 have p1 : At (Ty.val (Value.int .u8 c)) s0 a0 (.tmp 1) := by have e := hargs 1 _ rfl; show Ty.has _ _ _; rw [e]; exact Ty.up _ hle hv1
 clear hargs
 refine wp_seq ?_
 refine reg (a := a0) (σ := s0) rfl (fun i_ => List.getD [(Ty.pr (Ty.int (0 : Int)))] i_ Pr.any) ok0 rfl ⟨?_, trivial⟩ ?_
 · intro ax tx hs okx sm
   exact run_plain rfl (y_assign rfl)
 intro a1 s1 D1
 have ok1 := D1.ok
 have F1 := F0.step0 D1.stp
 have q1 : At (Ty.val (Value.string s)) s1 a1 (.tmp 0) := D1.kt p0 rfl
 have q2 : At (Ty.val (Value.int .u8 c)) s1 a1 (.tmp 1) := D1.kt p1 rfl
 clear D1
 refine tn ?_
 refine wp_seq ?_
 refine reg (a := a1) (σ := s1) rfl (fun i_ => List.getD [(Ty.pr (Ty.val (Value.string s))), (Ty.pr (Ty.val (Value.int .u8 c))), (Ty.pr (Ty.int (Lib.indexByte (ByteArray.data s).toList (c).toNat.toUInt8))), (Ty.pr (Ty.int (Lib.indexByte (ByteArray.data s).toList (c).toNat.toUInt8)))] i_ Pr.any) ok1 rfl ⟨?_, ?_, ?_, ?_, trivial⟩ ?_
 · intro ax tx hs okx sm
   exact run_plain rfl (y_move (kp (sm 0 rfl) hs q1))
 · intro ax tx hs okx sm
   exact run_plain rfl (y_move (kp (sm 1 rfl) hs q2))
 · intro ax tx hs okx sm d0 d1
   have e0 : At (Ty.val (Value.string s)) tx ax (.tmp 5) := d0 rfl
   have e1 : At (Ty.val (Value.int .u8 c)) tx ax (.tmp 6) := d1 rfl
   exact run_plain rfl (y_call #[ax.eval (.tmp 5), ax.eval (.tmp 6)] Try.func155 rfl rfl (by simp only [List.map_toArray, List.map_cons, List.map_nil]) (slIndexByte_fn (s) (c) _ _ _ e0 e1 ))
 · intro ax tx hs okx sm d0 d1 d2 d3 d4
   have e2 : At (Ty.int (Lib.indexByte (ByteArray.data s).toList (c).toNat.toUInt8)) tx ax (.tmp 7) := d0 rfl
   have e0 : At (Ty.val (Value.string s)) tx ax (.tmp 5) := d2 rfl
   have e1 : At (Ty.val (Value.int .u8 c)) tx ax (.tmp 6) := d3 rfl
   exact run_plain rfl (y_assign e2)
 intro a2 s2 D2
 have ok2 := D2.ok
 have F2 := F1.step0 D2.stp
 have q3 : At (Ty.int (Lib.indexByte (ByteArray.data s).toList (c).toNat.toUInt8)) s2 a2 (.tmp 4) := D2.done 3
 clear D2
 refine tn ?_
 refine wp_ret ?_
 exact retL1 rfl ok2 F2 q3


set_option maxHeartbeats 4000000 in
set_option maxRecDepth 100000 in
theorem validRune_fn (r : Int) (σ : GW)  (v0 : Value) (hv0 : Ty.has (Ty.val (Value.int .i32 r)) σ v0)   :
    FnC Try.prog 132 #[v0] σ (Ty.bool (Utf8.valid r)) := by
 refine fn_intro0 Try.func132 rfl Try.ntmps132 (Nat.le_of_ble_eq_true rfl) (fun s0 a0 hle F0 ok0 hargs => ?_)
 have p0 : At (Ty.val (Value.int .i32 r)) s0 a0 (.tmp 0) := by have e := hargs 0 _ rfl; show Ty.has _ _ _; rw [e]; exact Ty.up _ hle hv0
 clear hargs
 refine wp_seq ?_
 refine reg (a := a0) (σ := s0) rfl (fun i_ => List.getD [(Ty.pr (Ty.bool false))] i_ Pr.any) ok0 rfl ⟨?_, trivial⟩ ?_
 · intro ax tx hs okx sm
   exact run_plain rfl (y_assign rfl)
 intro a1 s1 D1
 have ok1 := D1.ok
 have F1 := F0.step0 D1.stp
 have q1 : At (Ty.val (Value.int .i32 r)) s1 a1 (.tmp 0) := D1.kt p0 rfl
 clear D1
 refine tn ?_
 refine wp_seq ?_
 refine wp_block ?_
 refine wp_seq ?_
 refine reg (a := a1) (σ := s1) rfl (fun i_ => List.getD [(Ty.pr (Ty.val (Value.int .i32 r))), (Ty.pr (Ty.bool (decide ((0 : Int) ≤ r)))), (Ty.pr (Ty.bool (decide ((0 : Int) ≤ r)))), (Ty.pr (Ty.grd ((decide ((0 : Int) ≤ r)) = true) (Ty.val (Value.int .i32 r)))), (Ty.pr (Ty.grd ((decide ((0 : Int) ≤ r)) = true) (Ty.bool (decide (r < (55296 : Int)))))), (Ty.pr (Ty.bool ((decide ((0 : Int) ≤ r)) && (decide (r < (55296 : Int)))))), (Ty.pr (Ty.bool ((decide ((0 : Int) ≤ r)) && (decide (r < (55296 : Int))))))] i_ Pr.any) ok1 rfl ⟨?_, ?_, ?_, ?_, ?_, ?_, ?_, trivial⟩ ?_
 · intro ax tx hs okx sm
   exact run_plain rfl (y_move (kp (sm 0 rfl) hs q1))
 · intro ax tx hs okx sm d0
   have e0 : At (Ty.val (Value.int .i32 r)) tx ax (.tmp 4) := d0 rfl
   exact run_plain rfl (y_leq rfl e0)
 · intro ax tx hs okx sm d0
   have e1 : At (Ty.bool (decide ((0 : Int) ≤ r))) tx ax (.tmp 5) := d0 rfl
   exact run_plain rfl (y_move e1)
 · intro ax tx hs okx sm d0
   have e2 : At (Ty.bool (decide ((0 : Int) ≤ r))) tx ax (.tmp 6) := d0 rfl
   refine run_guard (T := (Ty.val (Value.int .i32 r))) okx rfl rfl (by decide) e2 (fun hg => ?_)
   have hp := of_decide_eq_true hg
   exact y_move (kp (sm 0 rfl) hs q1)
 · intro ax tx hs okx sm d0 d1
   have e3 : At (Ty.grd ((decide ((0 : Int) ≤ r)) = true) (Ty.val (Value.int .i32 r))) tx ax (.tmp 7) := d0 rfl
   have e2 : At (Ty.bool (decide ((0 : Int) ≤ r))) tx ax (.tmp 6) := d1 rfl
   refine run_guard (T := (Ty.bool (decide (r < (55296 : Int))))) okx rfl rfl (by decide) e2 (fun hg => ?_)
   have hp := of_decide_eq_true hg
   exact y_lss (e3.1 hg) rfl
 · intro ax tx hs okx sm d0 d1
   have e2 : At (Ty.bool (decide ((0 : Int) ≤ r))) tx ax (.tmp 6) := d0 rfl
   have e4 : At (Ty.grd ((decide ((0 : Int) ≤ r)) = true) (Ty.bool (decide (r < (55296 : Int))))) tx ax (.tmp 8) := d1 rfl
   exact run_plain rfl (y_pick_and e2 e4 rfl)
 · intro ax tx hs okx sm d0 d1
   have e5 : At (Ty.bool ((decide ((0 : Int) ≤ r)) && (decide (r < (55296 : Int))))) tx ax (.tmp 9) := d0 rfl
   have e2 : At (Ty.bool (decide ((0 : Int) ≤ r))) tx ax (.tmp 6) := d1 rfl
   exact run_plain rfl (y_assign e5)
 intro a2 s2 D2
 have ok2 := D2.ok
 have F2 := F1.step0 D2.stp
 have q2 : At (Ty.val (Value.int .i32 r)) s2 a2 (.tmp 0) := D2.kt q1 rfl
 have q3 : At (Ty.bool ((decide ((0 : Int) ≤ r)) && (decide (r < (55296 : Int))))) s2 a2 (.tmp 3) := D2.done 6
 clear D2
 refine tn ?_
 refine cond_t q3 (fun c1 => ?_) (fun c1 => ?_)
 ·
  obtain ⟨d1, d2⟩ := Bool.and_eq_true_iff.mp c1
  replace d1 := of_decide_eq_true d1
  replace d2 := of_decide_eq_true d2
  refine wp_seq ?_
  refine reg (a := a2) (σ := s2) rfl (fun i_ => List.getD [(Ty.pr (Ty.bool true))] i_ Pr.any) ok2 rfl ⟨?_, trivial⟩ ?_
  · intro ax tx hs okx sm
    exact run_plain rfl (y_assign rfl)
  intro a3 s3 D3
  have ok3 := D3.ok
  have F3 := F2.step0 D3.stp
  have q4 : At (Ty.bool true) s3 a3 (.tmp 2) := D3.done 0
  clear D3
  refine tn ?_
  refine wp_ret ?_
  refine br ?_
  refine tr ?_
  exact retL1 rfl ok3 F3 (cvb (by (simp only [Bool.and_eq_true, decide_eq_true_eq] at c1; unfold Utf8.valid; rw [decide_eq_true (show 0 ≤ r by omega), decide_eq_true (show r < 0xD800 by omega)]; rfl)) q4)
 ·
  refine wp_seq ?_
  refine reg (a := a2) (σ := s2) rfl (fun i_ => List.getD [(Ty.pr (Ty.val (Value.int .i32 r))), (Ty.pr (Ty.bool (decide ((57343 : Int) < r)))), (Ty.pr (Ty.bool (decide ((57343 : Int) < r)))), (Ty.pr (Ty.grd ((decide ((57343 : Int) < r)) = true) (Ty.val (Value.int .i32 r)))), (Ty.pr (Ty.grd ((decide ((57343 : Int) < r)) = true) (Ty.bool (decide (r ≤ (1114111 : Int)))))), (Ty.pr (Ty.bool ((decide ((57343 : Int) < r)) && (decide (r ≤ (1114111 : Int)))))), (Ty.pr (Ty.bool ((decide ((57343 : Int) < r)) && (decide (r ≤ (1114111 : Int))))))] i_ Pr.any) ok2 rfl ⟨?_, ?_, ?_, ?_, ?_, ?_, ?_, trivial⟩ ?_
  · intro ax tx hs okx sm
    exact run_plain rfl (y_move (kp (sm 0 rfl) hs q2))
  · intro ax tx hs okx sm d0
    have e0 : At (Ty.val (Value.int .i32 r)) tx ax (.tmp 11) := d0 rfl
    exact run_plain rfl (y_lss rfl e0)
  · intro ax tx hs okx sm d0
    have e1 : At (Ty.bool (decide ((57343 : Int) < r))) tx ax (.tmp 12) := d0 rfl
    exact run_plain rfl (y_move e1)
  · intro ax tx hs okx sm d0
    have e2 : At (Ty.bool (decide ((57343 : Int) < r))) tx ax (.tmp 13) := d0 rfl
    refine run_guard (T := (Ty.val (Value.int .i32 r))) okx rfl rfl (by decide) e2 (fun hg => ?_)
    have hp := of_decide_eq_true hg
    exact y_move (kp (sm 0 rfl) hs q2)
  · intro ax tx hs okx sm d0 d1
    have e3 : At (Ty.grd ((decide ((57343 : Int) < r)) = true) (Ty.val (Value.int .i32 r))) tx ax (.tmp 14) := d0 rfl
    have e2 : At (Ty.bool (decide ((57343 : Int) < r))) tx ax (.tmp 13) := d1 rfl
    refine run_guard (T := (Ty.bool (decide (r ≤ (1114111 : Int))))) okx rfl rfl (by decide) e2 (fun hg => ?_)
    have hp := of_decide_eq_true hg
    exact y_leq (e3.1 hg) rfl
  · intro ax tx hs okx sm d0 d1
    have e2 : At (Ty.bool (decide ((57343 : Int) < r))) tx ax (.tmp 13) := d0 rfl
    have e4 : At (Ty.grd ((decide ((57343 : Int) < r)) = true) (Ty.bool (decide (r ≤ (1114111 : Int))))) tx ax (.tmp 15) := d1 rfl
    exact run_plain rfl (y_pick_and e2 e4 rfl)
  · intro ax tx hs okx sm d0 d1
    have e5 : At (Ty.bool ((decide ((57343 : Int) < r)) && (decide (r ≤ (1114111 : Int))))) tx ax (.tmp 16) := d0 rfl
    have e2 : At (Ty.bool (decide ((57343 : Int) < r))) tx ax (.tmp 13) := d1 rfl
    exact run_plain rfl (y_assign e5)
  intro a4 s4 D4
  have ok4 := D4.ok
  have F4 := F2.step0 D4.stp
  have q5 : At (Ty.bool ((decide ((57343 : Int) < r)) && (decide (r ≤ (1114111 : Int))))) s4 a4 (.tmp 10) := D4.done 6
  clear D4
  refine tn ?_
  refine cond_t q5 (fun c2 => ?_) (fun c2 => ?_)
  ·
   obtain ⟨d3, d4⟩ := Bool.and_eq_true_iff.mp c2
   replace d3 := of_decide_eq_true d3
   replace d4 := of_decide_eq_true d4
   refine wp_seq ?_
   refine reg (a := a4) (σ := s4) rfl (fun i_ => List.getD [(Ty.pr (Ty.bool true))] i_ Pr.any) ok4 rfl ⟨?_, trivial⟩ ?_
   · intro ax tx hs okx sm
     exact run_plain rfl (y_assign rfl)
   intro a5 s5 D5
   have ok5 := D5.ok
   have F5 := F4.step0 D5.stp
   have q6 : At (Ty.bool true) s5 a5 (.tmp 2) := D5.done 0
   clear D5
   refine tn ?_
   refine wp_ret ?_
   refine br ?_
   refine tr ?_
   exact retL1 rfl ok5 F5 (cvb (by (simp only [Bool.and_eq_true, decide_eq_true_eq] at c2; unfold Utf8.valid; rw [decide_eq_true (show 0xE000 ≤ r by omega), decide_eq_true (show r ≤ 0x10FFFF by omega)]; simp)) q6)
  ·
   refine wp_skip ?_
   refine bn ?_
   refine tn ?_
   refine wp_seq ?_
   refine reg (a := a4) (σ := s4) rfl (fun i_ => List.getD [(Ty.pr (Ty.bool false))] i_ Pr.any) ok4 rfl ⟨?_, trivial⟩ ?_
   · intro ax tx hs okx sm
     exact run_plain rfl (y_assign rfl)
   intro a6 s6 D6
   have ok6 := D6.ok
   have F6 := F4.step0 D6.stp
   have q7 : At (Ty.bool false) s6 a6 (.tmp 2) := D6.done 0
   clear D6
   refine tn ?_
   refine wp_ret ?_
   exact retL1 rfl ok6 F6 (cvb (by (simp only [Bool.and_eq_false_iff, decide_eq_false_iff_not] at c1 c2; unfold Utf8.valid; refine Eq.symm (Bool.or_eq_false_iff.2 ⟨?_, ?_⟩) <;> simp only [Bool.and_eq_false_iff, decide_eq_false_iff_not] <;> omega)) q7)


end Go.Proofs.Ytlhnpkaohfoicaa
