/- The functions that the law RowSays reaches, each by its contract. Part 3. -/
import Derived.Test.YtlhnpkaohfoicaaRowSaysW2
namespace Go.Proofs.Ytlhnpkaohfoicaa
open Go.KL

set_option maxHeartbeats 4000000 in
set_option maxRecDepth 100000 in
theorem roundsA_fn (n : Int) (σ : GW)  (v0 : Value) (hv0 : Ty.has (Ty.int n) σ v0)  (hn64 : -9223372036854775808 ≤ n ∧ n ≤ 9223372036854775807) :
    FnC Try.prog 52 #[v0] σ (Ty.tup2 (Ty.lst Ty.int (if 1 ≤ n ∧ n ≤ 12 then roundsL (n).toNat else [])) (Ty.int (if 1 ≤ n ∧ n ≤ 12 then 0 else 1))) := by
 refine fn_intro0 Try.func52 rfl Try.ntmps52 (Nat.le_of_ble_eq_true rfl) (fun s0 a0 hle F0 ok0 hargs => ?_)
 have p0 : At (Ty.int n) s0 a0 (.tmp 0) := by have e := hargs 0 _ rfl; show Ty.has _ _ _; rw [e]; exact Ty.up _ hle hv0
 clear hargs
 refine wp_seq ?_
 refine reg (a := a0) (σ := s0) rfl (fun i_ => List.getD [(Ty.pr (Ty.val (Value.slice none 0 0))), (Ty.pr (Ty.int (0 : Int)))] i_ Pr.any) ok0 rfl ⟨?_, ?_, trivial⟩ ?_
 · intro ax tx hs okx sm
   exact run_plain rfl (y_assign rfl)
 · intro ax tx hs okx sm d0
   have e0 : At (Ty.val (Value.slice none 0 0)) tx ax (.tmp 2) := d0 rfl
   exact run_plain rfl (y_assign rfl)
 intro a1 s1 D1
 have ok1 := D1.ok
 have F1 := F0.step0 D1.stp
 have q1 : At (Ty.int n) s1 a1 (.tmp 0) := D1.kt p0 rfl
 clear D1
 refine tn ?_
 refine wp_seq ?_
 refine wp_seq ?_
 refine reg (a := a1) (σ := s1) rfl (fun i_ => List.getD [(Ty.pr (Ty.int n)), (Ty.pr (Ty.bool (decide (n < (1 : Int))))), (Ty.pr (Ty.bool (decide (n < (1 : Int))))), (Ty.pr (Ty.grd ((decide (n < (1 : Int))) = false) (Ty.int n))), (Ty.pr (Ty.grd ((decide (n < (1 : Int))) = false) (Ty.bool (decide ((12 : Int) < n))))), (Ty.pr (Ty.bool ((decide (n < (1 : Int))) || (decide ((12 : Int) < n)))))] i_ Pr.any) ok1 rfl ⟨?_, ?_, ?_, ?_, ?_, ?_, trivial⟩ ?_
 · intro ax tx hs okx sm
   exact run_plain rfl (y_move (kp (sm 0 rfl) hs q1))
 · intro ax tx hs okx sm d0
   have e0 : At (Ty.int n) tx ax (.tmp 4) := d0 rfl
   exact run_plain rfl (y_lss e0 rfl)
 · intro ax tx hs okx sm d0
   have e1 : At (Ty.bool (decide (n < (1 : Int)))) tx ax (.tmp 5) := d0 rfl
   exact run_plain rfl (y_move e1)
 · intro ax tx hs okx sm d0
   have e2 : At (Ty.bool (decide (n < (1 : Int)))) tx ax (.tmp 6) := d0 rfl
   refine run_guard (T := (Ty.int n)) okx rfl rfl (by decide) e2 (fun hg => ?_)
   have hp := of_decide_eq_false hg
   exact y_move (kp (sm 0 rfl) hs q1)
 · intro ax tx hs okx sm d0 d1
   have e3 : At (Ty.grd ((decide (n < (1 : Int))) = false) (Ty.int n)) tx ax (.tmp 7) := d0 rfl
   have e2 : At (Ty.bool (decide (n < (1 : Int)))) tx ax (.tmp 6) := d1 rfl
   refine run_guard (T := (Ty.bool (decide ((12 : Int) < n)))) okx rfl rfl (by decide) e2 (fun hg => ?_)
   have hp := of_decide_eq_false hg
   exact y_gtr (e3.1 hg) rfl
 · intro ax tx hs okx sm d0 d1
   have e2 : At (Ty.bool (decide (n < (1 : Int)))) tx ax (.tmp 6) := d0 rfl
   have e4 : At (Ty.grd ((decide (n < (1 : Int))) = false) (Ty.bool (decide ((12 : Int) < n)))) tx ax (.tmp 8) := d1 rfl
   exact run_plain rfl (y_pick_or e2 rfl e4)
 intro a2 s2 D2
 have ok2 := D2.ok
 have F2 := F1.step0 D2.stp
 have q2 : At (Ty.int n) s2 a2 (.tmp 0) := D2.kt q1 rfl
 have q3 : At (Ty.bool ((decide (n < (1 : Int))) || (decide ((12 : Int) < n)))) s2 a2 (.tmp 9) := D2.done 5
 clear D2
 refine tn ?_
 refine cond_t q3 (fun c1 => ?_) (fun c1 => ?_)
 ·
  simp only [Bool.or_eq_true, decide_eq_true_eq] at c1
  refine wp_seq ?_
  refine reg (a := a2) (σ := s2) rfl (fun i_ => List.getD [(Ty.pr (Ty.val (Value.slice none 0 0))), (Ty.pr (Ty.int (1 : Int)))] i_ Pr.any) ok2 rfl ⟨?_, ?_, trivial⟩ ?_
  · intro ax tx hs okx sm
    exact run_plain rfl (y_assign rfl)
  · intro ax tx hs okx sm d0 d1
    have e0 : At (Ty.val (Value.slice none 0 0)) tx ax (.tmp 2) := d0 rfl
    exact run_plain rfl (y_assign rfl)
  intro a3 s3 D3
  have ok3 := D3.ok
  have F3 := F2.step0 D3.stp
  have q4 : At (Ty.val (Value.slice none 0 0)) s3 a3 (.tmp 2) := D3.done 0
  have q5 : At (Ty.int (1 : Int)) s3 a3 (.tmp 3) := D3.done 1
  clear D3
  refine tn ?_
  refine wp_ret ?_
  refine tr ?_
  exact retL2 rfl ok3 F3 (hasT2 (nil_lst (by (rw [if_neg (by omega)])) q4) (cvi (by (rw [if_neg (by omega)])) q5))
 ·
  obtain ⟨d1, d2⟩ := Bool.or_eq_false_iff.mp c1
  replace d1 := of_decide_eq_false d1
  replace d2 := of_decide_eq_false d2
  refine wp_skip ?_
  refine tn ?_
  refine wp_seq ?_
  refine reg (a := a2) (σ := s2) rfl (fun i_ => List.getD [(Ty.pr (Ty.int n)), (Ty.pr (Ty.lst Ty.int (roundsL ((n).toNat)))), (Ty.pr (Ty.lst Ty.int (roundsL ((n).toNat)))), (Ty.pr (Ty.int (0 : Int)))] i_ Pr.any) ok2 rfl ⟨?_, ?_, ?_, ?_, trivial⟩ ?_
  · intro ax tx hs okx sm
    exact run_plain rfl (y_move (kp (sm 0 rfl) hs q2))
  · intro ax tx hs okx sm d0
    have e0 : At (Ty.int n) tx ax (.tmp 10) := d0 rfl
    exact run_plain rfl (y_call #[ax.eval (.tmp 10)] Try.func99 rfl rfl (by simp only [List.map_toArray, List.map_cons, List.map_nil]) (first_fn ((n).toNat) _ _ (cvi (σ := tx) (by omega) e0) (by omega)))
  · intro ax tx hs okx sm d0 d1 d2 d3
    have e1 : At (Ty.lst Ty.int (roundsL ((n).toNat))) tx ax (.tmp 11) := d0 rfl
    have e0 : At (Ty.int n) tx ax (.tmp 10) := d2 rfl
    exact run_plain rfl (y_assign e1)
  · intro ax tx hs okx sm d0 d1 d2 d3
    have e2 : At (Ty.lst Ty.int (roundsL ((n).toNat))) tx ax (.tmp 2) := d0 rfl
    have e0 : At (Ty.int n) tx ax (.tmp 10) := d1 rfl
    have e1 : At (Ty.lst Ty.int (roundsL ((n).toNat))) tx ax (.tmp 11) := d2 rfl
    exact run_plain rfl (y_assign rfl)
  intro a4 s4 D4
  have ok4 := D4.ok
  have F4 := F2.step0 D4.stp
  have q6 : At (Ty.lst Ty.int (roundsL ((n).toNat))) s4 a4 (.tmp 2) := D4.done 2
  have q7 : At (Ty.int (0 : Int)) s4 a4 (.tmp 3) := D4.done 3
  clear D4
  refine tn ?_
  refine wp_ret ?_
  exact retL2 rfl ok4 F4 (hasT2 (cvt (by (rw [if_pos (by omega)])) q6) (cvi (by (rw [if_pos (by omega)])) q7))


set_option maxHeartbeats 4000000 in
set_option maxRecDepth 100000 in
theorem rowAll_fn (n : Nat) (σ : GW)  (v0 : Value) (hv0 : Ty.has (Ty.nat n) σ v0)  (hn : n ≤ 12) :
    FnC Try.prog 84 #[v0] σ (Ty.nat (fct n)) := by
 refine fn_intro0 Try.func84 rfl Try.ntmps84 (Nat.le_of_ble_eq_true rfl) (fun s0 a0 hle F0 ok0 hargs => ?_)
 have p0 : At (Ty.nat n) s0 a0 (.tmp 0) := by have e := hargs 0 _ rfl; show Ty.has _ _ _; rw [e]; exact Ty.up _ hle hv0
 clear hargs
 refine wp_seq ?_
 refine reg (a := a0) (σ := s0) rfl (fun i_ => List.getD [(Ty.pr (Ty.int (0 : Int)))] i_ Pr.any) ok0 rfl ⟨?_, trivial⟩ ?_
 · intro ax tx hs okx sm
   exact run_plain rfl (y_assign rfl)
 intro a1 s1 D1
 have ok1 := D1.ok
 have F1 := F0.step0 D1.stp
 have q1 : At (Ty.nat n) s1 a1 (.tmp 0) := D1.kt p0 rfl
 clear D1
 refine tn ?_
 refine wp_seq ?_
 refine reg (a := a1) (σ := s1) rfl (fun i_ => List.getD [(Ty.pr (Ty.int (1 : Int)))] i_ Pr.any) ok1 rfl ⟨?_, trivial⟩ ?_
 · intro ax tx hs okx sm
   exact run_plain rfl (y_assign rfl)
 intro a2 s2 D2
 have ok2 := D2.ok
 have F2 := F1.step0 D2.stp
 have q2 : At (Ty.nat n) s2 a2 (.tmp 0) := D2.kt q1 rfl
 have q3 : At (Ty.int (1 : Int)) s2 a2 (.tmp 3) := D2.done 0
 clear D2
 refine tn ?_
 refine wp_seq ?_
 refine wp_seq ?_
 refine reg (a := a2) (σ := s2) rfl (fun i_ => List.getD [(Ty.pr (Ty.int (2 : Int)))] i_ Pr.any) ok2 rfl ⟨?_, trivial⟩ ?_
 · intro ax tx hs okx sm
   exact run_plain rfl (y_assign rfl)
 intro a3 s3 D3
 have ok3 := D3.ok
 have F3 := F2.step0 D3.stp
 have q4 : At (Ty.nat n) s3 a3 (.tmp 0) := D3.kt q2 rfl
 have q5 : At (Ty.int (1 : Int)) s3 a3 (.tmp 3) := D3.kt q3 rfl
 have q6 : At (Ty.int (2 : Int)) s3 a3 (.tmp 4) := D3.done 0
 clear D3
 refine tn ?_
 refine wp_block ?_
 refine loop (fun n1 a4 w1 => ∃ (t1 : GW) (j : Nat), t1.w = w1 ∧ FromL [] s0 t1 ∧ Ok 14 a4 ∧ At (Ty.nat (fct j)) t1 a4 (.tmp 3) ∧ At (Ty.nat (j + 1)) t1 a4 (.tmp 4) ∧ At (Ty.nat n) t1 a4 (.tmp 0) ∧ (1 ≤ j) ∧ (j ≤ n ∨ j = 1) ∧ n1 = n + 1 - j) (n + 1 - (1)) ?_ ?_
 ·
  exact ⟨s3, 1, rfl, F3, ok3, (cvi (by (rfl)) q5), (cvi (by (rfl)) q6), q4, by omega, by omega, rfl⟩
 ·
  rintro n2 a5 w2 ⟨t2, j, rfl, F4, ok4, q7, q8, q9, hj, hj2, rfl⟩
  refine wp_seq ?_
  refine wp_seq ?_
  refine reg (a := a5) (σ := t2) rfl (fun i_ => List.getD [(Ty.pr (Ty.nat (j + 1))), (Ty.pr (Ty.nat n)), (Ty.pr (Ty.bool (decide ((((j + 1) : Nat) : Int) ≤ ((n : Nat) : Int)))))] i_ Pr.any) ok4 rfl ⟨?_, ?_, ?_, trivial⟩ ?_
  · intro ax tx hs okx sm
    exact run_plain rfl (y_move (kp (sm 4 rfl) hs q8))
  · intro ax tx hs okx sm
    exact run_plain rfl (y_move (kp (sm 0 rfl) hs q9))
  · intro ax tx hs okx sm d0 d1
    have e0 : At (Ty.nat (j + 1)) tx ax (.tmp 5) := d0 rfl
    have e1 : At (Ty.nat n) tx ax (.tmp 6) := d1 rfl
    exact run_plain rfl (y_leq e0 e1)
  intro a6 s4 D4
  have ok5 := D4.ok
  have F5 := F4.step0 D4.stp
  have q10 : At (Ty.nat (fct j)) s4 a6 (.tmp 3) := D4.kt q7 rfl
  have q11 : At (Ty.nat (j + 1)) s4 a6 (.tmp 4) := D4.kt q8 rfl
  have q12 : At (Ty.nat n) s4 a6 (.tmp 0) := D4.kt q9 rfl
  have q13 : At (Ty.bool (decide ((((j + 1) : Nat) : Int) ≤ ((n : Nat) : Int)))) s4 a6 (.tmp 7) := D4.done 2
  clear D4
  refine tn ?_
  refine cond_p (p := ((((j + 1) : Nat) : Int) ≤ ((n : Nat) : Int))) q13 (fun c1 => ?_) (fun c1 => ?_)
  ·
   have hm : ((fct j : Nat) : Int) * ((j + 1 : Nat) : Int) ≤ 479001600 ∧ 0 ≤ ((fct j : Nat) : Int) * ((j + 1 : Nat) : Int) := (by have := fct_le12 (n := j + 1) (by omega); rw [fct, Nat.mul_comm] at this; rw [← Int.natCast_mul]; omega)
   refine wp_skip ?_
   refine tn ?_
   refine wp_seq ?_
   refine wp_block ?_
   refine reg (a := a6) (σ := s4) rfl (fun i_ => List.getD [(Ty.pr (Ty.nat (fct j))), (Ty.pr (Ty.nat (j + 1))), (Ty.pr (Ty.nat ((fct j) * (j + 1)))), (Ty.pr (Ty.nat ((fct j) * (j + 1))))] i_ Pr.any) ok5 rfl ⟨?_, ?_, ?_, ?_, trivial⟩ ?_
   · intro ax tx hs okx sm
     exact run_plain rfl (y_move (kp (sm 3 rfl) hs q10))
   · intro ax tx hs okx sm
     exact run_plain rfl (y_move (kp (sm 4 rfl) hs q11))
   · intro ax tx hs okx sm d0 d1
     have e0 : At (Ty.nat (fct j)) tx ax (.tmp 10) := d0 rfl
     have e1 : At (Ty.nat (j + 1)) tx ax (.tmp 11) := d1 rfl
     exact run_plain rfl ((y_mul e0 e1 (w64 (by omega) (by omega))).mono (fun τ _ h => cvi (σ := τ) (by first | omega | exact (Int.natCast_mul _ _).symm) h))
   · intro ax tx hs okx sm d0 d1 d2 d3
     have e2 : At (Ty.nat ((fct j) * (j + 1))) tx ax (.tmp 12) := d0 rfl
     have e0 : At (Ty.nat (fct j)) tx ax (.tmp 10) := d1 rfl
     have e1 : At (Ty.nat (j + 1)) tx ax (.tmp 11) := d2 rfl
     exact run_plain rfl (y_assign e2)
   intro a7 s5 D5
   have ok6 := D5.ok
   have F6 := F5.step0 D5.stp
   have q14 : At (Ty.nat (j + 1)) s5 a7 (.tmp 4) := D5.kt q11 rfl
   have q15 : At (Ty.nat n) s5 a7 (.tmp 0) := D5.kt q12 rfl
   have q16 : At (Ty.nat ((fct j) * (j + 1))) s5 a7 (.tmp 3) := D5.done 3
   clear D5
   refine bn ?_
   refine tn ?_
   refine reg (a := a7) (σ := s5) rfl (fun i_ => List.getD [(Ty.pr (Ty.nat (j + 1))), (Ty.pr (Ty.nat ((j + 1) + 1))), (Ty.pr (Ty.nat ((j + 1) + 1)))] i_ Pr.any) ok6 rfl ⟨?_, ?_, ?_, trivial⟩ ?_
   · intro ax tx hs okx sm
     exact run_plain rfl (y_move (kp (sm 4 rfl) hs q14))
   · intro ax tx hs okx sm d0
     have e0 : At (Ty.nat (j + 1)) tx ax (.tmp 8) := d0 rfl
     exact run_plain rfl ((y_add e0 rfl (w64 (by omega) (by omega))).mono (fun τ _ h => cvi (σ := τ) (by first | omega | exact (Int.natCast_mul _ _).symm) h))
   · intro ax tx hs okx sm d0 d1 d2
     have e1 : At (Ty.nat ((j + 1) + 1)) tx ax (.tmp 9) := d0 rfl
     have e0 : At (Ty.nat (j + 1)) tx ax (.tmp 8) := d1 rfl
     exact run_plain rfl (y_assign e1)
   intro a8 s6 D6
   have ok7 := D6.ok
   have F7 := F6.step0 D6.stp
   have q17 : At (Ty.nat n) s6 a8 (.tmp 0) := D6.kt q15 rfl
   have q18 : At (Ty.nat ((fct j) * (j + 1))) s6 a8 (.tmp 3) := D6.kt q16 rfl
   have q19 : At (Ty.nat ((j + 1) + 1)) s6 a8 (.tmp 4) := D6.done 2
   clear D6
   exact tn ⟨n + 1 - ((j + 1)), by omega, s6, (j + 1), rfl, F7, ok7, (cvi (by (rw [fct, Nat.mul_comm])) q18), (cvi (by (omega)) q19), q17, by omega, by omega, rfl⟩
  ·
   refine wp_exit ?_
   refine tx ?_
   refine tx ?_
   refine bx ?_
   refine tn ?_
   refine wp_seq ?_
   refine reg (a := a6) (σ := s4) rfl (fun i_ => List.getD [(Ty.pr (Ty.nat (fct j))), (Ty.pr (Ty.nat (fct j)))] i_ Pr.any) ok5 rfl ⟨?_, ?_, trivial⟩ ?_
   · intro ax tx hs okx sm
     exact run_plain rfl (y_move (kp (sm 3 rfl) hs q10))
   · intro ax tx hs okx sm d0 d1
     have e0 : At (Ty.nat (fct j)) tx ax (.tmp 13) := d0 rfl
     exact run_plain rfl (y_assign e0)
   intro a9 s7 D7
   have ok8 := D7.ok
   have F8 := F5.step0 D7.stp
   have q20 : At (Ty.nat (fct j)) s7 a9 (.tmp 2) := D7.done 1
   clear D7
   refine tn ?_
   refine wp_ret ?_
   exact retL1 rfl ok8 F8 (cvi (by (rw [fct_all hj hj2 (by omega)])) q20)


set_option maxHeartbeats 4000000 in
set_option maxRecDepth 100000 in
theorem firstO_fn (n : Nat) (σ : GW) (hlow : Low [] σ) (v0 : Value) (hv0 : Ty.has (Ty.nat n) σ v0)  (hn : n ≤ 1000000) :
    FnL Try.prog 99 #[v0] σ [] (fun v τ => ∃ (z : Value), (Ty.has (Ty.val z) τ v) ∧ (Own τ 42 3 1 z (List.length (roundsL n)) (List.map Ty.int (roundsL n)))) := by
 refine fn_introL hlow Try.func99 rfl Try.ntmps99 (Nat.le_of_ble_eq_true rfl) (fun a0 F0 ok0 hargs => ?_)
 have p0 : At (Ty.nat n) σ a0 (.tmp 0) := by have e := hargs 0 _ rfl; show Ty.has _ _ _; rw [e]; exact hv0
 clear hargs
 refine wp_seq ?_
 refine reg (a := a0) (σ := σ) rfl (fun i_ => List.getD [(Ty.pr (Ty.val (Value.slice none 0 0)))] i_ Pr.any) ok0 rfl ⟨?_, trivial⟩ ?_
 · intro ax tx hs okx sm
   exact run_plain rfl (y_assign rfl)
 intro a1 s1 D1
 have ok1 := D1.ok
 have F1 := F0.step0 D1.stp
 have q1 : At (Ty.nat n) s1 a1 (.tmp 0) := D1.kt p0 rfl
 clear D1
 refine tn ?_
 refine wp_seq ?_
 refine reg2 (a := a1) (σ := s1) rfl 2 (fun i_ => List.getD [(Ty.pr (Ty.nat n)), (Pr.own 42 3 1 n (List.map Ty.int (List.replicate n 0)))] i_ Pr.any) ok1 rfl (by decide) rfl ⟨?_, ?_, trivial⟩ ?_
 · intro ax tx hs okx sm
   exact run_plain rfl (y_move (kp (sm 0 rfl) hs q1))
 · intro ax tx hs okx sm d0 d1
   have e0 : At (Ty.nat n) tx ax (.tmp 5) := d0 rfl
   exact run_plain rfl ((y_make (k := 42) (T := Ty.int 0) (n := n) Try.underlying34 Try.inf3 rfl (fun _ => rfl) e0 e0 (by omega) (by omega)).mono (fun _ _ h => cvo (by simp) (by simp) h))
 intro a2 s2 D2
 have ok2 := D2.ok
 have F2 := F1.step0 D2.stp
 obtain ⟨x1, hx1⟩ : ∃ x, a2.eval (.tmp 6) = x := ⟨_, rfl⟩
 have q2 : At (Ty.val x1) s2 a2 (.tmp 6) := hx1
 have o1 : Own s2 42 3 1 x1 n (List.map Ty.int (List.replicate n 0)) := al2 (R := (Pr.own 42 3 1 n (List.map Ty.int (List.replicate n 0)))) hx1 (D2.done 1 (by decide))
 clear D2
 refine tailL (L := []) (R := (fun v τ => Pr.has (Ty.pr (Ty.val x1)) τ v)) rfl rfl (by decide) ok2 (Yld.toL (y_assign q2)) (fun a3 s3 hs1 ok3 r1 sm1 => ?_)
 have F3 := F2.stepL hs1 (by decide)
 have o2 := Own.keepL o1 hs1 (by decide) (by decide)
 have q3 : At (Ty.val x1) s3 a3 (.tmp 3) := r1
 clear r1
 refine wpList_nil ?_
 refine tn ?_
 refine wp_seq ?_
 refine wp_seq ?_
 refine reg (a := a3) (σ := s3) rfl (fun i_ => List.getD [(Ty.pr (Ty.val x1)), (Ty.pr (Ty.nat n)), (Ty.pr (Ty.int (0 : Int)))] i_ Pr.any) ok3 rfl ⟨?_, ?_, ?_, trivial⟩ ?_
 · intro ax tx hs okx sm
   exact run_plain rfl (y_move (kp (sm 3 rfl) hs q3))
 · intro ax tx hs okx sm d0
   have e0 : At (Ty.val x1) tx ax (.tmp 7) := d0 rfl
   exact run_plain rfl (own_len Try.underlying34 (al (R := (Pr.own 42 3 1 n (List.map Ty.int (List.replicate n 0)))) e0 (Own.k0 o2 hs)))
 · intro ax tx hs okx sm
   exact run_plain rfl (y_move rfl)
 intro a4 s4 D3
 have ok4 := D3.ok
 have F4 := F3.step0 D3.stp
 have q4 : At (Ty.val x1) s4 a4 (.tmp 3) := D3.kt q3 rfl
 have o3 := Own.k0 o2 D3.stp
 have q5 : At (Ty.nat n) s4 a4 (.tmp 8) := D3.done 1
 have q6 : At (Ty.int (0 : Int)) s4 a4 (.tmp 9) := D3.done 2
 clear D3
 refine tn ?_
 refine wp_block ?_
 refine loop (fun n1 a5 w1 => ∃ (t1 : GW) (k : Nat) (x3_0 : Value), t1.w = w1 ∧ FromL [] σ t1 ∧ Ok 18 a5 ∧ At (Ty.nat k) t1 a5 (.tmp 9) ∧ At (Ty.val x3_0) t1 a5 (.tmp 3) ∧ At (Ty.nat n) t1 a5 (.tmp 8) ∧ Own t1 42 3 1 x3_0 (List.length (firstTo n k)) (List.map Ty.int (firstTo n k)) ∧ (k ≤ n) ∧ n1 = n - k) (n - (0)) ?_ ?_
 ·
  exact ⟨s4, 0, x1, rfl, F4, ok4, (cvi (by (first | rfl | omega | (simp_all; done) | (simp_all; omega))) q6), q4, q5, (cvo (by (simp [firstTo_zero])) (by (simp [firstTo_zero])) o3), by omega, rfl⟩
 ·
  rintro n2 a6 w2 ⟨t2, k, x3_0, rfl, F5, ok5, q7, q8, q9, o4, hk, rfl⟩
  have hp := firstTo_len n k
  refine wp_seq ?_
  refine reg (a := a6) (σ := t2) rfl (fun i_ => List.getD [(Ty.pr (Ty.bool (decide (((k : Nat) : Int) < ((n : Nat) : Int)))))] i_ Pr.any) ok5 rfl ⟨?_, trivial⟩ ?_
  · intro ax tx hs okx sm
    exact run_plain rfl (y_lss (kp (sm 9 rfl) hs q7) (kp (sm 8 rfl) hs q9))
  intro a7 s5 D4
  have ok6 := D4.ok
  have F6 := F5.step0 D4.stp
  have q10 : At (Ty.nat k) s5 a7 (.tmp 9) := D4.kt q7 rfl
  have q11 : At (Ty.val x3_0) s5 a7 (.tmp 3) := D4.kt q8 rfl
  have q12 : At (Ty.nat n) s5 a7 (.tmp 8) := D4.kt q9 rfl
  have o5 := Own.k0 o4 D4.stp
  have q13 : At (Ty.bool (decide (((k : Nat) : Int) < ((n : Nat) : Int)))) s5 a7 (.tmp 10) := D4.done 0
  clear D4
  refine tn ?_
  refine wp_seq ?_
  refine cond_p (p := (((k : Nat) : Int) < ((n : Nat) : Int))) q13 (fun c1 => ?_) (fun c1 => ?_)
  ·
   refine wp_skip ?_
   refine tn ?_
   refine wp_seq ?_
   refine wp_block ?_
   refine wp_seq ?_
   refine reg (a := a7) (σ := s5) rfl (fun i_ => List.getD [(Ty.pr (Ty.nat k)), (Ty.pr (Ty.nat k))] i_ Pr.any) ok6 rfl ⟨?_, ?_, trivial⟩ ?_
   · intro ax tx hs okx sm
     exact run_plain rfl (y_move (kp (sm 9 rfl) hs q10))
   · intro ax tx hs okx sm d0 d1
     have e0 : At (Ty.nat k) tx ax (.tmp 11) := d0 rfl
     exact run_plain rfl (y_assign e0)
   intro a8 s6 D5
   have ok7 := D5.ok
   have F7 := F6.step0 D5.stp
   have q14 : At (Ty.nat k) s6 a8 (.tmp 9) := D5.kt q10 rfl
   have q15 : At (Ty.val x3_0) s6 a8 (.tmp 3) := D5.kt q11 rfl
   have q16 : At (Ty.nat n) s6 a8 (.tmp 8) := D5.kt q12 rfl
   have o6 := Own.k0 o5 D5.stp
   have q17 : At (Ty.nat k) s6 a8 (.tmp 4) := D5.done 1
   clear D5
   refine tn ?_
   refine reg2 (a := a8) (σ := s6) rfl 4 (fun i_ => List.getD [(Ty.pr (Ty.val x3_0)), (Ty.pr (Ty.nat k)), (Ty.pr (Ty.nat k)), (Ty.pr (Ty.val (cellPtr x3_0 k)))] i_ Pr.any) ok7 rfl (by decide) rfl ⟨?_, ?_, ?_, ?_, trivial⟩ ?_
   · intro ax tx hs okx sm
     exact run_plain rfl (y_move (kp (sm 3 rfl) hs q15))
   · intro ax tx hs okx sm
     exact run_plain rfl (y_move (kp (sm 4 rfl) hs q17))
   · intro ax tx hs okx sm
     exact run_plain rfl (y_move (kp (sm 4 rfl) hs q17))
   · intro ax tx hs okx sm d0 d1 d2 d3 d4
     have e0 : At (Ty.val x3_0) tx ax (.tmp 12) := d0 rfl
     have e1 : At (Ty.nat k) tx ax (.tmp 13) := d1 rfl
     have e2 : At (Ty.nat k) tx ax (.tmp 14) := d4 rfl
     exact run_plain rfl (own_index1 (i := ((k : Nat) : Int)) Try.underlying34 Try.inf3 (Own.k0 o6 hs) e0 e1 (by omega) (by omega))
   intro a9 s7 D6
   have ok8 := D6.ok
   have F8 := F7.step0 D6.stp
   have q18 : At (Ty.nat k) s7 a9 (.tmp 9) := D6.kt q14 rfl
   have q19 : At (Ty.val x3_0) s7 a9 (.tmp 3) := D6.kt q15 rfl
   have q20 : At (Ty.nat n) s7 a9 (.tmp 8) := D6.kt q16 rfl
   have o7 := Own.k0 o6 D6.stp
   have q21 : At (Ty.nat k) s7 a9 (.tmp 14) := D6.done 2 (by decide)
   have q22 : At (Ty.val (cellPtr x3_0 k)) s7 a9 (.tmp 15) := D6.done 3 (by decide)
   clear D6
   refine tailL0 (L := [42]) (R := (fun _ τ => Own τ 42 3 1 x3_0 (List.length (firstTo n k)) ((List.map Ty.int (firstTo n k)).set k (Ty.nat k)))) rfl rfl (YldM.toL (m_store Try.inf3 (by decide) o7 q22 (by simp only [List.length_map, List.length_set]; omega) q21 (one_val rfl))) (fun v1 s8 hs2 r2 => ?_)
   have F9 := F8.stepL hs2 (by decide)
   have q23 : At (Ty.nat k) s8 a9 (.tmp 9) := kpL hs2 (by decide) rfl q18
   have q24 : At (Ty.val x3_0) s8 a9 (.tmp 3) := kpL hs2 (by decide) rfl q19
   have q25 : At (Ty.nat n) s8 a9 (.tmp 8) := kpL hs2 (by decide) rfl q20
   have o8 : Own s8 42 3 1 x3_0 (List.length ((firstTo n k).set k ((k : Nat) : Int))) (List.map Ty.int ((firstTo n k).set k ((k : Nat) : Int))) := (cvo (by simp) (by simp) r2)
   clear r2
   refine wpList_nil ?_
   refine bn ?_
   refine tn ?_
   refine reg (a := a9) (σ := s8) rfl (fun i_ => List.getD [(Ty.pr (Ty.nat (k + 1))), (Ty.pr (Ty.nat (k + 1)))] i_ Pr.any) ok8 rfl ⟨?_, ?_, trivial⟩ ?_
   · intro ax tx hs okx sm
     exact run_plain rfl ((y_add (kp (sm 9 rfl) hs q23) rfl (w64 (by omega) (by omega))).mono (fun τ _ h => cvi (σ := τ) (by first | omega | exact (Int.natCast_mul _ _).symm) h))
   · intro ax tx hs okx sm d0
     have e0 : At (Ty.nat (k + 1)) tx ax (.tmp 16) := d0 rfl
     exact run_plain rfl (y_move e0)
   intro a10 s9 D7
   have ok9 := D7.ok
   have F10 := F9.step0 D7.stp
   have q27 : At (Ty.val x3_0) s9 a10 (.tmp 3) := D7.kt q24 rfl
   have q28 : At (Ty.nat n) s9 a10 (.tmp 8) := D7.kt q25 rfl
   have o9 := Own.k0 o8 D7.stp
   have q29 : At (Ty.nat (k + 1)) s9 a10 (.tmp 9) := D7.done 1
   clear D7
   exact tn ⟨n - ((k+1)), by omega, s9, (k+1), x3_0, rfl, F10, ok9, (cvi (by (first | rfl | omega | (simp_all; done) | (simp_all; omega))) q29), q27, q28, (cvo (by (rw [firstTo_step n k])) (by (rw [firstTo_step n k])) o9), by omega, rfl⟩
  ·
   refine wp_exit ?_
   refine tx ?_
   refine tx ?_
   refine bx ?_
   refine tn ?_
   refine wp_seq ?_
   refine reg (a := a7) (σ := s5) rfl (fun i_ => List.getD [(Ty.pr (Ty.val x3_0)), (Ty.pr (Ty.val x3_0))] i_ Pr.any) ok6 rfl ⟨?_, ?_, trivial⟩ ?_
   · intro ax tx hs okx sm
     exact run_plain rfl (y_move (kp (sm 3 rfl) hs q11))
   · intro ax tx hs okx sm d0 d1
     have e0 : At (Ty.val x3_0) tx ax (.tmp 17) := d0 rfl
     exact run_plain rfl (y_assign e0)
   intro a11 s10 D8
   have ok10 := D8.ok
   have F11 := F6.step0 D8.stp
   have o10 := Own.k0 o5 D8.stp
   have q30 : At (Ty.val x3_0) s10 a11 (.tmp 2) := D8.done 1
   clear D8
   refine tn ?_
   refine wp_ret ?_
   exact retL1 rfl ok10 F11 ⟨x3_0, q30, (cvo (by (obtain rfl : k = n := (by omega); rw [firstTo_all])) (by (obtain rfl : k = n := (by omega); rw [firstTo_all])) o10)⟩


set_option maxHeartbeats 4000000 in
set_option maxRecDepth 100000 in
theorem delete_fn (s : Value) (xs : List Int) (i : Nat) (σ : GW) (hlow : Low [40] σ) (v0 v1 v2 : Value) (hv0 : Ty.has (Ty.val s) σ v0) (hv1 : Ty.has (Ty.nat i) σ v1) (hv2 : Ty.has (Ty.nat (i + 1)) σ v2) (ho_s : Own σ 40 3 1 s (List.length xs) (List.map Ty.int xs)) (hi : i < xs.length) (hl : xs.length ≤ 1000000) :
    FnL Try.prog 100 #[v0, v1, v2] σ [40] (fun v τ => ∃ (z : Value), (Ty.has (Ty.val z) τ v) ∧ (Own τ 40 3 1 z (List.length (xs.eraseIdx i)) (List.map Ty.int (xs.eraseIdx i)))) := by
 refine fn_introL hlow Try.func100 rfl Try.ntmps100 (Nat.le_of_ble_eq_true rfl) (fun a0 F0 ok0 hargs => ?_)
 have p0 : At (Ty.val s) σ a0 (.tmp 0) := by have e := hargs 0 _ rfl; show Ty.has _ _ _; rw [e]; exact hv0
 have p1 : At (Ty.nat i) σ a0 (.tmp 1) := by have e := hargs 1 _ rfl; show Ty.has _ _ _; rw [e]; exact hv1
 have p2 : At (Ty.nat (i + 1)) σ a0 (.tmp 2) := by have e := hargs 2 _ rfl; show Ty.has _ _ _; rw [e]; exact hv2
 clear hargs
 refine wp_seq ?_
 refine reg (a := a0) (σ := σ) rfl (fun i_ => List.getD [(Ty.pr (Ty.val (Value.slice none 0 0)))] i_ Pr.any) ok0 rfl ⟨?_, trivial⟩ ?_
 · intro ax tx hs okx sm
   exact run_plain rfl (y_assign rfl)
 intro a1 s1 D1
 have ok1 := D1.ok
 have F1 := F0.step0 D1.stp
 have q1 : At (Ty.val s) s1 a1 (.tmp 0) := D1.kt p0 rfl
 have q2 : At (Ty.nat i) s1 a1 (.tmp 1) := D1.kt p1 rfl
 have q3 : At (Ty.nat (i + 1)) s1 a1 (.tmp 2) := D1.kt p2 rfl
 have o1 := Own.k0 ho_s D1.stp
 clear D1
 refine tn ?_
 refine wp_seq ?_
 refine reg (a := a1) (σ := s1) rfl (fun i_ => List.getD [(Ty.pr (Ty.val s)), (Ty.pr (Ty.nat i)), (Ty.pr (Ty.nat (i + 1))), (Ty.pr (Ty.val s)), (Ty.pr (Ty.nat (List.length xs))), Pr.any] i_ Pr.any) ok1 rfl ⟨?_, ?_, ?_, ?_, ?_, ?_, trivial⟩ ?_
 · intro ax tx hs okx sm
   exact run_plain rfl (y_move (kp (sm 0 rfl) hs q1))
 · intro ax tx hs okx sm
   exact run_plain rfl (y_move (kp (sm 1 rfl) hs q2))
 · intro ax tx hs okx sm
   exact run_plain rfl (y_move (kp (sm 2 rfl) hs q3))
 · intro ax tx hs okx sm
   exact run_plain rfl (y_move (kp (sm 0 rfl) hs q1))
 · intro ax tx hs okx sm d0
   have e3 : At (Ty.val s) tx ax (.tmp 11) := d0 rfl
   exact run_plain rfl (own_len Try.underlying34 (al (R := (Pr.own 40 3 1 (List.length xs) (List.map Ty.int xs))) e3 (Own.k0 o1 hs)))
 · intro ax tx hs okx sm d0 d1 d2 d3
   have e0 : At (Ty.val s) tx ax (.tmp 8) := d0 rfl
   have e1 : At (Ty.nat i) tx ax (.tmp 9) := d1 rfl
   have e2 : At (Ty.nat (i + 1)) tx ax (.tmp 10) := d2 rfl
   have e4 : At (Ty.nat (List.length xs)) tx ax (.tmp 12) := d3 rfl
   exact run_plain rfl (y_three (i := i) (j := (i + 1)) (m := (List.length xs)) Try.underlying34 Try.inf3 (Own.k0 o1 hs) e0 e1 e2 e4 (by omega) (by omega) (by omega))
 intro a2 s2 D2
 have ok2 := D2.ok
 have F2 := F1.step0 D2.stp
 have q4 : At (Ty.val s) s2 a2 (.tmp 0) := D2.kt q1 rfl
 have q5 : At (Ty.nat i) s2 a2 (.tmp 1) := D2.kt q2 rfl
 have q6 : At (Ty.nat (i + 1)) s2 a2 (.tmp 2) := D2.kt q3 rfl
 have o2 := Own.k0 o1 D2.stp
 clear D2
 refine tn ?_
 refine wp_seq ?_
 refine wp_seq ?_
 refine reg (a := a2) (σ := s2) rfl (fun i_ => List.getD [(Ty.pr (Ty.nat i)), (Ty.pr (Ty.nat (i + 1))), (Ty.pr (Ty.bool (decide (((i : Nat) : Int) = (((i + 1) : Nat) : Int)))))] i_ Pr.any) ok2 rfl ⟨?_, ?_, ?_, trivial⟩ ?_
 · intro ax tx hs okx sm
   exact run_plain rfl (y_move (kp (sm 1 rfl) hs q5))
 · intro ax tx hs okx sm
   exact run_plain rfl (y_move (kp (sm 2 rfl) hs q6))
 · intro ax tx hs okx sm d0 d1
   have e0 : At (Ty.nat i) tx ax (.tmp 14) := d0 rfl
   have e1 : At (Ty.nat (i + 1)) tx ax (.tmp 15) := d1 rfl
   exact run_plain rfl (y_eql e0 e1)
 intro a3 s3 D3
 have ok3 := D3.ok
 have F3 := F2.step0 D3.stp
 have q7 : At (Ty.val s) s3 a3 (.tmp 0) := D3.kt q4 rfl
 have q8 : At (Ty.nat i) s3 a3 (.tmp 1) := D3.kt q5 rfl
 have q9 : At (Ty.nat (i + 1)) s3 a3 (.tmp 2) := D3.kt q6 rfl
 have o3 := Own.k0 o2 D3.stp
 have q10 : At (Ty.bool (decide (((i : Nat) : Int) = (((i + 1) : Nat) : Int)))) s3 a3 (.tmp 16) := D3.done 2
 clear D3
 refine tn ?_
 refine cond_p (p := (((i : Nat) : Int) = (((i + 1) : Nat) : Int))) q10 (fun c1 => ?_) (fun c1 => ?_)
 ·
  exfalso
  omega
 ·
  refine wp_skip ?_
  refine tn ?_
  refine wp_seq ?_
  refine reg (a := a3) (σ := s3) rfl (fun i_ => List.getD [(Ty.pr (Ty.val s)), (Ty.pr (Ty.nat (List.length xs))), (Ty.pr (Ty.nat (List.length xs)))] i_ Pr.any) ok3 rfl ⟨?_, ?_, ?_, trivial⟩ ?_
  · intro ax tx hs okx sm
    exact run_plain rfl (y_move (kp (sm 0 rfl) hs q7))
  · intro ax tx hs okx sm d0
    have e0 : At (Ty.val s) tx ax (.tmp 18) := d0 rfl
    exact run_plain rfl (own_len Try.underlying34 (al (R := (Pr.own 40 3 1 (List.length xs) (List.map Ty.int xs))) e0 (Own.k0 o3 hs)))
  · intro ax tx hs okx sm d0 d1 d2
    have e1 : At (Ty.nat (List.length xs)) tx ax (.tmp 19) := d0 rfl
    have e0 : At (Ty.val s) tx ax (.tmp 18) := d1 rfl
    exact run_plain rfl (y_assign e1)
  intro a4 s4 D4
  have ok4 := D4.ok
  have F4 := F3.step0 D4.stp
  have q11 : At (Ty.val s) s4 a4 (.tmp 0) := D4.kt q7 rfl
  have q12 : At (Ty.nat i) s4 a4 (.tmp 1) := D4.kt q8 rfl
  have q13 : At (Ty.nat (i + 1)) s4 a4 (.tmp 2) := D4.kt q9 rfl
  have o4 := Own.k0 o3 D4.stp
  have q14 : At (Ty.nat (List.length xs)) s4 a4 (.tmp 7) := D4.done 2
  clear D4
  refine tn ?_
  refine wp_seq ?_
  refine reg2 (a := a4) (σ := s4) rfl 6 (fun i_ => List.getD [(Ty.pr (Ty.val s)), (Ty.pr (Ty.nat i)), (Ty.pr (Ty.val (preOf s i))), (Ty.pr (Ty.val s)), (Ty.pr (Ty.nat (i + 1))), (Ty.pr (Ty.val (sufOf s (i + 1))))] i_ Pr.any) ok4 rfl (by decide) rfl ⟨?_, ?_, ?_, ?_, ?_, ?_, trivial⟩ ?_
  · intro ax tx hs okx sm
    exact run_plain rfl (y_move (kp (sm 0 rfl) hs q11))
  · intro ax tx hs okx sm
    exact run_plain rfl (y_move (kp (sm 1 rfl) hs q12))
  · intro ax tx hs okx sm d0 d1
    have e0 : At (Ty.val s) tx ax (.tmp 20) := d0 rfl
    have e1 : At (Ty.nat i) tx ax (.tmp 21) := d1 rfl
    exact run_plain rfl (y_pre (i := i) Try.underlying34 Try.inf3 (Own.k0 o4 hs) e0 e1 (by omega))
  · intro ax tx hs okx sm
    exact run_plain rfl (y_move (kp (sm 0 rfl) hs q11))
  · intro ax tx hs okx sm
    exact run_plain rfl (y_move (kp (sm 2 rfl) hs q13))
  · intro ax tx hs okx sm d0 d1
    have e3 : At (Ty.val s) tx ax (.tmp 23) := d0 rfl
    have e4 : At (Ty.nat (i + 1)) tx ax (.tmp 24) := d1 rfl
    exact run_plain rfl (y_suf (j := (i + 1)) Try.underlying34 Try.inf3 (Own.k0 o4 hs) e3 e4 (by omega))
  intro a5 s5 D5
  have ok5 := D5.ok
  have F5 := F4.step0 D5.stp
  have q15 : At (Ty.val s) s5 a5 (.tmp 0) := D5.kt q11 rfl
  have q16 : At (Ty.nat (List.length xs)) s5 a5 (.tmp 7) := D5.kt q14 rfl
  have o5 := Own.k0 o4 D5.stp
  have q17 : At (Ty.val (preOf s i)) s5 a5 (.tmp 22) := D5.done 2 (by decide)
  have q18 : At (Ty.val (sufOf s (i + 1))) s5 a5 (.tmp 25) := D5.done 5 (by decide)
  clear D5
  refine tailL (L := [40]) (R := (fun r_ τ => capGe r_ (List.length xs) ∧ Own τ 40 3 1 r_ (i + ((List.length xs) - (i + 1))) ((List.map Ty.int xs).take i ++ (List.map Ty.int xs).drop (i + 1)))) rfl rfl (by decide) ok5 (YldM.toL (m_delapp (i := i) (j := (i + 1)) Try.underlying34 Try.inf3 (by decide) o5 q17 q18 (by omega) (by omega) (by omega) (one_map (fun _ => one_val rfl)))) (fun a6 s6 hs1 ok6 r1 sm1 => ?_)
  have F6 := F5.stepL hs1 (by decide)
  have q19 : At (Ty.val s) s6 a6 (.tmp 0) := kpL hs1 (by decide) (sm1 0 (by decide)) q15
  have q20 : At (Ty.nat (List.length xs)) s6 a6 (.tmp 7) := kpL hs1 (by decide) (sm1 7 (by decide)) q16
  obtain ⟨x1, hx1⟩ : ∃ x, a6.eval (.tmp 26) = x := ⟨_, rfl⟩
  have q21 : At (Ty.val x1) s6 a6 (.tmp 26) := hx1
  have hcap_x1 : capGe x1 (List.length xs) := hx1 ▸ (r1).1
  have o6 : Own s6 40 3 1 x1 (List.length (xs.eraseIdx i)) (List.map Ty.int (xs.eraseIdx i)) := al2 (R := (Pr.own 40 3 1 (List.length (xs.eraseIdx i)) (List.map Ty.int (xs.eraseIdx i)))) hx1 (cvo (by rw [List.length_eraseIdx, if_pos (by omega)]; omega) (del_list _ _ _) (r1).2)
  clear r1
  refine tailL (L := []) (R := (fun v τ => Pr.has (Ty.pr (Ty.val x1)) τ v)) rfl rfl (by decide) ok6 (Yld.toL (y_assign q21)) (fun a7 s7 hs2 ok7 r2 sm2 => ?_)
  have F7 := F6.stepL hs2 (by decide)
  have q22 : At (Ty.nat (List.length xs)) s7 a7 (.tmp 7) := kpL hs2 (by decide) (sm2 7 (by decide)) q20
  have o7 := Own.keepL o6 hs2 (by decide) (by decide)
  have q23 : At (Ty.val x1) s7 a7 (.tmp 0) := r2
  clear r2
  refine wpList_nil ?_
  have hel : (xs.eraseIdx i).length + 1 = xs.length := by rw [List.length_eraseIdx, if_pos (by omega)]; omega
  refine tn ?_
  refine wp_seq ?_
  refine reg2 (a := a7) (σ := s7) rfl 5 (fun i_ => List.getD [(Ty.pr (Ty.val x1)), (Ty.pr (Ty.val x1)), (Ty.pr (Ty.nat (List.length (xs.eraseIdx i)))), (Ty.pr (Ty.nat (List.length xs))), (Ty.pr (Ty.val (tailOf x1 (List.length (xs.eraseIdx i)) (List.length xs))))] i_ Pr.any) ok7 rfl (by decide) rfl ⟨?_, ?_, ?_, ?_, ?_, trivial⟩ ?_
  · intro ax tx hs okx sm
    exact run_plain rfl (y_move (kp (sm 0 rfl) hs q23))
  · intro ax tx hs okx sm
    exact run_plain rfl (y_move (kp (sm 0 rfl) hs q23))
  · intro ax tx hs okx sm d0
    have e1 : At (Ty.val x1) tx ax (.tmp 28) := d0 rfl
    exact run_plain rfl (own_len Try.underlying34 (al (R := (Pr.own 40 3 1 (List.length (xs.eraseIdx i)) (List.map Ty.int (xs.eraseIdx i)))) e1 (Own.k0 o7 hs)))
  · intro ax tx hs okx sm
    exact run_plain rfl (y_move (kp (sm 7 rfl) hs q22))
  · intro ax tx hs okx sm d0 d1 d2
    have e0 : At (Ty.val x1) tx ax (.tmp 27) := d0 rfl
    have e2 : At (Ty.nat (List.length (xs.eraseIdx i))) tx ax (.tmp 29) := d1 rfl
    have e3 : At (Ty.nat (List.length xs)) tx ax (.tmp 30) := d2 rfl
    exact run_plain rfl (y_tail (m := (List.length (xs.eraseIdx i))) (h := (List.length xs)) Try.underlying34 Try.inf3 (Own.k0 o7 hs) e0 e2 e3 (by omega) (by assumption))
  intro a8 s8 D6
  have ok8 := D6.ok
  have F8 := F7.step0 D6.stp
  have q24 : At (Ty.val x1) s8 a8 (.tmp 0) := D6.kt q23 rfl
  have o8 := Own.k0 o7 D6.stp
  have q25 : At (Ty.val (tailOf x1 (List.length (xs.eraseIdx i)) (List.length xs))) s8 a8 (.tmp 31) := D6.done 4 (by decide)
  clear D6
  refine tailL0 (L := [40]) (R := (fun _ τ => Own τ 40 3 1 x1 (List.length (xs.eraseIdx i)) (List.map Ty.int (xs.eraseIdx i)))) rfl rfl (YldM.toL (m_clr Try.underlying34 Try.inf3 rfl rfl (by decide) o8 q25 (by omega) (by assumption))) (fun v1 s9 hs3 r3 => ?_)
  have F9 := F8.stepL hs3 (by decide)
  have q26 : At (Ty.val x1) s9 a8 (.tmp 0) := kpL hs3 (by decide) rfl q24
  have o9 : Own s9 40 3 1 x1 (List.length (xs.eraseIdx i)) (List.map Ty.int (xs.eraseIdx i)) := r3
  clear r3
  refine wpList_nil ?_
  refine tn ?_
  refine wp_seq ?_
  refine reg (a := a8) (σ := s9) rfl (fun i_ => List.getD [(Ty.pr (Ty.val x1)), (Ty.pr (Ty.val x1))] i_ Pr.any) ok8 rfl ⟨?_, ?_, trivial⟩ ?_
  · intro ax tx hs okx sm
    exact run_plain rfl (y_move (kp (sm 0 rfl) hs q26))
  · intro ax tx hs okx sm d0 d1
    have e0 : At (Ty.val x1) tx ax (.tmp 32) := d0 rfl
    exact run_plain rfl (y_assign e0)
  intro a9 s10 D7
  have ok9 := D7.ok
  have F10 := F9.step0 D7.stp
  have o10 := Own.k0 o9 D7.stp
  have q28 : At (Ty.val x1) s10 a9 (.tmp 6) := D7.done 1
  clear D7
  refine tn ?_
  refine wp_ret ?_
  exact retL1 rfl ok9 F10 ⟨x1, q28, o10⟩


set_option maxHeartbeats 4000000 in
set_option maxRecDepth 100000 in
theorem rowAt_fn (n : Int) (k : Int) (σ : GW)  (v0 v1 : Value) (hv0 : Ty.has (Ty.int n) σ v0) (hv1 : Ty.has (Ty.int k) σ v1)  (hk64 : -9223372036854775808 ≤ k ∧ k ≤ 9223372036854775807) (hn64 : -9223372036854775808 ≤ n ∧ n ≤ 9223372036854775807) :
    FnC Try.prog 53 #[v0, v1] σ (Ty.tup2 (Ty.lst Ty.int (if atMay n k = 0 then atL (n).toNat (k).toNat else [])) (Ty.int (atMay n k))) := by
 refine fn_intro0 Try.func53 rfl Try.ntmps53 (Nat.le_of_ble_eq_true rfl) (fun s0 a0 hle F0 ok0 hargs => ?_)
 have p0 : At (Ty.int n) s0 a0 (.tmp 0) := by have e := hargs 0 _ rfl; show Ty.has _ _ _; rw [e]; exact Ty.up _ hle hv0
 have p1 : At (Ty.int k) s0 a0 (.tmp 1) := by have e := hargs 1 _ rfl; show Ty.has _ _ _; rw [e]; exact Ty.up _ hle hv1
 clear hargs
 refine wp_seq ?_
 refine reg (a := a0) (σ := s0) rfl (fun i_ => List.getD [(Ty.pr (Ty.val (Value.slice none 0 0))), (Ty.pr (Ty.int (0 : Int)))] i_ Pr.any) ok0 rfl ⟨?_, ?_, trivial⟩ ?_
 · intro ax tx hs okx sm
   exact run_plain rfl (y_assign rfl)
 · intro ax tx hs okx sm d0
   have e0 : At (Ty.val (Value.slice none 0 0)) tx ax (.tmp 4) := d0 rfl
   exact run_plain rfl (y_assign rfl)
 intro a1 s1 D1
 have ok1 := D1.ok
 have F1 := F0.step0 D1.stp
 have q1 : At (Ty.int n) s1 a1 (.tmp 0) := D1.kt p0 rfl
 have q2 : At (Ty.int k) s1 a1 (.tmp 1) := D1.kt p1 rfl
 clear D1
 refine tn ?_
 refine wp_seq ?_
 refine wp_seq ?_
 refine reg (a := a1) (σ := s1) rfl (fun i_ => List.getD [(Ty.pr (Ty.int n)), (Ty.pr (Ty.bool (decide (n < (1 : Int))))), (Ty.pr (Ty.bool (decide (n < (1 : Int))))), (Ty.pr (Ty.grd ((decide (n < (1 : Int))) = false) (Ty.int n))), (Ty.pr (Ty.grd ((decide (n < (1 : Int))) = false) (Ty.bool (decide ((12 : Int) < n))))), (Ty.pr (Ty.bool ((decide (n < (1 : Int))) || (decide ((12 : Int) < n)))))] i_ Pr.any) ok1 rfl ⟨?_, ?_, ?_, ?_, ?_, ?_, trivial⟩ ?_
 · intro ax tx hs okx sm
   exact run_plain rfl (y_move (kp (sm 0 rfl) hs q1))
 · intro ax tx hs okx sm d0
   have e0 : At (Ty.int n) tx ax (.tmp 10) := d0 rfl
   exact run_plain rfl (y_lss e0 rfl)
 · intro ax tx hs okx sm d0
   have e1 : At (Ty.bool (decide (n < (1 : Int)))) tx ax (.tmp 11) := d0 rfl
   exact run_plain rfl (y_move e1)
 · intro ax tx hs okx sm d0
   have e2 : At (Ty.bool (decide (n < (1 : Int)))) tx ax (.tmp 12) := d0 rfl
   refine run_guard (T := (Ty.int n)) okx rfl rfl (by decide) e2 (fun hg => ?_)
   have hp := of_decide_eq_false hg
   exact y_move (kp (sm 0 rfl) hs q1)
 · intro ax tx hs okx sm d0 d1
   have e3 : At (Ty.grd ((decide (n < (1 : Int))) = false) (Ty.int n)) tx ax (.tmp 13) := d0 rfl
   have e2 : At (Ty.bool (decide (n < (1 : Int)))) tx ax (.tmp 12) := d1 rfl
   refine run_guard (T := (Ty.bool (decide ((12 : Int) < n)))) okx rfl rfl (by decide) e2 (fun hg => ?_)
   have hp := of_decide_eq_false hg
   exact y_gtr (e3.1 hg) rfl
 · intro ax tx hs okx sm d0 d1
   have e2 : At (Ty.bool (decide (n < (1 : Int)))) tx ax (.tmp 12) := d0 rfl
   have e4 : At (Ty.grd ((decide (n < (1 : Int))) = false) (Ty.bool (decide ((12 : Int) < n)))) tx ax (.tmp 14) := d1 rfl
   exact run_plain rfl (y_pick_or e2 rfl e4)
 intro a2 s2 D2
 have ok2 := D2.ok
 have F2 := F1.step0 D2.stp
 have q3 : At (Ty.int n) s2 a2 (.tmp 0) := D2.kt q1 rfl
 have q4 : At (Ty.int k) s2 a2 (.tmp 1) := D2.kt q2 rfl
 have q5 : At (Ty.bool ((decide (n < (1 : Int))) || (decide ((12 : Int) < n)))) s2 a2 (.tmp 15) := D2.done 5
 clear D2
 refine tn ?_
 refine cond_t q5 (fun c1 => ?_) (fun c1 => ?_)
 ·
  simp only [Bool.or_eq_true, decide_eq_true_eq] at c1
  refine wp_seq ?_
  refine reg (a := a2) (σ := s2) rfl (fun i_ => List.getD [(Ty.pr (Ty.val (Value.slice none 0 0))), (Ty.pr (Ty.int (1 : Int)))] i_ Pr.any) ok2 rfl ⟨?_, ?_, trivial⟩ ?_
  · intro ax tx hs okx sm
    exact run_plain rfl (y_assign rfl)
  · intro ax tx hs okx sm d0 d1
    have e0 : At (Ty.val (Value.slice none 0 0)) tx ax (.tmp 4) := d0 rfl
    exact run_plain rfl (y_assign rfl)
  intro a3 s3 D3
  have ok3 := D3.ok
  have F3 := F2.step0 D3.stp
  have q6 : At (Ty.val (Value.slice none 0 0)) s3 a3 (.tmp 4) := D3.done 0
  have q7 : At (Ty.int (1 : Int)) s3 a3 (.tmp 5) := D3.done 1
  clear D3
  refine tn ?_
  refine wp_ret ?_
  refine tr ?_
  exact retL2 rfl ok3 F3 (hasT2 (nil_lst (by (rw [if_neg (by rw [atMay_cnt (by omega)]; decide)])) q6) (cvi (by (exact (atMay_cnt (by omega)).symm)) q7))
 ·
  obtain ⟨d1, d2⟩ := Bool.or_eq_false_iff.mp c1
  replace d1 := of_decide_eq_false d1
  replace d2 := of_decide_eq_false d2
  have hc1 : ¬ (n < 1 ∨ 12 < n) := by omega
  refine wp_skip ?_
  refine tn ?_
  refine wp_seq ?_
  refine wp_seq ?_
  refine reg (a := a2) (σ := s2) rfl (fun i_ => List.getD [(Ty.pr (Ty.int k)), (Ty.pr (Ty.bool (decide (k < (0 : Int))))), (Ty.pr (Ty.bool (decide (k < (0 : Int))))), (Ty.pr (Ty.grd ((decide (k < (0 : Int))) = false) (Ty.int k))), (Ty.pr (Ty.grd ((decide (k < (0 : Int))) = false) (Ty.int n))), (Ty.pr (Ty.grd ((decide (k < (0 : Int))) = false) (Ty.nat (fct ((n).toNat))))), (Ty.pr (Ty.grd ((decide (k < (0 : Int))) = false) (Ty.bool (decide ((((fct ((n).toNat)) : Nat) : Int) ≤ k))))), (Ty.pr (Ty.bool ((decide (k < (0 : Int))) || (decide ((((fct ((n).toNat)) : Nat) : Int) ≤ k)))))] i_ Pr.any) ok2 rfl ⟨?_, ?_, ?_, ?_, ?_, ?_, ?_, ?_, trivial⟩ ?_
  · intro ax tx hs okx sm
    exact run_plain rfl (y_move (kp (sm 1 rfl) hs q4))
  · intro ax tx hs okx sm d0
    have e0 : At (Ty.int k) tx ax (.tmp 16) := d0 rfl
    exact run_plain rfl (y_lss e0 rfl)
  · intro ax tx hs okx sm d0
    have e1 : At (Ty.bool (decide (k < (0 : Int)))) tx ax (.tmp 17) := d0 rfl
    exact run_plain rfl (y_move e1)
  · intro ax tx hs okx sm d0
    have e2 : At (Ty.bool (decide (k < (0 : Int)))) tx ax (.tmp 18) := d0 rfl
    refine run_guard (T := (Ty.int k)) okx rfl rfl (by decide) e2 (fun hg => ?_)
    have hp := of_decide_eq_false hg
    exact y_move (kp (sm 1 rfl) hs q4)
  · intro ax tx hs okx sm d0
    have e2 : At (Ty.bool (decide (k < (0 : Int)))) tx ax (.tmp 18) := d0 rfl
    refine run_guard (T := (Ty.int n)) okx rfl rfl (by decide) e2 (fun hg => ?_)
    have hp := of_decide_eq_false hg
    exact y_move (kp (sm 0 rfl) hs q3)
  · intro ax tx hs okx sm d0 d1 d2
    have e4 : At (Ty.grd ((decide (k < (0 : Int))) = false) (Ty.int n)) tx ax (.tmp 20) := d0 rfl
    have e2 : At (Ty.bool (decide (k < (0 : Int)))) tx ax (.tmp 18) := d1 rfl
    refine run_guard (T := (Ty.nat (fct ((n).toNat)))) okx rfl rfl (by decide) e2 (fun hg => ?_)
    have hp := of_decide_eq_false hg
    have hf12 := fct_le12 (n := (n).toNat) (by omega)
    exact y_call #[ax.eval (.tmp 20)] Try.func84 rfl rfl (by simp only [List.map_toArray, List.map_cons, List.map_nil]) (rowAll_fn ((n).toNat) _ _ (cvi (σ := tx) (by omega) (e4.1 hg)) (by omega))
  · intro ax tx hs okx sm d0 d1 d2
    have e3 : At (Ty.grd ((decide (k < (0 : Int))) = false) (Ty.int k)) tx ax (.tmp 19) := d0 rfl
    have e5 : At (Ty.grd ((decide (k < (0 : Int))) = false) (Ty.nat (fct ((n).toNat)))) tx ax (.tmp 21) := d1 rfl
    have e2 : At (Ty.bool (decide (k < (0 : Int)))) tx ax (.tmp 18) := d2 rfl
    refine run_guard (T := (Ty.bool (decide ((((fct ((n).toNat)) : Nat) : Int) ≤ k)))) okx rfl rfl (by decide) e2 (fun hg => ?_)
    have hp := of_decide_eq_false hg
    exact y_geq (e3.1 hg) (e5.1 hg)
  · intro ax tx hs okx sm d0 d1
    have e2 : At (Ty.bool (decide (k < (0 : Int)))) tx ax (.tmp 18) := d0 rfl
    have e6 : At (Ty.grd ((decide (k < (0 : Int))) = false) (Ty.bool (decide ((((fct ((n).toNat)) : Nat) : Int) ≤ k)))) tx ax (.tmp 22) := d1 rfl
    exact run_plain rfl (y_pick_or e2 rfl e6)
  intro a4 s4 D4
  have ok4 := D4.ok
  have F4 := F2.step0 D4.stp
  have q8 : At (Ty.int n) s4 a4 (.tmp 0) := D4.kt q3 rfl
  have q9 : At (Ty.int k) s4 a4 (.tmp 1) := D4.kt q4 rfl
  have q10 : At (Ty.bool ((decide (k < (0 : Int))) || (decide ((((fct ((n).toNat)) : Nat) : Int) ≤ k)))) s4 a4 (.tmp 23) := D4.done 7
  clear D4
  refine tn ?_
  refine cond_t q10 (fun c2 => ?_) (fun c2 => ?_)
  ·
   simp only [Bool.or_eq_true, decide_eq_true_eq] at c2
   refine wp_seq ?_
   refine reg (a := a4) (σ := s4) rfl (fun i_ => List.getD [(Ty.pr (Ty.val (Value.slice none 0 0))), (Ty.pr (Ty.int (12 : Int)))] i_ Pr.any) ok4 rfl ⟨?_, ?_, trivial⟩ ?_
   · intro ax tx hs okx sm
     exact run_plain rfl (y_assign rfl)
   · intro ax tx hs okx sm d0 d1
     have e0 : At (Ty.val (Value.slice none 0 0)) tx ax (.tmp 4) := d0 rfl
     exact run_plain rfl (y_assign rfl)
   intro a5 s5 D5
   have ok5 := D5.ok
   have F5 := F4.step0 D5.stp
   have q11 : At (Ty.val (Value.slice none 0 0)) s5 a5 (.tmp 4) := D5.done 0
   have q12 : At (Ty.int (12 : Int)) s5 a5 (.tmp 5) := D5.done 1
   clear D5
   refine tn ?_
   refine wp_ret ?_
   refine tr ?_
   exact retL2 rfl ok5 F5 (hasT2 (nil_lst (by (rw [if_neg (by rw [atMay_val hc1 (by omega)]; decide)])) q11) (cvi (by (exact (atMay_val hc1 (by omega)).symm)) q12))
  ·
   obtain ⟨d3, d4⟩ := Bool.or_eq_false_iff.mp c2
   replace d3 := of_decide_eq_false d3
   replace d4 := of_decide_eq_false d4
   have hc2 : ¬ (k < 0 ∨ ((fct (n).toNat : Nat) : Int) ≤ k) := (by omega); have hm0 := atMay_ok hc1 hc2
   refine wp_skip ?_
   refine tn ?_
   refine wp_seq ?_
   refine reg2 (a := a4) (σ := s4) rfl 1 (fun i_ => List.getD [(Ty.pr (Ty.int n))] i_ Pr.any) ok4 rfl (by decide) rfl ⟨?_, trivial⟩ ?_
   · intro ax tx hs okx sm
     exact run_plain rfl (y_move (kp (sm 0 rfl) hs q8))
   intro a6 s6 D6
   have ok6 := D6.ok
   have F6 := F4.step0 D6.stp
   have q13 : At (Ty.int n) s6 a6 (.tmp 0) := D6.kt q8 rfl
   have q14 : At (Ty.int k) s6 a6 (.tmp 1) := D6.kt q9 rfl
   have q15 : At (Ty.int n) s6 a6 (.tmp 24) := D6.done 0 (by decide)
   clear D6
   refine tailL (L := []) (R := (fun v τ' => ∃ τ, (fun v τ => ∃ (z : Value), (Ty.has (Ty.val z) τ v) ∧ (Own τ 42 3 1 z (List.length (roundsL ((n).toNat))) (List.map Ty.int (roundsL ((n).toNat))))) v τ ∧ Back [(42, 5)] τ τ')) rfl rfl (by decide) ok6 (y_callL (L := []) [] [(42, 5)] #[a6.eval (.tmp 24)] rfl (by decide) Try.func99 rfl rfl (by simp only [List.map_toArray, List.map_cons, List.map_nil]) (firstO_fn ((n).toNat) _ (GW.low_lend _ (by decide)) _ (Ty.up _ (GW.le_lend _ _) (cvi (σ := s6) (by omega) q15))  (by omega))) (fun a7 s7 hs1 ok7 r1 sm1 => ?_)
   have F7 := F6.stepL hs1 (by decide)
   have q16 : At (Ty.int n) s7 a7 (.tmp 0) := kpL hs1 (by decide) (sm1 0 (by decide)) q13
   have q17 : At (Ty.int k) s7 a7 (.tmp 1) := kpL hs1 (by decide) (sm1 1 (by decide)) q14
   obtain ⟨t1, ⟨x1, hT1, o1⟩, B1⟩ := r1
   have q18 : At (Ty.val x1) s7 a7 (.tmp 25) := Ty.up _ B1.le hT1
   have o2 : Own s7 5 3 1 x1 (List.length (roundsL ((n).toNat))) (List.map Ty.int (roundsL ((n).toNat))) := Own.ren o1 (B1.ren (by decide) rfl)
   refine tailL (L := []) (R := (fun v τ => Pr.has (Pr.own 6 3 1 0 (List.map Ty.int ([] : List Int))) τ v)) rfl rfl (by decide) ok7 (Yld.toL ((y_lit0 (k := 6) Try.underlying34 Try.inf3).mono (fun _ _ h => cvo (by simp) (by simp) h))) (fun a8 s8 hs2 ok8 r2 sm2 => ?_)
   have F8 := F7.stepL hs2 (by decide)
   have q19 : At (Ty.int n) s8 a8 (.tmp 0) := kpL hs2 (by decide) (sm2 0 (by decide)) q16
   have q20 : At (Ty.int k) s8 a8 (.tmp 1) := kpL hs2 (by decide) (sm2 1 (by decide)) q17
   have q21 : At (Ty.val x1) s8 a8 (.tmp 25) := kpL hs2 (by decide) (sm2 25 (by decide)) q18
   have o4 := Own.keepL o2 hs2 (by decide) (by decide)
   obtain ⟨x2, hx1⟩ : ∃ x, a8.eval (.tmp 26) = x := ⟨_, rfl⟩
   have q22 : At (Ty.val x2) s8 a8 (.tmp 26) := hx1
   have o3 : Own s8 6 3 1 x2 0 (List.map Ty.int ([] : List Int)) := al2 (R := (Pr.own 6 3 1 0 (List.map Ty.int ([] : List Int)))) hx1 r2
   clear r2
   refine tailL (L := []) (R := (fun v τ => Pr.has (Ty.pr (Ty.val x1)) τ v)) rfl rfl (by decide) ok8 (Yld.toL (y_assign q21)) (fun a9 s9 hs3 ok9 r3 sm3 => ?_)
   have F9 := F8.stepL hs3 (by decide)
   have q23 : At (Ty.int n) s9 a9 (.tmp 0) := kpL hs3 (by decide) (sm3 0 (by decide)) q19
   have q24 : At (Ty.int k) s9 a9 (.tmp 1) := kpL hs3 (by decide) (sm3 1 (by decide)) q20
   have q25 : At (Ty.val x2) s9 a9 (.tmp 26) := kpL hs3 (by decide) (sm3 26 (by decide)) q22
   have o5 := Own.keepL o4 hs3 (by decide) (by decide)
   have o6 := Own.keepL o3 hs3 (by decide) (by decide)
   have q26 : At (Ty.val x1) s9 a9 (.tmp 6) := r3
   clear r3
   refine tailL (L := []) (R := (fun v τ => Pr.has (Ty.pr (Ty.val x2)) τ v)) rfl rfl (by decide) ok9 (Yld.toL (y_assign q25)) (fun a10 s10 hs4 ok10 r4 sm4 => ?_)
   have F10 := F9.stepL hs4 (by decide)
   have q27 : At (Ty.int n) s10 a10 (.tmp 0) := kpL hs4 (by decide) (sm4 0 (by decide)) q23
   have q28 : At (Ty.int k) s10 a10 (.tmp 1) := kpL hs4 (by decide) (sm4 1 (by decide)) q24
   have q29 : At (Ty.val x1) s10 a10 (.tmp 6) := kpL hs4 (by decide) (sm4 6 (by decide)) q26
   have o7 := Own.keepL o5 hs4 (by decide) (by decide)
   have o8 := Own.keepL o6 hs4 (by decide) (by decide)
   have q30 : At (Ty.val x2) s10 a10 (.tmp 7) := r4
   clear r4
   refine wpList_nil ?_
   refine tn ?_
   refine wp_seq ?_
   refine wp_seq ?_
   refine reg (a := a10) (σ := s10) rfl (fun i_ => List.getD [(Ty.pr (Ty.int n)), (Ty.pr (Ty.int (n - (1 : Int)))), (Ty.pr (Ty.int (n - (1 : Int))))] i_ Pr.any) ok10 rfl ⟨?_, ?_, ?_, trivial⟩ ?_
   · intro ax tx hs okx sm
     exact run_plain rfl (y_move (kp (sm 0 rfl) hs q27))
   · intro ax tx hs okx sm d0
     have e0 : At (Ty.int n) tx ax (.tmp 27) := d0 rfl
     exact run_plain rfl (y_sub e0 rfl (w64 (by omega) (by omega)))
   · intro ax tx hs okx sm d0 d1 d2
     have e1 : At (Ty.int (n - (1 : Int))) tx ax (.tmp 28) := d0 rfl
     have e0 : At (Ty.int n) tx ax (.tmp 27) := d1 rfl
     exact run_plain rfl (y_assign e1)
   intro a11 s11 D7
   have ok11 := D7.ok
   have F11 := F10.step0 D7.stp
   have q31 : At (Ty.int k) s11 a11 (.tmp 1) := D7.kt q28 rfl
   have q32 : At (Ty.val x1) s11 a11 (.tmp 6) := D7.kt q29 rfl
   have q33 : At (Ty.val x2) s11 a11 (.tmp 7) := D7.kt q30 rfl
   have o9 := Own.k0 o7 D7.stp
   have o10 := Own.k0 o8 D7.stp
   have q34 : At (Ty.int (n - (1 : Int))) s11 a11 (.tmp 8) := D7.done 2
   clear D7
   refine tn ?_
   refine wp_block ?_
   refine loop (fun n1 a12 w1 => ∃ (t2 : GW) (m : Nat) (lf : List Int) (os : List Int) (q : Nat) (x6_0 x7_0 : Value), t2.w = w1 ∧ FromL [] s0 t2 ∧ Ok 57 a12 ∧ At (Ty.val x6_0) t2 a12 (.tmp 6) ∧ At (Ty.val x7_0) t2 a12 (.tmp 7) ∧ At (Ty.int (((m : Nat) : Int) - (1 : Int))) t2 a12 (.tmp 8) ∧ At (Ty.nat q) t2 a12 (.tmp 1) ∧ Own t2 5 3 1 x6_0 (List.length lf) (List.map Ty.int lf) ∧ Own t2 6 3 1 x7_0 (List.length os) (List.map Ty.int os) ∧ (os ++ atF m lf q = atL (n).toNat (k).toNat) ∧ (q < fct m) ∧ (lf.length = m) ∧ (os.length + m = (n).toNat) ∧ n1 = m + 1) (((n).toNat) + 1) ?_ ?_
   ·
    exact ⟨s11, (n).toNat, (roundsL (n).toNat), ([] : List Int), (k).toNat, x1, x2, rfl, F11, ok11, q32, q33, (cvi (by (first | rfl | omega | (simp_all; done) | (simp_all; omega))) q34), (cvi (by (first | rfl | omega | (simp_all; done) | (simp_all; omega))) q31), (cvo (by (simp)) (by (simp)) o9), (cvo (by (simp)) (by (simp)) o10), rfl, by omega, roundsL_len _, by simp, rfl⟩
   ·
    rintro n2 a13 w2 ⟨t3, m, lf, os, q, x6_0, x7_0, rfl, F12, ok12, q35, q36, q37, q38, o11, o12, hos, hq, hlf, hol, rfl⟩
    have hf12 := fct_le12 (n := m) (by omega)
    have hfp := fct_pos (m - 1)
    refine wp_seq ?_
    refine wp_seq ?_
    refine reg (a := a13) (σ := t3) rfl (fun i_ => List.getD [(Ty.pr (Ty.int (((m : Nat) : Int) - (1 : Int)))), (Ty.pr (Ty.bool (decide ((0 : Int) ≤ (((m : Nat) : Int) - (1 : Int))))))] i_ Pr.any) ok12 rfl ⟨?_, ?_, trivial⟩ ?_
    · intro ax tx hs okx sm
      exact run_plain rfl (y_move (kp (sm 8 rfl) hs q37))
    · intro ax tx hs okx sm d0
      have e0 : At (Ty.int (((m : Nat) : Int) - (1 : Int))) tx ax (.tmp 29) := d0 rfl
      exact run_plain rfl (y_geq e0 rfl)
    intro a14 s12 D8
    have ok13 := D8.ok
    have F13 := F12.step0 D8.stp
    have q39 : At (Ty.val x6_0) s12 a14 (.tmp 6) := D8.kt q35 rfl
    have q40 : At (Ty.val x7_0) s12 a14 (.tmp 7) := D8.kt q36 rfl
    have q41 : At (Ty.int (((m : Nat) : Int) - (1 : Int))) s12 a14 (.tmp 8) := D8.kt q37 rfl
    have q42 : At (Ty.nat q) s12 a14 (.tmp 1) := D8.kt q38 rfl
    have o13 := Own.k0 o11 D8.stp
    have o14 := Own.k0 o12 D8.stp
    have q43 : At (Ty.bool (decide ((0 : Int) ≤ (((m : Nat) : Int) - (1 : Int))))) s12 a14 (.tmp 30) := D8.done 1
    clear D8
    refine tn ?_
    refine cond_p (p := ((0 : Int) ≤ (((m : Nat) : Int) - (1 : Int)))) q43 (fun c3 => ?_) (fun c3 => ?_)
    ·
     have hdv := at_div (m := m) (q := q) (by omega) hq; have hdn : (0 : Int) ≤ ((q / fct (m - 1) : Nat) : Int) := Int.natCast_nonneg _; have hmn : (0 : Int) ≤ ((q % fct (m - 1) : Nat) : Int) := Int.natCast_nonneg _
     refine wp_skip ?_
     refine tn ?_
     refine wp_seq ?_
     refine wp_block ?_
     refine wp_seq ?_
     refine reg (a := a14) (σ := s12) rfl (fun i_ => List.getD [(Ty.pr (Ty.int (((m : Nat) : Int) - (1 : Int)))), (Ty.pr (Ty.nat (fct (((((m : Nat) : Int) - (1 : Int))).toNat)))), (Ty.pr (Ty.nat (fct (((((m : Nat) : Int) - (1 : Int))).toNat))))] i_ Pr.any) ok13 rfl ⟨?_, ?_, ?_, trivial⟩ ?_
     · intro ax tx hs okx sm
       exact run_plain rfl (y_move (kp (sm 8 rfl) hs q41))
     · intro ax tx hs okx sm d0
       have e0 : At (Ty.int (((m : Nat) : Int) - (1 : Int))) tx ax (.tmp 33) := d0 rfl
       exact run_plain rfl (y_call #[ax.eval (.tmp 33)] Try.func84 rfl rfl (by simp only [List.map_toArray, List.map_cons, List.map_nil]) (rowAll_fn (((((m : Nat) : Int) - (1 : Int))).toNat) _ _ (cvi (σ := tx) (by omega) e0) (by omega)))
     · intro ax tx hs okx sm d0 d1 d2 d3
       have e1 : At (Ty.nat (fct (((((m : Nat) : Int) - (1 : Int))).toNat))) tx ax (.tmp 34) := d0 rfl
       have e0 : At (Ty.int (((m : Nat) : Int) - (1 : Int))) tx ax (.tmp 33) := d2 rfl
       exact run_plain rfl (y_assign e1)
     intro a15 s13 D9
     have ok14 := D9.ok
     have F14 := F13.step0 D9.stp
     have q44 : At (Ty.val x6_0) s13 a15 (.tmp 6) := D9.kt q39 rfl
     have q45 : At (Ty.val x7_0) s13 a15 (.tmp 7) := D9.kt q40 rfl
     have q46 : At (Ty.int (((m : Nat) : Int) - (1 : Int))) s13 a15 (.tmp 8) := D9.kt q41 rfl
     have q47 : At (Ty.nat q) s13 a15 (.tmp 1) := D9.kt q42 rfl
     have o15 := Own.k0 o13 D9.stp
     have o16 := Own.k0 o14 D9.stp
     have q48 : At (Ty.nat (fct (((((m : Nat) : Int) - (1 : Int))).toNat))) s13 a15 (.tmp 9) := D9.done 2
     clear D9
     have q49 : At (Ty.nat (fct (m - 1))) s13 a15 (.tmp 9) := (cvi (by (have e : ((((m : Nat) : Int) - (1 : Int))).toNat = m - 1 := (by omega); rw [e])) q48)
     refine tn ?_
     refine wp_seq ?_
     refine reg2 (a := a15) (σ := s13) rfl 8 (fun i_ => List.getD [(Ty.pr (Ty.val x7_0)), (Ty.pr (Ty.val x6_0)), (Ty.pr (Ty.nat q)), (Ty.pr (Ty.nat (fct (m - 1)))), (Ty.pr (Ty.nat (q / (fct (m - 1))))), (Ty.pr (Ty.val (cellPtr x6_0 (q / (fct (m - 1)))))), (Ty.pr (Ty.int (lf.getD (q / (fct (m - 1))) 0))), (Ty.pr (Ty.sl 1 1 [(Ty.int (lf.getD (q / (fct (m - 1))) 0))]))] i_ Pr.any) ok14 rfl (by decide) rfl ⟨?_, ?_, ?_, ?_, ?_, ?_, ?_, ?_, trivial⟩ ?_
     · intro ax tx hs okx sm
       exact run_plain rfl (y_move (kp (sm 7 rfl) hs q45))
     · intro ax tx hs okx sm
       exact run_plain rfl (y_move (kp (sm 6 rfl) hs q44))
     · intro ax tx hs okx sm
       exact run_plain rfl (y_move (kp (sm 1 rfl) hs q47))
     · intro ax tx hs okx sm
       exact run_plain rfl (y_move (kp (sm 9 rfl) hs q49))
     · intro ax tx hs okx sm d0 d1
       have e2 : At (Ty.nat q) tx ax (.tmp 37) := d0 rfl
       have e3 : At (Ty.nat (fct (m - 1))) tx ax (.tmp 38) := d1 rfl
       exact run_plain rfl (y_quoN e2 e3 (by omega) (by omega))
     · intro ax tx hs okx sm d0 d1
       have e1 : At (Ty.val x6_0) tx ax (.tmp 36) := d0 rfl
       have e4 : At (Ty.nat (q / (fct (m - 1)))) tx ax (.tmp 39) := d1 rfl
       exact run_plain rfl (own_index1 (i := (((q / (fct (m - 1))) : Nat) : Int)) Try.underlying34 Try.inf3 (Own.k0 o15 hs) e1 e4 (by omega) (by omega))
     · intro ax tx hs okx sm d0
       have e5 : At (Ty.val (cellPtr x6_0 (q / (fct (m - 1))))) tx ax (.tmp 40) := d0 rfl
       exact run_plain rfl (own_load Try.underlying3 rfl (Own.k0 o15 hs) e5 (lst_get Ty.int lf 0 (q / (fct (m - 1))) (by omega)))
     · intro ax tx hs okx sm d0
       have e6 : At (Ty.int (lf.getD (q / (fct (m - 1))) 0)) tx ax (.tmp 41) := d0 rfl
       exact run_plain rfl (y_build1o Try.underlying34 Try.inf3 rfl (one_val rfl) e6)
     intro a16 s14 D10
     have ok15 := D10.ok
     have F15 := F14.step0 D10.stp
     have q50 : At (Ty.val x6_0) s14 a16 (.tmp 6) := D10.kt q44 rfl
     have q51 : At (Ty.val x7_0) s14 a16 (.tmp 7) := D10.kt q45 rfl
     have q52 : At (Ty.int (((m : Nat) : Int) - (1 : Int))) s14 a16 (.tmp 8) := D10.kt q46 rfl
     have q53 : At (Ty.nat q) s14 a16 (.tmp 1) := D10.kt q47 rfl
     have q54 : At (Ty.nat (fct (m - 1))) s14 a16 (.tmp 9) := D10.kt q49 rfl
     have o17 := Own.k0 o15 D10.stp
     have o18 := Own.k0 o16 D10.stp
     have q55 : At (Ty.val x7_0) s14 a16 (.tmp 35) := D10.done 0 (by decide)
     have q56 : At (Ty.sl 1 1 [(Ty.int (lf.getD (q / (fct (m - 1))) 0))]) s14 a16 (.tmp 42) := D10.done 7 (by decide)
     have b1 := sl_le q56
     clear D10
     refine tailL (L := [6]) (R := (fun v τ => Own τ 6 3 1 v ((List.length os) + 1) ((List.map Ty.int os) ++ [(Ty.int (lf.getD (q / (fct (m - 1))) 0))]))) rfl rfl (by decide) ok15 (YldM.toL (m_append Try.underlying34 Try.inf3 (by decide) rfl (by decide) (al (R := (Pr.own 6 3 1 (List.length os) (List.map Ty.int os))) q55 o18) q56 (by intro U hU; simp at hU; subst hU; exact one_val rfl) (by omega) (by omega))) (fun a17 s15 hs5 ok16 r5 sm5 => ?_)
     have F16 := F15.stepL hs5 (by decide)
     have q57 : At (Ty.val x6_0) s15 a17 (.tmp 6) := kpL hs5 (by decide) (sm5 6 (by decide)) q50
     have q58 : At (Ty.val x7_0) s15 a17 (.tmp 7) := kpL hs5 (by decide) (sm5 7 (by decide)) q51
     have q59 : At (Ty.int (((m : Nat) : Int) - (1 : Int))) s15 a17 (.tmp 8) := kpL hs5 (by decide) (sm5 8 (by decide)) q52
     have q60 : At (Ty.nat q) s15 a17 (.tmp 1) := kpL hs5 (by decide) (sm5 1 (by decide)) q53
     have q61 : At (Ty.nat (fct (m - 1))) s15 a17 (.tmp 9) := kpL hs5 (by decide) (sm5 9 (by decide)) q54
     have o20 := Own.keepL o17 hs5 (by decide) (by decide)
     obtain ⟨x3, hx2⟩ : ∃ x, a17.eval (.tmp 43) = x := ⟨_, rfl⟩
     have q62 : At (Ty.val x3) s15 a17 (.tmp 43) := hx2
     have o19 : Own s15 6 3 1 x3 (List.length (os ++ [(lf.getD (q / (fct (m - 1))) 0)])) (List.map Ty.int (os ++ [(lf.getD (q / (fct (m - 1))) 0)])) := al2 (R := (Pr.own 6 3 1 (List.length (os ++ [(lf.getD (q / (fct (m - 1))) 0)])) (List.map Ty.int (os ++ [(lf.getD (q / (fct (m - 1))) 0)])))) hx2 (cvo (by simp) (by first | (rw [List.map_append]; rfl) | simp) r5)
     clear r5
     refine tailL (L := []) (R := (fun v τ => Pr.has (Ty.pr (Ty.val x3)) τ v)) rfl rfl (by decide) ok16 (Yld.toL (y_assign q62)) (fun a18 s16 hs6 ok17 r6 sm6 => ?_)
     have F17 := F16.stepL hs6 (by decide)
     have q63 : At (Ty.val x6_0) s16 a18 (.tmp 6) := kpL hs6 (by decide) (sm6 6 (by decide)) q57
     have q64 : At (Ty.int (((m : Nat) : Int) - (1 : Int))) s16 a18 (.tmp 8) := kpL hs6 (by decide) (sm6 8 (by decide)) q59
     have q65 : At (Ty.nat q) s16 a18 (.tmp 1) := kpL hs6 (by decide) (sm6 1 (by decide)) q60
     have q66 : At (Ty.nat (fct (m - 1))) s16 a18 (.tmp 9) := kpL hs6 (by decide) (sm6 9 (by decide)) q61
     have o21 := Own.keepL o20 hs6 (by decide) (by decide)
     have o22 := Own.keepL o19 hs6 (by decide) (by decide)
     have q67 : At (Ty.val x3) s16 a18 (.tmp 7) := r6
     clear r6
     refine wpList_nil ?_
     refine tn ?_
     refine wp_seq ?_
     refine reg2 (a := a18) (σ := s16) rfl 8 (fun i_ => List.getD [(Ty.pr (Ty.val x6_0)), (Ty.pr (Ty.nat q)), (Ty.pr (Ty.nat (fct (m - 1)))), (Ty.pr (Ty.nat (q / (fct (m - 1))))), (Ty.pr (Ty.nat q)), (Ty.pr (Ty.nat (fct (m - 1)))), (Ty.pr (Ty.nat (q / (fct (m - 1))))), (Ty.pr (Ty.nat ((q / (fct (m - 1))) + 1)))] i_ Pr.any) ok17 rfl (by decide) rfl ⟨?_, ?_, ?_, ?_, ?_, ?_, ?_, ?_, trivial⟩ ?_
     · intro ax tx hs okx sm
       exact run_plain rfl (y_move (kp (sm 6 rfl) hs q63))
     · intro ax tx hs okx sm
       exact run_plain rfl (y_move (kp (sm 1 rfl) hs q65))
     · intro ax tx hs okx sm
       exact run_plain rfl (y_move (kp (sm 9 rfl) hs q66))
     · intro ax tx hs okx sm d0 d1
       have e1 : At (Ty.nat q) tx ax (.tmp 45) := d0 rfl
       have e2 : At (Ty.nat (fct (m - 1))) tx ax (.tmp 46) := d1 rfl
       exact run_plain rfl (y_quoN e1 e2 (by omega) (by omega))
     · intro ax tx hs okx sm
       exact run_plain rfl (y_move (kp (sm 1 rfl) hs q65))
     · intro ax tx hs okx sm
       exact run_plain rfl (y_move (kp (sm 9 rfl) hs q66))
     · intro ax tx hs okx sm d0 d1
       have e4 : At (Ty.nat q) tx ax (.tmp 48) := d0 rfl
       have e5 : At (Ty.nat (fct (m - 1))) tx ax (.tmp 49) := d1 rfl
       exact run_plain rfl (y_quoN e4 e5 (by omega) (by omega))
     · intro ax tx hs okx sm d0
       have e6 : At (Ty.nat (q / (fct (m - 1)))) tx ax (.tmp 50) := d0 rfl
       exact run_plain rfl ((y_add e6 rfl (w64 (by omega) (by omega))).mono (fun τ _ h => cvi (σ := τ) (by first | omega | exact (Int.natCast_mul _ _).symm) h))
     intro a19 s17 D11
     have ok18 := D11.ok
     have F18 := F17.step0 D11.stp
     have q68 : At (Ty.val x6_0) s17 a19 (.tmp 6) := D11.kt q63 rfl
     have q69 : At (Ty.int (((m : Nat) : Int) - (1 : Int))) s17 a19 (.tmp 8) := D11.kt q64 rfl
     have q70 : At (Ty.nat q) s17 a19 (.tmp 1) := D11.kt q65 rfl
     have q71 : At (Ty.nat (fct (m - 1))) s17 a19 (.tmp 9) := D11.kt q66 rfl
     have q72 : At (Ty.val x3) s17 a19 (.tmp 7) := D11.kt q67 rfl
     have o23 := Own.k0 o21 D11.stp
     have o24 := Own.k0 o22 D11.stp
     have q73 : At (Ty.val x6_0) s17 a19 (.tmp 44) := D11.done 0 (by decide)
     have q74 : At (Ty.nat (q / (fct (m - 1)))) s17 a19 (.tmp 47) := D11.done 3 (by decide)
     have q75 : At (Ty.nat ((q / (fct (m - 1))) + 1)) s17 a19 (.tmp 51) := D11.done 7 (by decide)
     clear D11
     refine tailL (L := [5]) (R := (fun v τ' => ∃ τ, (fun v τ => ∃ (z : Value), (Ty.has (Ty.val z) τ v) ∧ (Own τ 40 3 1 z (List.length ((lf).eraseIdx ((q / (fct (m - 1)))))) (List.map Ty.int ((lf).eraseIdx ((q / (fct (m - 1)))))))) v τ ∧ Back [(40, 5)] τ τ')) rfl rfl (by decide) ok18 (y_callL (L := [40]) [(5, 40)] [(40, 5)] #[a19.eval (.tmp 44), a19.eval (.tmp 47), a19.eval (.tmp 51)] rfl (by decide) Try.func100 rfl rfl (by simp only [List.map_toArray, List.map_cons, List.map_nil]) (delete_fn (x6_0) (lf) ((q / (fct (m - 1)))) _ (GW.low_lend _ (by decide)) _ _ _ (Ty.up _ (GW.le_lend _ _) q73) (Ty.up _ (GW.le_lend _ _) (cvi (σ := s17) (by omega) q74)) (Ty.up _ (GW.le_lend _ _) (cvi (σ := s17) (by omega) q75)) (Own.ren (cvo (by (simp)) (by (simp)) o23) (GW.ren_lend _ _ (by decide) rfl)) (by omega) (by omega))) (fun a20 s18 hs7 ok19 r7 sm7 => ?_)
     have F19 := F18.stepL hs7 (by decide)
     have q76 : At (Ty.val x6_0) s18 a20 (.tmp 6) := kpL hs7 (by decide) (sm7 6 (by decide)) q68
     have q77 : At (Ty.int (((m : Nat) : Int) - (1 : Int))) s18 a20 (.tmp 8) := kpL hs7 (by decide) (sm7 8 (by decide)) q69
     have q78 : At (Ty.nat q) s18 a20 (.tmp 1) := kpL hs7 (by decide) (sm7 1 (by decide)) q70
     have q79 : At (Ty.nat (fct (m - 1))) s18 a20 (.tmp 9) := kpL hs7 (by decide) (sm7 9 (by decide)) q71
     have q80 : At (Ty.val x3) s18 a20 (.tmp 7) := kpL hs7 (by decide) (sm7 7 (by decide)) q72
     have o27 := Own.keepL o24 hs7 (by decide) (by decide)
     obtain ⟨t4, ⟨x4, hT2, o25⟩, B2⟩ := r7
     have q81 : At (Ty.val x4) s18 a20 (.tmp 52) := Ty.up _ B2.le hT2
     have o26 : Own s18 5 3 1 x4 (List.length ((lf).eraseIdx ((q / (fct (m - 1)))))) (List.map Ty.int ((lf).eraseIdx ((q / (fct (m - 1)))))) := Own.ren o25 (B2.ren (by decide) rfl)
     refine tailL (L := []) (R := (fun v τ => Pr.has (Ty.pr (Ty.val x4)) τ v)) rfl rfl (by decide) ok19 (Yld.toL (y_assign q81)) (fun a21 s19 hs8 ok20 r8 sm8 => ?_)
     have F20 := F19.stepL hs8 (by decide)
     have q82 : At (Ty.int (((m : Nat) : Int) - (1 : Int))) s19 a21 (.tmp 8) := kpL hs8 (by decide) (sm8 8 (by decide)) q77
     have q83 : At (Ty.nat q) s19 a21 (.tmp 1) := kpL hs8 (by decide) (sm8 1 (by decide)) q78
     have q84 : At (Ty.nat (fct (m - 1))) s19 a21 (.tmp 9) := kpL hs8 (by decide) (sm8 9 (by decide)) q79
     have q85 : At (Ty.val x3) s19 a21 (.tmp 7) := kpL hs8 (by decide) (sm8 7 (by decide)) q80
     have o28 := Own.keepL o27 hs8 (by decide) (by decide)
     have o29 := Own.keepL o26 hs8 (by decide) (by decide)
     have q86 : At (Ty.val x4) s19 a21 (.tmp 6) := r8
     clear r8
     refine wpList_nil ?_
     refine tn ?_
     refine reg (a := a21) (σ := s19) rfl (fun i_ => List.getD [(Ty.pr (Ty.nat q)), (Ty.pr (Ty.nat (fct (m - 1)))), (Ty.pr (Ty.nat (q % (fct (m - 1))))), (Ty.pr (Ty.nat (q % (fct (m - 1)))))] i_ Pr.any) ok20 rfl ⟨?_, ?_, ?_, ?_, trivial⟩ ?_
     · intro ax tx hs okx sm
       exact run_plain rfl (y_move (kp (sm 1 rfl) hs q83))
     · intro ax tx hs okx sm
       exact run_plain rfl (y_move (kp (sm 9 rfl) hs q84))
     · intro ax tx hs okx sm d0 d1
       have e0 : At (Ty.nat q) tx ax (.tmp 53) := d0 rfl
       have e1 : At (Ty.nat (fct (m - 1))) tx ax (.tmp 54) := d1 rfl
       exact run_plain rfl (y_remN e0 e1 (by omega))
     · intro ax tx hs okx sm d0 d1 d2 d3
       have e2 : At (Ty.nat (q % (fct (m - 1)))) tx ax (.tmp 55) := d0 rfl
       have e0 : At (Ty.nat q) tx ax (.tmp 53) := d1 rfl
       have e1 : At (Ty.nat (fct (m - 1))) tx ax (.tmp 54) := d2 rfl
       exact run_plain rfl (y_assign e2)
     intro a22 s20 D12
     have ok21 := D12.ok
     have F21 := F20.step0 D12.stp
     have q87 : At (Ty.int (((m : Nat) : Int) - (1 : Int))) s20 a22 (.tmp 8) := D12.kt q82 rfl
     have q88 : At (Ty.val x3) s20 a22 (.tmp 7) := D12.kt q85 rfl
     have q89 : At (Ty.val x4) s20 a22 (.tmp 6) := D12.kt q86 rfl
     have o30 := Own.k0 o28 D12.stp
     have o31 := Own.k0 o29 D12.stp
     have q90 : At (Ty.nat (q % (fct (m - 1)))) s20 a22 (.tmp 1) := D12.done 3
     clear D12
     refine bn ?_
     refine tn ?_
     refine reg (a := a22) (σ := s20) rfl (fun i_ => List.getD [(Ty.pr (Ty.int (((m : Nat) : Int) - (1 : Int)))), (Ty.pr (Ty.int ((((m : Nat) : Int) - (1 : Int)) - (1 : Int)))), (Ty.pr (Ty.int ((((m : Nat) : Int) - (1 : Int)) - (1 : Int))))] i_ Pr.any) ok21 rfl ⟨?_, ?_, ?_, trivial⟩ ?_
     · intro ax tx hs okx sm
       exact run_plain rfl (y_move (kp (sm 8 rfl) hs q87))
     · intro ax tx hs okx sm d0
       have e0 : At (Ty.int (((m : Nat) : Int) - (1 : Int))) tx ax (.tmp 31) := d0 rfl
       exact run_plain rfl (y_sub e0 rfl (w64 (by omega) (by omega)))
     · intro ax tx hs okx sm d0 d1 d2
       have e1 : At (Ty.int ((((m : Nat) : Int) - (1 : Int)) - (1 : Int))) tx ax (.tmp 32) := d0 rfl
       have e0 : At (Ty.int (((m : Nat) : Int) - (1 : Int))) tx ax (.tmp 31) := d1 rfl
       exact run_plain rfl (y_assign e1)
     intro a23 s21 D13
     have ok22 := D13.ok
     have F22 := F21.step0 D13.stp
     have q91 : At (Ty.val x3) s21 a23 (.tmp 7) := D13.kt q88 rfl
     have q92 : At (Ty.val x4) s21 a23 (.tmp 6) := D13.kt q89 rfl
     have q93 : At (Ty.nat (q % (fct (m - 1)))) s21 a23 (.tmp 1) := D13.kt q90 rfl
     have o32 := Own.k0 o30 D13.stp
     have o33 := Own.k0 o31 D13.stp
     have q94 : At (Ty.int ((((m : Nat) : Int) - (1 : Int)) - (1 : Int))) s21 a23 (.tmp 8) := D13.done 2
     clear D13
     exact tn ⟨((m - 1)) + 1, by omega, s21, (m - 1), (lf.eraseIdx (q / (fct (m - 1)))), (os ++ [lf.getD (q / (fct (m - 1))) 0]), (q % (fct (m - 1))), x4, x3, rfl, F22, ok22, q92, q91, (cvi (by (first | rfl | omega | (simp_all; done) | (simp_all; omega))) q94), (cvi (by (first | rfl | omega | (simp_all; done) | (simp_all; omega))) q93), (cvo (by (simp)) (by (simp)) o33), (cvo (by (simp)) (by (simp)) o32), at_step hos (by omega), hdv.2, by rw [List.length_eraseIdx, if_pos (by omega)]; omega, by rw [List.length_append, List.length_singleton]; omega, rfl⟩
    ·
     refine wp_exit ?_
     refine tx ?_
     refine tx ?_
     refine bx ?_
     refine tn ?_
     refine wp_seq ?_
     refine reg (a := a14) (σ := s12) rfl (fun i_ => List.getD [(Ty.pr (Ty.val x7_0)), (Ty.pr (Ty.val x7_0)), (Ty.pr (Ty.int (0 : Int)))] i_ Pr.any) ok13 rfl ⟨?_, ?_, ?_, trivial⟩ ?_
     · intro ax tx hs okx sm
       exact run_plain rfl (y_move (kp (sm 7 rfl) hs q40))
     · intro ax tx hs okx sm d0 d1
       have e0 : At (Ty.val x7_0) tx ax (.tmp 56) := d0 rfl
       exact run_plain rfl (y_assign e0)
     · intro ax tx hs okx sm d0 d1 d2
       have e1 : At (Ty.val x7_0) tx ax (.tmp 4) := d0 rfl
       have e0 : At (Ty.val x7_0) tx ax (.tmp 56) := d1 rfl
       exact run_plain rfl (y_assign rfl)
     intro a24 s22 D14
     have ok23 := D14.ok
     have F23 := F13.step0 D14.stp
     have o34 := Own.k0 o13 D14.stp
     have o35 := Own.k0 o14 D14.stp
     have q95 : At (Ty.val x7_0) s22 a24 (.tmp 4) := D14.done 1
     have q96 : At (Ty.int (0 : Int)) s22 a24 (.tmp 5) := D14.done 2
     clear D14
     refine tn ?_
     refine wp_ret ?_
     obtain ⟨t5, e1, h1, q97⟩ := Own.seal o35 (by decide)
     rw [← e1]
     have F24 := F23.step h1 (by decide)
     have q98 : At (Ty.lst Ty.int os) t5 a24 (.tmp 4) := by have e : a24.eval (.tmp 4) = x7_0 := q95; show Ty.has _ _ _; rw [e]; exact q97
     have q99 := Ty.up (Ty.int (0 : Int)) (h1.le (by decide)) q96
     exact retL2 rfl ok23 F24 (hasT2 (cvt (by (rw [if_pos hm0, ← hos, show m = 0 by omega, atF, List.append_nil])) q98) (cvi (by (exact hm0.symm)) q99))


set_option maxHeartbeats 4000000 in
set_option maxRecDepth 100000 in
theorem rAt_fn (n : Nat) (k : Nat) (σ : GW)  (v0 v1 : Value) (hv0 : Ty.has (Ty.nat n) σ v0) (hv1 : Ty.has (Ty.nat k) σ v1)  (hn : n ≤ 12) (hk : k < fct n) :
    FnC Try.prog 37 #[v0, v1] σ (Ty.lst Ty.int (atL n k)) := by
 refine fn_intro0 Try.func37 rfl Try.ntmps37 (Nat.le_of_ble_eq_true rfl) (fun s0 a0 hle F0 ok0 hargs => ?_)
 have p0 : At (Ty.nat n) s0 a0 (.tmp 0) := by have e := hargs 0 _ rfl; show Ty.has _ _ _; rw [e]; exact Ty.up _ hle hv0
 have p1 : At (Ty.nat k) s0 a0 (.tmp 1) := by have e := hargs 1 _ rfl; show Ty.has _ _ _; rw [e]; exact Ty.up _ hle hv1
 clear hargs
 refine wp_seq ?_
 refine reg (a := a0) (σ := s0) rfl (fun i_ => List.getD [(Ty.pr (Ty.val (Value.slice none 0 0)))] i_ Pr.any) ok0 rfl ⟨?_, trivial⟩ ?_
 · intro ax tx hs okx sm
   exact run_plain rfl (y_assign rfl)
 intro a1 s1 D1
 have ok1 := D1.ok
 have F1 := F0.step0 D1.stp
 have q1 : At (Ty.nat n) s1 a1 (.tmp 0) := D1.kt p0 rfl
 have q2 : At (Ty.nat k) s1 a1 (.tmp 1) := D1.kt p1 rfl
 clear D1
 refine tn ?_
 refine wp_seq ?_
 refine reg (a := a1) (σ := s1) rfl (fun i_ => List.getD [(Ty.pr (Ty.val (Value.slice none 0 0)))] i_ Pr.any) ok1 rfl ⟨?_, trivial⟩ ?_
 · intro ax tx hs okx sm
   exact run_plain rfl (y_assign rfl)
 intro a2 s2 D2
 have ok2 := D2.ok
 have F2 := F1.step0 D2.stp
 have q3 : At (Ty.nat n) s2 a2 (.tmp 0) := D2.kt q1 rfl
 have q4 : At (Ty.nat k) s2 a2 (.tmp 1) := D2.kt q2 rfl
 have q5 : At (Ty.val (Value.slice none 0 0)) s2 a2 (.tmp 5) := D2.done 0
 clear D2
 refine tn ?_
 refine wp_seq ?_
 refine reg (a := a2) (σ := s2) rfl (fun i_ => List.getD [(Ty.pr (Ty.nat n)), (Ty.pr (Ty.lst Ty.int (roundsL n))), (Ty.pr (Ty.lst Ty.int (roundsL n)))] i_ Pr.any) ok2 rfl ⟨?_, ?_, ?_, trivial⟩ ?_
 · intro ax tx hs okx sm
   exact run_plain rfl (y_move (kp (sm 0 rfl) hs q3))
 · intro ax tx hs okx sm d0
   have e0 : At (Ty.nat n) tx ax (.tmp 9) := d0 rfl
   exact run_plain rfl (y_call #[ax.eval (.tmp 9)] Try.func24 rfl rfl (by simp only [List.map_toArray, List.map_cons, List.map_nil]) (rRounds_fn (n) _ _ e0 (by omega)))
 · intro ax tx hs okx sm d0 d1 d2 d3
   have e1 : At (Ty.lst Ty.int (roundsL n)) tx ax (.tmp 10) := d0 rfl
   have e0 : At (Ty.nat n) tx ax (.tmp 9) := d2 rfl
   exact run_plain rfl (y_assign e1)
 intro a3 s3 D3
 have ok3 := D3.ok
 have F3 := F2.step0 D3.stp
 have q6 : At (Ty.nat k) s3 a3 (.tmp 1) := D3.kt q4 rfl
 have q7 : At (Ty.val (Value.slice none 0 0)) s3 a3 (.tmp 5) := D3.kt q5 rfl
 have q8 : At (Ty.lst Ty.int (roundsL n)) s3 a3 (.tmp 6) := D3.done 2
 clear D3
 refine tn ?_
 refine wp_seq ?_
 refine wp_block ?_
 have o1 : Own s3 5 3 1 (Value.slice none 0 0) 0 (List.map Ty.int ([] : List Int)) := Own.nil _ _ _ _
 refine loop (fun n1 a4 w1 => ∃ (t1 : GW) (m : Nat) (lf : List Int) (q : Nat) (os : List Int) (x5_0 : Value), t1.w = w1 ∧ FromL [] s0 t1 ∧ Ok 42 a4 ∧ At (Ty.lst Ty.int lf) t1 a4 (.tmp 6) ∧ At (Ty.val x5_0) t1 a4 (.tmp 5) ∧ At (Ty.nat q) t1 a4 (.tmp 1) ∧ Own t1 5 3 1 x5_0 (List.length os) (List.map Ty.int os) ∧ (os ++ atF m lf q = atL n k) ∧ (q < fct m) ∧ (lf.length = m) ∧ (os.length + m = n) ∧ n1 = m + 1) ((n) + 1) ?_ ?_
 ·
  exact ⟨s3, n, (roundsL n), k, ([] : List Int), (Value.slice none 0 0), rfl, F3, ok3, (cvt (by (first | rfl | omega | (simp_all; done) | (simp_all; omega))) q8), q7, (cvi (by (first | rfl | omega | (simp_all; done) | (simp_all; omega))) q6), (cvo (by (simp)) (by (simp)) o1), rfl, by omega, roundsL_len _, by simp, rfl⟩
 ·
  rintro n2 a5 w2 ⟨t2, m, lf, q, os, x5_0, rfl, F4, ok4, q9, q10, q11, o2, hos, hq, hlf, hol, rfl⟩
  have hf12 := fct_le12 (n := m) (by omega)
  have hfp := fct_pos (m - 1)
  refine wp_seq ?_
  refine wp_seq ?_
  refine reg (a := a5) (σ := t2) rfl (fun i_ => List.getD [(Ty.pr (Ty.lst Ty.int lf)), (Ty.pr (Ty.nat (List.length lf))), (Ty.pr (Ty.bool (decide ((0 : Int) < (((List.length lf) : Nat) : Int)))))] i_ Pr.any) ok4 rfl ⟨?_, ?_, ?_, trivial⟩ ?_
  · intro ax tx hs okx sm
    exact run_plain rfl (y_move (kp (sm 6 rfl) hs q9))
  · intro ax tx hs okx sm d0
    have e0 : At (Ty.lst Ty.int lf) tx ax (.tmp 11) := d0 rfl
    exact run_plain rfl (y_len Try.underlying34 e0)
  · intro ax tx hs okx sm d0
    have e1 : At (Ty.nat (List.length lf)) tx ax (.tmp 12) := d0 rfl
    exact run_plain rfl (y_gtr e1 rfl)
  intro a6 s4 D4
  have ok5 := D4.ok
  have F5 := F4.step0 D4.stp
  have q12 : At (Ty.lst Ty.int lf) s4 a6 (.tmp 6) := D4.kt q9 rfl
  have q13 : At (Ty.val x5_0) s4 a6 (.tmp 5) := D4.kt q10 rfl
  have q14 : At (Ty.nat q) s4 a6 (.tmp 1) := D4.kt q11 rfl
  have o3 := Own.k0 o2 D4.stp
  have q15 : At (Ty.bool (decide ((0 : Int) < (((List.length lf) : Nat) : Int)))) s4 a6 (.tmp 13) := D4.done 2
  clear D4
  refine tn ?_
  refine cond_p (p := ((0 : Int) < (((List.length lf) : Nat) : Int))) q15 (fun c1 => ?_) (fun c1 => ?_)
  ·
   have hdv := at_div (m := m) (q := q) (by omega) hq; have hdn : (0 : Int) ≤ ((q / fct (m - 1) : Nat) : Int) := Int.natCast_nonneg _; have hmn : (0 : Int) ≤ ((q % fct (m - 1) : Nat) : Int) := Int.natCast_nonneg _; have htk1 : (List.take (q / fct (m - 1)) lf).length ≤ 12 := (by rw [List.length_take]; omega); have hdk1 : (List.drop (q / fct (m - 1) + 1) lf).length ≤ 12 := (by rw [List.length_drop]; omega)
   refine wp_skip ?_
   refine tn ?_
   refine wp_block ?_
   refine wp_seq ?_
   refine reg (a := a6) (σ := s4) rfl (fun i_ => List.getD [(Ty.pr (Ty.lst Ty.int lf)), (Ty.pr (Ty.nat (List.length lf))), (Ty.pr (Ty.nat ((List.length lf) - 1))), (Ty.pr (Ty.nat (fct (((List.length lf) - 1))))), (Ty.pr (Ty.nat (fct (((List.length lf) - 1)))))] i_ Pr.any) ok5 rfl ⟨?_, ?_, ?_, ?_, ?_, trivial⟩ ?_
   · intro ax tx hs okx sm
     exact run_plain rfl (y_move (kp (sm 6 rfl) hs q12))
   · intro ax tx hs okx sm d0
     have e0 : At (Ty.lst Ty.int lf) tx ax (.tmp 14) := d0 rfl
     exact run_plain rfl (y_len Try.underlying34 e0)
   · intro ax tx hs okx sm d0
     have e1 : At (Ty.nat (List.length lf)) tx ax (.tmp 15) := d0 rfl
     exact run_plain rfl ((y_sub e1 rfl (w64 (by omega) (by omega))).mono (fun τ _ h => cvi (σ := τ) (by omega) h))
   · intro ax tx hs okx sm d0
     have e2 : At (Ty.nat ((List.length lf) - 1)) tx ax (.tmp 16) := d0 rfl
     exact run_plain rfl (y_call #[ax.eval (.tmp 16)] Try.func35 rfl rfl (by simp only [List.map_toArray, List.map_cons, List.map_nil]) (rFact_fn ((((List.length lf) - 1))) (((List.length lf) - 1)) _ _ (cvi (σ := tx) (by omega) e2) (by omega) (by omega)))
   · intro ax tx hs okx sm d0 d1 d2 d3 d4 d5
     have e3 : At (Ty.nat (fct (((List.length lf) - 1)))) tx ax (.tmp 17) := d0 rfl
     have e0 : At (Ty.lst Ty.int lf) tx ax (.tmp 14) := d2 rfl
     have e1 : At (Ty.nat (List.length lf)) tx ax (.tmp 15) := d3 rfl
     have e2 : At (Ty.nat ((List.length lf) - 1)) tx ax (.tmp 16) := d4 rfl
     exact run_plain rfl (y_assign e3)
   intro a7 s5 D5
   have ok6 := D5.ok
   have F6 := F5.step0 D5.stp
   have q16 : At (Ty.lst Ty.int lf) s5 a7 (.tmp 6) := D5.kt q12 rfl
   have q17 : At (Ty.val x5_0) s5 a7 (.tmp 5) := D5.kt q13 rfl
   have q18 : At (Ty.nat q) s5 a7 (.tmp 1) := D5.kt q14 rfl
   have o4 := Own.k0 o3 D5.stp
   have q19 : At (Ty.nat (fct (((List.length lf) - 1)))) s5 a7 (.tmp 7) := D5.done 4
   clear D5
   have q20 : At (Ty.nat (fct (m - 1))) s5 a7 (.tmp 7) := (cvi (by (first | rw [hlf] | (have e : ((((List.length lf : Nat) : Int) - (1 : Int))).toNat = m - 1 := (by omega); rw [e]))) q19)
   refine tn ?_
   refine wp_seq ?_
   refine reg (a := a7) (σ := s5) rfl (fun i_ => List.getD [(Ty.pr (Ty.nat q)), (Ty.pr (Ty.nat (fct (m - 1)))), (Ty.pr (Ty.nat (q / (fct (m - 1))))), (Ty.pr (Ty.nat (q / (fct (m - 1)))))] i_ Pr.any) ok6 rfl ⟨?_, ?_, ?_, ?_, trivial⟩ ?_
   · intro ax tx hs okx sm
     exact run_plain rfl (y_move (kp (sm 1 rfl) hs q18))
   · intro ax tx hs okx sm
     exact run_plain rfl (y_move (kp (sm 7 rfl) hs q20))
   · intro ax tx hs okx sm d0 d1
     have e0 : At (Ty.nat q) tx ax (.tmp 18) := d0 rfl
     have e1 : At (Ty.nat (fct (m - 1))) tx ax (.tmp 19) := d1 rfl
     exact run_plain rfl (y_quoN e0 e1 (by omega) (by omega))
   · intro ax tx hs okx sm d0 d1 d2 d3
     have e2 : At (Ty.nat (q / (fct (m - 1)))) tx ax (.tmp 20) := d0 rfl
     have e0 : At (Ty.nat q) tx ax (.tmp 18) := d1 rfl
     have e1 : At (Ty.nat (fct (m - 1))) tx ax (.tmp 19) := d2 rfl
     exact run_plain rfl (y_assign e2)
   intro a8 s6 D6
   have ok7 := D6.ok
   have F7 := F6.step0 D6.stp
   have q21 : At (Ty.lst Ty.int lf) s6 a8 (.tmp 6) := D6.kt q16 rfl
   have q22 : At (Ty.val x5_0) s6 a8 (.tmp 5) := D6.kt q17 rfl
   have q23 : At (Ty.nat q) s6 a8 (.tmp 1) := D6.kt q18 rfl
   have q24 : At (Ty.nat (fct (m - 1))) s6 a8 (.tmp 7) := D6.kt q20 rfl
   have o5 := Own.k0 o4 D6.stp
   have q25 : At (Ty.nat (q / (fct (m - 1)))) s6 a8 (.tmp 8) := D6.done 3
   clear D6
   refine tn ?_
   refine wp_seq ?_
   refine reg (a := a8) (σ := s6) rfl (fun i_ => List.getD [(Ty.pr (Ty.nat q)), (Ty.pr (Ty.nat (fct (m - 1)))), (Ty.pr (Ty.nat (q % (fct (m - 1))))), (Ty.pr (Ty.nat (q % (fct (m - 1)))))] i_ Pr.any) ok7 rfl ⟨?_, ?_, ?_, ?_, trivial⟩ ?_
   · intro ax tx hs okx sm
     exact run_plain rfl (y_move (kp (sm 1 rfl) hs q23))
   · intro ax tx hs okx sm
     exact run_plain rfl (y_move (kp (sm 7 rfl) hs q24))
   · intro ax tx hs okx sm d0 d1
     have e0 : At (Ty.nat q) tx ax (.tmp 21) := d0 rfl
     have e1 : At (Ty.nat (fct (m - 1))) tx ax (.tmp 22) := d1 rfl
     exact run_plain rfl (y_remN e0 e1 (by omega))
   · intro ax tx hs okx sm d0 d1 d2 d3
     have e2 : At (Ty.nat (q % (fct (m - 1)))) tx ax (.tmp 23) := d0 rfl
     have e0 : At (Ty.nat q) tx ax (.tmp 21) := d1 rfl
     have e1 : At (Ty.nat (fct (m - 1))) tx ax (.tmp 22) := d2 rfl
     exact run_plain rfl (y_assign e2)
   intro a9 s7 D7
   have ok8 := D7.ok
   have F8 := F7.step0 D7.stp
   have q26 : At (Ty.lst Ty.int lf) s7 a9 (.tmp 6) := D7.kt q21 rfl
   have q27 : At (Ty.val x5_0) s7 a9 (.tmp 5) := D7.kt q22 rfl
   have q28 : At (Ty.nat (q / (fct (m - 1)))) s7 a9 (.tmp 8) := D7.kt q25 rfl
   have o6 := Own.k0 o5 D7.stp
   have q29 : At (Ty.nat (q % (fct (m - 1)))) s7 a9 (.tmp 1) := D7.done 3
   clear D7
   refine tn ?_
   refine wp_seq ?_
   refine reg2 (a := a9) (σ := s7) rfl 6 (fun i_ => List.getD [(Ty.pr (Ty.val x5_0)), (Ty.pr (Ty.lst Ty.int lf)), (Ty.pr (Ty.nat (q / (fct (m - 1))))), (Ty.pr (Ty.ref [(Ty.int (lf.getD (q / (fct (m - 1))) 0))])), (Ty.pr (Ty.int (lf.getD (q / (fct (m - 1))) 0))), (Ty.pr (Ty.sl 1 1 [(Ty.int (lf.getD (q / (fct (m - 1))) 0))]))] i_ Pr.any) ok8 rfl (by decide) rfl ⟨?_, ?_, ?_, ?_, ?_, ?_, trivial⟩ ?_
   · intro ax tx hs okx sm
     exact run_plain rfl (y_move (kp (sm 5 rfl) hs q27))
   · intro ax tx hs okx sm
     exact run_plain rfl (y_move (kp (sm 6 rfl) hs q26))
   · intro ax tx hs okx sm
     exact run_plain rfl (y_move (kp (sm 8 rfl) hs q28))
   · intro ax tx hs okx sm d0 d1
     have e1 : At (Ty.lst Ty.int lf) tx ax (.tmp 25) := d0 rfl
     have e2 : At (Ty.nat (q / (fct (m - 1)))) tx ax (.tmp 26) := d1 rfl
     exact run_plain rfl (y_index1 Try.underlying34 Try.inf3 e1 e2 (by omega) (lst_get Ty.int lf 0 (q / (fct (m - 1))) (by omega)))
   · intro ax tx hs okx sm d0
     have e3 : At (Ty.ref [(Ty.int (lf.getD (q / (fct (m - 1))) 0))]) tx ax (.tmp 27) := d0 rfl
     exact run_plain rfl (y_load Try.underlying3 rfl e3 rfl)
   · intro ax tx hs okx sm d0
     have e4 : At (Ty.int (lf.getD (q / (fct (m - 1))) 0)) tx ax (.tmp 28) := d0 rfl
     exact run_plain rfl (y_build1o Try.underlying34 Try.inf3 rfl (one_val rfl) e4)
   intro a10 s8 D8
   have ok9 := D8.ok
   have F9 := F8.step0 D8.stp
   have q30 : At (Ty.lst Ty.int lf) s8 a10 (.tmp 6) := D8.kt q26 rfl
   have q31 : At (Ty.val x5_0) s8 a10 (.tmp 5) := D8.kt q27 rfl
   have q32 : At (Ty.nat (q / (fct (m - 1)))) s8 a10 (.tmp 8) := D8.kt q28 rfl
   have q33 : At (Ty.nat (q % (fct (m - 1)))) s8 a10 (.tmp 1) := D8.kt q29 rfl
   have o7 := Own.k0 o6 D8.stp
   have q34 : At (Ty.val x5_0) s8 a10 (.tmp 24) := D8.done 0 (by decide)
   have q35 : At (Ty.sl 1 1 [(Ty.int (lf.getD (q / (fct (m - 1))) 0))]) s8 a10 (.tmp 29) := D8.done 5 (by decide)
   have b1 := sl_le q35
   clear D8
   refine tailL (L := [5]) (R := (fun v τ => Own τ 5 3 1 v ((List.length os) + 1) ((List.map Ty.int os) ++ [(Ty.int (lf.getD (q / (fct (m - 1))) 0))]))) rfl rfl (by decide) ok9 (YldM.toL (m_append Try.underlying34 Try.inf3 (by decide) rfl (by decide) (al (R := (Pr.own 5 3 1 (List.length os) (List.map Ty.int os))) q34 o7) q35 (by intro U hU; simp at hU; subst hU; exact one_val rfl) (by omega) (by omega))) (fun a11 s9 hs1 ok10 r1 sm1 => ?_)
   have F10 := F9.stepL hs1 (by decide)
   have q36 : At (Ty.lst Ty.int lf) s9 a11 (.tmp 6) := kpL hs1 (by decide) (sm1 6 (by decide)) q30
   have q37 : At (Ty.val x5_0) s9 a11 (.tmp 5) := kpL hs1 (by decide) (sm1 5 (by decide)) q31
   have q38 : At (Ty.nat (q / (fct (m - 1)))) s9 a11 (.tmp 8) := kpL hs1 (by decide) (sm1 8 (by decide)) q32
   have q39 : At (Ty.nat (q % (fct (m - 1)))) s9 a11 (.tmp 1) := kpL hs1 (by decide) (sm1 1 (by decide)) q33
   obtain ⟨x1, hx1⟩ : ∃ x, a11.eval (.tmp 30) = x := ⟨_, rfl⟩
   have q40 : At (Ty.val x1) s9 a11 (.tmp 30) := hx1
   have o8 : Own s9 5 3 1 x1 (List.length (os ++ [(lf.getD (q / (fct (m - 1))) 0)])) (List.map Ty.int (os ++ [(lf.getD (q / (fct (m - 1))) 0)])) := al2 (R := (Pr.own 5 3 1 (List.length (os ++ [(lf.getD (q / (fct (m - 1))) 0)])) (List.map Ty.int (os ++ [(lf.getD (q / (fct (m - 1))) 0)])))) hx1 (cvo (by simp) (by first | (rw [List.map_append]; rfl) | simp) r1)
   clear r1
   refine tailL (L := []) (R := (fun v τ => Pr.has (Ty.pr (Ty.val x1)) τ v)) rfl rfl (by decide) ok10 (Yld.toL (y_assign q40)) (fun a12 s10 hs2 ok11 r2 sm2 => ?_)
   have F11 := F10.stepL hs2 (by decide)
   have q41 : At (Ty.lst Ty.int lf) s10 a12 (.tmp 6) := kpL hs2 (by decide) (sm2 6 (by decide)) q36
   have q42 : At (Ty.nat (q / (fct (m - 1)))) s10 a12 (.tmp 8) := kpL hs2 (by decide) (sm2 8 (by decide)) q38
   have q43 : At (Ty.nat (q % (fct (m - 1)))) s10 a12 (.tmp 1) := kpL hs2 (by decide) (sm2 1 (by decide)) q39
   have o9 := Own.keepL o8 hs2 (by decide) (by decide)
   have q44 : At (Ty.val x1) s10 a12 (.tmp 5) := r2
   clear r2
   refine wpList_nil ?_
   refine tn ?_
   refine reg2 (a := a12) (σ := s10) rfl 9 (fun i_ => List.getD [(Pr.own0 7 3), (Ty.pr (Ty.lst Ty.int lf)), (Ty.pr (Ty.nat (q / (fct (m - 1))))), (Ty.pr (Ty.lst Ty.int (lf.take (q / (fct (m - 1)))))), (Pr.own 7 3 1 (List.length (lf.take (q / (fct (m - 1))))) (List.map Ty.int (lf.take (q / (fct (m - 1)))))), (Ty.pr (Ty.lst Ty.int lf)), (Ty.pr (Ty.nat (q / (fct (m - 1))))), (Ty.pr (Ty.nat ((q / (fct (m - 1))) + 1))), (Ty.pr (Ty.lst Ty.int (lf.drop ((q / (fct (m - 1))) + 1))))] i_ Pr.any) ok11 rfl (by decide) rfl ⟨?_, ?_, ?_, ?_, ?_, ?_, ?_, ?_, ?_, trivial⟩ ?_
   · intro ax tx hs okx sm
     exact run_plain rfl (y_lit00 (k := 7) Try.underlying34 Try.inf3)
   · intro ax tx hs okx sm
     exact run_plain rfl (y_move (kp (sm 6 rfl) hs q41))
   · intro ax tx hs okx sm
     exact run_plain rfl (y_move (kp (sm 8 rfl) hs q42))
   · intro ax tx hs okx sm d0 d1
     have e1 : At (Ty.lst Ty.int lf) tx ax (.tmp 32) := d0 rfl
     have e2 : At (Ty.nat (q / (fct (m - 1)))) tx ax (.tmp 33) := d1 rfl
     exact run_plain rfl (y_take Try.underlying34 Try.inf3 e1 e2 (by omega))
   · intro ax tx hs okx sm d0 d1
     have e0 : (Pr.own0 7 3).has tx (ax.eval (.tmp 31)) := d0 rfl
     have e3 : At (Ty.lst Ty.int (lf.take (q / (fct (m - 1))))) tx ax (.tmp 34) := d1 rfl
     exact run_plain rfl (y_append0 Try.underlying34 Try.inf3 (by decide) rfl e0 e3 (one_map (fun _ => one_val rfl)) (by omega) (by omega))
   · intro ax tx hs okx sm
     exact run_plain rfl (y_move (kp (sm 6 rfl) hs q41))
   · intro ax tx hs okx sm
     exact run_plain rfl (y_move (kp (sm 8 rfl) hs q42))
   · intro ax tx hs okx sm d0
     have e6 : At (Ty.nat (q / (fct (m - 1)))) tx ax (.tmp 37) := d0 rfl
     exact run_plain rfl ((y_add e6 rfl (w64 (by omega) (by omega))).mono (fun τ _ h => cvi (σ := τ) (by first | omega | exact (Int.natCast_mul _ _).symm) h))
   · intro ax tx hs okx sm d0 d1
     have e5 : At (Ty.lst Ty.int lf) tx ax (.tmp 36) := d0 rfl
     have e7 : At (Ty.nat ((q / (fct (m - 1))) + 1)) tx ax (.tmp 38) := d1 rfl
     exact run_plain rfl (y_drop Try.underlying34 Try.inf3 e5 e7 (by omega))
   intro a13 s11 D9
   have ok12 := D9.ok
   have F12 := F11.step0 D9.stp
   have q45 : At (Ty.lst Ty.int lf) s11 a13 (.tmp 6) := D9.kt q41 rfl
   have q46 : At (Ty.nat (q % (fct (m - 1)))) s11 a13 (.tmp 1) := D9.kt q43 rfl
   have q47 : At (Ty.val x1) s11 a13 (.tmp 5) := D9.kt q44 rfl
   have o10 := Own.k0 o9 D9.stp
   obtain ⟨x2, hx2⟩ : ∃ x, a13.eval (.tmp 35) = x := ⟨_, rfl⟩
   have q48 : At (Ty.val x2) s11 a13 (.tmp 35) := hx2
   have o11 : Own s11 7 3 1 x2 (List.length (lf.take (q / (fct (m - 1))))) (List.map Ty.int (lf.take (q / (fct (m - 1))))) := al2 (R := (Pr.own 7 3 1 (List.length (lf.take (q / (fct (m - 1))))) (List.map Ty.int (lf.take (q / (fct (m - 1))))))) hx2 (D9.done 4 (by decide))
   have q49 : At (Ty.lst Ty.int (lf.drop ((q / (fct (m - 1))) + 1))) s11 a13 (.tmp 39) := D9.done 8 (by decide)
   have b2 := sl_le q49
   clear D9
   refine tailL (L := [7]) (R := (fun v τ => Own τ 7 3 1 v ((List.length (lf.take (q / (fct (m - 1))))) + (List.length (lf.drop ((q / (fct (m - 1))) + 1)))) ((List.map Ty.int (lf.take (q / (fct (m - 1))))) ++ (List.map Ty.int (lf.drop ((q / (fct (m - 1))) + 1)))))) rfl rfl (by decide) ok12 (YldM.toL (m_append Try.underlying34 Try.inf3 (by decide) rfl (by decide) (al (R := (Pr.own 7 3 1 (List.length (lf.take (q / (fct (m - 1))))) (List.map Ty.int (lf.take (q / (fct (m - 1))))))) q48 o11) q49 (one_map (fun _ => one_val rfl)) (by omega) (by omega))) (fun a14 s12 hs3 ok13 r3 sm3 => ?_)
   have F13 := F12.stepL hs3 (by decide)
   have q50 : At (Ty.lst Ty.int lf) s12 a14 (.tmp 6) := kpL hs3 (by decide) (sm3 6 (by decide)) q45
   have q51 : At (Ty.nat (q % (fct (m - 1)))) s12 a14 (.tmp 1) := kpL hs3 (by decide) (sm3 1 (by decide)) q46
   have q52 : At (Ty.val x1) s12 a14 (.tmp 5) := kpL hs3 (by decide) (sm3 5 (by decide)) q47
   have o13 := Own.keepL o10 hs3 (by decide) (by decide)
   obtain ⟨x3, hx3⟩ : ∃ x, a14.eval (.tmp 40) = x := ⟨_, rfl⟩
   have q53 : At (Ty.val x3) s12 a14 (.tmp 40) := hx3
   have o12 : Own s12 7 3 1 x3 (List.length ((lf.take (q / (fct (m - 1)))) ++ (lf.drop ((q / (fct (m - 1))) + 1)))) (List.map Ty.int ((lf.take (q / (fct (m - 1)))) ++ (lf.drop ((q / (fct (m - 1))) + 1)))) := al2 (R := (Pr.own 7 3 1 (List.length ((lf.take (q / (fct (m - 1)))) ++ (lf.drop ((q / (fct (m - 1))) + 1)))) (List.map Ty.int ((lf.take (q / (fct (m - 1)))) ++ (lf.drop ((q / (fct (m - 1))) + 1)))))) hx3 (cvo (by simp) (by first | (rw [List.map_append]; rfl) | simp) r3)
   clear r3
   refine tailL (L := []) (R := (fun v τ => Pr.has (Ty.pr (Ty.val x3)) τ v)) rfl rfl (by decide) ok13 (Yld.toL (y_assign q53)) (fun a15 s13 hs4 ok14 r4 sm4 => ?_)
   have F14 := F13.stepL hs4 (by decide)
   have q54 : At (Ty.nat (q % (fct (m - 1)))) s13 a15 (.tmp 1) := kpL hs4 (by decide) (sm4 1 (by decide)) q51
   have q55 : At (Ty.val x1) s13 a15 (.tmp 5) := kpL hs4 (by decide) (sm4 5 (by decide)) q52
   have o14 := Own.keepL o13 hs4 (by decide) (by decide)
   have o15 := Own.keepL o12 hs4 (by decide) (by decide)
   have q56 : At (Ty.val x3) s13 a15 (.tmp 6) := r4
   clear r4
   refine wpList_nil ?_
   refine bn ?_
   obtain ⟨t3, e1, h1, q57⟩ := Own.seal o15 (by decide)
   rw [← e1]
   have F15 := F14.step h1 (by decide)
   have o16 := Own.keepL o14 (h1.toL (L := [7]) (by simp)) (by decide) (by decide)
   have q58 := Ty.up (Ty.nat (q % (fct (m - 1)))) (h1.le (by decide)) q54
   have q59 := Ty.up (Ty.val x1) (h1.le (by decide)) q55
   have q60 : At (Ty.lst Ty.int ((lf.take (q / (fct (m - 1)))) ++ (lf.drop ((q / (fct (m - 1))) + 1)))) t3 a15 (.tmp 6) := by have e : a15.eval (.tmp 6) = x3 := q56; show Ty.has _ _ _; rw [e]; exact q57
   exact tn ⟨((m - 1)) + 1, by omega, t3, (m - 1), (lf.eraseIdx (q / (fct (m - 1)))), (q % (fct (m - 1))), (os ++ [lf.getD (q / (fct (m - 1))) 0]), x1, rfl, F15, ok14, (cvt (by (rw [erase_eq])) q60), q59, (cvi (by (first | rfl | omega | (simp_all; done) | (simp_all; omega))) q58), (cvo (by (simp)) (by (simp)) o16), at_step hos (by omega), hdv.2, by rw [List.length_eraseIdx, if_pos (by omega)]; omega, by rw [List.length_append, List.length_singleton]; omega, rfl⟩
  ·
   refine wp_exit ?_
   refine tx ?_
   refine tx ?_
   refine bx ?_
   refine tn ?_
   refine wp_seq ?_
   refine reg (a := a6) (σ := s4) rfl (fun i_ => List.getD [(Ty.pr (Ty.val x5_0)), (Ty.pr (Ty.val x5_0))] i_ Pr.any) ok5 rfl ⟨?_, ?_, trivial⟩ ?_
   · intro ax tx hs okx sm
     exact run_plain rfl (y_move (kp (sm 5 rfl) hs q13))
   · intro ax tx hs okx sm d0 d1
     have e0 : At (Ty.val x5_0) tx ax (.tmp 41) := d0 rfl
     exact run_plain rfl (y_assign e0)
   intro a16 s14 D10
   have ok15 := D10.ok
   have F16 := F5.step0 D10.stp
   have o17 := Own.k0 o3 D10.stp
   have q61 : At (Ty.val x5_0) s14 a16 (.tmp 4) := D10.done 1
   clear D10
   refine tn ?_
   refine wp_ret ?_
   obtain ⟨t4, e2, h2, q62⟩ := Own.seal o17 (by decide)
   rw [← e2]
   have F17 := F16.step h2 (by decide)
   have q63 : At (Ty.lst Ty.int os) t4 a16 (.tmp 4) := by have e : a16.eval (.tmp 4) = x5_0 := q61; show Ty.has _ _ _; rw [e]; exact q62
   exact retL1 rfl ok15 F17 (cvt (by (rw [← hos, show m = 0 by omega, atF, List.append_nil])) q63)


set_option maxHeartbeats 4000000 in
set_option maxRecDepth 100000 in
theorem slIndexByte_fn (s : ByteArray) (c : Int) (σ : GW)  (v0 v1 : Value) (hv0 : Ty.has (Ty.val (Value.string s)) σ v0) (hv1 : Ty.has (Ty.val (Value.int .u8 c)) σ v1)   :
    FnC Try.prog 155 #[v0, v1] σ (Ty.int (Lib.indexByte (ByteArray.data s).toList (c).toNat.toUInt8)) := by
 refine fn_intro0 Try.func155 rfl Try.ntmps155 (Nat.le_of_ble_eq_true rfl) (fun s0 a0 hle F0 ok0 hargs => ?_)
 have p0 : At (Ty.val (Value.string s)) s0 a0 (.tmp 0) := by have e := hargs 0 _ rfl; show Ty.has _ _ _; rw [e]; exact Ty.up _ hle hv0
 have p1 : At (Ty.val (Value.int .u8 c)) s0 a0 (.tmp 1) := by have e := hargs 1 _ rfl; show Ty.has _ _ _; rw [e]; exact Ty.up _ hle hv1
 clear hargs
 refine wp_seq ?_
 refine reg (a := a0) (σ := s0) rfl (fun i_ => List.getD [(Ty.pr (Ty.int (0 : Int)))] i_ Pr.any) ok0 rfl ⟨?_, trivial⟩ ?_
 · intro ax tx hs okx sm
   exact run_plain rfl (y_assign rfl)
 intro a1 s1 D1
 have ok1 := D1.ok
 have F1 := F0.step0 D1.stp
 have q1 : At (Ty.val (Value.string s)) s1 a1 (.tmp 0) := D1.kt p0 rfl
 have q2 : At (Ty.val (Value.int .u8 c)) s1 a1 (.tmp 1) := D1.kt p1 rfl
 clear D1
 refine tn ?_
 refine wp_seq ?_
 refine reg (a := a1) (σ := s1) rfl (fun i_ => List.getD [(Ty.pr (Ty.val (Value.string s))), (Ty.pr (Ty.val (Value.int .u8 c))), (Ty.pr (Ty.int (Lib.indexByte (ByteArray.data s).toList (c).toNat.toUInt8))), (Ty.pr (Ty.int (Lib.indexByte (ByteArray.data s).toList (c).toNat.toUInt8)))] i_ Pr.any) ok1 rfl ⟨?_, ?_, ?_, ?_, trivial⟩ ?_
 · intro ax tx hs okx sm
   exact run_plain rfl (y_move (kp (sm 0 rfl) hs q1))
 · intro ax tx hs okx sm
   exact run_plain rfl (y_move (kp (sm 1 rfl) hs q2))
 · intro ax tx hs okx sm d0 d1
   have e0 : At (Ty.val (Value.string s)) tx ax (.tmp 5) := d0 rfl
   have e1 : At (Ty.val (Value.int .u8 c)) tx ax (.tmp 6) := d1 rfl
   exact run_plain rfl (y_extern (R := (Ty.int (Lib.indexByte (ByteArray.data s).toList (c).toNat.toUInt8))) #[(Value.string s), (Value.int .u8 c)] (by simp only [List.map_toArray, List.map_cons, List.map_nil, (show ax.eval (.tmp 5) = _ from e0), (show ax.eval (.tmp 6) = _ from e1)]) (by rw [run_callFunc_extern Try.func170 (by kernel_rfl) (by kernel_rfl) (by kernel_rfl) (e := Extern.BytealgIndexByte.indexByte) (by kernel_rfl), Lib.run_indexByteString]; rfl) rfl)
 · intro ax tx hs okx sm d0 d1 d2 d3 d4
   have e2 : At (Ty.int (Lib.indexByte (ByteArray.data s).toList (c).toNat.toUInt8)) tx ax (.tmp 7) := d0 rfl
   have e0 : At (Ty.val (Value.string s)) tx ax (.tmp 5) := d2 rfl
   have e1 : At (Ty.val (Value.int .u8 c)) tx ax (.tmp 6) := d3 rfl
   exact run_plain rfl (y_assign e2)
 intro a2 s2 D2
 have ok2 := D2.ok
 have F2 := F1.step0 D2.stp
 have q3 : At (Ty.int (Lib.indexByte (ByteArray.data s).toList (c).toNat.toUInt8)) s2 a2 (.tmp 4) := D2.done 3
 clear D2
 refine tn ?_
 refine wp_ret ?_
 exact retL1 rfl ok2 F2 q3


set_option maxHeartbeats 4000000 in
set_option maxRecDepth 100000 in
theorem sIndexByte_fn (s : ByteArray) (c : Int) (σ : GW)  (v0 v1 : Value) (hv0 : Ty.has (Ty.val (Value.string s)) σ v0) (hv1 : Ty.has (Ty.val (Value.int .u8 c)) σ v1)   :
    FnC Try.prog 131 #[v0, v1] σ (Ty.int (Lib.indexByte (ByteArray.data s).toList (c).toNat.toUInt8)) := by
 refine fn_intro0 Try.func131 rfl Try.ntmps131 (Nat.le_of_ble_eq_true rfl) (fun s0 a0 hle F0 ok0 hargs => ?_)
 have p0 : At (Ty.val (Value.string s)) s0 a0 (.tmp 0) := by have e := hargs 0 _ rfl; show Ty.has _ _ _; rw [e]; exact Ty.up _ hle hv0
 have p1 : At (Ty.val (Value.int .u8 c)) s0 a0 (.tmp 1) := by have e := hargs 1 _ rfl; show Ty.has _ _ _; rw [e]; exact Ty.up _ hle hv1
 clear hargs
 refine wp_seq ?_
 refine reg (a := a0) (σ := s0) rfl (fun i_ => List.getD [(Ty.pr (Ty.int (0 : Int)))] i_ Pr.any) ok0 rfl ⟨?_, trivial⟩ ?_
 · intro ax tx hs okx sm
   exact run_plain rfl (y_assign rfl)
 intro a1 s1 D1
 have ok1 := D1.ok
 have F1 := F0.step0 D1.stp
 have q1 : At (Ty.val (Value.string s)) s1 a1 (.tmp 0) := D1.kt p0 rfl
 have q2 : At (Ty.val (Value.int .u8 c)) s1 a1 (.tmp 1) := D1.kt p1 rfl
 clear D1
 refine tn ?_
 refine wp_seq ?_
 refine reg (a := a1) (σ := s1) rfl (fun i_ => List.getD [(Ty.pr (Ty.val (Value.string s))), (Ty.pr (Ty.val (Value.int .u8 c))), (Ty.pr (Ty.int (Lib.indexByte (ByteArray.data s).toList (c).toNat.toUInt8))), (Ty.pr (Ty.int (Lib.indexByte (ByteArray.data s).toList (c).toNat.toUInt8)))] i_ Pr.any) ok1 rfl ⟨?_, ?_, ?_, ?_, trivial⟩ ?_
 · intro ax tx hs okx sm
   exact run_plain rfl (y_move (kp (sm 0 rfl) hs q1))
 · intro ax tx hs okx sm
   exact run_plain rfl (y_move (kp (sm 1 rfl) hs q2))
 · intro ax tx hs okx sm d0 d1
   have e0 : At (Ty.val (Value.string s)) tx ax (.tmp 5) := d0 rfl
   have e1 : At (Ty.val (Value.int .u8 c)) tx ax (.tmp 6) := d1 rfl
   exact run_plain rfl (y_call #[ax.eval (.tmp 5), ax.eval (.tmp 6)] Try.func155 rfl rfl (by simp only [List.map_toArray, List.map_cons, List.map_nil]) (slIndexByte_fn (s) (c) _ _ _ e0 e1 ))
 · intro ax tx hs okx sm d0 d1 d2 d3 d4
   have e2 : At (Ty.int (Lib.indexByte (ByteArray.data s).toList (c).toNat.toUInt8)) tx ax (.tmp 7) := d0 rfl
   have e0 : At (Ty.val (Value.string s)) tx ax (.tmp 5) := d2 rfl
   have e1 : At (Ty.val (Value.int .u8 c)) tx ax (.tmp 6) := d3 rfl
   exact run_plain rfl (y_assign e2)
 intro a2 s2 D2
 have ok2 := D2.ok
 have F2 := F1.step0 D2.stp
 have q3 : At (Ty.int (Lib.indexByte (ByteArray.data s).toList (c).toNat.toUInt8)) s2 a2 (.tmp 4) := D2.done 3
 clear D2
 refine tn ?_
 refine wp_ret ?_
 exact retL1 rfl ok2 F2 q3


set_option maxHeartbeats 4000000 in
set_option maxRecDepth 100000 in
theorem validRune_fn (r : Int) (σ : GW)  (v0 : Value) (hv0 : Ty.has (Ty.val (Value.int .i32 r)) σ v0)   :
    FnC Try.prog 132 #[v0] σ (Ty.bool (Utf8.valid r)) := by
 refine fn_intro0 Try.func132 rfl Try.ntmps132 (Nat.le_of_ble_eq_true rfl) (fun s0 a0 hle F0 ok0 hargs => ?_)
 have p0 : At (Ty.val (Value.int .i32 r)) s0 a0 (.tmp 0) := by have e := hargs 0 _ rfl; show Ty.has _ _ _; rw [e]; exact Ty.up _ hle hv0
 clear hargs
 refine wp_seq ?_
 refine reg (a := a0) (σ := s0) rfl (fun i_ => List.getD [(Ty.pr (Ty.bool false))] i_ Pr.any) ok0 rfl ⟨?_, trivial⟩ ?_
 · intro ax tx hs okx sm
   exact run_plain rfl (y_assign rfl)
 intro a1 s1 D1
 have ok1 := D1.ok
 have F1 := F0.step0 D1.stp
 have q1 : At (Ty.val (Value.int .i32 r)) s1 a1 (.tmp 0) := D1.kt p0 rfl
 clear D1
 refine tn ?_
 refine wp_seq ?_
 refine wp_block ?_
 refine wp_seq ?_
 refine reg (a := a1) (σ := s1) rfl (fun i_ => List.getD [(Ty.pr (Ty.val (Value.int .i32 r))), (Ty.pr (Ty.bool (decide ((0 : Int) ≤ r)))), (Ty.pr (Ty.bool (decide ((0 : Int) ≤ r)))), (Ty.pr (Ty.grd ((decide ((0 : Int) ≤ r)) = true) (Ty.val (Value.int .i32 r)))), (Ty.pr (Ty.grd ((decide ((0 : Int) ≤ r)) = true) (Ty.bool (decide (r < (55296 : Int)))))), (Ty.pr (Ty.bool ((decide ((0 : Int) ≤ r)) && (decide (r < (55296 : Int)))))), (Ty.pr (Ty.bool ((decide ((0 : Int) ≤ r)) && (decide (r < (55296 : Int))))))] i_ Pr.any) ok1 rfl ⟨?_, ?_, ?_, ?_, ?_, ?_, ?_, trivial⟩ ?_
 · intro ax tx hs okx sm
   exact run_plain rfl (y_move (kp (sm 0 rfl) hs q1))
 · intro ax tx hs okx sm d0
   have e0 : At (Ty.val (Value.int .i32 r)) tx ax (.tmp 4) := d0 rfl
   exact run_plain rfl (y_leq rfl e0)
 · intro ax tx hs okx sm d0
   have e1 : At (Ty.bool (decide ((0 : Int) ≤ r))) tx ax (.tmp 5) := d0 rfl
   exact run_plain rfl (y_move e1)
 · intro ax tx hs okx sm d0
   have e2 : At (Ty.bool (decide ((0 : Int) ≤ r))) tx ax (.tmp 6) := d0 rfl
   refine run_guard (T := (Ty.val (Value.int .i32 r))) okx rfl rfl (by decide) e2 (fun hg => ?_)
   have hp := of_decide_eq_true hg
   exact y_move (kp (sm 0 rfl) hs q1)
 · intro ax tx hs okx sm d0 d1
   have e3 : At (Ty.grd ((decide ((0 : Int) ≤ r)) = true) (Ty.val (Value.int .i32 r))) tx ax (.tmp 7) := d0 rfl
   have e2 : At (Ty.bool (decide ((0 : Int) ≤ r))) tx ax (.tmp 6) := d1 rfl
   refine run_guard (T := (Ty.bool (decide (r < (55296 : Int))))) okx rfl rfl (by decide) e2 (fun hg => ?_)
   have hp := of_decide_eq_true hg
   exact y_lss (e3.1 hg) rfl
 · intro ax tx hs okx sm d0 d1
   have e2 : At (Ty.bool (decide ((0 : Int) ≤ r))) tx ax (.tmp 6) := d0 rfl
   have e4 : At (Ty.grd ((decide ((0 : Int) ≤ r)) = true) (Ty.bool (decide (r < (55296 : Int))))) tx ax (.tmp 8) := d1 rfl
   exact run_plain rfl (y_pick_and e2 e4 rfl)
 · intro ax tx hs okx sm d0 d1
   have e5 : At (Ty.bool ((decide ((0 : Int) ≤ r)) && (decide (r < (55296 : Int))))) tx ax (.tmp 9) := d0 rfl
   have e2 : At (Ty.bool (decide ((0 : Int) ≤ r))) tx ax (.tmp 6) := d1 rfl
   exact run_plain rfl (y_assign e5)
 intro a2 s2 D2
 have ok2 := D2.ok
 have F2 := F1.step0 D2.stp
 have q2 : At (Ty.val (Value.int .i32 r)) s2 a2 (.tmp 0) := D2.kt q1 rfl
 have q3 : At (Ty.bool ((decide ((0 : Int) ≤ r)) && (decide (r < (55296 : Int))))) s2 a2 (.tmp 3) := D2.done 6
 clear D2
 refine tn ?_
 refine cond_t q3 (fun c1 => ?_) (fun c1 => ?_)
 ·
  obtain ⟨d1, d2⟩ := Bool.and_eq_true_iff.mp c1
  replace d1 := of_decide_eq_true d1
  replace d2 := of_decide_eq_true d2
  refine wp_seq ?_
  refine reg (a := a2) (σ := s2) rfl (fun i_ => List.getD [(Ty.pr (Ty.bool true))] i_ Pr.any) ok2 rfl ⟨?_, trivial⟩ ?_
  · intro ax tx hs okx sm
    exact run_plain rfl (y_assign rfl)
  intro a3 s3 D3
  have ok3 := D3.ok
  have F3 := F2.step0 D3.stp
  have q4 : At (Ty.bool true) s3 a3 (.tmp 2) := D3.done 0
  clear D3
  refine tn ?_
  refine wp_ret ?_
  refine br ?_
  refine tr ?_
  exact retL1 rfl ok3 F3 (cvb (by (simp only [Bool.and_eq_true, decide_eq_true_eq] at c1; unfold Utf8.valid; rw [decide_eq_true (show 0 ≤ r by omega), decide_eq_true (show r < 0xD800 by omega)]; rfl)) q4)
 ·
  refine wp_seq ?_
  refine reg (a := a2) (σ := s2) rfl (fun i_ => List.getD [(Ty.pr (Ty.val (Value.int .i32 r))), (Ty.pr (Ty.bool (decide ((57343 : Int) < r)))), (Ty.pr (Ty.bool (decide ((57343 : Int) < r)))), (Ty.pr (Ty.grd ((decide ((57343 : Int) < r)) = true) (Ty.val (Value.int .i32 r)))), (Ty.pr (Ty.grd ((decide ((57343 : Int) < r)) = true) (Ty.bool (decide (r ≤ (1114111 : Int)))))), (Ty.pr (Ty.bool ((decide ((57343 : Int) < r)) && (decide (r ≤ (1114111 : Int)))))), (Ty.pr (Ty.bool ((decide ((57343 : Int) < r)) && (decide (r ≤ (1114111 : Int))))))] i_ Pr.any) ok2 rfl ⟨?_, ?_, ?_, ?_, ?_, ?_, ?_, trivial⟩ ?_
  · intro ax tx hs okx sm
    exact run_plain rfl (y_move (kp (sm 0 rfl) hs q2))
  · intro ax tx hs okx sm d0
    have e0 : At (Ty.val (Value.int .i32 r)) tx ax (.tmp 11) := d0 rfl
    exact run_plain rfl (y_lss rfl e0)
  · intro ax tx hs okx sm d0
    have e1 : At (Ty.bool (decide ((57343 : Int) < r))) tx ax (.tmp 12) := d0 rfl
    exact run_plain rfl (y_move e1)
  · intro ax tx hs okx sm d0
    have e2 : At (Ty.bool (decide ((57343 : Int) < r))) tx ax (.tmp 13) := d0 rfl
    refine run_guard (T := (Ty.val (Value.int .i32 r))) okx rfl rfl (by decide) e2 (fun hg => ?_)
    have hp := of_decide_eq_true hg
    exact y_move (kp (sm 0 rfl) hs q2)
  · intro ax tx hs okx sm d0 d1
    have e3 : At (Ty.grd ((decide ((57343 : Int) < r)) = true) (Ty.val (Value.int .i32 r))) tx ax (.tmp 14) := d0 rfl
    have e2 : At (Ty.bool (decide ((57343 : Int) < r))) tx ax (.tmp 13) := d1 rfl
    refine run_guard (T := (Ty.bool (decide (r ≤ (1114111 : Int))))) okx rfl rfl (by decide) e2 (fun hg => ?_)
    have hp := of_decide_eq_true hg
    exact y_leq (e3.1 hg) rfl
  · intro ax tx hs okx sm d0 d1
    have e2 : At (Ty.bool (decide ((57343 : Int) < r))) tx ax (.tmp 13) := d0 rfl
    have e4 : At (Ty.grd ((decide ((57343 : Int) < r)) = true) (Ty.bool (decide (r ≤ (1114111 : Int))))) tx ax (.tmp 15) := d1 rfl
    exact run_plain rfl (y_pick_and e2 e4 rfl)
  · intro ax tx hs okx sm d0 d1
    have e5 : At (Ty.bool ((decide ((57343 : Int) < r)) && (decide (r ≤ (1114111 : Int))))) tx ax (.tmp 16) := d0 rfl
    have e2 : At (Ty.bool (decide ((57343 : Int) < r))) tx ax (.tmp 13) := d1 rfl
    exact run_plain rfl (y_assign e5)
  intro a4 s4 D4
  have ok4 := D4.ok
  have F4 := F2.step0 D4.stp
  have q5 : At (Ty.bool ((decide ((57343 : Int) < r)) && (decide (r ≤ (1114111 : Int))))) s4 a4 (.tmp 10) := D4.done 6
  clear D4
  refine tn ?_
  refine cond_t q5 (fun c2 => ?_) (fun c2 => ?_)
  ·
   obtain ⟨d3, d4⟩ := Bool.and_eq_true_iff.mp c2
   replace d3 := of_decide_eq_true d3
   replace d4 := of_decide_eq_true d4
   refine wp_seq ?_
   refine reg (a := a4) (σ := s4) rfl (fun i_ => List.getD [(Ty.pr (Ty.bool true))] i_ Pr.any) ok4 rfl ⟨?_, trivial⟩ ?_
   · intro ax tx hs okx sm
     exact run_plain rfl (y_assign rfl)
   intro a5 s5 D5
   have ok5 := D5.ok
   have F5 := F4.step0 D5.stp
   have q6 : At (Ty.bool true) s5 a5 (.tmp 2) := D5.done 0
   clear D5
   refine tn ?_
   refine wp_ret ?_
   refine br ?_
   refine tr ?_
   exact retL1 rfl ok5 F5 (cvb (by (simp only [Bool.and_eq_true, decide_eq_true_eq] at c2; unfold Utf8.valid; rw [decide_eq_true (show 0xE000 ≤ r by omega), decide_eq_true (show r ≤ 0x10FFFF by omega)]; simp)) q6)
  ·
   refine wp_skip ?_
   refine bn ?_
   refine tn ?_
   refine wp_seq ?_
   refine reg (a := a4) (σ := s4) rfl (fun i_ => List.getD [(Ty.pr (Ty.bool false))] i_ Pr.any) ok4 rfl ⟨?_, trivial⟩ ?_
   · intro ax tx hs okx sm
     exact run_plain rfl (y_assign rfl)
   intro a6 s6 D6
   have ok6 := D6.ok
   have F6 := F4.step0 D6.stp
   have q7 : At (Ty.bool false) s6 a6 (.tmp 2) := D6.done 0
   clear D6
   refine tn ?_
   refine wp_ret ?_
   exact retL1 rfl ok6 F6 (cvb (by (simp only [Bool.and_eq_false_iff, decide_eq_false_iff_not] at c1 c2; unfold Utf8.valid; refine Eq.symm (Bool.or_eq_false_iff.2 ⟨?_, ?_⟩) <;> simp only [Bool.and_eq_false_iff, decide_eq_false_iff_not] <;> omega)) q7)


set_option maxHeartbeats 4000000 in
set_option maxRecDepth 100000 in
theorem idxRune_fn (r : Int) (σ : GW)  (v0 v1 : Value) (hv0 : Ty.has (Ty.val (Value.string SIGNS)) σ v0) (hv1 : Ty.has (Ty.val (Value.int .i32 r)) σ v1)  (hr : -2147483648 ≤ r ∧ r ≤ 2147483647) :
    FnC Try.prog 119 #[v0, v1] σ (Ty.int (signIdx r)) := by
 have hsz := signs_size
 refine fn_intro0 Try.func119 rfl Try.ntmps119 (Nat.le_of_ble_eq_true rfl) (fun s0 a0 hle F0 ok0 hargs => ?_)
 have p0 : At (Ty.val (Value.string SIGNS)) s0 a0 (.tmp 0) := by have e := hargs 0 _ rfl; show Ty.has _ _ _; rw [e]; exact Ty.up _ hle hv0
 have p1 : At (Ty.val (Value.int .i32 r)) s0 a0 (.tmp 1) := by have e := hargs 1 _ rfl; show Ty.has _ _ _; rw [e]; exact Ty.up _ hle hv1
 clear hargs
 refine wp_seq ?_
 refine reg (a := a0) (σ := s0) rfl (fun i_ => List.getD [(Ty.pr (Ty.int (0 : Int)))] i_ Pr.any) ok0 rfl ⟨?_, trivial⟩ ?_
 · intro ax tx hs okx sm
   exact run_plain rfl (y_assign rfl)
 intro a1 s1 D1
 have ok1 := D1.ok
 have F1 := F0.step0 D1.stp
 have q1 : At (Ty.val (Value.string SIGNS)) s1 a1 (.tmp 0) := D1.kt p0 rfl
 have q2 : At (Ty.val (Value.int .i32 r)) s1 a1 (.tmp 1) := D1.kt p1 rfl
 clear D1
 refine tn ?_
 refine wp_block ?_
 refine wp_seq ?_
 refine reg (a := a1) (σ := s1) rfl (fun i_ => List.getD [(Ty.pr (Ty.val (Value.int .i32 r))), (Ty.pr (Ty.bool (decide ((0 : Int) ≤ r)))), (Ty.pr (Ty.bool (decide ((0 : Int) ≤ r)))), (Ty.pr (Ty.grd ((decide ((0 : Int) ≤ r)) = true) (Ty.val (Value.int .i32 r)))), (Ty.pr (Ty.grd ((decide ((0 : Int) ≤ r)) = true) (Ty.bool (decide (r < (128 : Int)))))), (Ty.pr (Ty.bool ((decide ((0 : Int) ≤ r)) && (decide (r < (128 : Int)))))), (Ty.pr (Ty.bool ((decide ((0 : Int) ≤ r)) && (decide (r < (128 : Int))))))] i_ Pr.any) ok1 rfl ⟨?_, ?_, ?_, ?_, ?_, ?_, ?_, trivial⟩ ?_
 · intro ax tx hs okx sm
   exact run_plain rfl (y_move (kp (sm 1 rfl) hs q2))
 · intro ax tx hs okx sm d0
   have e0 : At (Ty.val (Value.int .i32 r)) tx ax (.tmp 161) := d0 rfl
   exact run_plain rfl (y_leq rfl e0)
 · intro ax tx hs okx sm d0
   have e1 : At (Ty.bool (decide ((0 : Int) ≤ r))) tx ax (.tmp 162) := d0 rfl
   exact run_plain rfl (y_move e1)
 · intro ax tx hs okx sm d0
   have e2 : At (Ty.bool (decide ((0 : Int) ≤ r))) tx ax (.tmp 163) := d0 rfl
   refine run_guard (T := (Ty.val (Value.int .i32 r))) okx rfl rfl (by decide) e2 (fun hg => ?_)
   have hp := of_decide_eq_true hg
   exact y_move (kp (sm 1 rfl) hs q2)
 · intro ax tx hs okx sm d0 d1
   have e3 : At (Ty.grd ((decide ((0 : Int) ≤ r)) = true) (Ty.val (Value.int .i32 r))) tx ax (.tmp 164) := d0 rfl
   have e2 : At (Ty.bool (decide ((0 : Int) ≤ r))) tx ax (.tmp 163) := d1 rfl
   refine run_guard (T := (Ty.bool (decide (r < (128 : Int))))) okx rfl rfl (by decide) e2 (fun hg => ?_)
   have hp := of_decide_eq_true hg
   exact y_lss (e3.1 hg) rfl
 · intro ax tx hs okx sm d0 d1
   have e2 : At (Ty.bool (decide ((0 : Int) ≤ r))) tx ax (.tmp 163) := d0 rfl
   have e4 : At (Ty.grd ((decide ((0 : Int) ≤ r)) = true) (Ty.bool (decide (r < (128 : Int))))) tx ax (.tmp 165) := d1 rfl
   exact run_plain rfl (y_pick_and e2 e4 rfl)
 · intro ax tx hs okx sm d0 d1
   have e5 : At (Ty.bool ((decide ((0 : Int) ≤ r)) && (decide (r < (128 : Int))))) tx ax (.tmp 166) := d0 rfl
   have e2 : At (Ty.bool (decide ((0 : Int) ≤ r))) tx ax (.tmp 163) := d1 rfl
   exact run_plain rfl (y_assign e5)
 intro a2 s2 D2
 have ok2 := D2.ok
 have F2 := F1.step0 D2.stp
 have q3 : At (Ty.val (Value.string SIGNS)) s2 a2 (.tmp 0) := D2.kt q1 rfl
 have q4 : At (Ty.val (Value.int .i32 r)) s2 a2 (.tmp 1) := D2.kt q2 rfl
 have q5 : At (Ty.bool ((decide ((0 : Int) ≤ r)) && (decide (r < (128 : Int))))) s2 a2 (.tmp 160) := D2.done 6
 clear D2
 refine tn ?_
 refine cond_t q5 (fun c1 => ?_) (fun c1 => ?_)
 ·
  obtain ⟨d1, d2⟩ := Bool.and_eq_true_iff.mp c1
  replace d1 := of_decide_eq_true d1
  replace d2 := of_decide_eq_true d2
  simp only [Bool.and_eq_true, decide_eq_true_eq] at c1
  refine wp_seq ?_
  refine reg (a := a2) (σ := s2) rfl (fun i_ => List.getD [(Ty.pr (Ty.val (Value.string SIGNS))), (Ty.pr (Ty.val (Value.int .i32 r))), (Ty.pr (Ty.val (Value.int .u8 r))), (Ty.pr (Ty.int (Lib.indexByte (ByteArray.data (SIGNS)).toList ((r)).toNat.toUInt8))), (Ty.pr (Ty.int (Lib.indexByte (ByteArray.data (SIGNS)).toList ((r)).toNat.toUInt8)))] i_ Pr.any) ok2 rfl ⟨?_, ?_, ?_, ?_, ?_, trivial⟩ ?_
  · intro ax tx hs okx sm
    exact run_plain rfl (y_move (kp (sm 0 rfl) hs q3))
  · intro ax tx hs okx sm
    exact run_plain rfl (y_move (kp (sm 1 rfl) hs q4))
  · intro ax tx hs okx sm d0
    have e1 : At (Ty.val (Value.int .i32 r)) tx ax (.tmp 168) := d0 rfl
    exact run_plain rfl (y_conv Try.underlying5 e1 (by exact wrap_u8 (by omega) (by omega)) (by rw [Try.underlying21]; rfl))
  · intro ax tx hs okx sm d0 d1
    have e0 : At (Ty.val (Value.string SIGNS)) tx ax (.tmp 167) := d0 rfl
    have e2 : At (Ty.val (Value.int .u8 r)) tx ax (.tmp 169) := d1 rfl
    exact run_plain rfl (y_call #[ax.eval (.tmp 167), ax.eval (.tmp 169)] Try.func131 rfl rfl (by simp only [List.map_toArray, List.map_cons, List.map_nil]) (sIndexByte_fn (SIGNS) (r) _ _ _ e0 (cvi (σ := tx) (by omega) e2) ))
  · intro ax tx hs okx sm d0 d1 d2 d3 d4 d5
    have e3 : At (Ty.int (Lib.indexByte (ByteArray.data (SIGNS)).toList ((r)).toNat.toUInt8)) tx ax (.tmp 170) := d0 rfl
    have e0 : At (Ty.val (Value.string SIGNS)) tx ax (.tmp 167) := d2 rfl
    have e1 : At (Ty.val (Value.int .i32 r)) tx ax (.tmp 168) := d3 rfl
    have e2 : At (Ty.val (Value.int .u8 r)) tx ax (.tmp 169) := d4 rfl
    exact run_plain rfl (y_assign e3)
  intro a3 s3 D3
  have ok3 := D3.ok
  have F3 := F2.step0 D3.stp
  have q6 : At (Ty.int (Lib.indexByte (ByteArray.data (SIGNS)).toList ((r)).toNat.toUInt8)) s3 a3 (.tmp 4) := D3.done 4
  clear D3
  refine tn ?_
  refine wp_ret ?_
  refine br ?_
  exact retL1 rfl ok3 F3 (cvi (by (exact (signIdx_lo c1.1 c1.2).symm)) q6)
 ·
  have hc1 : ¬ (0 ≤ r ∧ r < 128) := (by intro h; simp only [Bool.and_eq_false_iff, decide_eq_false_iff_not] at c1; omega)
  refine wp_seq ?_
  refine reg (a := a2) (σ := s2) rfl (fun i_ => List.getD [(Ty.pr (Ty.val (Value.int .i32 r))), (Ty.pr (Ty.bool (decide (r = (65533 : Int))))), (Ty.pr (Ty.bool (decide (r = (65533 : Int)))))] i_ Pr.any) ok2 rfl ⟨?_, ?_, ?_, trivial⟩ ?_
  · intro ax tx hs okx sm
    exact run_plain rfl (y_move (kp (sm 1 rfl) hs q4))
  · intro ax tx hs okx sm d0
    have e0 : At (Ty.val (Value.int .i32 r)) tx ax (.tmp 172) := d0 rfl
    exact run_plain rfl (y_eql e0 rfl)
  · intro ax tx hs okx sm d0
    have e1 : At (Ty.bool (decide (r = (65533 : Int)))) tx ax (.tmp 173) := d0 rfl
    exact run_plain rfl (y_assign e1)
  intro a4 s4 D4
  have ok4 := D4.ok
  have F4 := F2.step0 D4.stp
  have q7 : At (Ty.val (Value.string SIGNS)) s4 a4 (.tmp 0) := D4.kt q3 rfl
  have q8 : At (Ty.val (Value.int .i32 r)) s4 a4 (.tmp 1) := D4.kt q4 rfl
  have q9 : At (Ty.bool (decide (r = (65533 : Int)))) s4 a4 (.tmp 171) := D4.done 2
  clear D4
  refine tn ?_
  refine cond_p (p := (r = (65533 : Int))) q9 (fun c2 => ?_) (fun c2 => ?_)
  ·
   refine wp_seq ?_
   refine wp_seq ?_
   refine reg (a := a4) (σ := s4) rfl (fun i_ => List.getD [(Ty.pr (Ty.val (Value.string SIGNS))), (Pr.iter 5 SIGNS 0)] i_ Pr.any) ok4 rfl ⟨?_, ?_, trivial⟩ ?_
   · intro ax tx hs okx sm
     exact run_plain rfl (y_move (kp (sm 0 rfl) hs q7))
   · intro ax tx hs okx sm d0
     have e0 : At (Ty.val (Value.string SIGNS)) tx ax (.tmp 174) := d0 rfl
     exact run_plain rfl (y_range 5 Try.underlying9 e0)
   intro a5 s5 D5
   have ok5 := D5.ok
   have F5 := F4.step0 D5.stp
   obtain ⟨x1, hx1⟩ : ∃ x, a5.eval (.tmp 175) = x := ⟨_, rfl⟩
   have q10 : At (Ty.val x1) s5 a5 (.tmp 175) := hx1
   have o1 : Iter s5 5 x1 SIGNS 0 := al2 (R := (Pr.iter 5 SIGNS 0)) hx1 (D5.done 1)
   clear D5
   refine tn ?_
   refine wp_block ?_
   refine loop (fun n1 a6 w1 => ∃ (t1 : GW) (p : Nat), t1.w = w1 ∧ FromL [] s0 t1 ∧ Ok 187 a6 ∧ At (Ty.val x1) t1 a6 (.tmp 175) ∧ Iter t1 5 x1 SIGNS p ∧ (p ≤ 12) ∧ n1 = 12 - p) (12 - (0)) ?_ ?_
   ·
    exact ⟨s5, 0, rfl, F5, ok5, q10, (cvit (by omega) o1), by omega, rfl⟩
   ·
    rintro n2 a7 w2 ⟨t2, p, rfl, F6, ok6, q11, o2, hp, rfl⟩
    refine wp_seq ?_
    refine reg2 (a := a7) (σ := t2) rfl 0 (fun i_ => List.getD [] i_ Pr.any) ok6 rfl (by decide) rfl trivial ?_
    intro a8 s6 D6
    have ok7 := D6.ok
    have F7 := F6.step0 D6.stp
    have q12 : At (Ty.val x1) s6 a8 (.tmp 175) := D6.kt q11 rfl
    have o3 := Iter.k0 o2 D6.stp
    clear D6
    refine tailL (L := [5]) (R := (fun v τ => (Ty.nxt (decide (p < SIGNS.size)) p (run1 SIGNS p)).has τ v ∧ Iter τ 5 x1 SIGNS (stepTo SIGNS p))) rfl rfl (by decide) ok7 (YldM.toL (m_next (by decide) o3 q12)) (fun a9 s7 hs1 ok8 r1 sm1 => ?_)
    have F8 := F7.stepL hs1 (by decide)
    have q13 : At (Ty.val x1) s7 a9 (.tmp 175) := kpL hs1 (by decide) (sm1 175 (by decide)) q12
    have q14 : At (Ty.nxt (decide (p < SIGNS.size)) p (run1 SIGNS p)) s7 a9 (.tmp 176) := (r1).1
    have o4 : Iter s7 5 x1 SIGNS (stepTo SIGNS p) := (r1).2
    clear r1
    refine tailL (L := []) (R := (fun v τ => Pr.has (Ty.pr (Ty.bool (decide (p < SIGNS.size)))) τ v)) rfl rfl (by decide) ok8 (Yld.toL (y_ext_n0 q14)) (fun a10 s8 hs2 ok9 r2 sm2 => ?_)
    have F9 := F8.stepL hs2 (by decide)
    have q15 : At (Ty.val x1) s8 a10 (.tmp 175) := kpL hs2 (by decide) (sm2 175 (by decide)) q13
    have q16 : At (Ty.nxt (decide (p < SIGNS.size)) p (run1 SIGNS p)) s8 a10 (.tmp 176) := kpL hs2 (by decide) (sm2 176 (by decide)) q14
    have o5 := Iter.keepL o4 hs2 (by decide) (by decide)
    have q17 : At (Ty.bool (decide (p < SIGNS.size))) s8 a10 (.tmp 177) := r2
    clear r2
    refine wpList_nil ?_
    refine tn ?_
    refine wp_seq ?_
    refine cond_p (p := (p < SIGNS.size)) q17 (fun c3 => ?_) (fun c3 => ?_)
    ·
     refine wp_skip ?_
     refine tn ?_
     refine wp_block ?_
     refine wp_seq ?_
     refine reg (a := a10) (σ := s8) rfl (fun i_ => List.getD [(Ty.pr (Ty.nat p)), (Ty.pr (Ty.val (Value.int .i32 ((run1 SIGNS p : Nat) : Int)))), (Ty.pr (Ty.nat p)), (Ty.pr (Ty.val (Value.int .i32 ((run1 SIGNS p : Nat) : Int))))] i_ Pr.any) ok9 rfl ⟨?_, ?_, ?_, ?_, trivial⟩ ?_
     · intro ax tx hs okx sm
       exact run_plain rfl (y_ext_n1 (kp (sm 176 rfl) hs q16) (decide_eq_true (by omega)))
     · intro ax tx hs okx sm d0
       exact run_plain rfl (y_ext_n2 (kp (sm 176 rfl) hs q16) (decide_eq_true (by omega)))
     · intro ax tx hs okx sm d0 d1 d2
       have e0 : At (Ty.nat p) tx ax (.tmp 178) := d0 rfl
       exact run_plain rfl (y_assign e0)
     · intro ax tx hs okx sm d0 d1 d2 d3 d4
       have e1 : At (Ty.val (Value.int .i32 ((run1 SIGNS p : Nat) : Int))) tx ax (.tmp 179) := d0 rfl
       have e2 : At (Ty.nat p) tx ax (.tmp 5) := d1 rfl
       have e0 : At (Ty.nat p) tx ax (.tmp 178) := d2 rfl
       exact run_plain rfl (y_assign e1)
     intro a11 s9 D7
     have ok10 := D7.ok
     have F10 := F9.step0 D7.stp
     have q18 : At (Ty.val x1) s9 a11 (.tmp 175) := D7.kt q15 rfl
     have o6 := Iter.k0 o5 D7.stp
     have q19 : At (Ty.nat p) s9 a11 (.tmp 5) := D7.done 2
     have q20 : At (Ty.val (Value.int .i32 ((run1 SIGNS p : Nat) : Int))) s9 a11 (.tmp 6) := D7.done 3
     clear D7
     refine tn ?_
     refine wp_seq ?_
     refine reg (a := a11) (σ := s9) rfl (fun i_ => List.getD [(Ty.pr (Ty.val (Value.int .i32 ((run1 SIGNS p : Nat) : Int)))), (Ty.pr (Ty.bool (decide (((run1 SIGNS p : Nat) : Int) = (65533 : Int)))))] i_ Pr.any) ok10 rfl ⟨?_, ?_, trivial⟩ ?_
     · intro ax tx hs okx sm
       exact run_plain rfl (y_move (kp (sm 6 rfl) hs q20))
     · intro ax tx hs okx sm d0
       have e0 : At (Ty.val (Value.int .i32 ((run1 SIGNS p : Nat) : Int))) tx ax (.tmp 180) := d0 rfl
       exact run_plain rfl (y_eql e0 rfl)
     intro a12 s10 D8
     have ok11 := D8.ok
     have F11 := F10.step0 D8.stp
     have q21 : At (Ty.val x1) s10 a12 (.tmp 175) := D8.kt q18 rfl
     have q22 : At (Ty.nat p) s10 a12 (.tmp 5) := D8.kt q19 rfl
     have o7 := Iter.k0 o6 D8.stp
     have q23 : At (Ty.bool (decide (((run1 SIGNS p : Nat) : Int) = (65533 : Int)))) s10 a12 (.tmp 181) := D8.done 1
     clear D8
     refine tn ?_
     refine cond_p (p := (((run1 SIGNS p : Nat) : Int) = (65533 : Int))) q23 (fun c4 => ?_) (fun c4 => ?_)
     ·
      exfalso
      have := (signs_run (p := p) (by omega)).1; omega
     ·
      refine wp_skip ?_
      refine bn ?_
      exact tn ⟨12 - ((p + 1)), by omega, s10, (p + 1), rfl, F11, ok11, q21, (cvit (by exact (signs_run (by omega)).2) o7), by omega, rfl⟩
    ·
     refine wp_exit ?_
     refine tx ?_
     refine tx ?_
     refine bx ?_
     refine tn ?_
     refine wp_seq ?_
     refine reg (a := a10) (σ := s8) rfl (fun i_ => List.getD [(Ty.pr (Ty.int (-1 : Int)))] i_ Pr.any) ok9 rfl ⟨?_, trivial⟩ ?_
     · intro ax tx hs okx sm
       exact run_plain rfl (y_assign rfl)
     intro a13 s11 D9
     have ok12 := D9.ok
     have F12 := F9.step0 D9.stp
     have o8 := Iter.k0 o5 D9.stp
     have q24 : At (Ty.int (-1 : Int)) s11 a13 (.tmp 4) := D9.done 0
     clear D9
     refine tn ?_
     refine wp_ret ?_
     refine br ?_
     exact retL1 rfl ok12 F12 (cvi (by (exact (signIdx_hi (by omega)).symm)) q24)
  ·
   refine wp_seq ?_
   refine reg (a := a4) (σ := s4) rfl (fun i_ => List.getD [(Ty.pr (Ty.val (Value.int .i32 r))), (Ty.pr (Ty.bool (Utf8.valid r))), (Ty.pr (Ty.bool (!(Utf8.valid r)))), (Ty.pr (Ty.bool (!(Utf8.valid r))))] i_ Pr.any) ok4 rfl ⟨?_, ?_, ?_, ?_, trivial⟩ ?_
   · intro ax tx hs okx sm
     exact run_plain rfl (y_move (kp (sm 1 rfl) hs q8))
   · intro ax tx hs okx sm d0
     have e0 : At (Ty.val (Value.int .i32 r)) tx ax (.tmp 184) := d0 rfl
     exact run_plain rfl (y_call #[ax.eval (.tmp 184)] Try.func132 rfl rfl (by simp only [List.map_toArray, List.map_cons, List.map_nil]) (validRune_fn (r) _ _ e0 ))
   · intro ax tx hs okx sm d0
     have e1 : At (Ty.bool (Utf8.valid r)) tx ax (.tmp 185) := d0 rfl
     exact run_plain rfl (y_not e1)
   · intro ax tx hs okx sm d0 d1
     have e2 : At (Ty.bool (!(Utf8.valid r))) tx ax (.tmp 186) := d0 rfl
     have e1 : At (Ty.bool (Utf8.valid r)) tx ax (.tmp 185) := d1 rfl
     exact run_plain rfl (y_assign e2)
   intro a14 s12 D10
   have ok13 := D10.ok
   have F13 := F4.step0 D10.stp
   have q25 : At (Ty.val (Value.string SIGNS)) s12 a14 (.tmp 0) := D10.kt q7 rfl
   have q26 : At (Ty.val (Value.int .i32 r)) s12 a14 (.tmp 1) := D10.kt q8 rfl
   have q27 : At (Ty.bool (!(Utf8.valid r))) s12 a14 (.tmp 183) := D10.done 3
   clear D10
   refine tn ?_
   refine cond_t q27 (fun c5 => ?_) (fun c5 => ?_)
   ·
    refine wp_seq ?_
    refine reg (a := a14) (σ := s12) rfl (fun i_ => List.getD [(Ty.pr (Ty.int (-1 : Int)))] i_ Pr.any) ok13 rfl ⟨?_, trivial⟩ ?_
    · intro ax tx hs okx sm
      exact run_plain rfl (y_assign rfl)
    intro a15 s13 D11
    have ok14 := D11.ok
    have F14 := F13.step0 D11.stp
    have q28 : At (Ty.int (-1 : Int)) s13 a15 (.tmp 4) := D11.done 0
    clear D11
    refine tn ?_
    refine wp_ret ?_
    refine br ?_
    exact retL1 rfl ok14 F14 (cvi (by (exact (signIdx_hi hc1).symm)) q28)
   ·
    have hv : Utf8.valid r = true := (by simpa using c5); have hr0 : 0 ≤ r := (by unfold Utf8.valid at hv; simp only [Bool.or_eq_true, Bool.and_eq_true, decide_eq_true_eq] at hv; omega); have hef := enc_facts (by omega) hv; obtain ⟨E, hE⟩ : ∃ E, E = Utf8.encode r := ⟨_, rfl⟩; rw [← hE] at hef; have hsl := signs_lt (j := E.size - 1) (by omega)
    refine wp_scope_straight ?_
    refine wp_seq ?_
    refine reg (a := a14) (σ := s12) rfl (fun i_ => List.getD [(Ty.pr (Ty.val (Value.int .i32 r))), (Ty.pr (Ty.val (Value.string (Utf8.encode r)))), (Ty.pr (Ty.val (Value.string (Utf8.encode r))))] i_ Pr.any) ok13 rfl ⟨?_, ?_, ?_, trivial⟩ ?_
    · intro ax tx hs okx sm
      exact run_plain rfl (y_move (kp (sm 1 rfl) hs q26))
    · intro ax tx hs okx sm d0
      have e0 : At (Ty.val (Value.int .i32 r)) tx ax (.tmp 17) := d0 rfl
      exact run_plain rfl (y_convrs Try.underlying9 e0 (by rw [Try.underlying21]; rfl))
    · intro ax tx hs okx sm d0 d1 d2
      have e1 : At (Ty.val (Value.string (Utf8.encode r))) tx ax (.tmp 18) := d0 rfl
      have e0 : At (Ty.val (Value.int .i32 r)) tx ax (.tmp 17) := d1 rfl
      exact run_plain rfl (y_assign e1)
    intro a16 s14 D12
    have ok15 := D12.ok
    have F15 := F13.step0 D12.stp
    have q29 : At (Ty.val (Value.string SIGNS)) s14 a16 (.tmp 0) := D12.kt q25 rfl
    have q30 : At (Ty.val (Value.string (Utf8.encode r))) s14 a16 (.tmp 7) := D12.done 2
    clear D12
    have q31 : At (Ty.val (Value.string E)) s14 a16 (.tmp 7) := (cvt (by (rw [hE])) q30)
    refine tn ?_
    refine wp_seq ?_
    refine reg (a := a16) (σ := s14) rfl (fun i_ => List.getD [(Ty.pr (Ty.val (Value.string E))), (Ty.pr (Ty.nat (ByteArray.size E))), (Ty.pr (Ty.nat ((ByteArray.size E) - 1))), (Ty.pr (Ty.nat ((ByteArray.size E) - 1)))] i_ Pr.any) ok15 rfl ⟨?_, ?_, ?_, ?_, trivial⟩ ?_
    · intro ax tx hs okx sm
      exact run_plain rfl (y_move (kp (sm 7 rfl) hs q31))
    · intro ax tx hs okx sm d0
      have e0 : At (Ty.val (Value.string E)) tx ax (.tmp 19) := d0 rfl
      exact run_plain rfl (y_len_str Try.underlying9 e0)
    · intro ax tx hs okx sm d0
      have e1 : At (Ty.nat (ByteArray.size E)) tx ax (.tmp 20) := d0 rfl
      exact run_plain rfl ((y_sub e1 rfl (w64 (by omega) (by omega))).mono (fun τ _ h => cvi (σ := τ) (by omega) h))
    · intro ax tx hs okx sm d0 d1 d2 d3
      have e2 : At (Ty.nat ((ByteArray.size E) - 1)) tx ax (.tmp 21) := d0 rfl
      have e0 : At (Ty.val (Value.string E)) tx ax (.tmp 19) := d1 rfl
      have e1 : At (Ty.nat (ByteArray.size E)) tx ax (.tmp 20) := d2 rfl
      exact run_plain rfl (y_assign e2)
    intro a17 s15 D13
    have ok16 := D13.ok
    have F16 := F15.step0 D13.stp
    have q32 : At (Ty.val (Value.string SIGNS)) s15 a17 (.tmp 0) := D13.kt q29 rfl
    have q33 : At (Ty.val (Value.string E)) s15 a17 (.tmp 7) := D13.kt q31 rfl
    have q34 : At (Ty.nat ((ByteArray.size E) - 1)) s15 a17 (.tmp 8) := D13.done 3
    clear D13
    refine tn ?_
    refine wp_seq ?_
    refine reg (a := a17) (σ := s15) rfl (fun i_ => List.getD [(Ty.pr (Ty.nat ((ByteArray.size E) - 1))), (Ty.pr (Ty.nat ((ByteArray.size E) - 1)))] i_ Pr.any) ok16 rfl ⟨?_, ?_, trivial⟩ ?_
    · intro ax tx hs okx sm
      exact run_plain rfl (y_move (kp (sm 8 rfl) hs q34))
    · intro ax tx hs okx sm d0 d1
      have e0 : At (Ty.nat ((ByteArray.size E) - 1)) tx ax (.tmp 22) := d0 rfl
      exact run_plain rfl (y_assign e0)
    intro a18 s16 D14
    have ok17 := D14.ok
    have F17 := F16.step0 D14.stp
    have q35 : At (Ty.val (Value.string SIGNS)) s16 a18 (.tmp 0) := D14.kt q32 rfl
    have q36 : At (Ty.val (Value.string E)) s16 a18 (.tmp 7) := D14.kt q33 rfl
    have q37 : At (Ty.nat ((ByteArray.size E) - 1)) s16 a18 (.tmp 8) := D14.kt q34 rfl
    have q38 : At (Ty.nat ((ByteArray.size E) - 1)) s16 a18 (.tmp 9) := D14.done 1
    clear D14
    refine tn ?_
    refine wp_seq ?_
    refine reg (a := a18) (σ := s16) rfl (fun i_ => List.getD [(Ty.pr (Ty.int (0 : Int)))] i_ Pr.any) ok17 rfl ⟨?_, trivial⟩ ?_
    · intro ax tx hs okx sm
      exact run_plain rfl (y_assign rfl)
    intro a19 s17 D15
    have ok18 := D15.ok
    have F18 := F17.step0 D15.stp
    have q39 : At (Ty.val (Value.string SIGNS)) s17 a19 (.tmp 0) := D15.kt q35 rfl
    have q40 : At (Ty.val (Value.string E)) s17 a19 (.tmp 7) := D15.kt q36 rfl
    have q41 : At (Ty.nat ((ByteArray.size E) - 1)) s17 a19 (.tmp 8) := D15.kt q37 rfl
    have q42 : At (Ty.nat ((ByteArray.size E) - 1)) s17 a19 (.tmp 9) := D15.kt q38 rfl
    clear D15
    refine tn ?_
    refine wp_seq ?_
    refine wp_block ?_
    refine loop (fun n3 a20 w3 => ∃ (t3 : GW), t3.w = w3 ∧ FromL [] s0 t3 ∧ Ok 187 a20 ∧ At (Ty.nat ((ByteArray.size E) - 1)) t3 a20 (.tmp 9) ∧ At (Ty.val (Value.string SIGNS)) t3 a20 (.tmp 0) ∧ At (Ty.val (Value.string E)) t3 a20 (.tmp 7) ∧ At (Ty.nat ((ByteArray.size E) - 1)) t3 a20 (.tmp 8) ∧ n3 = 1) (1) ?_ ?_
    ·
     exact ⟨s17, rfl, F18, ok18, q42, q39, q40, q41, rfl⟩
    ·
     rintro n4 a21 w4 ⟨t4, rfl, F19, ok19, q43, q44, q45, q46, rfl⟩
     refine wp_seq ?_
     refine wp_seq ?_
     refine reg (a := a21) (σ := t4) rfl (fun i_ => List.getD [(Ty.pr (Ty.nat ((ByteArray.size E) - 1))), (Ty.pr (Ty.val (Value.string SIGNS))), (Ty.pr (Ty.nat (ByteArray.size SIGNS))), (Ty.pr (Ty.bool (decide (((((ByteArray.size E) - 1) : Nat) : Int) < (((ByteArray.size SIGNS) : Nat) : Int)))))] i_ Pr.any) ok19 rfl ⟨?_, ?_, ?_, ?_, trivial⟩ ?_
     · intro ax tx hs okx sm
       exact run_plain rfl (y_move (kp (sm 9 rfl) hs q43))
     · intro ax tx hs okx sm
       exact run_plain rfl (y_move (kp (sm 0 rfl) hs q44))
     · intro ax tx hs okx sm d0
       have e1 : At (Ty.val (Value.string SIGNS)) tx ax (.tmp 24) := d0 rfl
       exact run_plain rfl (y_len_str Try.underlying9 e1)
     · intro ax tx hs okx sm d0 d1
       have e0 : At (Ty.nat ((ByteArray.size E) - 1)) tx ax (.tmp 23) := d0 rfl
       have e2 : At (Ty.nat (ByteArray.size SIGNS)) tx ax (.tmp 25) := d1 rfl
       exact run_plain rfl (y_lss e0 e2)
     intro a22 s18 D16
     have ok20 := D16.ok
     have F20 := F19.step0 D16.stp
     have q47 : At (Ty.nat ((ByteArray.size E) - 1)) s18 a22 (.tmp 9) := D16.kt q43 rfl
     have q48 : At (Ty.val (Value.string SIGNS)) s18 a22 (.tmp 0) := D16.kt q44 rfl
     have q49 : At (Ty.val (Value.string E)) s18 a22 (.tmp 7) := D16.kt q45 rfl
     have q50 : At (Ty.nat ((ByteArray.size E) - 1)) s18 a22 (.tmp 8) := D16.kt q46 rfl
     have q51 : At (Ty.bool (decide (((((ByteArray.size E) - 1) : Nat) : Int) < (((ByteArray.size SIGNS) : Nat) : Int)))) s18 a22 (.tmp 26) := D16.done 3
     clear D16
     refine tn ?_
     refine cond_p (p := (((((ByteArray.size E) - 1) : Nat) : Int) < (((ByteArray.size SIGNS) : Nat) : Int))) q51 (fun c6 => ?_) (fun c6 => ?_)
     ·
      refine wp_skip ?_
      refine tn ?_
      refine wp_block ?_
      refine wp_scope_straight ?_
      refine wp_seq ?_
      refine wp_seq ?_
      refine reg (a := a22) (σ := s18) rfl (fun i_ => List.getD [(Ty.pr (Ty.val (Value.string SIGNS))), (Ty.pr (Ty.nat ((ByteArray.size E) - 1))), (Ty.pr (Ty.val (Value.int .u8 (((SIGNS.get! ((ByteArray.size E) - 1)).toNat : Nat) : Int)))), (Ty.pr (Ty.val (Value.string E))), (Ty.pr (Ty.nat ((ByteArray.size E) - 1))), (Ty.pr (Ty.val (Value.int .u8 (((E.get! ((ByteArray.size E) - 1)).toNat : Nat) : Int)))), (Ty.pr (Ty.bool (decide ((((SIGNS.get! ((ByteArray.size E) - 1)).toNat : Nat) : Int) ≠ (((E.get! ((ByteArray.size E) - 1)).toNat : Nat) : Int)))))] i_ Pr.any) ok20 rfl ⟨?_, ?_, ?_, ?_, ?_, ?_, ?_, trivial⟩ ?_
      · intro ax tx hs okx sm
        exact run_plain rfl (y_move (kp (sm 0 rfl) hs q48))
      · intro ax tx hs okx sm
        exact run_plain rfl (y_move (kp (sm 9 rfl) hs q47))
      · intro ax tx hs okx sm d0 d1
        have e0 : At (Ty.val (Value.string SIGNS)) tx ax (.tmp 27) := d0 rfl
        have e1 : At (Ty.nat ((ByteArray.size E) - 1)) tx ax (.tmp 28) := d1 rfl
        exact run_plain rfl (y_sindex Try.underlying9 e0 e1 (by omega) (by omega))
      · intro ax tx hs okx sm
        exact run_plain rfl (y_move (kp (sm 7 rfl) hs q49))
      · intro ax tx hs okx sm
        exact run_plain rfl (y_move (kp (sm 8 rfl) hs q50))
      · intro ax tx hs okx sm d0 d1
        have e3 : At (Ty.val (Value.string E)) tx ax (.tmp 30) := d0 rfl
        have e4 : At (Ty.nat ((ByteArray.size E) - 1)) tx ax (.tmp 31) := d1 rfl
        exact run_plain rfl (y_sindex Try.underlying9 e3 e4 (by omega) (by omega))
      · intro ax tx hs okx sm d0 d1
        have e2 : At (Ty.val (Value.int .u8 (((SIGNS.get! ((ByteArray.size E) - 1)).toNat : Nat) : Int))) tx ax (.tmp 29) := d0 rfl
        have e5 : At (Ty.val (Value.int .u8 (((E.get! ((ByteArray.size E) - 1)).toNat : Nat) : Int))) tx ax (.tmp 32) := d1 rfl
        exact run_plain rfl (y_neq e2 e5)
      intro a23 s19 D17
      have ok21 := D17.ok
      have F21 := F20.step0 D17.stp
      have q52 : At (Ty.nat ((ByteArray.size E) - 1)) s19 a23 (.tmp 9) := D17.kt q47 rfl
      have q53 : At (Ty.val (Value.string SIGNS)) s19 a23 (.tmp 0) := D17.kt q48 rfl
      have q54 : At (Ty.val (Value.string E)) s19 a23 (.tmp 7) := D17.kt q49 rfl
      have q55 : At (Ty.nat ((ByteArray.size E) - 1)) s19 a23 (.tmp 8) := D17.kt q50 rfl
      have q56 : At (Ty.bool (decide ((((SIGNS.get! ((ByteArray.size E) - 1)).toNat : Nat) : Int) ≠ (((E.get! ((ByteArray.size E) - 1)).toNat : Nat) : Int)))) s19 a23 (.tmp 33) := D17.done 6
      clear D17
      refine tn ?_
      refine cond_p (p := ((((SIGNS.get! ((ByteArray.size E) - 1)).toNat : Nat) : Int) ≠ (((E.get! ((ByteArray.size E) - 1)).toNat : Nat) : Int))) q56 (fun c7 => ?_) (fun c7 => ?_)
      ·
       refine wp_seq ?_
       refine reg (a := a23) (σ := s19) rfl (fun i_ => List.getD [(Ty.pr (Ty.val (Value.string SIGNS))), (Ty.pr (Ty.nat ((ByteArray.size E) - 1))), (Ty.pr (Ty.nat (((ByteArray.size E) - 1) + 1))), (Ty.pr (Ty.val (Value.string (ByteArray.extract SIGNS (((ByteArray.size E) - 1) + 1) (ByteArray.size SIGNS))))), (Ty.pr (Ty.val (Value.string E))), (Ty.pr (Ty.nat ((ByteArray.size E) - 1))), (Ty.pr (Ty.val (Value.int .u8 (((E.get! ((ByteArray.size E) - 1)).toNat : Nat) : Int)))), (Ty.pr (Ty.int (Lib.indexByte (ByteArray.data ((ByteArray.extract SIGNS (((ByteArray.size E) - 1) + 1) (ByteArray.size SIGNS)))).toList (((((E.get! ((ByteArray.size E) - 1)).toNat : Nat) : Int))).toNat.toUInt8))), (Ty.pr (Ty.int (Lib.indexByte (ByteArray.data ((ByteArray.extract SIGNS (((ByteArray.size E) - 1) + 1) (ByteArray.size SIGNS)))).toList (((((E.get! ((ByteArray.size E) - 1)).toNat : Nat) : Int))).toNat.toUInt8)))] i_ Pr.any) ok21 rfl ⟨?_, ?_, ?_, ?_, ?_, ?_, ?_, ?_, ?_, trivial⟩ ?_
       · intro ax tx hs okx sm
         exact run_plain rfl (y_move (kp (sm 0 rfl) hs q53))
       · intro ax tx hs okx sm
         exact run_plain rfl (y_move (kp (sm 9 rfl) hs q52))
       · intro ax tx hs okx sm d0
         have e1 : At (Ty.nat ((ByteArray.size E) - 1)) tx ax (.tmp 35) := d0 rfl
         exact run_plain rfl ((y_add e1 rfl (w64 (by omega) (by omega))).mono (fun τ _ h => cvi (σ := τ) (by first | omega | exact (Int.natCast_mul _ _).symm) h))
       · intro ax tx hs okx sm d0 d1
         have e0 : At (Ty.val (Value.string SIGNS)) tx ax (.tmp 34) := d0 rfl
         have e2 : At (Ty.nat (((ByteArray.size E) - 1) + 1)) tx ax (.tmp 36) := d1 rfl
         exact run_plain rfl (y_sfrom (l := (((ByteArray.size E) - 1) + 1)) Try.underlying9 e0 e2 (by omega))
       · intro ax tx hs okx sm
         exact run_plain rfl (y_move (kp (sm 7 rfl) hs q54))
       · intro ax tx hs okx sm
         exact run_plain rfl (y_move (kp (sm 8 rfl) hs q55))
       · intro ax tx hs okx sm d0 d1
         have e4 : At (Ty.val (Value.string E)) tx ax (.tmp 38) := d0 rfl
         have e5 : At (Ty.nat ((ByteArray.size E) - 1)) tx ax (.tmp 39) := d1 rfl
         exact run_plain rfl (y_sindex Try.underlying9 e4 e5 (by omega) (by omega))
       · intro ax tx hs okx sm d0 d1
         have e3 : At (Ty.val (Value.string (ByteArray.extract SIGNS (((ByteArray.size E) - 1) + 1) (ByteArray.size SIGNS)))) tx ax (.tmp 37) := d0 rfl
         have e6 : At (Ty.val (Value.int .u8 (((E.get! ((ByteArray.size E) - 1)).toNat : Nat) : Int))) tx ax (.tmp 40) := d1 rfl
         exact run_plain rfl (y_call #[ax.eval (.tmp 37), ax.eval (.tmp 40)] Try.func131 rfl rfl (by simp only [List.map_toArray, List.map_cons, List.map_nil]) (sIndexByte_fn ((ByteArray.extract SIGNS (((ByteArray.size E) - 1) + 1) (ByteArray.size SIGNS))) ((((E.get! ((ByteArray.size E) - 1)).toNat : Nat) : Int)) _ _ _ e3 (cvi (σ := tx) (by omega) e6) ))
       · intro ax tx hs okx sm d0 d1 d2 d3 d4 d5 d6 d7 d8 d9
         have e7 : At (Ty.int (Lib.indexByte (ByteArray.data ((ByteArray.extract SIGNS (((ByteArray.size E) - 1) + 1) (ByteArray.size SIGNS)))).toList (((((E.get! ((ByteArray.size E) - 1)).toNat : Nat) : Int))).toNat.toUInt8)) tx ax (.tmp 41) := d0 rfl
         have e0 : At (Ty.val (Value.string SIGNS)) tx ax (.tmp 34) := d2 rfl
         have e1 : At (Ty.nat ((ByteArray.size E) - 1)) tx ax (.tmp 35) := d3 rfl
         have e2 : At (Ty.nat (((ByteArray.size E) - 1) + 1)) tx ax (.tmp 36) := d4 rfl
         have e3 : At (Ty.val (Value.string (ByteArray.extract SIGNS (((ByteArray.size E) - 1) + 1) (ByteArray.size SIGNS)))) tx ax (.tmp 37) := d5 rfl
         have e4 : At (Ty.val (Value.string E)) tx ax (.tmp 38) := d6 rfl
         have e5 : At (Ty.nat ((ByteArray.size E) - 1)) tx ax (.tmp 39) := d7 rfl
         have e6 : At (Ty.val (Value.int .u8 (((E.get! ((ByteArray.size E) - 1)).toNat : Nat) : Int))) tx ax (.tmp 40) := d8 rfl
         exact run_plain rfl (y_assign e7)
       intro a24 s20 D18
       have ok22 := D18.ok
       have F22 := F21.step0 D18.stp
       have q57 : At (Ty.nat ((ByteArray.size E) - 1)) s20 a24 (.tmp 9) := D18.kt q52 rfl
       have q58 : At (Ty.val (Value.string SIGNS)) s20 a24 (.tmp 0) := D18.kt q53 rfl
       have q59 : At (Ty.val (Value.string E)) s20 a24 (.tmp 7) := D18.kt q54 rfl
       have q60 : At (Ty.nat ((ByteArray.size E) - 1)) s20 a24 (.tmp 8) := D18.kt q55 rfl
       have q61 : At (Ty.int (Lib.indexByte (ByteArray.data ((ByteArray.extract SIGNS (((ByteArray.size E) - 1) + 1) (ByteArray.size SIGNS)))).toList (((((E.get! ((ByteArray.size E) - 1)).toNat : Nat) : Int))).toNat.toUInt8)) s20 a24 (.tmp 11) := D18.done 8
       clear D18
       refine tn ?_
       refine wp_seq ?_
       refine wp_seq ?_
       refine reg (a := a24) (σ := s20) rfl (fun i_ => List.getD [(Ty.pr (Ty.int (Lib.indexByte (ByteArray.data ((ByteArray.extract SIGNS (((ByteArray.size E) - 1) + 1) (ByteArray.size SIGNS)))).toList (((((E.get! ((ByteArray.size E) - 1)).toNat : Nat) : Int))).toNat.toUInt8))), (Ty.pr (Ty.bool (decide ((Lib.indexByte (ByteArray.data ((ByteArray.extract SIGNS (((ByteArray.size E) - 1) + 1) (ByteArray.size SIGNS)))).toList (((((E.get! ((ByteArray.size E) - 1)).toNat : Nat) : Int))).toNat.toUInt8) < (0 : Int)))))] i_ Pr.any) ok22 rfl ⟨?_, ?_, trivial⟩ ?_
       · intro ax tx hs okx sm
         exact run_plain rfl (y_move (kp (sm 11 rfl) hs q61))
       · intro ax tx hs okx sm d0
         have e0 : At (Ty.int (Lib.indexByte (ByteArray.data ((ByteArray.extract SIGNS (((ByteArray.size E) - 1) + 1) (ByteArray.size SIGNS)))).toList (((((E.get! ((ByteArray.size E) - 1)).toNat : Nat) : Int))).toNat.toUInt8)) tx ax (.tmp 42) := d0 rfl
         exact run_plain rfl (y_lss e0 rfl)
       intro a25 s21 D19
       have ok23 := D19.ok
       have F23 := F22.step0 D19.stp
       have q62 : At (Ty.nat ((ByteArray.size E) - 1)) s21 a25 (.tmp 9) := D19.kt q57 rfl
       have q63 : At (Ty.val (Value.string SIGNS)) s21 a25 (.tmp 0) := D19.kt q58 rfl
       have q64 : At (Ty.val (Value.string E)) s21 a25 (.tmp 7) := D19.kt q59 rfl
       have q65 : At (Ty.nat ((ByteArray.size E) - 1)) s21 a25 (.tmp 8) := D19.kt q60 rfl
       have q66 : At (Ty.int (Lib.indexByte (ByteArray.data ((ByteArray.extract SIGNS (((ByteArray.size E) - 1) + 1) (ByteArray.size SIGNS)))).toList (((((E.get! ((ByteArray.size E) - 1)).toNat : Nat) : Int))).toNat.toUInt8)) s21 a25 (.tmp 11) := D19.kt q61 rfl
       have q67 : At (Ty.bool (decide ((Lib.indexByte (ByteArray.data ((ByteArray.extract SIGNS (((ByteArray.size E) - 1) + 1) (ByteArray.size SIGNS)))).toList (((((E.get! ((ByteArray.size E) - 1)).toNat : Nat) : Int))).toNat.toUInt8) < (0 : Int)))) s21 a25 (.tmp 43) := D19.done 1
       clear D19
       refine tn ?_
       refine cond_p (p := ((Lib.indexByte (ByteArray.data ((ByteArray.extract SIGNS (((ByteArray.size E) - 1) + 1) (ByteArray.size SIGNS)))).toList (((((E.get! ((ByteArray.size E) - 1)).toNat : Nat) : Int))).toNat.toUInt8) < (0 : Int))) q67 (fun c8 => ?_) (fun c8 => ?_)
       ·
        refine wp_seq ?_
        refine reg (a := a25) (σ := s21) rfl (fun i_ => List.getD [(Ty.pr (Ty.int (-1 : Int)))] i_ Pr.any) ok23 rfl ⟨?_, trivial⟩ ?_
        · intro ax tx hs okx sm
          exact run_plain rfl (y_assign rfl)
        intro a26 s22 D20
        have ok24 := D20.ok
        have F24 := F23.step0 D20.stp
        have q68 : At (Ty.int (-1 : Int)) s22 a26 (.tmp 4) := D20.done 0
        clear D20
        refine tn ?_
        refine wp_ret ?_
        refine tr ?_
        refine tr ?_
        refine scr ?_
        refine br ?_
        refine tr ?_
        refine br ?_
        refine tr ?_
        refine scr ?_
        refine br ?_
        exact retL1 rfl ok24 F24 (cvi (by (exact (signIdx_hi hc1).symm)) q68)
       ·
        exfalso
        have := signs_cut (l := E.size - 1 + 1) (c := (((E.get! (E.size - 1)).toNat : Nat) : Int)) (by omega) (by omega); omega
      ·
       exfalso
       omega
     ·
      exfalso
      omega


set_option maxHeartbeats 4000000 in
set_option maxRecDepth 100000 in
theorem sign_fn (r : Int) (σ : GW)  (v0 : Value) (hv0 : Ty.has (Ty.val (Value.int .i32 r)) σ v0)  (hr : -2147483648 ≤ r ∧ r ≤ 2147483647) :
    FnC Try.prog 101 #[v0] σ (Ty.int (signIdx r)) := by
 refine fn_intro0 Try.func101 rfl Try.ntmps101 (Nat.le_of_ble_eq_true rfl) (fun s0 a0 hle F0 ok0 hargs => ?_)
 have p0 : At (Ty.val (Value.int .i32 r)) s0 a0 (.tmp 0) := by have e := hargs 0 _ rfl; show Ty.has _ _ _; rw [e]; exact Ty.up _ hle hv0
 clear hargs
 refine wp_seq ?_
 refine reg (a := a0) (σ := s0) rfl (fun i_ => List.getD [(Ty.pr (Ty.int (0 : Int)))] i_ Pr.any) ok0 rfl ⟨?_, trivial⟩ ?_
 · intro ax tx hs okx sm
   exact run_plain rfl (y_assign rfl)
 intro a1 s1 D1
 have ok1 := D1.ok
 have F1 := F0.step0 D1.stp
 have q1 : At (Ty.val (Value.int .i32 r)) s1 a1 (.tmp 0) := D1.kt p0 rfl
 clear D1
 refine tn ?_
 refine wp_seq ?_
 refine reg (a := a1) (σ := s1) rfl (fun i_ => List.getD [(Ty.pr (Ty.val (Value.int .i32 r))), (Ty.pr (Ty.int (signIdx r))), (Ty.pr (Ty.int (signIdx r)))] i_ Pr.any) ok1 rfl ⟨?_, ?_, ?_, trivial⟩ ?_
 · intro ax tx hs okx sm
   exact run_plain rfl (y_move (kp (sm 0 rfl) hs q1))
 · intro ax tx hs okx sm d0
   have e0 : At (Ty.val (Value.int .i32 r)) tx ax (.tmp 3) := d0 rfl
   exact run_plain rfl (y_call #[ax.eval ((Operand.const (Value.string (ByteArray.mk #[49, 50, 51, 52, 53, 54, 55, 56, 57, 48, 69, 84])))), ax.eval (.tmp 3)] Try.func119 rfl rfl (by simp only [List.map_toArray, List.map_cons, List.map_nil]) (idxRune_fn (r) _ _ _ rfl e0 (by omega)))
 · intro ax tx hs okx sm d0 d1 d2 d3
   have e1 : At (Ty.int (signIdx r)) tx ax (.tmp 4) := d0 rfl
   have e0 : At (Ty.val (Value.int .i32 r)) tx ax (.tmp 3) := d2 rfl
   exact run_plain rfl (y_assign e1)
 intro a2 s2 D2
 have ok2 := D2.ok
 have F2 := F1.step0 D2.stp
 have q2 : At (Ty.int (signIdx r)) s2 a2 (.tmp 2) := D2.done 2
 clear D2
 refine tn ?_
 refine wp_ret ?_
 exact retL1 rfl ok2 F2 q2


set_option maxHeartbeats 4000000 in
set_option maxRecDepth 100000 in
theorem rowRead_fn (s : ByteArray) (σ : GW)  (v0 : Value) (hv0 : Ty.has (Ty.val (Value.string s)) σ v0)  (hs : s.size ≤ 17592186044416) :
    FnC Try.prog 54 #[v0] σ (Ty.tup2 (Ty.lst Ty.int (if txtMay s = 0 then readTo s s.size else [])) (Ty.int (txtMay s))) := by
 refine fn_intro0 Try.func54 rfl Try.ntmps54 (Nat.le_of_ble_eq_true rfl) (fun s0 a0 hle F0 ok0 hargs => ?_)
 have p0 : At (Ty.val (Value.string s)) s0 a0 (.tmp 0) := by have e := hargs 0 _ rfl; show Ty.has _ _ _; rw [e]; exact Ty.up _ hle hv0
 clear hargs
 refine wp_seq ?_
 refine reg (a := a0) (σ := s0) rfl (fun i_ => List.getD [(Ty.pr (Ty.val (Value.slice none 0 0))), (Ty.pr (Ty.int (0 : Int)))] i_ Pr.any) ok0 rfl ⟨?_, ?_, trivial⟩ ?_
 · intro ax tx hs okx sm
   exact run_plain rfl (y_assign rfl)
 · intro ax tx hs okx sm d0
   have e0 : At (Ty.val (Value.slice none 0 0)) tx ax (.tmp 2) := d0 rfl
   exact run_plain rfl (y_assign rfl)
 intro a1 s1 D1
 have ok1 := D1.ok
 have F1 := F0.step0 D1.stp
 have q1 : At (Ty.val (Value.string s)) s1 a1 (.tmp 0) := D1.kt p0 rfl
 clear D1
 refine tn ?_
 refine wp_seq ?_
 refine reg (a := a1) (σ := s1) rfl (fun i_ => List.getD [(Ty.pr (Ty.val (Value.slice none 0 0)))] i_ Pr.any) ok1 rfl ⟨?_, trivial⟩ ?_
 · intro ax tx hs okx sm
   exact run_plain rfl (y_assign rfl)
 intro a2 s2 D2
 have ok2 := D2.ok
 have F2 := F1.step0 D2.stp
 have q2 : At (Ty.val (Value.string s)) s2 a2 (.tmp 0) := D2.kt q1 rfl
 have q3 : At (Ty.val (Value.slice none 0 0)) s2 a2 (.tmp 4) := D2.done 0
 clear D2
 refine tn ?_
 refine wp_seq ?_
 refine wp_seq ?_
 refine reg (a := a2) (σ := s2) rfl (fun i_ => List.getD [(Ty.pr (Ty.val (Value.string s))), (Pr.iter 5 s 0)] i_ Pr.any) ok2 rfl ⟨?_, ?_, trivial⟩ ?_
 · intro ax tx hs okx sm
   exact run_plain rfl (y_move (kp (sm 0 rfl) hs q2))
 · intro ax tx hs okx sm d0
   have e0 : At (Ty.val (Value.string s)) tx ax (.tmp 9) := d0 rfl
   exact run_plain rfl (y_range 5 Try.underlying9 e0)
 intro a3 s3 D3
 have ok3 := D3.ok
 have F3 := F2.step0 D3.stp
 have q4 : At (Ty.val (Value.slice none 0 0)) s3 a3 (.tmp 4) := D3.kt q3 rfl
 obtain ⟨x1, hx1⟩ : ∃ x, a3.eval (.tmp 10) = x := ⟨_, rfl⟩
 have q5 : At (Ty.val x1) s3 a3 (.tmp 10) := hx1
 have o1 : Iter s3 5 x1 s 0 := al2 (R := (Pr.iter 5 s 0)) hx1 (D3.done 1)
 clear D3
 refine tn ?_
 refine wp_block ?_
 have o2 : Own s3 6 3 1 (Value.slice none 0 0) 0 (List.map Ty.int ([] : List Int)) := Own.nil _ _ _ _
 refine loop (fun n1 a4 w1 => ∃ (t1 : GW) (p : Nat) (x4_0 : Value), t1.w = w1 ∧ FromL [] s0 t1 ∧ Ok 28 a4 ∧ At (Ty.val x4_0) t1 a4 (.tmp 4) ∧ At (Ty.val x1) t1 a4 (.tmp 10) ∧ Own t1 6 3 1 x4_0 (List.length (readTo s p)) (List.map Ty.int (readTo s p)) ∧ Iter t1 5 x1 s p ∧ (p ≤ s.size) ∧ (∀ j, j < p → 0 ≤ signIdx (((s.get! j).toNat : Nat) : Int)) ∧ n1 = s.size - p) (s.size - (0)) ?_ ?_
 ·
  exact ⟨s3, 0, (Value.slice none 0 0), rfl, F3, ok3, q4, q5, (cvo (by (rfl)) (by (rfl)) o2), (cvit (by omega) o1), by omega, fun j hj => absurd hj (Nat.not_lt_zero j), rfl⟩
 ·
  rintro n2 a5 w2 ⟨t2, p, x4_0, rfl, F4, ok4, q6, q7, o3, o4, hp, hok, rfl⟩
  have hrl := readTo_len s p
  have hrb := run1_bd s p
  refine wp_seq ?_
  refine reg2 (a := a5) (σ := t2) rfl 0 (fun i_ => List.getD [] i_ Pr.any) ok4 rfl (by decide) rfl trivial ?_
  intro a6 s4 D4
  have ok5 := D4.ok
  have F5 := F4.step0 D4.stp
  have q8 : At (Ty.val x4_0) s4 a6 (.tmp 4) := D4.kt q6 rfl
  have q9 : At (Ty.val x1) s4 a6 (.tmp 10) := D4.kt q7 rfl
  have o5 := Own.k0 o3 D4.stp
  have o6 := Iter.k0 o4 D4.stp
  clear D4
  refine tailL (L := [5]) (R := (fun v τ => (Ty.nxt (decide (p < s.size)) p (run1 s p)).has τ v ∧ Iter τ 5 x1 s (stepTo s p))) rfl rfl (by decide) ok5 (YldM.toL (m_next (by decide) o6 q9)) (fun a7 s5 hs1 ok6 r1 sm1 => ?_)
  have F6 := F5.stepL hs1 (by decide)
  have q10 : At (Ty.val x4_0) s5 a7 (.tmp 4) := kpL hs1 (by decide) (sm1 4 (by decide)) q8
  have q11 : At (Ty.val x1) s5 a7 (.tmp 10) := kpL hs1 (by decide) (sm1 10 (by decide)) q9
  have o8 := Own.keepL o5 hs1 (by decide) (by decide)
  have q12 : At (Ty.nxt (decide (p < s.size)) p (run1 s p)) s5 a7 (.tmp 11) := (r1).1
  have o7 : Iter s5 5 x1 s (stepTo s p) := (r1).2
  clear r1
  refine tailL (L := []) (R := (fun v τ => Pr.has (Ty.pr (Ty.bool (decide (p < s.size)))) τ v)) rfl rfl (by decide) ok6 (Yld.toL (y_ext_n0 q12)) (fun a8 s6 hs2 ok7 r2 sm2 => ?_)
  have F7 := F6.stepL hs2 (by decide)
  have q13 : At (Ty.val x4_0) s6 a8 (.tmp 4) := kpL hs2 (by decide) (sm2 4 (by decide)) q10
  have q14 : At (Ty.val x1) s6 a8 (.tmp 10) := kpL hs2 (by decide) (sm2 10 (by decide)) q11
  have q15 : At (Ty.nxt (decide (p < s.size)) p (run1 s p)) s6 a8 (.tmp 11) := kpL hs2 (by decide) (sm2 11 (by decide)) q12
  have o9 := Own.keepL o8 hs2 (by decide) (by decide)
  have o10 := Iter.keepL o7 hs2 (by decide) (by decide)
  have q16 : At (Ty.bool (decide (p < s.size))) s6 a8 (.tmp 12) := r2
  clear r2
  refine wpList_nil ?_
  refine tn ?_
  refine wp_seq ?_
  refine cond_p (p := (p < s.size)) q16 (fun c1 => ?_) (fun c1 => ?_)
  ·
   refine wp_skip ?_
   refine tn ?_
   refine wp_block ?_
   refine wp_seq ?_
   refine reg (a := a8) (σ := s6) rfl (fun i_ => List.getD [(Ty.pr (Ty.val (Value.int .i32 ((run1 s p : Nat) : Int)))), (Ty.pr (Ty.val (Value.int .i32 ((run1 s p : Nat) : Int))))] i_ Pr.any) ok7 rfl ⟨?_, ?_, trivial⟩ ?_
   · intro ax tx hs okx sm
     exact run_plain rfl (y_ext_n2 (kp (sm 11 rfl) hs q15) (decide_eq_true (by omega)))
   · intro ax tx hs okx sm d0 d1
     have e0 : At (Ty.val (Value.int .i32 ((run1 s p : Nat) : Int))) tx ax (.tmp 13) := d0 rfl
     exact run_plain rfl (y_assign e0)
   intro a9 s7 D5
   have ok8 := D5.ok
   have F8 := F7.step0 D5.stp
   have q17 : At (Ty.val x4_0) s7 a9 (.tmp 4) := D5.kt q13 rfl
   have q18 : At (Ty.val x1) s7 a9 (.tmp 10) := D5.kt q14 rfl
   have o11 := Own.k0 o9 D5.stp
   have o12 := Iter.k0 o10 D5.stp
   have q19 : At (Ty.val (Value.int .i32 ((run1 s p : Nat) : Int))) s7 a9 (.tmp 6) := D5.done 1
   clear D5
   refine tn ?_
   refine wp_seq ?_
   refine reg (a := a9) (σ := s7) rfl (fun i_ => List.getD [(Ty.pr (Ty.val (Value.int .i32 ((run1 s p : Nat) : Int)))), (Ty.pr (Ty.int (signIdx (((run1 s p : Nat) : Int))))), (Ty.pr (Ty.int (signIdx (((run1 s p : Nat) : Int)))))] i_ Pr.any) ok8 rfl ⟨?_, ?_, ?_, trivial⟩ ?_
   · intro ax tx hs okx sm
     exact run_plain rfl (y_move (kp (sm 6 rfl) hs q19))
   · intro ax tx hs okx sm d0
     have e0 : At (Ty.val (Value.int .i32 ((run1 s p : Nat) : Int))) tx ax (.tmp 14) := d0 rfl
     exact run_plain rfl (y_call #[ax.eval (.tmp 14)] Try.func101 rfl rfl (by simp only [List.map_toArray, List.map_cons, List.map_nil]) (sign_fn (((run1 s p : Nat) : Int)) _ _ (cvi (σ := tx) (by omega) e0) (by omega)))
   · intro ax tx hs okx sm d0 d1 d2 d3
     have e1 : At (Ty.int (signIdx (((run1 s p : Nat) : Int)))) tx ax (.tmp 15) := d0 rfl
     have e0 : At (Ty.val (Value.int .i32 ((run1 s p : Nat) : Int))) tx ax (.tmp 14) := d2 rfl
     exact run_plain rfl (y_assign e1)
   intro a10 s8 D6
   have ok9 := D6.ok
   have F9 := F8.step0 D6.stp
   have q20 : At (Ty.val x4_0) s8 a10 (.tmp 4) := D6.kt q17 rfl
   have q21 : At (Ty.val x1) s8 a10 (.tmp 10) := D6.kt q18 rfl
   have o13 := Own.k0 o11 D6.stp
   have o14 := Iter.k0 o12 D6.stp
   have q22 : At (Ty.int (signIdx (((run1 s p : Nat) : Int)))) s8 a10 (.tmp 7) := D6.done 2
   clear D6
   refine tn ?_
   refine wp_seq ?_
   refine wp_seq ?_
   refine reg (a := a10) (σ := s8) rfl (fun i_ => List.getD [(Ty.pr (Ty.int (signIdx (((run1 s p : Nat) : Int))))), (Ty.pr (Ty.bool (decide ((signIdx (((run1 s p : Nat) : Int))) < (0 : Int)))))] i_ Pr.any) ok9 rfl ⟨?_, ?_, trivial⟩ ?_
   · intro ax tx hs okx sm
     exact run_plain rfl (y_move (kp (sm 7 rfl) hs q22))
   · intro ax tx hs okx sm d0
     have e0 : At (Ty.int (signIdx (((run1 s p : Nat) : Int)))) tx ax (.tmp 16) := d0 rfl
     exact run_plain rfl (y_lss e0 rfl)
   intro a11 s9 D7
   have ok10 := D7.ok
   have F10 := F9.step0 D7.stp
   have q23 : At (Ty.val x4_0) s9 a11 (.tmp 4) := D7.kt q20 rfl
   have q24 : At (Ty.val x1) s9 a11 (.tmp 10) := D7.kt q21 rfl
   have q25 : At (Ty.int (signIdx (((run1 s p : Nat) : Int)))) s9 a11 (.tmp 7) := D7.kt q22 rfl
   have o15 := Own.k0 o13 D7.stp
   have o16 := Iter.k0 o14 D7.stp
   have q26 : At (Ty.bool (decide ((signIdx (((run1 s p : Nat) : Int))) < (0 : Int)))) s9 a11 (.tmp 17) := D7.done 1
   clear D7
   refine tn ?_
   refine cond_p (p := ((signIdx (((run1 s p : Nat) : Int))) < (0 : Int))) q26 (fun c2 => ?_) (fun c2 => ?_)
   ·
    refine wp_seq ?_
    refine reg (a := a11) (σ := s9) rfl (fun i_ => List.getD [(Ty.pr (Ty.val (Value.slice none 0 0))), (Ty.pr (Ty.int (4 : Int)))] i_ Pr.any) ok10 rfl ⟨?_, ?_, trivial⟩ ?_
    · intro ax tx hs okx sm
      exact run_plain rfl (y_assign rfl)
    · intro ax tx hs okx sm d0 d1
      have e0 : At (Ty.val (Value.slice none 0 0)) tx ax (.tmp 2) := d0 rfl
      exact run_plain rfl (y_assign rfl)
    intro a12 s10 D8
    have ok11 := D8.ok
    have F11 := F10.step0 D8.stp
    have o17 := Own.k0 o15 D8.stp
    have o18 := Iter.k0 o16 D8.stp
    have q27 : At (Ty.val (Value.slice none 0 0)) s10 a12 (.tmp 2) := D8.done 0
    have q28 : At (Ty.int (4 : Int)) s10 a12 (.tmp 3) := D8.done 1
    clear D8
    refine tn ?_
    refine wp_ret ?_
    refine tr ?_
    refine br ?_
    refine tr ?_
    refine br ?_
    refine tr ?_
    exact retL2 rfl ok11 F11 (hasT2 (nil_lst (by (rw [if_neg (by rw [rune_bad (by omega) c2]; decide)])) q27) (cvi (by (exact (rune_bad (by omega) c2).symm)) q28))
   ·
    have hg := rune_good c2
    refine wp_skip ?_
    refine tn ?_
    refine reg2 (a := a11) (σ := s9) rfl 3 (fun i_ => List.getD [(Ty.pr (Ty.val x4_0)), (Ty.pr (Ty.int (signIdx (((run1 s p : Nat) : Int))))), (Ty.pr (Ty.sl 1 1 [(Ty.int (signIdx (((run1 s p : Nat) : Int))))]))] i_ Pr.any) ok10 rfl (by decide) rfl ⟨?_, ?_, ?_, trivial⟩ ?_
    · intro ax tx hs okx sm
      exact run_plain rfl (y_move (kp (sm 4 rfl) hs q23))
    · intro ax tx hs okx sm
      exact run_plain rfl (y_move (kp (sm 7 rfl) hs q25))
    · intro ax tx hs okx sm d0
      have e1 : At (Ty.int (signIdx (((run1 s p : Nat) : Int)))) tx ax (.tmp 19) := d0 rfl
      exact run_plain rfl (y_build1o Try.underlying34 Try.inf3 rfl (one_val rfl) e1)
    intro a13 s11 D9
    have ok12 := D9.ok
    have F12 := F10.step0 D9.stp
    have q29 : At (Ty.val x4_0) s11 a13 (.tmp 4) := D9.kt q23 rfl
    have q30 : At (Ty.val x1) s11 a13 (.tmp 10) := D9.kt q24 rfl
    have o19 := Own.k0 o15 D9.stp
    have o20 := Iter.k0 o16 D9.stp
    have q31 : At (Ty.val x4_0) s11 a13 (.tmp 18) := D9.done 0 (by decide)
    have q32 : At (Ty.sl 1 1 [(Ty.int (signIdx (((run1 s p : Nat) : Int))))]) s11 a13 (.tmp 20) := D9.done 2 (by decide)
    have b1 := sl_le q32
    clear D9
    refine tailL (L := [6]) (R := (fun v τ => Own τ 6 3 1 v ((List.length (readTo s p)) + 1) ((List.map Ty.int (readTo s p)) ++ [(Ty.int (signIdx (((run1 s p : Nat) : Int))))]))) rfl rfl (by decide) ok12 (YldM.toL (m_append Try.underlying34 Try.inf3 (by decide) rfl (by decide) (al (R := (Pr.own 6 3 1 (List.length (readTo s p)) (List.map Ty.int (readTo s p)))) q31 o19) q32 (by intro U hU; simp at hU; subst hU; exact one_val rfl) (by omega) (by omega))) (fun a14 s12 hs3 ok13 r3 sm3 => ?_)
    have F13 := F12.stepL hs3 (by decide)
    have q33 : At (Ty.val x4_0) s12 a14 (.tmp 4) := kpL hs3 (by decide) (sm3 4 (by decide)) q29
    have q34 : At (Ty.val x1) s12 a14 (.tmp 10) := kpL hs3 (by decide) (sm3 10 (by decide)) q30
    have o22 := Iter.keepL o20 hs3 (by decide) (by decide)
    obtain ⟨x2, hx2⟩ : ∃ x, a14.eval (.tmp 21) = x := ⟨_, rfl⟩
    have q35 : At (Ty.val x2) s12 a14 (.tmp 21) := hx2
    have o21 : Own s12 6 3 1 x2 (List.length ((readTo s p) ++ [(signIdx (((run1 s p : Nat) : Int)))])) (List.map Ty.int ((readTo s p) ++ [(signIdx (((run1 s p : Nat) : Int)))])) := al2 (R := (Pr.own 6 3 1 (List.length ((readTo s p) ++ [(signIdx (((run1 s p : Nat) : Int)))])) (List.map Ty.int ((readTo s p) ++ [(signIdx (((run1 s p : Nat) : Int)))])))) hx2 (cvo (by simp) (by first | (rw [List.map_append]; rfl) | simp) r3)
    clear r3
    refine tailL (L := []) (R := (fun v τ => Pr.has (Ty.pr (Ty.val x2)) τ v)) rfl rfl (by decide) ok13 (Yld.toL (y_assign q35)) (fun a15 s13 hs4 ok14 r4 sm4 => ?_)
    have F14 := F13.stepL hs4 (by decide)
    have q36 : At (Ty.val x1) s13 a15 (.tmp 10) := kpL hs4 (by decide) (sm4 10 (by decide)) q34
    have o23 := Iter.keepL o22 hs4 (by decide) (by decide)
    have o24 := Own.keepL o21 hs4 (by decide) (by decide)
    have q37 : At (Ty.val x2) s13 a15 (.tmp 4) := r4
    clear r4
    refine wpList_nil ?_
    refine bn ?_
    exact tn ⟨s.size - ((p + 1)), by omega, s13, (p + 1), x2, rfl, F14, ok14, q37, q36, (cvo (by (rw [readTo_succ, hg.2.1])) (by (rw [readTo_succ, hg.2.1])) o24), (cvit (by rw [stepTo, if_pos (by assumption), hg.2.2]) o23), by omega, fun j hj => by (by_cases e : j = p; subst e; rw [← hg.2.1]; omega; exact hok j (by omega)), rfl⟩
  ·
   have hpe : p = s.size := (by omega); have hok2 := hok; rw [hpe] at hok2
   refine wp_exit ?_
   refine tx ?_
   refine tx ?_
   refine bx ?_
   refine tn ?_
   refine wp_seq ?_
   refine wp_seq ?_
   obtain ⟨t3, e1, h1, q38⟩ := Own.seal o9 (by decide)
   rw [← e1]
   have F15 := F7.step h1 (by decide)
   have o25 := Iter.keepL o10 (h1.toL (L := [6]) (by simp)) (by decide) (by decide)
   have q39 : At (Ty.lst Ty.int (readTo s p)) t3 a8 (.tmp 4) := by have e : a8.eval (.tmp 4) = x4_0 := q13; show Ty.has _ _ _; rw [e]; exact q38
   have q40 := Ty.up (Ty.val x1) (h1.le (by decide)) q14
   have q41 := Ty.up (Ty.nxt (decide (p < s.size)) p (run1 s p)) (h1.le (by decide)) q15
   have q42 := Ty.up (Ty.bool (decide (p < s.size))) (h1.le (by decide)) q16
   refine reg (a := a8) (σ := t3) rfl (fun i_ => List.getD [(Ty.pr (Ty.lst Ty.int (readTo s p))), (Ty.pr (Ty.int (rowMay ((readTo s p))))), (Ty.pr (Ty.int (rowMay ((readTo s p)))))] i_ Pr.any) ok7 rfl ⟨?_, ?_, ?_, trivial⟩ ?_
   · intro ax tx hs okx sm
     exact run_plain rfl (y_move (kp (sm 4 rfl) hs q39))
   · intro ax tx hs okx sm d0
     have e0 : At (Ty.lst Ty.int (readTo s p)) tx ax (.tmp 22) := d0 rfl
     exact run_plain rfl (y_call #[ax.eval (.tmp 22)] Try.func44 rfl rfl (by simp only [List.map_toArray, List.map_cons, List.map_nil]) (rowCheck_fn ((readTo s p)) _ _ e0 ))
   · intro ax tx hs okx sm d0 d1 d2 d3
     have e1 : At (Ty.int (rowMay ((readTo s p)))) tx ax (.tmp 23) := d0 rfl
     have e0 : At (Ty.lst Ty.int (readTo s p)) tx ax (.tmp 22) := d2 rfl
     exact run_plain rfl (y_assign e1)
   intro a16 s14 D10
   have ok15 := D10.ok
   have F16 := F15.step0 D10.stp
   have q43 : At (Ty.lst Ty.int (readTo s p)) s14 a16 (.tmp 4) := D10.kt q39 rfl
   have o26 := Iter.k0 o25 D10.stp
   have q44 : At (Ty.int (rowMay ((readTo s p)))) s14 a16 (.tmp 8) := D10.done 2
   clear D10
   refine tn ?_
   refine wp_seq ?_
   refine reg (a := a16) (σ := s14) rfl (fun i_ => List.getD [(Ty.pr (Ty.int (rowMay ((readTo s p))))), (Ty.pr (Ty.bool (decide ((rowMay ((readTo s p))) ≠ (0 : Int)))))] i_ Pr.any) ok15 rfl ⟨?_, ?_, trivial⟩ ?_
   · intro ax tx hs okx sm
     exact run_plain rfl (y_move (kp (sm 8 rfl) hs q44))
   · intro ax tx hs okx sm d0
     have e0 : At (Ty.int (rowMay ((readTo s p)))) tx ax (.tmp 24) := d0 rfl
     exact run_plain rfl (y_neq e0 rfl)
   intro a17 s15 D11
   have ok16 := D11.ok
   have F17 := F16.step0 D11.stp
   have q45 : At (Ty.lst Ty.int (readTo s p)) s15 a17 (.tmp 4) := D11.kt q43 rfl
   have q46 : At (Ty.int (rowMay ((readTo s p)))) s15 a17 (.tmp 8) := D11.kt q44 rfl
   have q47 : At (Ty.bool (decide ((rowMay ((readTo s p))) ≠ (0 : Int)))) s15 a17 (.tmp 25) := D11.done 1
   clear D11
   refine tn ?_
   refine cond_p (p := ((rowMay ((readTo s p))) ≠ (0 : Int))) q47 (fun c3 => ?_) (fun c3 => ?_)
   ·
    rw [hpe] at c3
    refine wp_seq ?_
    refine reg (a := a17) (σ := s15) rfl (fun i_ => List.getD [(Ty.pr (Ty.int (rowMay ((readTo s p))))), (Ty.pr (Ty.val (Value.slice none 0 0))), (Ty.pr (Ty.int (rowMay ((readTo s p)))))] i_ Pr.any) ok16 rfl ⟨?_, ?_, ?_, trivial⟩ ?_
    · intro ax tx hs okx sm d0
      exact run_plain rfl (y_move (kp (sm 8 rfl) hs q46))
    · intro ax tx hs okx sm d0
      exact run_plain rfl (y_assign rfl)
    · intro ax tx hs okx sm d0 d1 d2 d3
      have e0 : At (Ty.int (rowMay ((readTo s p)))) tx ax (.tmp 26) := d0 rfl
      have e1 : At (Ty.val (Value.slice none 0 0)) tx ax (.tmp 2) := d1 rfl
      exact run_plain rfl (y_assign e0)
    intro a18 s16 D12
    have ok17 := D12.ok
    have F18 := F17.step0 D12.stp
    have q48 : At (Ty.val (Value.slice none 0 0)) s16 a18 (.tmp 2) := D12.done 1
    have q49 : At (Ty.int (rowMay ((readTo s p)))) s16 a18 (.tmp 3) := D12.done 2
    clear D12
    refine tn ?_
    refine wp_ret ?_
    refine tr ?_
    exact retL2 rfl ok17 F18 (hasT2 (nil_lst (by (rw [if_neg (by rw [txtMay_ok hok2]; exact c3)])) q48) (cvi (by (rw [hpe]; exact (txtMay_ok hok2).symm)) q49))
   ·
    rw [hpe] at c3; have hrm := Classical.not_not.1 c3
    refine wp_skip ?_
    refine tn ?_
    refine wp_seq ?_
    refine reg (a := a17) (σ := s15) rfl (fun i_ => List.getD [(Ty.pr (Ty.lst Ty.int (readTo s p))), (Ty.pr (Ty.lst Ty.int (readTo s p))), (Ty.pr (Ty.int (0 : Int)))] i_ Pr.any) ok16 rfl ⟨?_, ?_, ?_, trivial⟩ ?_
    · intro ax tx hs okx sm
      exact run_plain rfl (y_move (kp (sm 4 rfl) hs q45))
    · intro ax tx hs okx sm d0 d1
      have e0 : At (Ty.lst Ty.int (readTo s p)) tx ax (.tmp 27) := d0 rfl
      exact run_plain rfl (y_assign e0)
    · intro ax tx hs okx sm d0 d1 d2
      have e1 : At (Ty.lst Ty.int (readTo s p)) tx ax (.tmp 2) := d0 rfl
      have e0 : At (Ty.lst Ty.int (readTo s p)) tx ax (.tmp 27) := d1 rfl
      exact run_plain rfl (y_assign rfl)
    intro a19 s17 D13
    have ok18 := D13.ok
    have F19 := F17.step0 D13.stp
    have q50 : At (Ty.lst Ty.int (readTo s p)) s17 a19 (.tmp 2) := D13.done 1
    have q51 : At (Ty.int (0 : Int)) s17 a19 (.tmp 3) := D13.done 2
    clear D13
    refine tn ?_
    refine wp_ret ?_
    exact retL2 rfl ok18 F19 (hasT2 (cvt (by (rw [if_pos (by rw [txtMay_ok hok2]; exact hrm), hpe])) q50) (cvi (by (rw [txtMay_ok hok2]; exact hrm.symm)) q51))


set_option maxHeartbeats 4000000 in
set_option maxRecDepth 100000 in
theorem rBellOf_fn (c : Int) (σ : GW)  (v0 : Value) (hv0 : Ty.has (Ty.val (Value.int .u8 c)) σ v0)  (hc : 0 ≤ c ∧ c < 256) :
    FnC Try.prog 102 #[v0] σ (Ty.int (Lib.indexByte SIGNS.data.toList (c).toNat.toUInt8)) := by
 refine fn_intro0 Try.func102 rfl Try.ntmps102 (Nat.le_of_ble_eq_true rfl) (fun s0 a0 hle F0 ok0 hargs => ?_)
 have p0 : At (Ty.val (Value.int .u8 c)) s0 a0 (.tmp 0) := by have e := hargs 0 _ rfl; show Ty.has _ _ _; rw [e]; exact Ty.up _ hle hv0
 clear hargs
 refine wp_seq ?_
 refine reg (a := a0) (σ := s0) rfl (fun i_ => List.getD [(Ty.pr (Ty.int (0 : Int)))] i_ Pr.any) ok0 rfl ⟨?_, trivial⟩ ?_
 · intro ax tx hs okx sm
   exact run_plain rfl (y_assign rfl)
 intro a1 s1 D1
 have ok1 := D1.ok
 have F1 := F0.step0 D1.stp
 have q1 : At (Ty.val (Value.int .u8 c)) s1 a1 (.tmp 0) := D1.kt p0 rfl
 clear D1
 refine tn ?_
 refine wp_seq ?_
 refine reg (a := a1) (σ := s1) rfl (fun i_ => List.getD [(Ty.pr (Ty.val (Value.string SIGNS)))] i_ Pr.any) ok1 rfl ⟨?_, trivial⟩ ?_
 · intro ax tx hs okx sm
   exact run_plain rfl (y_assign rfl)
 intro a2 s2 D2
 have ok2 := D2.ok
 have F2 := F1.step0 D2.stp
 have q2 : At (Ty.val (Value.int .u8 c)) s2 a2 (.tmp 0) := D2.kt q1 rfl
 have q3 : At (Ty.val (Value.string SIGNS)) s2 a2 (.tmp 3) := D2.done 0
 clear D2
 refine tn ?_
 refine wp_seq ?_
 refine wp_seq ?_
 refine reg (a := a2) (σ := s2) rfl (fun i_ => List.getD [(Ty.pr (Ty.int (0 : Int)))] i_ Pr.any) ok2 rfl ⟨?_, trivial⟩ ?_
 · intro ax tx hs okx sm
   exact run_plain rfl (y_assign rfl)
 intro a3 s3 D3
 have ok3 := D3.ok
 have F3 := F2.step0 D3.stp
 have q4 : At (Ty.val (Value.int .u8 c)) s3 a3 (.tmp 0) := D3.kt q2 rfl
 have q5 : At (Ty.val (Value.string SIGNS)) s3 a3 (.tmp 3) := D3.kt q3 rfl
 have q6 : At (Ty.int (0 : Int)) s3 a3 (.tmp 4) := D3.done 0
 clear D3
 refine tn ?_
 refine wp_block ?_
 refine loop (fun n1 a4 w1 => ∃ (t1 : GW) (i : Nat), t1.w = w1 ∧ FromL [] s0 t1 ∧ Ok 17 a4 ∧ At (Ty.nat i) t1 a4 (.tmp 4) ∧ At (Ty.val (Value.int .u8 c)) t1 a4 (.tmp 0) ∧ At (Ty.val (Value.string SIGNS)) t1 a4 (.tmp 3) ∧ (i ≤ 12) ∧ (∀ j, j < i → (((SIGNS.get! j).toNat : Nat) : Int) ≠ c) ∧ n1 = 12 - i) (12 - (0)) ?_ ?_
 ·
  exact ⟨s3, 0, rfl, F3, ok3, (cvi (by (first | rfl | omega | (simp_all; done) | (simp_all; omega))) q6), q4, q5, by omega, fun j hj => absurd hj (Nat.not_lt_zero j), rfl⟩
 ·
  rintro n2 a5 w2 ⟨t2, i, rfl, F4, ok4, q7, q8, q9, hi, hno, rfl⟩
  have hsz := signs_size
  refine wp_seq ?_
  refine wp_seq ?_
  refine reg (a := a5) (σ := t2) rfl (fun i_ => List.getD [(Ty.pr (Ty.nat i)), (Ty.pr (Ty.val (Value.string SIGNS))), (Ty.pr (Ty.nat (ByteArray.size SIGNS))), (Ty.pr (Ty.bool (decide (((i : Nat) : Int) < (((ByteArray.size SIGNS) : Nat) : Int)))))] i_ Pr.any) ok4 rfl ⟨?_, ?_, ?_, ?_, trivial⟩ ?_
  · intro ax tx hs okx sm
    exact run_plain rfl (y_move (kp (sm 4 rfl) hs q7))
  · intro ax tx hs okx sm
    exact run_plain rfl (y_move (kp (sm 3 rfl) hs q9))
  · intro ax tx hs okx sm d0
    have e1 : At (Ty.val (Value.string SIGNS)) tx ax (.tmp 6) := d0 rfl
    exact run_plain rfl (y_len_str Try.underlying9 e1)
  · intro ax tx hs okx sm d0 d1
    have e0 : At (Ty.nat i) tx ax (.tmp 5) := d0 rfl
    have e2 : At (Ty.nat (ByteArray.size SIGNS)) tx ax (.tmp 7) := d1 rfl
    exact run_plain rfl (y_lss e0 e2)
  intro a6 s4 D4
  have ok5 := D4.ok
  have F5 := F4.step0 D4.stp
  have q10 : At (Ty.nat i) s4 a6 (.tmp 4) := D4.kt q7 rfl
  have q11 : At (Ty.val (Value.int .u8 c)) s4 a6 (.tmp 0) := D4.kt q8 rfl
  have q12 : At (Ty.val (Value.string SIGNS)) s4 a6 (.tmp 3) := D4.kt q9 rfl
  have q13 : At (Ty.bool (decide (((i : Nat) : Int) < (((ByteArray.size SIGNS) : Nat) : Int)))) s4 a6 (.tmp 8) := D4.done 3
  clear D4
  refine tn ?_
  refine cond_p (p := (((i : Nat) : Int) < (((ByteArray.size SIGNS) : Nat) : Int))) q13 (fun c1 => ?_) (fun c1 => ?_)
  ·
   refine wp_skip ?_
   refine tn ?_
   refine wp_seq ?_
   refine wp_block ?_
   refine wp_seq ?_
   refine reg (a := a6) (σ := s4) rfl (fun i_ => List.getD [(Ty.pr (Ty.val (Value.string SIGNS))), (Ty.pr (Ty.nat i)), (Ty.pr (Ty.val (Value.int .u8 (((SIGNS.get! i).toNat : Nat) : Int)))), (Ty.pr (Ty.val (Value.int .u8 c))), (Ty.pr (Ty.bool (decide ((((SIGNS.get! i).toNat : Nat) : Int) = c))))] i_ Pr.any) ok5 rfl ⟨?_, ?_, ?_, ?_, ?_, trivial⟩ ?_
   · intro ax tx hs okx sm
     exact run_plain rfl (y_move (kp (sm 3 rfl) hs q12))
   · intro ax tx hs okx sm
     exact run_plain rfl (y_move (kp (sm 4 rfl) hs q10))
   · intro ax tx hs okx sm d0 d1
     have e0 : At (Ty.val (Value.string SIGNS)) tx ax (.tmp 11) := d0 rfl
     have e1 : At (Ty.nat i) tx ax (.tmp 12) := d1 rfl
     exact run_plain rfl (y_sindex Try.underlying9 e0 e1 (by omega) (by omega))
   · intro ax tx hs okx sm
     exact run_plain rfl (y_move (kp (sm 0 rfl) hs q11))
   · intro ax tx hs okx sm d0 d1
     have e2 : At (Ty.val (Value.int .u8 (((SIGNS.get! i).toNat : Nat) : Int))) tx ax (.tmp 13) := d0 rfl
     have e3 : At (Ty.val (Value.int .u8 c)) tx ax (.tmp 14) := d1 rfl
     exact run_plain rfl (y_eql e2 e3)
   intro a7 s5 D5
   have ok6 := D5.ok
   have F6 := F5.step0 D5.stp
   have q14 : At (Ty.nat i) s5 a7 (.tmp 4) := D5.kt q10 rfl
   have q15 : At (Ty.val (Value.int .u8 c)) s5 a7 (.tmp 0) := D5.kt q11 rfl
   have q16 : At (Ty.val (Value.string SIGNS)) s5 a7 (.tmp 3) := D5.kt q12 rfl
   have q17 : At (Ty.bool (decide ((((SIGNS.get! i).toNat : Nat) : Int) = c))) s5 a7 (.tmp 15) := D5.done 4
   clear D5
   refine tn ?_
   refine cond_p (p := ((((SIGNS.get! i).toNat : Nat) : Int) = c)) q17 (fun c2 => ?_) (fun c2 => ?_)
   ·
    refine wp_seq ?_
    refine reg (a := a7) (σ := s5) rfl (fun i_ => List.getD [(Ty.pr (Ty.nat i)), (Ty.pr (Ty.nat i))] i_ Pr.any) ok6 rfl ⟨?_, ?_, trivial⟩ ?_
    · intro ax tx hs okx sm
      exact run_plain rfl (y_move (kp (sm 4 rfl) hs q14))
    · intro ax tx hs okx sm d0 d1
      have e0 : At (Ty.nat i) tx ax (.tmp 16) := d0 rfl
      exact run_plain rfl (y_assign e0)
    intro a8 s6 D6
    have ok7 := D6.ok
    have F7 := F6.step0 D6.stp
    have q18 : At (Ty.nat i) s6 a8 (.tmp 2) := D6.done 1
    clear D6
    refine tn ?_
    refine wp_ret ?_
    refine br ?_
    refine tr ?_
    refine tr ?_
    refine br ?_
    refine tr ?_
    exact retL1 rfl ok7 F7 (cvi (by (exact (ixs_yes hc.1 hc.2 (by omega) (by assumption) hno).symm)) q18)
   ·
    refine wp_skip ?_
    refine bn ?_
    refine tn ?_
    refine reg (a := a7) (σ := s5) rfl (fun i_ => List.getD [(Ty.pr (Ty.nat i)), (Ty.pr (Ty.int (((i : Nat) : Int) + (1 : Int)))), (Ty.pr (Ty.int (((i : Nat) : Int) + (1 : Int))))] i_ Pr.any) ok6 rfl ⟨?_, ?_, ?_, trivial⟩ ?_
    · intro ax tx hs okx sm
      exact run_plain rfl (y_move (kp (sm 4 rfl) hs q14))
    · intro ax tx hs okx sm d0
      have e0 : At (Ty.nat i) tx ax (.tmp 9) := d0 rfl
      exact run_plain rfl (y_add e0 rfl (w64 (by omega) (by omega)))
    · intro ax tx hs okx sm d0 d1 d2
      have e1 : At (Ty.int (((i : Nat) : Int) + (1 : Int))) tx ax (.tmp 10) := d0 rfl
      have e0 : At (Ty.nat i) tx ax (.tmp 9) := d1 rfl
      exact run_plain rfl (y_assign e1)
    intro a9 s7 D7
    have ok8 := D7.ok
    have F8 := F6.step0 D7.stp
    have q19 : At (Ty.val (Value.int .u8 c)) s7 a9 (.tmp 0) := D7.kt q15 rfl
    have q20 : At (Ty.val (Value.string SIGNS)) s7 a9 (.tmp 3) := D7.kt q16 rfl
    have q21 : At (Ty.int (((i : Nat) : Int) + (1 : Int))) s7 a9 (.tmp 4) := D7.done 2
    clear D7
    exact tn ⟨12 - ((i+1)), by omega, s7, (i+1), rfl, F8, ok8, (cvi (by (first | rfl | omega | (simp_all; done) | (simp_all; omega))) q21), q19, q20, by omega, fun j hj => by (by_cases e : j = i; subst e; assumption; exact hno j (by omega)), rfl⟩
  ·
   refine wp_exit ?_
   refine tx ?_
   refine tx ?_
   refine bx ?_
   refine tn ?_
   refine wp_seq ?_
   refine reg (a := a6) (σ := s4) rfl (fun i_ => List.getD [(Ty.pr (Ty.int (-1 : Int)))] i_ Pr.any) ok5 rfl ⟨?_, trivial⟩ ?_
   · intro ax tx hs okx sm
     exact run_plain rfl (y_assign rfl)
   intro a10 s8 D8
   have ok9 := D8.ok
   have F9 := F5.step0 D8.stp
   have q22 : At (Ty.int (-1 : Int)) s8 a10 (.tmp 2) := D8.done 0
   clear D8
   refine tn ?_
   refine wp_ret ?_
   exact retL1 rfl ok9 F9 (cvi (by (exact (ixs_no hc.1 hc.2 (fun j hj => hno j (by omega))).symm)) q22)


set_option maxHeartbeats 4000000 in
set_option maxRecDepth 100000 in
theorem rReadRow_fn (s : ByteArray) (σ : GW)  (v0 : Value) (hv0 : Ty.has (Ty.val (Value.string s)) σ v0)  (hs : s.size ≤ 17592186044416) :
    FnC Try.prog 55 #[v0] σ (Ty.tup2 (Ty.lst Ty.int (if txtMay s = 0 then readTo s s.size else [])) (Ty.int (txtMay s))) := by
 refine fn_intro0 Try.func55 rfl Try.ntmps55 (Nat.le_of_ble_eq_true rfl) (fun s0 a0 hle F0 ok0 hargs => ?_)
 have p0 : At (Ty.val (Value.string s)) s0 a0 (.tmp 0) := by have e := hargs 0 _ rfl; show Ty.has _ _ _; rw [e]; exact Ty.up _ hle hv0
 clear hargs
 refine wp_seq ?_
 refine reg (a := a0) (σ := s0) rfl (fun i_ => List.getD [(Ty.pr (Ty.val (Value.slice none 0 0))), (Ty.pr (Ty.int (0 : Int)))] i_ Pr.any) ok0 rfl ⟨?_, ?_, trivial⟩ ?_
 · intro ax tx hs okx sm
   exact run_plain rfl (y_assign rfl)
 · intro ax tx hs okx sm d0
   have e0 : At (Ty.val (Value.slice none 0 0)) tx ax (.tmp 2) := d0 rfl
   exact run_plain rfl (y_assign rfl)
 intro a1 s1 D1
 have ok1 := D1.ok
 have F1 := F0.step0 D1.stp
 have q1 : At (Ty.val (Value.string s)) s1 a1 (.tmp 0) := D1.kt p0 rfl
 clear D1
 refine tn ?_
 refine wp_seq ?_
 refine reg (a := a1) (σ := s1) rfl (fun i_ => List.getD [(Ty.pr (Ty.val (Value.slice none 0 0)))] i_ Pr.any) ok1 rfl ⟨?_, trivial⟩ ?_
 · intro ax tx hs okx sm
   exact run_plain rfl (y_assign rfl)
 intro a2 s2 D2
 have ok2 := D2.ok
 have F2 := F1.step0 D2.stp
 have q2 : At (Ty.val (Value.string s)) s2 a2 (.tmp 0) := D2.kt q1 rfl
 have q3 : At (Ty.val (Value.slice none 0 0)) s2 a2 (.tmp 4) := D2.done 0
 clear D2
 refine tn ?_
 refine wp_seq ?_
 refine wp_seq ?_
 refine reg (a := a2) (σ := s2) rfl (fun i_ => List.getD [(Ty.pr (Ty.int (0 : Int)))] i_ Pr.any) ok2 rfl ⟨?_, trivial⟩ ?_
 · intro ax tx hs okx sm
   exact run_plain rfl (y_assign rfl)
 intro a3 s3 D3
 have ok3 := D3.ok
 have F3 := F2.step0 D3.stp
 have q4 : At (Ty.val (Value.string s)) s3 a3 (.tmp 0) := D3.kt q2 rfl
 have q5 : At (Ty.val (Value.slice none 0 0)) s3 a3 (.tmp 4) := D3.kt q3 rfl
 have q6 : At (Ty.int (0 : Int)) s3 a3 (.tmp 5) := D3.done 0
 clear D3
 refine tn ?_
 refine wp_block ?_
 have o1 : Own s3 6 3 1 (Value.slice none 0 0) 0 (List.map Ty.int ([] : List Int)) := Own.nil _ _ _ _
 refine loop (fun n1 a4 w1 => ∃ (t1 : GW) (p : Nat) (x4_0 : Value), t1.w = w1 ∧ FromL [] s0 t1 ∧ Ok 30 a4 ∧ At (Ty.nat p) t1 a4 (.tmp 5) ∧ At (Ty.val x4_0) t1 a4 (.tmp 4) ∧ At (Ty.val (Value.string s)) t1 a4 (.tmp 0) ∧ Own t1 6 3 1 x4_0 (List.length (readTo s p)) (List.map Ty.int (readTo s p)) ∧ (p ≤ s.size) ∧ (∀ j, j < p → 0 ≤ signIdx (((s.get! j).toNat : Nat) : Int)) ∧ n1 = s.size - p) (s.size - (0)) ?_ ?_
 ·
  exact ⟨s3, 0, (Value.slice none 0 0), rfl, F3, ok3, (cvi (by (first | rfl | omega | (simp_all; done) | (simp_all; omega))) q6), q5, q4, (cvo (by (rfl)) (by (rfl)) o1), by omega, fun j hj => absurd hj (Nat.not_lt_zero j), rfl⟩
 ·
  rintro n2 a5 w2 ⟨t2, p, x4_0, rfl, F4, ok4, q7, q8, q9, o2, hp, hok, rfl⟩
  have hrl := readTo_len s p
  have hb256 := UInt8.toNat_lt (s.get! p)
  have hbs := bell_sign (c := (((s.get! p).toNat : Nat) : Int)) (by omega) (by omega)
  refine wp_seq ?_
  refine wp_seq ?_
  refine reg (a := a5) (σ := t2) rfl (fun i_ => List.getD [(Ty.pr (Ty.nat p)), (Ty.pr (Ty.val (Value.string s))), (Ty.pr (Ty.nat (ByteArray.size s))), (Ty.pr (Ty.bool (decide (((p : Nat) : Int) < (((ByteArray.size s) : Nat) : Int)))))] i_ Pr.any) ok4 rfl ⟨?_, ?_, ?_, ?_, trivial⟩ ?_
  · intro ax tx hs okx sm
    exact run_plain rfl (y_move (kp (sm 5 rfl) hs q7))
  · intro ax tx hs okx sm
    exact run_plain rfl (y_move (kp (sm 0 rfl) hs q9))
  · intro ax tx hs okx sm d0
    have e1 : At (Ty.val (Value.string s)) tx ax (.tmp 9) := d0 rfl
    exact run_plain rfl (y_len_str Try.underlying9 e1)
  · intro ax tx hs okx sm d0 d1
    have e0 : At (Ty.nat p) tx ax (.tmp 8) := d0 rfl
    have e2 : At (Ty.nat (ByteArray.size s)) tx ax (.tmp 10) := d1 rfl
    exact run_plain rfl (y_lss e0 e2)
  intro a6 s4 D4
  have ok5 := D4.ok
  have F5 := F4.step0 D4.stp
  have q10 : At (Ty.nat p) s4 a6 (.tmp 5) := D4.kt q7 rfl
  have q11 : At (Ty.val x4_0) s4 a6 (.tmp 4) := D4.kt q8 rfl
  have q12 : At (Ty.val (Value.string s)) s4 a6 (.tmp 0) := D4.kt q9 rfl
  have o3 := Own.k0 o2 D4.stp
  have q13 : At (Ty.bool (decide (((p : Nat) : Int) < (((ByteArray.size s) : Nat) : Int)))) s4 a6 (.tmp 11) := D4.done 3
  clear D4
  refine tn ?_
  refine cond_p (p := (((p : Nat) : Int) < (((ByteArray.size s) : Nat) : Int))) q13 (fun c1 => ?_) (fun c1 => ?_)
  ·
   refine wp_skip ?_
   refine tn ?_
   refine wp_seq ?_
   refine wp_block ?_
   refine wp_seq ?_
   refine reg (a := a6) (σ := s4) rfl (fun i_ => List.getD [(Ty.pr (Ty.val (Value.string s))), (Ty.pr (Ty.nat p)), (Ty.pr (Ty.val (Value.int .u8 (((s.get! p).toNat : Nat) : Int)))), (Ty.pr (Ty.int (Lib.indexByte SIGNS.data.toList (((((s.get! p).toNat : Nat) : Int))).toNat.toUInt8))), (Ty.pr (Ty.int (Lib.indexByte SIGNS.data.toList (((((s.get! p).toNat : Nat) : Int))).toNat.toUInt8)))] i_ Pr.any) ok5 rfl ⟨?_, ?_, ?_, ?_, ?_, trivial⟩ ?_
   · intro ax tx hs okx sm
     exact run_plain rfl (y_move (kp (sm 0 rfl) hs q12))
   · intro ax tx hs okx sm
     exact run_plain rfl (y_move (kp (sm 5 rfl) hs q10))
   · intro ax tx hs okx sm d0 d1
     have e0 : At (Ty.val (Value.string s)) tx ax (.tmp 14) := d0 rfl
     have e1 : At (Ty.nat p) tx ax (.tmp 15) := d1 rfl
     exact run_plain rfl (y_sindex Try.underlying9 e0 e1 (by omega) (by omega))
   · intro ax tx hs okx sm d0
     have e2 : At (Ty.val (Value.int .u8 (((s.get! p).toNat : Nat) : Int))) tx ax (.tmp 16) := d0 rfl
     exact run_plain rfl (y_call #[ax.eval (.tmp 16)] Try.func102 rfl rfl (by simp only [List.map_toArray, List.map_cons, List.map_nil]) (rBellOf_fn ((((s.get! p).toNat : Nat) : Int)) _ _ (cvi (σ := tx) (by omega) e2) (by omega)))
   · intro ax tx hs okx sm d0 d1 d2 d3 d4 d5
     have e3 : At (Ty.int (Lib.indexByte SIGNS.data.toList (((((s.get! p).toNat : Nat) : Int))).toNat.toUInt8)) tx ax (.tmp 17) := d0 rfl
     have e0 : At (Ty.val (Value.string s)) tx ax (.tmp 14) := d2 rfl
     have e1 : At (Ty.nat p) tx ax (.tmp 15) := d3 rfl
     have e2 : At (Ty.val (Value.int .u8 (((s.get! p).toNat : Nat) : Int))) tx ax (.tmp 16) := d4 rfl
     exact run_plain rfl (y_assign e3)
   intro a7 s5 D5
   have ok6 := D5.ok
   have F6 := F5.step0 D5.stp
   have q14 : At (Ty.nat p) s5 a7 (.tmp 5) := D5.kt q10 rfl
   have q15 : At (Ty.val x4_0) s5 a7 (.tmp 4) := D5.kt q11 rfl
   have q16 : At (Ty.val (Value.string s)) s5 a7 (.tmp 0) := D5.kt q12 rfl
   have o4 := Own.k0 o3 D5.stp
   have q17 : At (Ty.int (Lib.indexByte SIGNS.data.toList (((((s.get! p).toNat : Nat) : Int))).toNat.toUInt8)) s5 a7 (.tmp 6) := D5.done 4
   clear D5
   refine tn ?_
   refine wp_seq ?_
   refine wp_seq ?_
   refine reg (a := a7) (σ := s5) rfl (fun i_ => List.getD [(Ty.pr (Ty.int (Lib.indexByte SIGNS.data.toList (((((s.get! p).toNat : Nat) : Int))).toNat.toUInt8))), (Ty.pr (Ty.bool (decide ((Lib.indexByte SIGNS.data.toList (((((s.get! p).toNat : Nat) : Int))).toNat.toUInt8) < (0 : Int)))))] i_ Pr.any) ok6 rfl ⟨?_, ?_, trivial⟩ ?_
   · intro ax tx hs okx sm
     exact run_plain rfl (y_move (kp (sm 6 rfl) hs q17))
   · intro ax tx hs okx sm d0
     have e0 : At (Ty.int (Lib.indexByte SIGNS.data.toList (((((s.get! p).toNat : Nat) : Int))).toNat.toUInt8)) tx ax (.tmp 18) := d0 rfl
     exact run_plain rfl (y_lss e0 rfl)
   intro a8 s6 D6
   have ok7 := D6.ok
   have F7 := F6.step0 D6.stp
   have q18 : At (Ty.nat p) s6 a8 (.tmp 5) := D6.kt q14 rfl
   have q19 : At (Ty.val x4_0) s6 a8 (.tmp 4) := D6.kt q15 rfl
   have q20 : At (Ty.val (Value.string s)) s6 a8 (.tmp 0) := D6.kt q16 rfl
   have q21 : At (Ty.int (Lib.indexByte SIGNS.data.toList (((((s.get! p).toNat : Nat) : Int))).toNat.toUInt8)) s6 a8 (.tmp 6) := D6.kt q17 rfl
   have o5 := Own.k0 o4 D6.stp
   have q22 : At (Ty.bool (decide ((Lib.indexByte SIGNS.data.toList (((((s.get! p).toNat : Nat) : Int))).toNat.toUInt8) < (0 : Int)))) s6 a8 (.tmp 19) := D6.done 1
   clear D6
   refine tn ?_
   refine cond_p (p := ((Lib.indexByte SIGNS.data.toList (((((s.get! p).toNat : Nat) : Int))).toNat.toUInt8) < (0 : Int))) q22 (fun c2 => ?_) (fun c2 => ?_)
   ·
    refine wp_seq ?_
    refine reg (a := a8) (σ := s6) rfl (fun i_ => List.getD [(Ty.pr (Ty.val (Value.slice none 0 0))), (Ty.pr (Ty.int (4 : Int)))] i_ Pr.any) ok7 rfl ⟨?_, ?_, trivial⟩ ?_
    · intro ax tx hs okx sm
      exact run_plain rfl (y_assign rfl)
    · intro ax tx hs okx sm d0 d1
      have e0 : At (Ty.val (Value.slice none 0 0)) tx ax (.tmp 2) := d0 rfl
      exact run_plain rfl (y_assign rfl)
    intro a9 s7 D7
    have ok8 := D7.ok
    have F8 := F7.step0 D7.stp
    have o6 := Own.k0 o5 D7.stp
    have q23 : At (Ty.val (Value.slice none 0 0)) s7 a9 (.tmp 2) := D7.done 0
    have q24 : At (Ty.int (4 : Int)) s7 a9 (.tmp 3) := D7.done 1
    clear D7
    refine tn ?_
    refine wp_ret ?_
    refine tr ?_
    refine br ?_
    refine tr ?_
    refine tr ?_
    refine br ?_
    refine tr ?_
    exact retL2 rfl ok8 F8 (hasT2 (nil_lst (by (rw [if_neg (by rw [txtMay_bad (p := p) (by omega) (by rw [← hbs]; exact c2)]; decide)])) q23) (cvi (by (exact (txtMay_bad (p := p) (by omega) (by rw [← hbs]; exact c2)).symm)) q24))
   ·
    refine wp_skip ?_
    refine tn ?_
    refine reg2 (a := a8) (σ := s6) rfl 3 (fun i_ => List.getD [(Ty.pr (Ty.val x4_0)), (Ty.pr (Ty.int (Lib.indexByte SIGNS.data.toList (((((s.get! p).toNat : Nat) : Int))).toNat.toUInt8))), (Ty.pr (Ty.sl 1 1 [(Ty.int (Lib.indexByte SIGNS.data.toList (((((s.get! p).toNat : Nat) : Int))).toNat.toUInt8))]))] i_ Pr.any) ok7 rfl (by decide) rfl ⟨?_, ?_, ?_, trivial⟩ ?_
    · intro ax tx hs okx sm
      exact run_plain rfl (y_move (kp (sm 4 rfl) hs q19))
    · intro ax tx hs okx sm
      exact run_plain rfl (y_move (kp (sm 6 rfl) hs q21))
    · intro ax tx hs okx sm d0
      have e1 : At (Ty.int (Lib.indexByte SIGNS.data.toList (((((s.get! p).toNat : Nat) : Int))).toNat.toUInt8)) tx ax (.tmp 21) := d0 rfl
      exact run_plain rfl (y_build1o Try.underlying34 Try.inf3 rfl (one_val rfl) e1)
    intro a10 s8 D8
    have ok9 := D8.ok
    have F9 := F7.step0 D8.stp
    have q25 : At (Ty.nat p) s8 a10 (.tmp 5) := D8.kt q18 rfl
    have q26 : At (Ty.val x4_0) s8 a10 (.tmp 4) := D8.kt q19 rfl
    have q27 : At (Ty.val (Value.string s)) s8 a10 (.tmp 0) := D8.kt q20 rfl
    have o7 := Own.k0 o5 D8.stp
    have q28 : At (Ty.val x4_0) s8 a10 (.tmp 20) := D8.done 0 (by decide)
    have q29 : At (Ty.sl 1 1 [(Ty.int (Lib.indexByte SIGNS.data.toList (((((s.get! p).toNat : Nat) : Int))).toNat.toUInt8))]) s8 a10 (.tmp 22) := D8.done 2 (by decide)
    have b1 := sl_le q29
    clear D8
    refine tailL (L := [6]) (R := (fun v τ => Own τ 6 3 1 v ((List.length (readTo s p)) + 1) ((List.map Ty.int (readTo s p)) ++ [(Ty.int (Lib.indexByte SIGNS.data.toList (((((s.get! p).toNat : Nat) : Int))).toNat.toUInt8))]))) rfl rfl (by decide) ok9 (YldM.toL (m_append Try.underlying34 Try.inf3 (by decide) rfl (by decide) (al (R := (Pr.own 6 3 1 (List.length (readTo s p)) (List.map Ty.int (readTo s p)))) q28 o7) q29 (by intro U hU; simp at hU; subst hU; exact one_val rfl) (by omega) (by omega))) (fun a11 s9 hs1 ok10 r1 sm1 => ?_)
    have F10 := F9.stepL hs1 (by decide)
    have q30 : At (Ty.nat p) s9 a11 (.tmp 5) := kpL hs1 (by decide) (sm1 5 (by decide)) q25
    have q31 : At (Ty.val x4_0) s9 a11 (.tmp 4) := kpL hs1 (by decide) (sm1 4 (by decide)) q26
    have q32 : At (Ty.val (Value.string s)) s9 a11 (.tmp 0) := kpL hs1 (by decide) (sm1 0 (by decide)) q27
    obtain ⟨x1, hx1⟩ : ∃ x, a11.eval (.tmp 23) = x := ⟨_, rfl⟩
    have q33 : At (Ty.val x1) s9 a11 (.tmp 23) := hx1
    have o8 : Own s9 6 3 1 x1 (List.length ((readTo s p) ++ [(Lib.indexByte SIGNS.data.toList (((((s.get! p).toNat : Nat) : Int))).toNat.toUInt8)])) (List.map Ty.int ((readTo s p) ++ [(Lib.indexByte SIGNS.data.toList (((((s.get! p).toNat : Nat) : Int))).toNat.toUInt8)])) := al2 (R := (Pr.own 6 3 1 (List.length ((readTo s p) ++ [(Lib.indexByte SIGNS.data.toList (((((s.get! p).toNat : Nat) : Int))).toNat.toUInt8)])) (List.map Ty.int ((readTo s p) ++ [(Lib.indexByte SIGNS.data.toList (((((s.get! p).toNat : Nat) : Int))).toNat.toUInt8)])))) hx1 (cvo (by simp) (by first | (rw [List.map_append]; rfl) | simp) r1)
    clear r1
    refine tailL (L := []) (R := (fun v τ => Pr.has (Ty.pr (Ty.val x1)) τ v)) rfl rfl (by decide) ok10 (Yld.toL (y_assign q33)) (fun a12 s10 hs2 ok11 r2 sm2 => ?_)
    have F11 := F10.stepL hs2 (by decide)
    have q34 : At (Ty.nat p) s10 a12 (.tmp 5) := kpL hs2 (by decide) (sm2 5 (by decide)) q30
    have q35 : At (Ty.val (Value.string s)) s10 a12 (.tmp 0) := kpL hs2 (by decide) (sm2 0 (by decide)) q32
    have o9 := Own.keepL o8 hs2 (by decide) (by decide)
    have q36 : At (Ty.val x1) s10 a12 (.tmp 4) := r2
    clear r2
    refine wpList_nil ?_
    refine bn ?_
    refine tn ?_
    refine reg (a := a12) (σ := s10) rfl (fun i_ => List.getD [(Ty.pr (Ty.nat p)), (Ty.pr (Ty.nat (p + 1))), (Ty.pr (Ty.nat (p + 1)))] i_ Pr.any) ok11 rfl ⟨?_, ?_, ?_, trivial⟩ ?_
    · intro ax tx hs okx sm
      exact run_plain rfl (y_move (kp (sm 5 rfl) hs q34))
    · intro ax tx hs okx sm d0
      have e0 : At (Ty.nat p) tx ax (.tmp 12) := d0 rfl
      exact run_plain rfl ((y_add e0 rfl (w64 (by omega) (by omega))).mono (fun τ _ h => cvi (σ := τ) (by first | omega | exact (Int.natCast_mul _ _).symm) h))
    · intro ax tx hs okx sm d0 d1 d2
      have e1 : At (Ty.nat (p + 1)) tx ax (.tmp 13) := d0 rfl
      have e0 : At (Ty.nat p) tx ax (.tmp 12) := d1 rfl
      exact run_plain rfl (y_assign e1)
    intro a13 s11 D9
    have ok12 := D9.ok
    have F12 := F11.step0 D9.stp
    have q37 : At (Ty.val (Value.string s)) s11 a13 (.tmp 0) := D9.kt q35 rfl
    have q38 : At (Ty.val x1) s11 a13 (.tmp 4) := D9.kt q36 rfl
    have o10 := Own.k0 o9 D9.stp
    have q39 : At (Ty.nat (p + 1)) s11 a13 (.tmp 5) := D9.done 2
    clear D9
    exact tn ⟨s.size - ((p+1)), by omega, s11, (p+1), x1, rfl, F12, ok12, (cvi (by (first | rfl | omega | (simp_all; done) | (simp_all; omega))) q39), q38, q37, (cvo (by (rw [readTo_succ, hbs])) (by (rw [readTo_succ, hbs])) o10), by omega, fun j hj => by (by_cases e : j = p; subst e; rw [← hbs]; omega; exact hok j (by omega)), rfl⟩
  ·
   have hpe : p = s.size := (by omega); have hok2 := hok; rw [hpe] at hok2
   refine wp_exit ?_
   refine tx ?_
   refine tx ?_
   refine bx ?_
   refine tn ?_
   refine wp_seq ?_
   obtain ⟨t3, e1, h1, q40⟩ := Own.seal o3 (by decide)
   rw [← e1]
   have F13 := F5.step h1 (by decide)
   have q41 := Ty.up (Ty.nat p) (h1.le (by decide)) q10
   have q42 : At (Ty.lst Ty.int (readTo s p)) t3 a6 (.tmp 4) := by have e : a6.eval (.tmp 4) = x4_0 := q11; show Ty.has _ _ _; rw [e]; exact q40
   have q43 := Ty.up (Ty.val (Value.string s)) (h1.le (by decide)) q12
   have q44 := Ty.up (Ty.bool (decide (((p : Nat) : Int) < (((ByteArray.size s) : Nat) : Int)))) (h1.le (by decide)) q13
   refine reg (a := a6) (σ := t3) rfl (fun i_ => List.getD [(Ty.pr (Ty.lst Ty.int (readTo s p))), (Ty.pr (Ty.int (rowMay ((readTo s p))))), (Ty.pr (Ty.int (rowMay ((readTo s p)))))] i_ Pr.any) ok5 rfl ⟨?_, ?_, ?_, trivial⟩ ?_
   · intro ax tx hs okx sm
     exact run_plain rfl (y_move (kp (sm 4 rfl) hs q42))
   · intro ax tx hs okx sm d0
     have e0 : At (Ty.lst Ty.int (readTo s p)) tx ax (.tmp 24) := d0 rfl
     exact run_plain rfl (y_call #[ax.eval (.tmp 24)] Try.func38 rfl rfl (by simp only [List.map_toArray, List.map_cons, List.map_nil]) (rRowMay_fn ((readTo s p)) _ _ e0 ))
   · intro ax tx hs okx sm d0 d1 d2 d3
     have e1 : At (Ty.int (rowMay ((readTo s p)))) tx ax (.tmp 25) := d0 rfl
     have e0 : At (Ty.lst Ty.int (readTo s p)) tx ax (.tmp 24) := d2 rfl
     exact run_plain rfl (y_assign e1)
   intro a14 s12 D10
   have ok13 := D10.ok
   have F14 := F13.step0 D10.stp
   have q45 : At (Ty.lst Ty.int (readTo s p)) s12 a14 (.tmp 4) := D10.kt q42 rfl
   have q46 : At (Ty.int (rowMay ((readTo s p)))) s12 a14 (.tmp 7) := D10.done 2
   clear D10
   refine tn ?_
   refine wp_seq ?_
   refine wp_seq ?_
   refine reg (a := a14) (σ := s12) rfl (fun i_ => List.getD [(Ty.pr (Ty.int (rowMay ((readTo s p))))), (Ty.pr (Ty.bool (decide ((rowMay ((readTo s p))) ≠ (0 : Int)))))] i_ Pr.any) ok13 rfl ⟨?_, ?_, trivial⟩ ?_
   · intro ax tx hs okx sm
     exact run_plain rfl (y_move (kp (sm 7 rfl) hs q46))
   · intro ax tx hs okx sm d0
     have e0 : At (Ty.int (rowMay ((readTo s p)))) tx ax (.tmp 26) := d0 rfl
     exact run_plain rfl (y_neq e0 rfl)
   intro a15 s13 D11
   have ok14 := D11.ok
   have F15 := F14.step0 D11.stp
   have q47 : At (Ty.lst Ty.int (readTo s p)) s13 a15 (.tmp 4) := D11.kt q45 rfl
   have q48 : At (Ty.int (rowMay ((readTo s p)))) s13 a15 (.tmp 7) := D11.kt q46 rfl
   have q49 : At (Ty.bool (decide ((rowMay ((readTo s p))) ≠ (0 : Int)))) s13 a15 (.tmp 27) := D11.done 1
   clear D11
   refine tn ?_
   refine cond_p (p := ((rowMay ((readTo s p))) ≠ (0 : Int))) q49 (fun c3 => ?_) (fun c3 => ?_)
   ·
    rw [hpe] at c3
    refine wp_seq ?_
    refine reg (a := a15) (σ := s13) rfl (fun i_ => List.getD [(Ty.pr (Ty.int (rowMay ((readTo s p))))), (Ty.pr (Ty.val (Value.slice none 0 0))), (Ty.pr (Ty.int (rowMay ((readTo s p)))))] i_ Pr.any) ok14 rfl ⟨?_, ?_, ?_, trivial⟩ ?_
    · intro ax tx hs okx sm d0
      exact run_plain rfl (y_move (kp (sm 7 rfl) hs q48))
    · intro ax tx hs okx sm d0
      exact run_plain rfl (y_assign rfl)
    · intro ax tx hs okx sm d0 d1 d2 d3
      have e0 : At (Ty.int (rowMay ((readTo s p)))) tx ax (.tmp 28) := d0 rfl
      have e1 : At (Ty.val (Value.slice none 0 0)) tx ax (.tmp 2) := d1 rfl
      exact run_plain rfl (y_assign e0)
    intro a16 s14 D12
    have ok15 := D12.ok
    have F16 := F15.step0 D12.stp
    have q50 : At (Ty.val (Value.slice none 0 0)) s14 a16 (.tmp 2) := D12.done 1
    have q51 : At (Ty.int (rowMay ((readTo s p)))) s14 a16 (.tmp 3) := D12.done 2
    clear D12
    refine tn ?_
    refine wp_ret ?_
    refine tr ?_
    exact retL2 rfl ok15 F16 (hasT2 (nil_lst (by (rw [if_neg (by rw [txtMay_ok hok2]; exact c3)])) q50) (cvi (by (rw [hpe]; exact (txtMay_ok hok2).symm)) q51))
   ·
    rw [hpe] at c3; have hrm := Classical.not_not.1 c3
    refine wp_skip ?_
    refine tn ?_
    refine wp_seq ?_
    refine reg (a := a15) (σ := s13) rfl (fun i_ => List.getD [(Ty.pr (Ty.lst Ty.int (readTo s p))), (Ty.pr (Ty.lst Ty.int (readTo s p))), (Ty.pr (Ty.int (0 : Int)))] i_ Pr.any) ok14 rfl ⟨?_, ?_, ?_, trivial⟩ ?_
    · intro ax tx hs okx sm
      exact run_plain rfl (y_move (kp (sm 4 rfl) hs q47))
    · intro ax tx hs okx sm d0 d1
      have e0 : At (Ty.lst Ty.int (readTo s p)) tx ax (.tmp 29) := d0 rfl
      exact run_plain rfl (y_assign e0)
    · intro ax tx hs okx sm d0 d1 d2
      have e1 : At (Ty.lst Ty.int (readTo s p)) tx ax (.tmp 2) := d0 rfl
      have e0 : At (Ty.lst Ty.int (readTo s p)) tx ax (.tmp 29) := d1 rfl
      exact run_plain rfl (y_assign rfl)
    intro a17 s15 D13
    have ok16 := D13.ok
    have F17 := F15.step0 D13.stp
    have q52 : At (Ty.lst Ty.int (readTo s p)) s15 a17 (.tmp 2) := D13.done 1
    have q53 : At (Ty.int (0 : Int)) s15 a17 (.tmp 3) := D13.done 2
    clear D13
    refine tn ?_
    refine wp_ret ?_
    exact retL2 rfl ok16 F17 (hasT2 (cvt (by (rw [if_pos (by rw [txtMay_ok hok2]; exact hrm), hpe])) q52) (cvi (by (rw [txtMay_ok hok2]; exact hrm.symm)) q53))


end Go.Proofs.Ytlhnpkaohfoicaa
