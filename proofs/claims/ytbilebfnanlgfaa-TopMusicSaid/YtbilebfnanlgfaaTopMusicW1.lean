/- The functions that the law TopMusic reaches, each by its contract. Part 1. -/
import Derived.Test.YtbilebfnanlgfaaTopMusicK1
import Derived.Test.YtbilebfnanlgfaaTopMusicK2
import Derived.Test.YtbilebfnanlgfaaProg
namespace Go.Proofs.Ytbilebfnanlgfaa
open Go.KL

set_option maxRecDepth 100000 in
theorem pick_fn (c : Int) (n : Nat) (σ : GW) (v0 v1 : Value) (hv0 : Ty.has (Ty.int c) σ v0) (hv1 : Ty.has (Ty.nat n) σ v1) (hc : -9223372036854775808 ≤ c ∧ c ≤ 9223372036854775807) (hn : 0 < n) :
    FnC Try.prog 18 #[v0, v1] σ (Ty.nat (pick c n)) := by
 refine fn_intro Try.func18 rfl Try.ntmps18 (Nat.le_of_ble_eq_true rfl) (fun s0 a0 hle F0 ok0 hargs => ?_)
 have p0 : At (Ty.int c) s0 a0 (.tmp 0) := by have e := hargs 0 _ rfl; show Ty.has _ _ _; rw [e]; exact Ty.up _ hle hv0
 have p1 : At (Ty.nat n) s0 a0 (.tmp 1) := by have e := hargs 1 _ rfl; show Ty.has _ _ _; rw [e]; exact Ty.up _ hle hv1
 clear hargs; refine wp_seq ?_
 refine rg a0 s0 [(Ty.int (0 : Int))] ok0 ⟨?_, trivial⟩ ?_
 · intro A B G H I; exact rP (y_assign rfl)
 intro a1 s1 D1; have ok1 := D1.ok; have F1 := F0.step0 D1.stp; have q1 := D1.kt p0 rfl; have q2 := D1.kt p1 rfl; clear D1; refine tn ?_; refine wp_seq ?_; refine wp_seq ?_
 refine rg a1 s1 [(Ty.int c), (Ty.bool (decide (c < (0 : Int))))] ok1 ⟨?_, ?_, trivial⟩ ?_
 · intro A B G H I; exact rP (y_move (kp (I 0 rfl) G q1))
 · intro A B G H I d0; exact rP (y_lss (ed d0 rfl rfl rfl) rfl)
 intro a2 s2 D2; have ok2 := D2.ok; have F2 := F1.step0 D2.stp; have q3 := D2.kt q1 rfl; have q4 := D2.kt q2 rfl; have q5 := D2.dn 1 rfl rfl; clear D2; refine tn ?_
 refine cond_p (p := (c < (0 : Int))) q5 (fun c1 => ?_) (fun c1 => ?_)
 ·
  refine rg a2 s2 [(Ty.int c), (Ty.int (c + (1 : Int))), (Ty.int (-(c + (1 : Int)))), (Ty.int (-(c + (1 : Int))))] ok2 ⟨?_, ?_, ?_, ?_, trivial⟩ ?_
  · intro A B G H I; exact rP (y_move (kp (I 0 rfl) G q3))
  · intro A B G H I d0; exact rP (y_add (ed d0 rfl rfl rfl) rfl (w64 (by omega) (by omega)))
  · intro A B G H I d0; exact rP (y_neg (ed d0 rfl rfl rfl) (w64 (by omega) (by omega)))
  · intro A B G H I d0 d1 d2 d3; exact rP (y_assign (ed d0 rfl rfl rfl))
  intro a3 s3 D3; have ok3 := D3.ok; have F3 := F2.step0 D3.stp; have q6 := D3.kt q4 rfl; have q7 := D3.dn 3 rfl rfl; clear D3; refine tn ?_; refine wp_seq ?_
  refine rg a3 s3 [(Ty.int (-(c + (1 : Int)))), (Ty.nat n), (Ty.nat (((-(c + (1 : Int)))).toNat % n)), (Ty.nat (((-(c + (1 : Int)))).toNat % n))] ok3 ⟨?_, ?_, ?_, ?_, trivial⟩ ?_
  · intro A B G H I; exact rP (y_move (kp (I 0 rfl) G q7))
  · intro A B G H I; exact rP (y_move (kp (I 1 rfl) G q6))
  · intro A B G H I d0 d1; exact rP (y_remN (toN (σ := B) (ed d0 rfl rfl rfl) (by omega)) (ed d1 rfl rfl rfl) (by omega))
  · intro A B G H I d0 d1 d2 d3; exact rP (y_assign (ed d0 rfl rfl rfl))
  intro a4 s4 D4; have ok4 := D4.ok; have F4 := F3.step0 D4.stp; have q8 := D4.dn 3 rfl rfl; clear D4; refine tn ?_; refine wp_ret ?_
  exact ret1 rfl ok4 F4 (cvi (by (unfold pick; rw [if_pos (by assumption)])) q8)
 ·
  refine wp_skip ?_
  refine tn ?_; refine wp_seq ?_
  refine rg a2 s2 [(Ty.int c), (Ty.nat n), (Ty.nat ((c).toNat % n)), (Ty.nat ((c).toNat % n))] ok2 ⟨?_, ?_, ?_, ?_, trivial⟩ ?_
  · intro A B G H I; exact rP (y_move (kp (I 0 rfl) G q3))
  · intro A B G H I; exact rP (y_move (kp (I 1 rfl) G q4))
  · intro A B G H I d0 d1; exact rP (y_remN (toN (σ := B) (ed d0 rfl rfl rfl) (by omega)) (ed d1 rfl rfl rfl) (by omega))
  · intro A B G H I d0 d1 d2 d3; exact rP (y_assign (ed d0 rfl rfl rfl))
  intro a5 s5 D5; have ok5 := D5.ok; have F5 := F2.step0 D5.stp; have q9 := D5.dn 3 rfl rfl; clear D5; refine tn ?_; refine wp_ret ?_
  exact ret1 rfl ok5 F5 (cvi (by (unfold pick; rw [if_neg (by assumption)])) q9)

theorem Try.inf3 : Info Try.prog 3 (.int .i64 0) 1 8 := by unfold Info; kernel_rfl
set_option maxRecDepth 100000 in
theorem raw_fn (raw : List Int) (k : Nat) (σ : GW) (v0 v1 : Value) (hv0 : Ty.has (Ty.lst Ty.int raw) σ v0) (hv1 : Ty.has (Ty.nat k) σ v1)  :
    FnC Try.prog 32 #[v0, v1] σ (Ty.int (rawAt raw k)) := by
 refine fn_intro Try.func32 rfl Try.ntmps32 (Nat.le_of_ble_eq_true rfl) (fun s0 a0 hle F0 ok0 hargs => ?_)
 have p0 : At (Ty.lst Ty.int raw) s0 a0 (.tmp 0) := by have e := hargs 0 _ rfl; show Ty.has _ _ _; rw [e]; exact Ty.up _ hle hv0
 have b1 := sl_le p0
 have p1 : At (Ty.nat k) s0 a0 (.tmp 1) := by have e := hargs 1 _ rfl; show Ty.has _ _ _; rw [e]; exact Ty.up _ hle hv1
 clear hargs; refine wp_seq ?_
 refine rg a0 s0 [(Ty.int (0 : Int))] ok0 ⟨?_, trivial⟩ ?_
 · intro A B G H I; exact rP (y_assign rfl)
 intro a1 s1 D1; have ok1 := D1.ok; have F1 := F0.step0 D1.stp; have q1 := D1.kt p0 rfl; have q2 := D1.kt p1 rfl; clear D1; refine tn ?_; refine wp_seq ?_; refine wp_seq ?_
 refine rg a1 s1 [(Ty.lst Ty.int raw), (Ty.nat (List.length raw)), (Ty.bool (decide ((((List.length raw) : Nat) : Int) = (0 : Int))))] ok1 ⟨?_, ?_, ?_, trivial⟩ ?_
 · intro A B G H I; exact rP (y_move (kp (I 0 rfl) G q1))
 · intro A B G H I d0; exact rP (y_len Try.underlying23 (ed d0 rfl rfl rfl))
 · intro A B G H I d0; exact rP (y_eql (ed d0 rfl rfl rfl) rfl)
 intro a2 s2 D2; have ok2 := D2.ok; have F2 := F1.step0 D2.stp; have q3 := D2.kt q1 rfl; have q4 := D2.kt q2 rfl; have q5 := D2.dn 2 rfl rfl; clear D2; refine tn ?_
 refine cond_p (p := ((((List.length raw) : Nat) : Int) = (0 : Int))) q5 (fun c1 => ?_) (fun c1 => ?_)
 ·
  refine wp_seq ?_
  refine rg a2 s2 [(Ty.int (0 : Int))] ok2 ⟨?_, trivial⟩ ?_
  · intro A B G H I; exact rP (y_assign rfl)
  intro a3 s3 D3; have ok3 := D3.ok; have F3 := F2.step0 D3.stp; have q6 := D3.dn 0 rfl rfl; clear D3; refine tn ?_; refine wp_ret ?_
  refine tr ?_
  exact ret1 rfl ok3 F3 (cvi (by (unfold rawAt; rw [if_pos (by omega)])) q6)
 ·
  have hml := Nat.mod_lt k (show 0 < raw.length by omega)
  refine wp_skip ?_
  refine tn ?_; refine wp_seq ?_
  refine rg a2 s2 [(Ty.lst Ty.int raw), (Ty.nat k), (Ty.lst Ty.int raw), (Ty.nat (List.length raw)), (Ty.nat (k % (List.length raw))), (Ty.ref [(Ty.int (raw.getD (k % (List.length raw)) 0))]), (Ty.int (raw.getD (k % (List.length raw)) 0)), (Ty.int (raw.getD (k % (List.length raw)) 0))] ok2 ⟨?_, ?_, ?_, ?_, ?_, ?_, ?_, ?_, trivial⟩ ?_
  · intro A B G H I; exact rP (y_move (kp (I 0 rfl) G q3))
  · intro A B G H I; exact rP (y_move (kp (I 1 rfl) G q4))
  · intro A B G H I; exact rP (y_move (kp (I 0 rfl) G q3))
  · intro A B G H I d0; exact rP (y_len Try.underlying23 (ed d0 rfl rfl rfl))
  · intro A B G H I d0 d1; exact rP (y_remN (ed d0 rfl rfl rfl) (ed d1 rfl rfl rfl) (by omega))
  · intro A B G H I d0 d1; exact rP (y_index1 Try.underlying23 Try.inf3 (ed d0 rfl rfl rfl) (ed d1 rfl rfl rfl) (by omega) (lst_get Ty.int raw 0 (k % (List.length raw)) (by omega)))
  · intro A B G H I d0; exact rP (y_load Try.underlying3 rfl (ed d0 rfl rfl rfl) rfl)
  · intro A B G H I d0 d1 d2 d3 d4 d5 d6 d7; exact rP (y_assign (ed d0 rfl rfl rfl))
  intro a4 s4 D4; have ok4 := D4.ok; have F4 := F2.step0 D4.stp; have q7 := D4.dn 7 rfl rfl; clear D4; refine tn ?_; refine wp_ret ?_
  exact ret1 rfl ok4 F4 (cvi (by (unfold rawAt; rw [if_neg (by omega)])) q7)


set_option maxHeartbeats 4000000 in
set_option maxRecDepth 100000 in
theorem rFact_fn : ∀ (m : Nat) (n : Nat) (σ : GW)  (v0 : Value) (hv0 : Ty.has (Ty.nat n) σ v0)  (hm : m = n) (hn : n ≤ 12), FnC Try.prog 34 #[v0] σ (Ty.nat (fct n)) := by
 intro m
 induction m using Nat.strongRecOn with
 | _ m ih =>
 intro n σ v0 hv0 hm hn
 refine fn_intro0 Try.func34 rfl Try.ntmps34 (Nat.le_of_ble_eq_true rfl) (fun s0 a0 hle F0 ok0 hargs => ?_)
 have p0 : At (Ty.nat n) s0 a0 (.tmp 0) := by have e := hargs 0 _ rfl; show Ty.has _ _ _; rw [e]; exact Ty.up _ hle hv0
 clear hargs; refine wp_seq ?_
 refine rg a0 s0 [(Ty.int (0 : Int))] ok0 ⟨?_, trivial⟩ ?_
 · intro A B G H I; exact rP (y_assign rfl)
 intro a1 s1 D1; have ok1 := D1.ok; have F1 := F0.step0 D1.stp; have q1 := D1.kt p0 rfl; clear D1; refine tn ?_; refine wp_seq ?_; refine wp_seq ?_
 refine rg a1 s1 [(Ty.nat n), (Ty.bool (decide (((n : Nat) : Int) < (2 : Int))))] ok1 ⟨?_, ?_, trivial⟩ ?_
 · intro A B G H I; exact rP (y_move (kp (I 0 rfl) G q1))
 · intro A B G H I d0; exact rP (y_lss (ed d0 rfl rfl rfl) rfl)
 intro a2 s2 D2; have ok2 := D2.ok; have F2 := F1.step0 D2.stp; have q2 := D2.kt q1 rfl; have q3 := D2.dn 1 rfl rfl; clear D2; refine tn ?_
 refine cond_p (p := (((n : Nat) : Int) < (2 : Int))) q3 (fun c1 => ?_) (fun c1 => ?_)
 ·
  refine wp_seq ?_
  refine rg a2 s2 [(Ty.int (1 : Int))] ok2 ⟨?_, trivial⟩ ?_
  · intro A B G H I; exact rP (y_assign rfl)
  intro a3 s3 D3; have ok3 := D3.ok; have F3 := F2.step0 D3.stp; have q4 := D3.dn 0 rfl rfl; clear D3; refine tn ?_; refine wp_ret ?_
  refine tr ?_
  exact retL1 rfl ok3 F3 (cvi (by (rw [fct_small (by omega)]; rfl)) q4)
 ·
  have hm2 : ((n : Nat) : Int) * ((fct (n - 1) : Nat) : Int) ≤ 479001600 ∧ 0 ≤ ((n : Nat) : Int) * ((fct (n - 1) : Nat) : Int) := (by have h1 := fct_le12 hn; have h2 := fct_rec (n := n) (by omega); rw [← Int.natCast_mul]; omega)
  refine wp_skip ?_
  refine tn ?_; refine wp_seq ?_
  refine rg a2 s2 [(Ty.nat n), (Ty.nat n), (Ty.nat (n - 1)), (Ty.nat (fct ((n - 1)))), (Ty.nat (n * (fct ((n - 1))))), (Ty.nat (n * (fct ((n - 1)))))] ok2 ⟨?_, ?_, ?_, ?_, ?_, ?_, trivial⟩ ?_
  · intro A B G H I; exact rP (y_move (kp (I 0 rfl) G q2))
  · intro A B G H I; exact rP (y_move (kp (I 0 rfl) G q2))
  · intro A B G H I d0; exact rP ((y_sub (ed d0 rfl rfl rfl) rfl (w64 (by omega) (by omega))).mono (fun τ _ h => cvi (σ := τ) (by omega) h))
  · intro A B G H I d0; exact rP (y_call #[A.eval (.tmp 7)] Try.func34 rfl rfl (by simp only [List.map_toArray, List.map_cons, List.map_nil]) (ih (((n - 1))) (by omega) ((n - 1)) _ _ (cvi (σ := B) (by omega) (ed d0 rfl rfl rfl)) (by omega) (by omega)))
  · intro A B G H I d0 d1; exact rP ((y_mul (ed d0 rfl rfl rfl) (ed d1 rfl rfl rfl) (w64 (by omega) (by omega))).mono (fun τ _ h => cvi (σ := τ) (by first | omega | exact (Int.natCast_mul _ _).symm) h))
  · intro A B G H I d0 d1 d2 d3 d4 d5 d6; exact rP (y_assign (ed d0 rfl rfl rfl))
  intro a4 s4 D4; have ok4 := D4.ok; have F4 := F2.step0 D4.stp; have q5 := D4.dn 5 rfl rfl; clear D4; refine tn ?_; refine wp_ret ?_
  exact retL1 rfl ok4 F4 (cvi (by (rw [fct_rec (by omega)])) q5)


set_option maxRecDepth 100000 in
theorem rRounds_fn (n : Nat) (σ : GW) (v0 : Value) (hv0 : Ty.has (Ty.nat n) σ v0) (hn : n ≤ 1000000) :
    FnC Try.prog 64 #[v0] σ (Ty.lst Ty.int (roundsL n)) := by
 refine fn_intro Try.func64 rfl Try.ntmps64 (Nat.le_of_ble_eq_true rfl) (fun s0 a0 hle F0 ok0 hargs => ?_)
 have p0 : At (Ty.nat n) s0 a0 (.tmp 0) := by have e := hargs 0 _ rfl; show Ty.has _ _ _; rw [e]; exact Ty.up _ hle hv0
 clear hargs; refine wp_seq ?_
 refine rg a0 s0 [(Ty.val (Value.slice none 0 0))] ok0 ⟨?_, trivial⟩ ?_
 · intro A B G H I; exact rP (y_assign rfl)
 intro a1 s1 D1; have ok1 := D1.ok; have F1 := F0.step0 D1.stp; have q1 := D1.kt p0 rfl; clear D1; refine tn ?_; refine wp_seq ?_
 refine rg a1 s1 [(Ty.val (Value.slice none 0 0))] ok1 ⟨?_, trivial⟩ ?_
 · intro A B G H I; exact rP (y_assign rfl)
 intro a2 s2 D2; have ok2 := D2.ok; have F2 := F1.step0 D2.stp; have q2 := D2.kt q1 rfl; have q3 := D2.dn 0 rfl rfl; clear D2; refine tn ?_; refine wp_seq ?_; refine wp_seq ?_
 refine rg a2 s2 [(Ty.int (0 : Int))] ok2 ⟨?_, trivial⟩ ?_
 · intro A B G H I; exact rP (y_assign rfl)
 intro a3 s3 D3; have ok3 := D3.ok; have F3 := F2.step0 D3.stp; have q4 := D3.kt q2 rfl; have q5 := D3.kt q3 rfl; have q6 := D3.dn 0 rfl rfl; clear D3; refine tn ?_
 refine wp_block ?_
 refine loop (fun n1 a4 w1 => ∃ (t1 : GW) (k : Nat), t1.w = w1 ∧ From s0 t1 ∧ Ok 15 a4 ∧ (Pr.own 2 3 1 (List.length (roundsL k)) (List.map Ty.int (roundsL k))).has t1 (a4.eval (.tmp 3)) ∧ At (Ty.nat k) t1 a4 (.tmp 4) ∧ At (Ty.nat n) t1 a4 (.tmp 0) ∧ (k ≤ n) ∧ n1 = n - k) (n - (0)) ?_ ?_
 ·
  exact ⟨s3, 0, rfl, F3, ok3, (by have e : a3.eval (.tmp 3) = _ := q5; rw [e]; exact Own.nil _ _ _ _), (cvi (by (first | rfl | omega | (simp_all; done) | (simp_all; omega))) q6), q4, by omega, rfl⟩
 ·
  rintro n2 a5 w2 ⟨t2, k, rfl, F4, ok4, q7, q8, q9, hk, rfl⟩
  have hp := roundsL_len k
  refine wp_seq ?_; refine wp_seq ?_
  refine reg (a := a5) (σ := t2) rfl (fun i_ => List.getD [(Ty.pr (Ty.nat k)), (Ty.pr (Ty.nat n)), (Ty.pr (Ty.bool (decide (((k : Nat) : Int) < ((n : Nat) : Int)))))] i_ Pr.any) ok4 rfl ⟨?_, ?_, ?_, trivial⟩ ?_
  · intro A B G H I; exact rP (y_move (kp (I 4 rfl) G q8))
  · intro A B G H I; exact rP (y_move (kp (I 0 rfl) G q9))
  · intro A B G H I d0 d1; exact rP (y_lss (ed d0 rfl rfl rfl) (ed d1 rfl rfl rfl))
  intro a6 s4 D4; have ok5 := D4.ok; have F5 := F4.step0 D4.stp
  have q10 : (Pr.own 2 3 1 (List.length (roundsL k)) (List.map Ty.int (roundsL k))).has s4 (a6.eval (.tmp 3)) := D4.ko q7 rfl
  have q11 := D4.kt q8 rfl; have q12 := D4.kt q9 rfl; have q13 := D4.dn 2 rfl rfl; clear D4; refine tn ?_
  refine cond_p (p := (((k : Nat) : Int) < ((n : Nat) : Int))) q13 (fun c1 => ?_) (fun c1 => ?_)
  ·
   refine wp_skip ?_
   refine tn ?_; refine wp_seq ?_
   refine wp_block ?_
   refine reg2 (a := a6) (σ := s4) rfl 3 (fun i_ => List.getD [(Ty.pr (Ty.val (a6.eval (.tmp 3)))), (Ty.pr (Ty.nat k)), (Ty.pr (Ty.sl 1 1 [(Ty.nat k)]))] i_ Pr.any) ok5 rfl (by decide) rfl ⟨?_, ?_, ?_, trivial⟩ ?_
   · intro A B G H I; exact rP (y_move (I 3 rfl))
   · intro A B G H I; exact rP (y_move (kp (I 4 rfl) G q11))
   · intro A B G H I d0; exact rP (y_build1o Try.underlying23 Try.inf3 rfl (one_val rfl) (ed d0 rfl rfl rfl))
   intro a7 s5 D5; have ok6 := D5.ok; have F6 := F5.step0 D5.stp; have q14 := (Pr.own 2 3 1 (List.length (roundsL k)) (List.map Ty.int (roundsL k))).up D5.stp q10
   have q15 : a7.eval (.tmp 3) = a6.eval (.tmp 3) := D5.same 3 rfl
   have q16 := D5.kt q11 rfl; have q17 := D5.kt q12 rfl; have q18 := D5.dn 0 (by decide) rfl rfl; have q19 := D5.dn 2 (by decide) rfl rfl; clear D5
   refine tail_step (m := 2) (R := (fun v τ => Own τ 2 3 1 v ((List.length (roundsL k)) + 1) ((List.map Ty.int (roundsL k)) ++ [(Ty.nat k)]))) rfl rfl (by decide) ok6 (m_append Try.underlying23 Try.inf3 (by decide) rfl (by decide) (al q18 q14) q19 (by intro U hU; simp at hU;  subst hU; exact one_val rfl) (by omega) (by omega)) (fun a8 s6 hs1 ok7 r1 sm1 => ?_)
   have F7 := F6.step hs1 (by decide)
   have q20 : At (Ty.nat k) s6 a8 (.tmp 4) := kpm hs1 (by decide) (sm1 4 (by decide)) q16
   have q21 : At (Ty.nat n) s6 a8 (.tmp 0) := kpm hs1 (by decide) (sm1 0 (by decide)) q17
   have q22 : At (Ty.sl 1 1 [(Ty.nat k)]) s6 a8 (.tmp 12) := kpm hs1 (by decide) (sm1 12 (by decide)) q19
   have q23 : (Pr.own 2 3 1 (List.length ((roundsL k) ++ [((k : Nat) : Int)])) (List.map Ty.int ((roundsL k) ++ [((k : Nat) : Int)]))).has s6 (a8.eval (.tmp 13)) := (cvo (by simp) (by first | (rw [List.map_append]; rfl) | simp) r1)
   refine tail_step (m := 0) (R := (fun v τ => Pr.has (Pr.own 2 3 1 (List.length ((roundsL k) ++ [((k : Nat) : Int)])) (List.map Ty.int ((roundsL k) ++ [((k : Nat) : Int)]))) τ v)) rfl rfl (by decide) ok7 (Yld.toM (y_assign q23)) (fun a9 s7 hs2 ok8 r2 sm2 => ?_)
   have F8 := F7.step hs2 (by decide)
   have q24 : At (Ty.nat k) s7 a9 (.tmp 4) := kpm hs2 (by decide) (sm2 4 (by decide)) q20
   have q25 : At (Ty.nat n) s7 a9 (.tmp 0) := kpm hs2 (by decide) (sm2 0 (by decide)) q21
   have q26 : At (Ty.sl 1 1 [(Ty.nat k)]) s7 a9 (.tmp 12) := kpm hs2 (by decide) (sm2 12 (by decide)) q22
   have q27 : (Pr.own 2 3 1 (List.length ((roundsL k) ++ [((k : Nat) : Int)])) (List.map Ty.int ((roundsL k) ++ [((k : Nat) : Int)]))).has s7 (a9.eval (.tmp 13)) := kpmo hs2 (by decide) (.inl rfl) (sm2 13 (by decide)) q23
   have q28 : (Pr.own 2 3 1 (List.length ((roundsL k) ++ [((k : Nat) : Int)])) (List.map Ty.int ((roundsL k) ++ [((k : Nat) : Int)]))).has s7 (a9.eval (.tmp 3)) := r2
   refine wpList_nil ?_; refine bn ?_; refine tn ?_
   refine rg a9 s7 [(Ty.nat k), (Ty.int (((k : Nat) : Int) + (1 : Int))), (Ty.int (((k : Nat) : Int) + (1 : Int)))] ok8 ⟨?_, ?_, ?_, trivial⟩ ?_
   · intro A B G H I; exact rP (y_move (kp (I 4 rfl) G q24))
   · intro A B G H I d0; exact rP (y_add (ed d0 rfl rfl rfl) rfl (w64 (by omega) (by omega)))
   · intro A B G H I d0 d1 d2; exact rP (y_assign (ed d0 rfl rfl rfl))
   intro a10 s8 D6; have ok9 := D6.ok; have F9 := F8.step0 D6.stp; have q29 := D6.kt q25 rfl
   have q30 : (Pr.own 2 3 1 (List.length ((roundsL k) ++ [((k : Nat) : Int)])) (List.map Ty.int ((roundsL k) ++ [((k : Nat) : Int)]))).has s8 (a10.eval (.tmp 3)) := D6.ko q28 rfl
   have q31 := D6.dn 2 rfl rfl; clear D6
   exact tn ⟨n - ((k+1)), by omega, s8, (k+1), rfl, F9, ok9, (cvo (by (rw [roundsL_succ k])) (by (rw [roundsL_succ k])) q30), (cvi (by (first | rfl | omega | (simp_all; done) | (simp_all; omega))) q31), q29, by omega, rfl⟩
  ·
   refine wp_exit ?_; refine tx ?_; refine tx ?_; refine bx ?_; refine tn ?_; refine wp_seq ?_
   refine rg a6 s4 [(Ty.val (a6.eval (.tmp 3))), (Ty.val (a6.eval (.tmp 3)))] ok5 ⟨?_, ?_, trivial⟩ ?_
   · intro A B G H I; exact rP (y_move (I 3 rfl))
   · intro A B G H I d0 d1; exact rP (y_assign (ed d0 rfl rfl rfl))
   intro a11 s9 D7; have ok10 := D7.ok; have F10 := F5.step0 D7.stp
   have q32 : (Pr.own 2 3 1 (List.length (roundsL k)) (List.map Ty.int (roundsL k))).has s9 (a11.eval (.tmp 2)) := al (show _ = _ from D7.done 1) ((Pr.own 2 3 1 (List.length (roundsL k)) (List.map Ty.int (roundsL k))).up D7.stp q10)
   clear D7; refine tn ?_; refine wp_ret ?_
   obtain ⟨t3, e1, h1, q33⟩ := Own.seal q32 (by decide)
   rw [← e1]
   have F11 := F10.step h1 (by decide)
   exact ret1 rfl ok10 F11 (cvt (by (obtain rfl : k = n := (by omega); rfl)) q33)


set_option maxHeartbeats 4000000 in
set_option maxRecDepth 100000 in
theorem rAt_fn (n : Nat) (k : Nat) (σ : GW)  (v0 v1 : Value) (hv0 : Ty.has (Ty.nat n) σ v0) (hv1 : Ty.has (Ty.nat k) σ v1)  (hn : n ≤ 12) (hk : k < fct n) :
    FnC Try.prog 35 #[v0, v1] σ (Ty.lst Ty.int (atL n k)) := by
 refine fn_intro0 Try.func35 rfl Try.ntmps35 (Nat.le_of_ble_eq_true rfl) (fun s0 a0 hle F0 ok0 hargs => ?_)
 have p0 : At (Ty.nat n) s0 a0 (.tmp 0) := by have e := hargs 0 _ rfl; show Ty.has _ _ _; rw [e]; exact Ty.up _ hle hv0
 have p1 : At (Ty.nat k) s0 a0 (.tmp 1) := by have e := hargs 1 _ rfl; show Ty.has _ _ _; rw [e]; exact Ty.up _ hle hv1
 clear hargs; refine wp_seq ?_
 refine rg a0 s0 [(Ty.val (Value.slice none 0 0))] ok0 ⟨?_, trivial⟩ ?_
 · intro A B G H I; exact rP (y_assign rfl)
 intro a1 s1 D1; have ok1 := D1.ok; have F1 := F0.step0 D1.stp; have q1 := D1.kt p0 rfl; have q2 := D1.kt p1 rfl; clear D1; refine tn ?_; refine wp_seq ?_
 refine rg a1 s1 [(Ty.val (Value.slice none 0 0))] ok1 ⟨?_, trivial⟩ ?_
 · intro A B G H I; exact rP (y_assign rfl)
 intro a2 s2 D2; have ok2 := D2.ok; have F2 := F1.step0 D2.stp; have q3 := D2.kt q1 rfl; have q4 := D2.kt q2 rfl; have q5 := D2.dn 0 rfl rfl; clear D2; refine tn ?_; refine wp_seq ?_
 refine rg a2 s2 [(Ty.nat n), (Ty.lst Ty.int (roundsL n)), (Ty.lst Ty.int (roundsL n))] ok2 ⟨?_, ?_, ?_, trivial⟩ ?_
 · intro A B G H I; exact rP (y_move (kp (I 0 rfl) G q3))
 · intro A B G H I d0; exact rP (y_call #[A.eval (.tmp 9)] Try.func64 rfl rfl (by simp only [List.map_toArray, List.map_cons, List.map_nil]) (rRounds_fn (n) _ _ (ed d0 rfl rfl rfl) (by omega)))
 · intro A B G H I d0 d1 d2 d3; exact rP (y_assign (ed d0 rfl rfl rfl))
 intro a3 s3 D3; have ok3 := D3.ok; have F3 := F2.step0 D3.stp; have q6 := D3.kt q4 rfl; have q7 := D3.kt q5 rfl; have q8 := D3.dn 2 rfl rfl; clear D3; refine tn ?_; refine wp_seq ?_
 refine wp_block ?_
 have o1 : Own s3 5 3 1 (Value.slice none 0 0) 0 (List.map Ty.int ([] : List Int)) := Own.nil _ _ _ _
 refine loop (fun n1 a4 w1 => ∃ (t1 : GW) (m : Nat) (lf : List Int) (q : Nat) (os : List Int) (x5_0 : Value), t1.w = w1 ∧ FromL [] s0 t1 ∧ Ok 42 a4 ∧ At (Ty.lst Ty.int lf) t1 a4 (.tmp 6) ∧ At (Ty.val x5_0) t1 a4 (.tmp 5) ∧ At (Ty.nat q) t1 a4 (.tmp 1) ∧ Own t1 5 3 1 x5_0 (List.length os) (List.map Ty.int os) ∧ (os ++ atF m lf q = atL n k) ∧ (q < fct m) ∧ (lf.length = m) ∧ (os.length + m = n) ∧ n1 = m + 1) ((n) + 1) ?_ ?_
 ·
  exact ⟨s3, n, (roundsL n), k, ([] : List Int), (Value.slice none 0 0), rfl, F3, ok3, (cvt (by (first | rfl | omega | (simp_all; done) | (simp_all; omega))) q8), q7, (cvi (by (first | rfl | omega | (simp_all; done) | (simp_all; omega))) q6), (cvo (by (simp)) (by (simp)) o1), rfl, by omega, roundsL_len _, by simp, rfl⟩
 ·
  rintro n2 a5 w2 ⟨t2, m, lf, q, os, x5_0, rfl, F4, ok4, q9, q10, q11, o2, hos, hq, hlf, hol, rfl⟩
  have hf12 := fct_le12 (n := m) (by omega)
  have hfp := fct_pos (m - 1)
  refine wp_seq ?_; refine wp_seq ?_
  refine reg (a := a5) (σ := t2) rfl (fun i_ => List.getD [(Ty.pr (Ty.lst Ty.int lf)), (Ty.pr (Ty.nat (List.length lf))), (Ty.pr (Ty.bool (decide ((0 : Int) < (((List.length lf) : Nat) : Int)))))] i_ Pr.any) ok4 rfl ⟨?_, ?_, ?_, trivial⟩ ?_
  · intro A B G H I; exact rP (y_move (kp (I 6 rfl) G q9))
  · intro A B G H I d0; exact rP (y_len Try.underlying23 (ed d0 rfl rfl rfl))
  · intro A B G H I d0; exact rP (y_gtr (ed d0 rfl rfl rfl) rfl)
  intro a6 s4 D4; have ok5 := D4.ok; have F5 := F4.step0 D4.stp; have q12 := D4.kt q9 rfl; have q13 := D4.kt q10 rfl; have q14 := D4.kt q11 rfl; have o3 := Own.k0 o2 D4.stp; have q15 := D4.dn 2 rfl rfl; clear D4; refine tn ?_
  refine cond_p (p := ((0 : Int) < (((List.length lf) : Nat) : Int))) q15 (fun c1 => ?_) (fun c1 => ?_)
  ·
   have hdv := at_div (m := m) (q := q) (by omega) hq; have hdn : (0 : Int) ≤ ((q / fct (m - 1) : Nat) : Int) := Int.natCast_nonneg _; have hmn : (0 : Int) ≤ ((q % fct (m - 1) : Nat) : Int) := Int.natCast_nonneg _; have htk1 : (List.take (q / fct (m - 1)) lf).length ≤ 12 := (by rw [List.length_take]; omega); have hdk1 : (List.drop (q / fct (m - 1) + 1) lf).length ≤ 12 := (by rw [List.length_drop]; omega)
   refine wp_skip ?_
   refine tn ?_
   refine wp_block ?_
   refine wp_seq ?_
   refine rg a6 s4 [(Ty.lst Ty.int lf), (Ty.nat (List.length lf)), (Ty.nat ((List.length lf) - 1)), (Ty.nat (fct (((List.length lf) - 1)))), (Ty.nat (fct (((List.length lf) - 1))))] ok5 ⟨?_, ?_, ?_, ?_, ?_, trivial⟩ ?_
   · intro A B G H I; exact rP (y_move (kp (I 6 rfl) G q12))
   · intro A B G H I d0; exact rP (y_len Try.underlying23 (ed d0 rfl rfl rfl))
   · intro A B G H I d0; exact rP ((y_sub (ed d0 rfl rfl rfl) rfl (w64 (by omega) (by omega))).mono (fun τ _ h => cvi (σ := τ) (by omega) h))
   · intro A B G H I d0; exact rP (y_call #[A.eval (.tmp 16)] Try.func34 rfl rfl (by simp only [List.map_toArray, List.map_cons, List.map_nil]) (rFact_fn ((((List.length lf) - 1))) (((List.length lf) - 1)) _ _ (cvi (σ := B) (by omega) (ed d0 rfl rfl rfl)) (by omega) (by omega)))
   · intro A B G H I d0 d1 d2 d3 d4 d5; exact rP (y_assign (ed d0 rfl rfl rfl))
   intro a7 s5 D5; have ok6 := D5.ok; have F6 := F5.step0 D5.stp; have q16 := D5.kt q12 rfl; have q17 := D5.kt q13 rfl; have q18 := D5.kt q14 rfl; have o4 := Own.k0 o3 D5.stp; have q19 := D5.dn 4 rfl rfl; clear D5
   have q20 : At (Ty.nat (fct (m - 1))) s5 a7 (.tmp 7) := (cvi (by (first | rw [hlf] | (have e : ((((List.length lf : Nat) : Int) - (1 : Int))).toNat = m - 1 := (by omega); rw [e]))) q19)
   refine tn ?_; refine wp_seq ?_
   refine rg a7 s5 [(Ty.nat q), (Ty.nat (fct (m - 1))), (Ty.nat (q / (fct (m - 1)))), (Ty.nat (q / (fct (m - 1))))] ok6 ⟨?_, ?_, ?_, ?_, trivial⟩ ?_
   · intro A B G H I; exact rP (y_move (kp (I 1 rfl) G q18))
   · intro A B G H I; exact rP (y_move (kp (I 7 rfl) G q20))
   · intro A B G H I d0 d1; exact rP (y_quoN (ed d0 rfl rfl rfl) (ed d1 rfl rfl rfl) (by omega) (by omega))
   · intro A B G H I d0 d1 d2 d3; exact rP (y_assign (ed d0 rfl rfl rfl))
   intro a8 s6 D6; have ok7 := D6.ok; have F7 := F6.step0 D6.stp; have q21 := D6.kt q16 rfl; have q22 := D6.kt q17 rfl; have q23 := D6.kt q18 rfl; have q24 := D6.kt q20 rfl; have o5 := Own.k0 o4 D6.stp; have q25 := D6.dn 3 rfl rfl; clear D6; refine tn ?_; refine wp_seq ?_
   refine rg a8 s6 [(Ty.nat q), (Ty.nat (fct (m - 1))), (Ty.nat (q % (fct (m - 1)))), (Ty.nat (q % (fct (m - 1))))] ok7 ⟨?_, ?_, ?_, ?_, trivial⟩ ?_
   · intro A B G H I; exact rP (y_move (kp (I 1 rfl) G q23))
   · intro A B G H I; exact rP (y_move (kp (I 7 rfl) G q24))
   · intro A B G H I d0 d1; exact rP (y_remN (ed d0 rfl rfl rfl) (ed d1 rfl rfl rfl) (by omega))
   · intro A B G H I d0 d1 d2 d3; exact rP (y_assign (ed d0 rfl rfl rfl))
   intro a9 s7 D7; have ok8 := D7.ok; have F8 := F7.step0 D7.stp; have q26 := D7.kt q21 rfl; have q27 := D7.kt q22 rfl; have q28 := D7.kt q25 rfl; have o6 := Own.k0 o5 D7.stp; have q29 := D7.dn 3 rfl rfl; clear D7; refine tn ?_; refine wp_seq ?_
   refine reg2 (a := a9) (σ := s7) rfl 6 (fun i_ => List.getD [(Ty.pr (Ty.val x5_0)), (Ty.pr (Ty.lst Ty.int lf)), (Ty.pr (Ty.nat (q / (fct (m - 1))))), (Ty.pr (Ty.ref [(Ty.int (lf.getD (q / (fct (m - 1))) 0))])), (Ty.pr (Ty.int (lf.getD (q / (fct (m - 1))) 0))), (Ty.pr (Ty.sl 1 1 [(Ty.int (lf.getD (q / (fct (m - 1))) 0))]))] i_ Pr.any) ok8 rfl (by decide) rfl ⟨?_, ?_, ?_, ?_, ?_, ?_, trivial⟩ ?_
   · intro A B G H I; exact rP (y_move (kp (I 5 rfl) G q27))
   · intro A B G H I; exact rP (y_move (kp (I 6 rfl) G q26))
   · intro A B G H I; exact rP (y_move (kp (I 8 rfl) G q28))
   · intro A B G H I d0 d1; exact rP (y_index1 Try.underlying23 Try.inf3 (ed d0 rfl rfl rfl) (ed d1 rfl rfl rfl) (by omega) (lst_get Ty.int lf 0 (q / (fct (m - 1))) (by omega)))
   · intro A B G H I d0; exact rP (y_load Try.underlying3 rfl (ed d0 rfl rfl rfl) rfl)
   · intro A B G H I d0; exact rP (y_build1o Try.underlying23 Try.inf3 rfl (one_val rfl) (ed d0 rfl rfl rfl))
   intro a10 s8 D8; have ok9 := D8.ok; have F9 := F8.step0 D8.stp; have q30 := D8.kt q26 rfl; have q31 := D8.kt q27 rfl; have q32 := D8.kt q28 rfl; have q33 := D8.kt q29 rfl; have o7 := Own.k0 o6 D8.stp
   have q34 : At (Ty.val x5_0) s8 a10 (.tmp 24) := D8.done 0 (by decide)
   have q35 := D8.dn 5 (by decide) rfl rfl
   have b1 := sl_le q35
   clear D8
   refine tailL (L := [5]) (R := (fun v τ => Own τ 5 3 1 v ((List.length os) + 1) ((List.map Ty.int os) ++ [(Ty.int (lf.getD (q / (fct (m - 1))) 0))]))) rfl rfl (by decide) ok9 (YldM.toL (m_append Try.underlying23 Try.inf3 (by decide) rfl (by decide) (al (R := (Pr.own 5 3 1 (List.length os) (List.map Ty.int os))) q34 o7) q35 (by intro U hU; simp at hU; subst hU; exact one_val rfl) (by omega) (by omega))) (fun a11 s9 hs1 ok10 r1 sm1 => ?_)
   have F10 := F9.stepL hs1 (by decide); have q36 := kpL hs1 (by decide) (sm1 6 (by decide)) q30; have q37 := kpL hs1 (by decide) (sm1 5 (by decide)) q31; have q38 := kpL hs1 (by decide) (sm1 8 (by decide)) q32; have q39 := kpL hs1 (by decide) (sm1 1 (by decide)) q33
   obtain ⟨x1, hx1⟩ : ∃ x, a11.eval (.tmp 30) = x := ⟨_, rfl⟩
   have q40 : At (Ty.val x1) s9 a11 (.tmp 30) := hx1
   have o8 : Own s9 5 3 1 x1 (List.length (os ++ [(lf.getD (q / (fct (m - 1))) 0)])) (List.map Ty.int (os ++ [(lf.getD (q / (fct (m - 1))) 0)])) := al2 (R := (Pr.own 5 3 1 (List.length (os ++ [(lf.getD (q / (fct (m - 1))) 0)])) (List.map Ty.int (os ++ [(lf.getD (q / (fct (m - 1))) 0)])))) hx1 (cvo (by simp) (by first | (rw [List.map_append]; rfl) | simp) r1)
   clear r1
   refine tailL (L := []) (R := (fun v τ => Pr.has (Ty.pr (Ty.val x1)) τ v)) rfl rfl (by decide) ok10 (Yld.toL (y_assign q40)) (fun a12 s10 hs2 ok11 r2 sm2 => ?_)
   have F11 := F10.stepL hs2 (by decide); have q41 := kpL hs2 (by decide) (sm2 6 (by decide)) q36; have q42 := kpL hs2 (by decide) (sm2 8 (by decide)) q38; have q43 := kpL hs2 (by decide) (sm2 1 (by decide)) q39; have o9 := Own.keepL o8 hs2 (by decide) (by decide)
   have q44 : At (Ty.val x1) s10 a12 (.tmp 5) := r2
   clear r2; refine wpList_nil ?_; refine tn ?_
   refine reg2 (a := a12) (σ := s10) rfl 9 (fun i_ => List.getD [(Pr.own0 7 3), (Ty.pr (Ty.lst Ty.int lf)), (Ty.pr (Ty.nat (q / (fct (m - 1))))), (Ty.pr (Ty.lst Ty.int (lf.take (q / (fct (m - 1)))))), (Pr.own 7 3 1 (List.length (lf.take (q / (fct (m - 1))))) (List.map Ty.int (lf.take (q / (fct (m - 1)))))), (Ty.pr (Ty.lst Ty.int lf)), (Ty.pr (Ty.nat (q / (fct (m - 1))))), (Ty.pr (Ty.nat ((q / (fct (m - 1))) + 1))), (Ty.pr (Ty.lst Ty.int (lf.drop ((q / (fct (m - 1))) + 1))))] i_ Pr.any) ok11 rfl (by decide) rfl ⟨?_, ?_, ?_, ?_, ?_, ?_, ?_, ?_, ?_, trivial⟩ ?_
   · intro A B G H I; exact rP (y_lit00 (k := 7) Try.underlying23 Try.inf3)
   · intro A B G H I; exact rP (y_move (kp (I 6 rfl) G q41))
   · intro A B G H I; exact rP (y_move (kp (I 8 rfl) G q42))
   · intro A B G H I d0 d1; exact rP (y_take Try.underlying23 Try.inf3 (ed d0 rfl rfl rfl) (ed d1 rfl rfl rfl) (by omega))
   · intro A B G H I d0 d1
     have e0 : (Pr.own0 7 3).has B (A.eval (.tmp 31)) := d0 rfl
     exact rP (y_append0 Try.underlying23 Try.inf3 (by decide) rfl e0 (ed d1 rfl rfl rfl) (one_map (fun _ => one_val rfl)) (by omega) (by omega))
   · intro A B G H I; exact rP (y_move (kp (I 6 rfl) G q41))
   · intro A B G H I; exact rP (y_move (kp (I 8 rfl) G q42))
   · intro A B G H I d0; exact rP ((y_add (ed d0 rfl rfl rfl) rfl (w64 (by omega) (by omega))).mono (fun τ _ h => cvi (σ := τ) (by first | omega | exact (Int.natCast_mul _ _).symm) h))
   · intro A B G H I d0 d1; exact rP (y_drop Try.underlying23 Try.inf3 (ed d0 rfl rfl rfl) (ed d1 rfl rfl rfl) (by omega))
   intro a13 s11 D9; have ok12 := D9.ok; have F12 := F11.step0 D9.stp; have q45 := D9.kt q41 rfl; have q46 := D9.kt q43 rfl; have q47 := D9.kt q44 rfl; have o10 := Own.k0 o9 D9.stp
   obtain ⟨x2, hx2⟩ : ∃ x, a13.eval (.tmp 35) = x := ⟨_, rfl⟩
   have q48 : At (Ty.val x2) s11 a13 (.tmp 35) := hx2
   have o11 : Own s11 7 3 1 x2 (List.length (lf.take (q / (fct (m - 1))))) (List.map Ty.int (lf.take (q / (fct (m - 1))))) := al2 (R := (Pr.own 7 3 1 (List.length (lf.take (q / (fct (m - 1))))) (List.map Ty.int (lf.take (q / (fct (m - 1))))))) hx2 (D9.done 4 (by decide))
   have q49 := D9.dn 8 (by decide) rfl rfl
   have b2 := sl_le q49
   clear D9
   refine tailL (L := [7]) (R := (fun v τ => Own τ 7 3 1 v ((List.length (lf.take (q / (fct (m - 1))))) + (List.length (lf.drop ((q / (fct (m - 1))) + 1)))) ((List.map Ty.int (lf.take (q / (fct (m - 1))))) ++ (List.map Ty.int (lf.drop ((q / (fct (m - 1))) + 1)))))) rfl rfl (by decide) ok12 (YldM.toL (m_append Try.underlying23 Try.inf3 (by decide) rfl (by decide) (al (R := (Pr.own 7 3 1 (List.length (lf.take (q / (fct (m - 1))))) (List.map Ty.int (lf.take (q / (fct (m - 1))))))) q48 o11) q49 (one_map (fun _ => one_val rfl)) (by omega) (by omega))) (fun a14 s12 hs3 ok13 r3 sm3 => ?_)
   have F13 := F12.stepL hs3 (by decide); have q50 := kpL hs3 (by decide) (sm3 6 (by decide)) q45; have q51 := kpL hs3 (by decide) (sm3 1 (by decide)) q46; have q52 := kpL hs3 (by decide) (sm3 5 (by decide)) q47; have o13 := Own.keepL o10 hs3 (by decide) (by decide)
   obtain ⟨x3, hx3⟩ : ∃ x, a14.eval (.tmp 40) = x := ⟨_, rfl⟩
   have q53 : At (Ty.val x3) s12 a14 (.tmp 40) := hx3
   have o12 : Own s12 7 3 1 x3 (List.length ((lf.take (q / (fct (m - 1)))) ++ (lf.drop ((q / (fct (m - 1))) + 1)))) (List.map Ty.int ((lf.take (q / (fct (m - 1)))) ++ (lf.drop ((q / (fct (m - 1))) + 1)))) := al2 (R := (Pr.own 7 3 1 (List.length ((lf.take (q / (fct (m - 1)))) ++ (lf.drop ((q / (fct (m - 1))) + 1)))) (List.map Ty.int ((lf.take (q / (fct (m - 1)))) ++ (lf.drop ((q / (fct (m - 1))) + 1)))))) hx3 (cvo (by simp) (by first | (rw [List.map_append]; rfl) | simp) r3)
   clear r3
   refine tailL (L := []) (R := (fun v τ => Pr.has (Ty.pr (Ty.val x3)) τ v)) rfl rfl (by decide) ok13 (Yld.toL (y_assign q53)) (fun a15 s13 hs4 ok14 r4 sm4 => ?_)
   have F14 := F13.stepL hs4 (by decide); have q54 := kpL hs4 (by decide) (sm4 1 (by decide)) q51; have q55 := kpL hs4 (by decide) (sm4 5 (by decide)) q52; have o14 := Own.keepL o13 hs4 (by decide) (by decide); have o15 := Own.keepL o12 hs4 (by decide) (by decide)
   have q56 : At (Ty.val x3) s13 a15 (.tmp 6) := r4
   clear r4; refine wpList_nil ?_; refine bn ?_
   obtain ⟨t3, e1, h1, q57⟩ := Own.seal o15 (by decide)
   rw [← e1]
   have F15 := F14.step h1 (by decide); have o16 := Own.keepL o14 (h1.toL (L := [7]) (by simp)) (by decide) (by decide); have q58 := Ty.up (Ty.nat (q % (fct (m - 1)))) (h1.le (by decide)) q54; have q59 := Ty.up (Ty.val x1) (h1.le (by decide)) q55
   have q60 : At (Ty.lst Ty.int ((lf.take (q / (fct (m - 1)))) ++ (lf.drop ((q / (fct (m - 1))) + 1)))) t3 a15 (.tmp 6) := by have e : a15.eval (.tmp 6) = x3 := q56; show Ty.has _ _ _; rw [e]; exact q57
   exact tn ⟨((m - 1)) + 1, by omega, t3, (m - 1), (lf.eraseIdx (q / (fct (m - 1)))), (q % (fct (m - 1))), (os ++ [lf.getD (q / (fct (m - 1))) 0]), x1, rfl, F15, ok14, (cvt (by (rw [erase_eq])) q60), q59, (cvi (by (first | rfl | omega | (simp_all; done) | (simp_all; omega))) q58), (cvo (by (simp)) (by (simp)) o16), at_step hos (by omega), hdv.2, by rw [List.length_eraseIdx, if_pos (by omega)]; omega, by rw [List.length_append, List.length_singleton]; omega, rfl⟩
  ·
   refine wp_exit ?_; refine tx ?_; refine tx ?_; refine bx ?_; refine tn ?_; refine wp_seq ?_
   refine rg a6 s4 [(Ty.val x5_0), (Ty.val x5_0)] ok5 ⟨?_, ?_, trivial⟩ ?_
   · intro A B G H I; exact rP (y_move (kp (I 5 rfl) G q13))
   · intro A B G H I d0 d1; exact rP (y_assign (ed d0 rfl rfl rfl))
   intro a16 s14 D10; have ok15 := D10.ok; have F16 := F5.step0 D10.stp; have o17 := Own.k0 o3 D10.stp
   have q61 : At (Ty.val x5_0) s14 a16 (.tmp 4) := D10.done 1
   clear D10; refine tn ?_; refine wp_ret ?_
   obtain ⟨t4, e2, h2, q62⟩ := Own.seal o17 (by decide)
   rw [← e2]
   have F17 := F16.step h2 (by decide)
   have q63 : At (Ty.lst Ty.int os) t4 a16 (.tmp 4) := by have e : a16.eval (.tmp 4) = x5_0 := q61; show Ty.has _ _ _; rw [e]; exact q62
   exact retL1 rfl ok15 F17 (cvt (by (rw [← hos, show m = 0 by omega, atF, List.append_nil])) q63)


set_option maxHeartbeats 4000000 in
set_option maxRecDepth 100000 in
theorem rRowOf_fn (c : Int) (n : Nat) (σ : GW)  (v0 v1 : Value) (hv0 : Ty.has (Ty.int c) σ v0) (hv1 : Ty.has (Ty.nat n) σ v1)  (hc : -9223372036854775808 ≤ c ∧ c ≤ 9223372036854775807) (hn : 1 ≤ n ∧ n ≤ 12) :
    FnC Try.prog 31 #[v0, v1] σ (Ty.lst Ty.int (atL n (pick c (fct n)))) := by
 have hfp := fct_pos n
 have hpl := pick_lt c (n := fct n) hfp
 refine fn_intro0 Try.func31 rfl Try.ntmps31 (Nat.le_of_ble_eq_true rfl) (fun s0 a0 hle F0 ok0 hargs => ?_)
 have p0 : At (Ty.int c) s0 a0 (.tmp 0) := by have e := hargs 0 _ rfl; show Ty.has _ _ _; rw [e]; exact Ty.up _ hle hv0
 have p1 : At (Ty.nat n) s0 a0 (.tmp 1) := by have e := hargs 1 _ rfl; show Ty.has _ _ _; rw [e]; exact Ty.up _ hle hv1
 clear hargs; refine wp_seq ?_
 refine rg a0 s0 [(Ty.val (Value.slice none 0 0))] ok0 ⟨?_, trivial⟩ ?_
 · intro A B G H I; exact rP (y_assign rfl)
 intro a1 s1 D1; have ok1 := D1.ok; have F1 := F0.step0 D1.stp; have q1 := D1.kt p0 rfl; have q2 := D1.kt p1 rfl; clear D1; refine tn ?_; refine wp_seq ?_
 refine rg a1 s1 [(Ty.nat n), (Ty.int c), (Ty.nat n), (Ty.nat (fct n)), (Ty.nat (pick c ((fct n)))), (Ty.lst Ty.int (atL n ((pick c ((fct n)))))), (Ty.lst Ty.int (atL n ((pick c ((fct n))))))] ok1 ⟨?_, ?_, ?_, ?_, ?_, ?_, ?_, trivial⟩ ?_
 · intro A B G H I; exact rP (y_move (kp (I 1 rfl) G q2))
 · intro A B G H I; exact rP (y_move (kp (I 0 rfl) G q1))
 · intro A B G H I; exact rP (y_move (kp (I 1 rfl) G q2))
 · intro A B G H I d0; exact rP (y_call #[A.eval (.tmp 7)] Try.func34 rfl rfl (by simp only [List.map_toArray, List.map_cons, List.map_nil]) (rFact_fn (n) (n) _ _ (ed d0 rfl rfl rfl) (by omega) (by omega)))
 · intro A B G H I d0 d1 d2; exact rP (y_call #[A.eval (.tmp 6), A.eval (.tmp 8)] Try.func18 rfl rfl (by simp only [List.map_toArray, List.map_cons, List.map_nil]) (pick_fn (c) ((fct n)) _ _ _ (ed d0 rfl rfl rfl) (cvi (σ := B) (by omega) (ed d1 rfl rfl rfl)) (by omega) (by omega)))
 · intro A B G H I d0 d1 d2; exact rP (y_call #[A.eval (.tmp 5), A.eval (.tmp 9)] Try.func35 rfl rfl (by simp only [List.map_toArray, List.map_cons, List.map_nil]) (rAt_fn (n) ((pick c ((fct n)))) _ _ _ (ed d0 rfl rfl rfl) (cvi (σ := B) (by first | omega | assumption) (ed d1 rfl rfl rfl)) (by first | omega | assumption) (by first | omega | assumption)))
 · intro A B G H I d0 d1 d2 d3 d4 d5 d6 d7; exact rP (y_assign (ed d0 rfl rfl rfl))
 intro a2 s2 D2; have ok2 := D2.ok; have F2 := F1.step0 D2.stp; have q3 := D2.dn 6 rfl rfl; clear D2; refine tn ?_; refine wp_ret ?_
 exact retL1 rfl ok2 F2 (cvt (by (first | rfl | omega | (simp_all; done) | (simp_all; omega))) q3)


set_option maxHeartbeats 4000000 in
set_option maxRecDepth 100000 in
theorem rSignOf_fn (b : Int) (σ : GW)  (v0 : Value) (hv0 : Ty.has (Ty.int b) σ v0)  (hb : 0 ≤ b ∧ b < 12) :
    FnC Try.prog 33 #[v0] σ (Ty.val (Value.string (ByteArray.extract SIGNS (b).toNat (b + 1).toNat))) := by
 have hsz := signs_size
 refine fn_intro0 Try.func33 rfl Try.ntmps33 (Nat.le_of_ble_eq_true rfl) (fun s0 a0 hle F0 ok0 hargs => ?_)
 have p0 : At (Ty.int b) s0 a0 (.tmp 0) := by have e := hargs 0 _ rfl; show Ty.has _ _ _; rw [e]; exact Ty.up _ hle hv0
 clear hargs; refine wp_seq ?_
 refine rg a0 s0 [(Ty.val (Value.string (ByteArray.mk #[])))] ok0 ⟨?_, trivial⟩ ?_
 · intro A B G H I; exact rP (y_assign rfl)
 intro a1 s1 D1; have ok1 := D1.ok; have F1 := F0.step0 D1.stp; have q1 := D1.kt p0 rfl; clear D1; refine tn ?_; refine wp_seq ?_
 refine rg a1 s1 [(Ty.int b), (Ty.int b), (Ty.int (b + (1 : Int))), (Ty.val (Value.string (ByteArray.extract SIGNS (b).toNat ((b + (1 : Int))).toNat))), (Ty.val (Value.string (ByteArray.extract SIGNS (b).toNat ((b + (1 : Int))).toNat)))] ok1 ⟨?_, ?_, ?_, ?_, ?_, trivial⟩ ?_
 · intro A B G H I; exact rP (y_move (kp (I 0 rfl) G q1))
 · intro A B G H I; exact rP (y_move (kp (I 0 rfl) G q1))
 · intro A B G H I d0; exact rP (y_add (ed d0 rfl rfl rfl) rfl (w64 (by omega) (by omega)))
 · intro A B G H I d0 d1; exact rP (y_sft (l := (b).toNat) (h := ((b + (1 : Int))).toNat) Try.underlying9 rfl (toN (σ := B) (ed d0 rfl rfl rfl) (by omega)) (toN (σ := B) (ed d1 rfl rfl rfl) (by omega)) (by omega) (by omega))
 · intro A B G H I d0 d1 d2 d3 d4; exact rP (y_assign (ed d0 rfl rfl rfl))
 intro a2 s2 D2; have ok2 := D2.ok; have F2 := F1.step0 D2.stp; have q2 := D2.dn 4 rfl rfl; clear D2; refine tn ?_; refine wp_ret ?_
 exact retL1 rfl ok2 F2 (cvt (by (first | rfl | omega | (simp_all; done) | (simp_all; omega))) q2)


set_option maxHeartbeats 4000000 in
set_option maxRecDepth 100000 in
theorem slIndexByte_fn (s : ByteArray) (c : Int) (σ : GW)  (v0 v1 : Value) (hv0 : Ty.has (Ty.val (Value.string s)) σ v0) (hv1 : Ty.has (Ty.val (Value.int .u8 c)) σ v1)   :
    FnC Try.prog 132 #[v0, v1] σ (Ty.int (Lib.indexByte (ByteArray.data s).toList (c).toNat.toUInt8)) := by
 refine fn_intro0 Try.func132 rfl Try.ntmps132 (Nat.le_of_ble_eq_true rfl) (fun s0 a0 hle F0 ok0 hargs => ?_)
 have p0 : At (Ty.val (Value.string s)) s0 a0 (.tmp 0) := by have e := hargs 0 _ rfl; show Ty.has _ _ _; rw [e]; exact Ty.up _ hle hv0
 have p1 : At (Ty.val (Value.int .u8 c)) s0 a0 (.tmp 1) := by have e := hargs 1 _ rfl; show Ty.has _ _ _; rw [e]; exact Ty.up _ hle hv1
 clear hargs; refine wp_seq ?_
 refine rg a0 s0 [(Ty.int (0 : Int))] ok0 ⟨?_, trivial⟩ ?_
 · intro A B G H I; exact rP (y_assign rfl)
 intro a1 s1 D1; have ok1 := D1.ok; have F1 := F0.step0 D1.stp; have q1 := D1.kt p0 rfl; have q2 := D1.kt p1 rfl; clear D1; refine tn ?_; refine wp_seq ?_
 refine rg a1 s1 [(Ty.val (Value.string s)), (Ty.val (Value.int .u8 c)), (Ty.int (Lib.indexByte (ByteArray.data s).toList (c).toNat.toUInt8)), (Ty.int (Lib.indexByte (ByteArray.data s).toList (c).toNat.toUInt8))] ok1 ⟨?_, ?_, ?_, ?_, trivial⟩ ?_
 · intro A B G H I; exact rP (y_move (kp (I 0 rfl) G q1))
 · intro A B G H I; exact rP (y_move (kp (I 1 rfl) G q2))
 · intro A B G H I d0 d1; exact rP (y_extern (R := (Ty.int (Lib.indexByte (ByteArray.data s).toList (c).toNat.toUInt8))) #[(Value.string s), (Value.int .u8 c)] (by simp only [List.map_toArray, List.map_cons, List.map_nil, (show A.eval (.tmp 5) = _ from (ed d0 rfl rfl rfl)), (show A.eval (.tmp 6) = _ from (ed d1 rfl rfl rfl))]) (by rw [run_callFunc_extern Try.func133 (by kernel_rfl) (by kernel_rfl) (by kernel_rfl) (e := Extern.BytealgIndexByte.indexByte) (by kernel_rfl), Lib.run_indexByteString]; rfl) rfl)
 · intro A B G H I d0 d1 d2 d3 d4; exact rP (y_assign (ed d0 rfl rfl rfl))
 intro a2 s2 D2; have ok2 := D2.ok; have F2 := F1.step0 D2.stp; have q3 := D2.dn 3 rfl rfl; clear D2; refine tn ?_; refine wp_ret ?_
 exact retL1 rfl ok2 F2 q3


set_option maxHeartbeats 4000000 in
set_option maxRecDepth 100000 in
theorem sIndexByte_fn (s : ByteArray) (c : Int) (σ : GW)  (v0 v1 : Value) (hv0 : Ty.has (Ty.val (Value.string s)) σ v0) (hv1 : Ty.has (Ty.val (Value.int .u8 c)) σ v1)   :
    FnC Try.prog 124 #[v0, v1] σ (Ty.int (Lib.indexByte (ByteArray.data s).toList (c).toNat.toUInt8)) := by
 refine fn_intro0 Try.func124 rfl Try.ntmps124 (Nat.le_of_ble_eq_true rfl) (fun s0 a0 hle F0 ok0 hargs => ?_)
 have p0 : At (Ty.val (Value.string s)) s0 a0 (.tmp 0) := by have e := hargs 0 _ rfl; show Ty.has _ _ _; rw [e]; exact Ty.up _ hle hv0
 have p1 : At (Ty.val (Value.int .u8 c)) s0 a0 (.tmp 1) := by have e := hargs 1 _ rfl; show Ty.has _ _ _; rw [e]; exact Ty.up _ hle hv1
 clear hargs; refine wp_seq ?_
 refine rg a0 s0 [(Ty.int (0 : Int))] ok0 ⟨?_, trivial⟩ ?_
 · intro A B G H I; exact rP (y_assign rfl)
 intro a1 s1 D1; have ok1 := D1.ok; have F1 := F0.step0 D1.stp; have q1 := D1.kt p0 rfl; have q2 := D1.kt p1 rfl; clear D1; refine tn ?_; refine wp_seq ?_
 refine rg a1 s1 [(Ty.val (Value.string s)), (Ty.val (Value.int .u8 c)), (Ty.int (Lib.indexByte (ByteArray.data s).toList (c).toNat.toUInt8)), (Ty.int (Lib.indexByte (ByteArray.data s).toList (c).toNat.toUInt8))] ok1 ⟨?_, ?_, ?_, ?_, trivial⟩ ?_
 · intro A B G H I; exact rP (y_move (kp (I 0 rfl) G q1))
 · intro A B G H I; exact rP (y_move (kp (I 1 rfl) G q2))
 · intro A B G H I d0 d1; exact rP (y_call #[A.eval (.tmp 5), A.eval (.tmp 6)] Try.func132 rfl rfl (by simp only [List.map_toArray, List.map_cons, List.map_nil]) (slIndexByte_fn (s) (c) _ _ _ (ed d0 rfl rfl rfl) (ed d1 rfl rfl rfl) ))
 · intro A B G H I d0 d1 d2 d3 d4; exact rP (y_assign (ed d0 rfl rfl rfl))
 intro a2 s2 D2; have ok2 := D2.ok; have F2 := F1.step0 D2.stp; have q3 := D2.dn 3 rfl rfl; clear D2; refine tn ?_; refine wp_ret ?_
 exact retL1 rfl ok2 F2 q3


set_option maxHeartbeats 4000000 in
set_option maxRecDepth 100000 in
theorem validRune_fn (r : Int) (σ : GW)  (v0 : Value) (hv0 : Ty.has (Ty.val (Value.int .i32 r)) σ v0)   :
    FnC Try.prog 125 #[v0] σ (Ty.bool (Utf8.valid r)) := by
 refine fn_intro0 Try.func125 rfl Try.ntmps125 (Nat.le_of_ble_eq_true rfl) (fun s0 a0 hle F0 ok0 hargs => ?_)
 have p0 : At (Ty.val (Value.int .i32 r)) s0 a0 (.tmp 0) := by have e := hargs 0 _ rfl; show Ty.has _ _ _; rw [e]; exact Ty.up _ hle hv0
 clear hargs; refine wp_seq ?_
 refine rg a0 s0 [(Ty.bool false)] ok0 ⟨?_, trivial⟩ ?_
 · intro A B G H I; exact rP (y_assign rfl)
 intro a1 s1 D1; have ok1 := D1.ok; have F1 := F0.step0 D1.stp; have q1 := D1.kt p0 rfl; clear D1; refine tn ?_; refine wp_seq ?_
 refine wp_block ?_
 refine wp_seq ?_
 refine rg a1 s1 [(Ty.val (Value.int .i32 r)), (Ty.bool (decide ((0 : Int) ≤ r))), (Ty.bool (decide ((0 : Int) ≤ r))), (Ty.grd ((decide ((0 : Int) ≤ r)) = true) (Ty.val (Value.int .i32 r))), (Ty.grd ((decide ((0 : Int) ≤ r)) = true) (Ty.bool (decide (r < (55296 : Int))))), (Ty.bool ((decide ((0 : Int) ≤ r)) && (decide (r < (55296 : Int))))), (Ty.bool ((decide ((0 : Int) ≤ r)) && (decide (r < (55296 : Int)))))] ok1 ⟨?_, ?_, ?_, ?_, ?_, ?_, ?_, trivial⟩ ?_
 · intro A B G H I; exact rP (y_move (kp (I 0 rfl) G q1))
 · intro A B G H I d0; exact rP (y_leq rfl (ed d0 rfl rfl rfl))
 · intro A B G H I d0; exact rP (y_move (ed d0 rfl rfl rfl))
 · intro A B G H I d0
   refine run_guard H rfl rfl (by decide) (ed d0 rfl rfl rfl) (fun hg => ?_)
   have hp := of_decide_eq_true hg
   exact y_move (kp (I 0 rfl) G q1)
 · intro A B G H I d0 d1
   refine run_guard H rfl rfl (by decide) (ed d1 rfl rfl rfl) (fun hg => ?_)
   have hp := of_decide_eq_true hg
   exact y_lss ((ed d0 rfl rfl rfl).1 hg) rfl
 · intro A B G H I d0 d1; exact rP (y_pick_and (ed d0 rfl rfl rfl) (ed d1 rfl rfl rfl) rfl)
 · intro A B G H I d0 d1; exact rP (y_assign (ed d0 rfl rfl rfl))
 intro a2 s2 D2; have ok2 := D2.ok; have F2 := F1.step0 D2.stp; have q2 := D2.kt q1 rfl; have q3 := D2.dn 6 rfl rfl; clear D2; refine tn ?_
 refine cond_t q3 (fun c1 => ?_) (fun c1 => ?_)
 ·
  obtain ⟨d1, d2⟩ := Bool.and_eq_true_iff.mp c1
  replace d1 := of_decide_eq_true d1
  replace d2 := of_decide_eq_true d2
  refine wp_seq ?_
  refine rg a2 s2 [(Ty.bool true)] ok2 ⟨?_, trivial⟩ ?_
  · intro A B G H I; exact rP (y_assign rfl)
  intro a3 s3 D3; have ok3 := D3.ok; have F3 := F2.step0 D3.stp; have q4 := D3.dn 0 rfl rfl; clear D3; refine tn ?_; refine wp_ret ?_
  refine br ?_
  refine tr ?_
  exact retL1 rfl ok3 F3 (cvb (by (simp only [Bool.and_eq_true, decide_eq_true_eq] at c1; unfold Utf8.valid; rw [decide_eq_true (show 0 ≤ r by omega), decide_eq_true (show r < 0xD800 by omega)]; rfl)) q4)
 ·
  refine wp_seq ?_
  refine rg a2 s2 [(Ty.val (Value.int .i32 r)), (Ty.bool (decide ((57343 : Int) < r))), (Ty.bool (decide ((57343 : Int) < r))), (Ty.grd ((decide ((57343 : Int) < r)) = true) (Ty.val (Value.int .i32 r))), (Ty.grd ((decide ((57343 : Int) < r)) = true) (Ty.bool (decide (r ≤ (1114111 : Int))))), (Ty.bool ((decide ((57343 : Int) < r)) && (decide (r ≤ (1114111 : Int))))), (Ty.bool ((decide ((57343 : Int) < r)) && (decide (r ≤ (1114111 : Int)))))] ok2 ⟨?_, ?_, ?_, ?_, ?_, ?_, ?_, trivial⟩ ?_
  · intro A B G H I; exact rP (y_move (kp (I 0 rfl) G q2))
  · intro A B G H I d0; exact rP (y_lss rfl (ed d0 rfl rfl rfl))
  · intro A B G H I d0; exact rP (y_move (ed d0 rfl rfl rfl))
  · intro A B G H I d0
    refine run_guard H rfl rfl (by decide) (ed d0 rfl rfl rfl) (fun hg => ?_)
    have hp := of_decide_eq_true hg
    exact y_move (kp (I 0 rfl) G q2)
  · intro A B G H I d0 d1
    refine run_guard H rfl rfl (by decide) (ed d1 rfl rfl rfl) (fun hg => ?_)
    have hp := of_decide_eq_true hg
    exact y_leq ((ed d0 rfl rfl rfl).1 hg) rfl
  · intro A B G H I d0 d1; exact rP (y_pick_and (ed d0 rfl rfl rfl) (ed d1 rfl rfl rfl) rfl)
  · intro A B G H I d0 d1; exact rP (y_assign (ed d0 rfl rfl rfl))
  intro a4 s4 D4; have ok4 := D4.ok; have F4 := F2.step0 D4.stp; have q5 := D4.dn 6 rfl rfl; clear D4; refine tn ?_
  refine cond_t q5 (fun c2 => ?_) (fun c2 => ?_)
  ·
   obtain ⟨d3, d4⟩ := Bool.and_eq_true_iff.mp c2
   replace d3 := of_decide_eq_true d3
   replace d4 := of_decide_eq_true d4
   refine wp_seq ?_
   refine rg a4 s4 [(Ty.bool true)] ok4 ⟨?_, trivial⟩ ?_
   · intro A B G H I; exact rP (y_assign rfl)
   intro a5 s5 D5; have ok5 := D5.ok; have F5 := F4.step0 D5.stp; have q6 := D5.dn 0 rfl rfl; clear D5; refine tn ?_; refine wp_ret ?_
   refine br ?_
   refine tr ?_
   exact retL1 rfl ok5 F5 (cvb (by (simp only [Bool.and_eq_true, decide_eq_true_eq] at c2; unfold Utf8.valid; rw [decide_eq_true (show 0xE000 ≤ r by omega), decide_eq_true (show r ≤ 0x10FFFF by omega)]; simp)) q6)
  ·
   refine wp_skip ?_
   refine bn ?_; refine tn ?_; refine wp_seq ?_
   refine rg a4 s4 [(Ty.bool false)] ok4 ⟨?_, trivial⟩ ?_
   · intro A B G H I; exact rP (y_assign rfl)
   intro a6 s6 D6; have ok6 := D6.ok; have F6 := F4.step0 D6.stp; have q7 := D6.dn 0 rfl rfl; clear D6; refine tn ?_; refine wp_ret ?_
   exact retL1 rfl ok6 F6 (cvb (by (simp only [Bool.and_eq_false_iff, decide_eq_false_iff_not] at c1 c2; unfold Utf8.valid; refine Eq.symm (Bool.or_eq_false_iff.2 ⟨?_, ?_⟩) <;> simp only [Bool.and_eq_false_iff, decide_eq_false_iff_not] <;> omega)) q7)


set_option maxHeartbeats 4000000 in
set_option maxRecDepth 100000 in
theorem idxRune_fn (r : Int) (σ : GW)  (v0 v1 : Value) (hv0 : Ty.has (Ty.val (Value.string SIGNS)) σ v0) (hv1 : Ty.has (Ty.val (Value.int .i32 r)) σ v1)  (hr : -2147483648 ≤ r ∧ r ≤ 2147483647) :
    FnC Try.prog 115 #[v0, v1] σ (Ty.int (signIdx r)) := by
 have hsz := signs_size
 refine fn_intro0 Try.func115 rfl Try.ntmps115 (Nat.le_of_ble_eq_true rfl) (fun s0 a0 hle F0 ok0 hargs => ?_)
 have p0 : At (Ty.val (Value.string SIGNS)) s0 a0 (.tmp 0) := by have e := hargs 0 _ rfl; show Ty.has _ _ _; rw [e]; exact Ty.up _ hle hv0
 have p1 : At (Ty.val (Value.int .i32 r)) s0 a0 (.tmp 1) := by have e := hargs 1 _ rfl; show Ty.has _ _ _; rw [e]; exact Ty.up _ hle hv1
 clear hargs; refine wp_seq ?_
 refine rg a0 s0 [(Ty.int (0 : Int))] ok0 ⟨?_, trivial⟩ ?_
 · intro A B G H I; exact rP (y_assign rfl)
 intro a1 s1 D1; have ok1 := D1.ok; have F1 := F0.step0 D1.stp; have q1 := D1.kt p0 rfl; have q2 := D1.kt p1 rfl; clear D1; refine tn ?_
 refine wp_block ?_
 refine wp_seq ?_
 refine rg a1 s1 [(Ty.val (Value.int .i32 r)), (Ty.bool (decide ((0 : Int) ≤ r))), (Ty.bool (decide ((0 : Int) ≤ r))), (Ty.grd ((decide ((0 : Int) ≤ r)) = true) (Ty.val (Value.int .i32 r))), (Ty.grd ((decide ((0 : Int) ≤ r)) = true) (Ty.bool (decide (r < (128 : Int))))), (Ty.bool ((decide ((0 : Int) ≤ r)) && (decide (r < (128 : Int))))), (Ty.bool ((decide ((0 : Int) ≤ r)) && (decide (r < (128 : Int)))))] ok1 ⟨?_, ?_, ?_, ?_, ?_, ?_, ?_, trivial⟩ ?_
 · intro A B G H I; exact rP (y_move (kp (I 1 rfl) G q2))
 · intro A B G H I d0; exact rP (y_leq rfl (ed d0 rfl rfl rfl))
 · intro A B G H I d0; exact rP (y_move (ed d0 rfl rfl rfl))
 · intro A B G H I d0
   refine run_guard H rfl rfl (by decide) (ed d0 rfl rfl rfl) (fun hg => ?_)
   have hp := of_decide_eq_true hg
   exact y_move (kp (I 1 rfl) G q2)
 · intro A B G H I d0 d1
   refine run_guard H rfl rfl (by decide) (ed d1 rfl rfl rfl) (fun hg => ?_)
   have hp := of_decide_eq_true hg
   exact y_lss ((ed d0 rfl rfl rfl).1 hg) rfl
 · intro A B G H I d0 d1; exact rP (y_pick_and (ed d0 rfl rfl rfl) (ed d1 rfl rfl rfl) rfl)
 · intro A B G H I d0 d1; exact rP (y_assign (ed d0 rfl rfl rfl))
 intro a2 s2 D2; have ok2 := D2.ok; have F2 := F1.step0 D2.stp; have q3 := D2.kt q1 rfl; have q4 := D2.kt q2 rfl; have q5 := D2.dn 6 rfl rfl; clear D2; refine tn ?_
 refine cond_t q5 (fun c1 => ?_) (fun c1 => ?_)
 ·
  obtain ⟨d1, d2⟩ := Bool.and_eq_true_iff.mp c1
  replace d1 := of_decide_eq_true d1
  replace d2 := of_decide_eq_true d2
  simp only [Bool.and_eq_true, decide_eq_true_eq] at c1
  refine wp_seq ?_
  refine rg a2 s2 [(Ty.val (Value.string SIGNS)), (Ty.val (Value.int .i32 r)), (Ty.val (Value.int .u8 r)), (Ty.int (Lib.indexByte (ByteArray.data (SIGNS)).toList ((r)).toNat.toUInt8)), (Ty.int (Lib.indexByte (ByteArray.data (SIGNS)).toList ((r)).toNat.toUInt8))] ok2 ⟨?_, ?_, ?_, ?_, ?_, trivial⟩ ?_
  · intro A B G H I; exact rP (y_move (kp (I 0 rfl) G q3))
  · intro A B G H I; exact rP (y_move (kp (I 1 rfl) G q4))
  · intro A B G H I d0; exact rP (y_conv Try.underlying5 (ed d0 rfl rfl rfl) (by exact wrap_u8 (by omega) (by omega)) (by rw [Try.underlying21]; rfl))
  · intro A B G H I d0 d1; exact rP (y_call #[A.eval (.tmp 167), A.eval (.tmp 169)] Try.func124 rfl rfl (by simp only [List.map_toArray, List.map_cons, List.map_nil]) (sIndexByte_fn (SIGNS) (r) _ _ _ (ed d0 rfl rfl rfl) (cvi (σ := B) (by omega) (ed d1 rfl rfl rfl)) ))
  · intro A B G H I d0 d1 d2 d3 d4 d5; exact rP (y_assign (ed d0 rfl rfl rfl))
  intro a3 s3 D3; have ok3 := D3.ok; have F3 := F2.step0 D3.stp; have q6 := D3.dn 4 rfl rfl; clear D3; refine tn ?_; refine wp_ret ?_
  refine br ?_
  exact retL1 rfl ok3 F3 (cvi (by (exact (signIdx_lo c1.1 c1.2).symm)) q6)
 ·
  have hc1 : ¬ (0 ≤ r ∧ r < 128) := (by intro h; simp only [Bool.and_eq_false_iff, decide_eq_false_iff_not] at c1; omega)
  refine wp_seq ?_
  refine rg a2 s2 [(Ty.val (Value.int .i32 r)), (Ty.bool (decide (r = (65533 : Int)))), (Ty.bool (decide (r = (65533 : Int))))] ok2 ⟨?_, ?_, ?_, trivial⟩ ?_
  · intro A B G H I; exact rP (y_move (kp (I 1 rfl) G q4))
  · intro A B G H I d0; exact rP (y_eql (ed d0 rfl rfl rfl) rfl)
  · intro A B G H I d0; exact rP (y_assign (ed d0 rfl rfl rfl))
  intro a4 s4 D4; have ok4 := D4.ok; have F4 := F2.step0 D4.stp; have q7 := D4.kt q3 rfl; have q8 := D4.kt q4 rfl; have q9 := D4.dn 2 rfl rfl; clear D4; refine tn ?_
  refine cond_p (p := (r = (65533 : Int))) q9 (fun c2 => ?_) (fun c2 => ?_)
  ·
   refine wp_seq ?_; refine wp_seq ?_
   refine reg (a := a4) (σ := s4) rfl (fun i_ => List.getD [(Ty.pr (Ty.val (Value.string SIGNS))), (Pr.iter 5 SIGNS 0)] i_ Pr.any) ok4 rfl ⟨?_, ?_, trivial⟩ ?_
   · intro A B G H I; exact rP (y_move (kp (I 0 rfl) G q7))
   · intro A B G H I d0; exact rP (y_range 5 Try.underlying9 (ed d0 rfl rfl rfl))
   intro a5 s5 D5; have ok5 := D5.ok; have F5 := F4.step0 D5.stp
   obtain ⟨x1, hx1⟩ : ∃ x, a5.eval (.tmp 175) = x := ⟨_, rfl⟩
   have q10 : At (Ty.val x1) s5 a5 (.tmp 175) := hx1
   have o1 : Iter s5 5 x1 SIGNS 0 := al2 (R := (Pr.iter 5 SIGNS 0)) hx1 (D5.done 1)
   clear D5; refine tn ?_
   refine wp_block ?_
   refine loop (fun n1 a6 w1 => ∃ (t1 : GW) (p : Nat), t1.w = w1 ∧ FromL [] s0 t1 ∧ Ok 187 a6 ∧ At (Ty.val x1) t1 a6 (.tmp 175) ∧ Iter t1 5 x1 SIGNS p ∧ (p ≤ 12) ∧ n1 = 12 - p) (12 - (0)) ?_ ?_
   ·
    exact ⟨s5, 0, rfl, F5, ok5, q10, (cvit (by omega) o1), by omega, rfl⟩
   ·
    rintro n2 a7 w2 ⟨t2, p, rfl, F6, ok6, q11, o2, hp, rfl⟩
    refine wp_seq ?_
    refine reg2 (a := a7) (σ := t2) rfl 0 (fun i_ => List.getD [] i_ Pr.any) ok6 rfl (by decide) rfl trivial ?_
    intro a8 s6 D6; have ok7 := D6.ok; have F7 := F6.step0 D6.stp; have q12 := D6.kt q11 rfl; have o3 := Iter.k0 o2 D6.stp; clear D6
    refine tailL (L := [5]) (R := (fun v τ => (Ty.nxt (decide (p < SIGNS.size)) p (run1 SIGNS p)).has τ v ∧ Iter τ 5 x1 SIGNS (stepTo SIGNS p))) rfl rfl (by decide) ok7 (YldM.toL (m_next (by decide) o3 q12)) (fun a9 s7 hs1 ok8 r1 sm1 => ?_)
    have F8 := F7.stepL hs1 (by decide); have q13 := kpL hs1 (by decide) (sm1 175 (by decide)) q12
    have q14 : At (Ty.nxt (decide (p < SIGNS.size)) p (run1 SIGNS p)) s7 a9 (.tmp 176) := (r1).1
    have o4 : Iter s7 5 x1 SIGNS (stepTo SIGNS p) := (r1).2
    clear r1
    refine tailL (L := []) (R := (fun v τ => Pr.has (Ty.pr (Ty.bool (decide (p < SIGNS.size)))) τ v)) rfl rfl (by decide) ok8 (Yld.toL (y_ext_n0 q14)) (fun a10 s8 hs2 ok9 r2 sm2 => ?_)
    have F9 := F8.stepL hs2 (by decide); have q15 := kpL hs2 (by decide) (sm2 175 (by decide)) q13; have q16 := kpL hs2 (by decide) (sm2 176 (by decide)) q14; have o5 := Iter.keepL o4 hs2 (by decide) (by decide)
    have q17 : At (Ty.bool (decide (p < SIGNS.size))) s8 a10 (.tmp 177) := r2
    clear r2; refine wpList_nil ?_; refine tn ?_; refine wp_seq ?_
    refine cond_p (p := (p < SIGNS.size)) q17 (fun c3 => ?_) (fun c3 => ?_)
    ·
     refine wp_skip ?_
     refine tn ?_
     refine wp_block ?_
     refine wp_seq ?_
     refine rg a10 s8 [(Ty.nat p), (Ty.val (Value.int .i32 ((run1 SIGNS p : Nat) : Int))), (Ty.nat p), (Ty.val (Value.int .i32 ((run1 SIGNS p : Nat) : Int)))] ok9 ⟨?_, ?_, ?_, ?_, trivial⟩ ?_
     · intro A B G H I; exact rP (y_ext_n1 (kp (I 176 rfl) G q16) (decide_eq_true (by omega)))
     · intro A B G H I d0; exact rP (y_ext_n2 (kp (I 176 rfl) G q16) (decide_eq_true (by omega)))
     · intro A B G H I d0 d1 d2; exact rP (y_assign (ed d0 rfl rfl rfl))
     · intro A B G H I d0 d1 d2 d3 d4; exact rP (y_assign (ed d0 rfl rfl rfl))
     intro a11 s9 D7; have ok10 := D7.ok; have F10 := F9.step0 D7.stp; have q18 := D7.kt q15 rfl; have o6 := Iter.k0 o5 D7.stp; have q19 := D7.dn 2 rfl rfl; have q20 := D7.dn 3 rfl rfl; clear D7; refine tn ?_; refine wp_seq ?_
     refine rg a11 s9 [(Ty.val (Value.int .i32 ((run1 SIGNS p : Nat) : Int))), (Ty.bool (decide (((run1 SIGNS p : Nat) : Int) = (65533 : Int))))] ok10 ⟨?_, ?_, trivial⟩ ?_
     · intro A B G H I; exact rP (y_move (kp (I 6 rfl) G q20))
     · intro A B G H I d0; exact rP (y_eql (ed d0 rfl rfl rfl) rfl)
     intro a12 s10 D8; have ok11 := D8.ok; have F11 := F10.step0 D8.stp; have q21 := D8.kt q18 rfl; have q22 := D8.kt q19 rfl; have o7 := Iter.k0 o6 D8.stp; have q23 := D8.dn 1 rfl rfl; clear D8; refine tn ?_
     refine cond_p (p := (((run1 SIGNS p : Nat) : Int) = (65533 : Int))) q23 (fun c4 => ?_) (fun c4 => ?_)
     ·
      exfalso
      have := (signs_run (p := p) (by omega)).1; omega
     ·
      refine wp_skip ?_
      refine bn ?_
      exact tn ⟨12 - ((p + 1)), by omega, s10, (p + 1), rfl, F11, ok11, q21, (cvit (by exact (signs_run (by omega)).2) o7), by omega, rfl⟩
    ·
     refine wp_exit ?_; refine tx ?_; refine tx ?_; refine bx ?_; refine tn ?_; refine wp_seq ?_
     refine rg a10 s8 [(Ty.int (-1 : Int))] ok9 ⟨?_, trivial⟩ ?_
     · intro A B G H I; exact rP (y_assign rfl)
     intro a13 s11 D9; have ok12 := D9.ok; have F12 := F9.step0 D9.stp; have o8 := Iter.k0 o5 D9.stp; have q24 := D9.dn 0 rfl rfl; clear D9; refine tn ?_; refine wp_ret ?_
     refine br ?_
     exact retL1 rfl ok12 F12 (cvi (by (exact (signIdx_hi (by omega)).symm)) q24)
  ·
   refine wp_seq ?_
   refine rg a4 s4 [(Ty.val (Value.int .i32 r)), (Ty.bool (Utf8.valid r)), (Ty.bool (!(Utf8.valid r))), (Ty.bool (!(Utf8.valid r)))] ok4 ⟨?_, ?_, ?_, ?_, trivial⟩ ?_
   · intro A B G H I; exact rP (y_move (kp (I 1 rfl) G q8))
   · intro A B G H I d0; exact rP (y_call #[A.eval (.tmp 184)] Try.func125 rfl rfl (by simp only [List.map_toArray, List.map_cons, List.map_nil]) (validRune_fn (r) _ _ (ed d0 rfl rfl rfl) ))
   · intro A B G H I d0; exact rP (y_not (ed d0 rfl rfl rfl))
   · intro A B G H I d0 d1; exact rP (y_assign (ed d0 rfl rfl rfl))
   intro a14 s12 D10; have ok13 := D10.ok; have F13 := F4.step0 D10.stp; have q25 := D10.kt q7 rfl; have q26 := D10.kt q8 rfl; have q27 := D10.dn 3 rfl rfl; clear D10; refine tn ?_
   refine cond_t q27 (fun c5 => ?_) (fun c5 => ?_)
   ·
    refine wp_seq ?_
    refine rg a14 s12 [(Ty.int (-1 : Int))] ok13 ⟨?_, trivial⟩ ?_
    · intro A B G H I; exact rP (y_assign rfl)
    intro a15 s13 D11; have ok14 := D11.ok; have F14 := F13.step0 D11.stp; have q28 := D11.dn 0 rfl rfl; clear D11; refine tn ?_; refine wp_ret ?_
    refine br ?_
    exact retL1 rfl ok14 F14 (cvi (by (exact (signIdx_hi hc1).symm)) q28)
   ·
    have hv : Utf8.valid r = true := (by simpa using c5); have hr0 : 0 ≤ r := (by unfold Utf8.valid at hv; simp only [Bool.or_eq_true, Bool.and_eq_true, decide_eq_true_eq] at hv; omega); have hef := enc_facts (by omega) hv; obtain ⟨E, hE⟩ : ∃ E, E = Utf8.encode r := ⟨_, rfl⟩; rw [← hE] at hef; have hsl := signs_lt (j := E.size - 1) (by omega)
    refine wp_scope_straight ?_
    refine wp_seq ?_
    refine rg a14 s12 [(Ty.val (Value.int .i32 r)), (Ty.val (Value.string (Utf8.encode r))), (Ty.val (Value.string (Utf8.encode r)))] ok13 ⟨?_, ?_, ?_, trivial⟩ ?_
    · intro A B G H I; exact rP (y_move (kp (I 1 rfl) G q26))
    · intro A B G H I d0; exact rP (y_convrs Try.underlying9 (ed d0 rfl rfl rfl) (by rw [Try.underlying21]; rfl))
    · intro A B G H I d0 d1 d2; exact rP (y_assign (ed d0 rfl rfl rfl))
    intro a16 s14 D12; have ok15 := D12.ok; have F15 := F13.step0 D12.stp; have q29 := D12.kt q25 rfl; have q30 := D12.dn 2 rfl rfl; clear D12
    have q31 : At (Ty.val (Value.string E)) s14 a16 (.tmp 7) := (cvt (by (rw [hE])) q30)
    refine tn ?_; refine wp_seq ?_
    refine rg a16 s14 [(Ty.val (Value.string E)), (Ty.nat (ByteArray.size E)), (Ty.nat ((ByteArray.size E) - 1)), (Ty.nat ((ByteArray.size E) - 1))] ok15 ⟨?_, ?_, ?_, ?_, trivial⟩ ?_
    · intro A B G H I; exact rP (y_move (kp (I 7 rfl) G q31))
    · intro A B G H I d0; exact rP (y_len_str Try.underlying9 (ed d0 rfl rfl rfl))
    · intro A B G H I d0; exact rP ((y_sub (ed d0 rfl rfl rfl) rfl (w64 (by omega) (by omega))).mono (fun τ _ h => cvi (σ := τ) (by omega) h))
    · intro A B G H I d0 d1 d2 d3; exact rP (y_assign (ed d0 rfl rfl rfl))
    intro a17 s15 D13; have ok16 := D13.ok; have F16 := F15.step0 D13.stp; have q32 := D13.kt q29 rfl; have q33 := D13.kt q31 rfl; have q34 := D13.dn 3 rfl rfl; clear D13; refine tn ?_; refine wp_seq ?_
    refine rg a17 s15 [(Ty.nat ((ByteArray.size E) - 1)), (Ty.nat ((ByteArray.size E) - 1))] ok16 ⟨?_, ?_, trivial⟩ ?_
    · intro A B G H I; exact rP (y_move (kp (I 8 rfl) G q34))
    · intro A B G H I d0 d1; exact rP (y_assign (ed d0 rfl rfl rfl))
    intro a18 s16 D14; have ok17 := D14.ok; have F17 := F16.step0 D14.stp; have q35 := D14.kt q32 rfl; have q36 := D14.kt q33 rfl; have q37 := D14.kt q34 rfl; have q38 := D14.dn 1 rfl rfl; clear D14; refine tn ?_; refine wp_seq ?_
    refine rg a18 s16 [(Ty.int (0 : Int))] ok17 ⟨?_, trivial⟩ ?_
    · intro A B G H I; exact rP (y_assign rfl)
    intro a19 s17 D15; have ok18 := D15.ok; have F18 := F17.step0 D15.stp; have q39 := D15.kt q35 rfl; have q40 := D15.kt q36 rfl; have q41 := D15.kt q37 rfl; have q42 := D15.kt q38 rfl; clear D15; refine tn ?_; refine wp_seq ?_
    refine wp_block ?_
    refine loop (fun n3 a20 w3 => ∃ (t3 : GW), t3.w = w3 ∧ FromL [] s0 t3 ∧ Ok 187 a20 ∧ At (Ty.nat ((ByteArray.size E) - 1)) t3 a20 (.tmp 9) ∧ At (Ty.val (Value.string SIGNS)) t3 a20 (.tmp 0) ∧ At (Ty.val (Value.string E)) t3 a20 (.tmp 7) ∧ At (Ty.nat ((ByteArray.size E) - 1)) t3 a20 (.tmp 8) ∧ n3 = 1) (1) ?_ ?_
    ·
     exact ⟨s17, rfl, F18, ok18, q42, q39, q40, q41, rfl⟩
    ·
     rintro n4 a21 w4 ⟨t4, rfl, F19, ok19, q43, q44, q45, q46, rfl⟩
     refine wp_seq ?_; refine wp_seq ?_
     refine reg (a := a21) (σ := t4) rfl (fun i_ => List.getD [(Ty.pr (Ty.nat ((ByteArray.size E) - 1))), (Ty.pr (Ty.val (Value.string SIGNS))), (Ty.pr (Ty.nat (ByteArray.size SIGNS))), (Ty.pr (Ty.bool (decide (((((ByteArray.size E) - 1) : Nat) : Int) < (((ByteArray.size SIGNS) : Nat) : Int)))))] i_ Pr.any) ok19 rfl ⟨?_, ?_, ?_, ?_, trivial⟩ ?_
     · intro A B G H I; exact rP (y_move (kp (I 9 rfl) G q43))
     · intro A B G H I; exact rP (y_move (kp (I 0 rfl) G q44))
     · intro A B G H I d0; exact rP (y_len_str Try.underlying9 (ed d0 rfl rfl rfl))
     · intro A B G H I d0 d1; exact rP (y_lss (ed d0 rfl rfl rfl) (ed d1 rfl rfl rfl))
     intro a22 s18 D16; have ok20 := D16.ok; have F20 := F19.step0 D16.stp; have q47 := D16.kt q43 rfl; have q48 := D16.kt q44 rfl; have q49 := D16.kt q45 rfl; have q50 := D16.kt q46 rfl; have q51 := D16.dn 3 rfl rfl; clear D16; refine tn ?_
     refine cond_p (p := (((((ByteArray.size E) - 1) : Nat) : Int) < (((ByteArray.size SIGNS) : Nat) : Int))) q51 (fun c6 => ?_) (fun c6 => ?_)
     ·
      refine wp_skip ?_
      refine tn ?_
      refine wp_block ?_
      refine wp_scope_straight ?_
      refine wp_seq ?_; refine wp_seq ?_
      refine rg a22 s18 [(Ty.val (Value.string SIGNS)), (Ty.nat ((ByteArray.size E) - 1)), (Ty.val (Value.int .u8 (((SIGNS.get! ((ByteArray.size E) - 1)).toNat : Nat) : Int))), (Ty.val (Value.string E)), (Ty.nat ((ByteArray.size E) - 1)), (Ty.val (Value.int .u8 (((E.get! ((ByteArray.size E) - 1)).toNat : Nat) : Int))), (Ty.bool (decide ((((SIGNS.get! ((ByteArray.size E) - 1)).toNat : Nat) : Int) ≠ (((E.get! ((ByteArray.size E) - 1)).toNat : Nat) : Int))))] ok20 ⟨?_, ?_, ?_, ?_, ?_, ?_, ?_, trivial⟩ ?_
      · intro A B G H I; exact rP (y_move (kp (I 0 rfl) G q48))
      · intro A B G H I; exact rP (y_move (kp (I 9 rfl) G q47))
      · intro A B G H I d0 d1; exact rP (y_sindex Try.underlying9 (ed d0 rfl rfl rfl) (ed d1 rfl rfl rfl) (by omega) (by omega))
      · intro A B G H I; exact rP (y_move (kp (I 7 rfl) G q49))
      · intro A B G H I; exact rP (y_move (kp (I 8 rfl) G q50))
      · intro A B G H I d0 d1; exact rP (y_sindex Try.underlying9 (ed d0 rfl rfl rfl) (ed d1 rfl rfl rfl) (by omega) (by omega))
      · intro A B G H I d0 d1; exact rP (y_neq (ed d0 rfl rfl rfl) (ed d1 rfl rfl rfl))
      intro a23 s19 D17; have ok21 := D17.ok; have F21 := F20.step0 D17.stp; have q52 := D17.kt q47 rfl; have q53 := D17.kt q48 rfl; have q54 := D17.kt q49 rfl; have q55 := D17.kt q50 rfl; have q56 := D17.dn 6 rfl rfl; clear D17; refine tn ?_
      refine cond_p (p := ((((SIGNS.get! ((ByteArray.size E) - 1)).toNat : Nat) : Int) ≠ (((E.get! ((ByteArray.size E) - 1)).toNat : Nat) : Int))) q56 (fun c7 => ?_) (fun c7 => ?_)
      ·
       refine wp_seq ?_
       refine rg a23 s19 [(Ty.val (Value.string SIGNS)), (Ty.nat ((ByteArray.size E) - 1)), (Ty.nat (((ByteArray.size E) - 1) + 1)), (Ty.val (Value.string (ByteArray.extract SIGNS (((ByteArray.size E) - 1) + 1) (ByteArray.size SIGNS)))), (Ty.val (Value.string E)), (Ty.nat ((ByteArray.size E) - 1)), (Ty.val (Value.int .u8 (((E.get! ((ByteArray.size E) - 1)).toNat : Nat) : Int))), (Ty.int (Lib.indexByte (ByteArray.data ((ByteArray.extract SIGNS (((ByteArray.size E) - 1) + 1) (ByteArray.size SIGNS)))).toList (((((E.get! ((ByteArray.size E) - 1)).toNat : Nat) : Int))).toNat.toUInt8)), (Ty.int (Lib.indexByte (ByteArray.data ((ByteArray.extract SIGNS (((ByteArray.size E) - 1) + 1) (ByteArray.size SIGNS)))).toList (((((E.get! ((ByteArray.size E) - 1)).toNat : Nat) : Int))).toNat.toUInt8))] ok21 ⟨?_, ?_, ?_, ?_, ?_, ?_, ?_, ?_, ?_, trivial⟩ ?_
       · intro A B G H I; exact rP (y_move (kp (I 0 rfl) G q53))
       · intro A B G H I; exact rP (y_move (kp (I 9 rfl) G q52))
       · intro A B G H I d0; exact rP ((y_add (ed d0 rfl rfl rfl) rfl (w64 (by omega) (by omega))).mono (fun τ _ h => cvi (σ := τ) (by first | omega | exact (Int.natCast_mul _ _).symm) h))
       · intro A B G H I d0 d1; exact rP (y_sfrom (l := (((ByteArray.size E) - 1) + 1)) Try.underlying9 (ed d0 rfl rfl rfl) (ed d1 rfl rfl rfl) (by omega))
       · intro A B G H I; exact rP (y_move (kp (I 7 rfl) G q54))
       · intro A B G H I; exact rP (y_move (kp (I 8 rfl) G q55))
       · intro A B G H I d0 d1; exact rP (y_sindex Try.underlying9 (ed d0 rfl rfl rfl) (ed d1 rfl rfl rfl) (by omega) (by omega))
       · intro A B G H I d0 d1; exact rP (y_call #[A.eval (.tmp 37), A.eval (.tmp 40)] Try.func124 rfl rfl (by simp only [List.map_toArray, List.map_cons, List.map_nil]) (sIndexByte_fn ((ByteArray.extract SIGNS (((ByteArray.size E) - 1) + 1) (ByteArray.size SIGNS))) ((((E.get! ((ByteArray.size E) - 1)).toNat : Nat) : Int)) _ _ _ (ed d0 rfl rfl rfl) (cvi (σ := B) (by omega) (ed d1 rfl rfl rfl)) ))
       · intro A B G H I d0 d1 d2 d3 d4 d5 d6 d7 d8 d9; exact rP (y_assign (ed d0 rfl rfl rfl))
       intro a24 s20 D18; have ok22 := D18.ok; have F22 := F21.step0 D18.stp; have q57 := D18.kt q52 rfl; have q58 := D18.kt q53 rfl; have q59 := D18.kt q54 rfl; have q60 := D18.kt q55 rfl; have q61 := D18.dn 8 rfl rfl; clear D18; refine tn ?_; refine wp_seq ?_; refine wp_seq ?_
       refine rg a24 s20 [(Ty.int (Lib.indexByte (ByteArray.data ((ByteArray.extract SIGNS (((ByteArray.size E) - 1) + 1) (ByteArray.size SIGNS)))).toList (((((E.get! ((ByteArray.size E) - 1)).toNat : Nat) : Int))).toNat.toUInt8)), (Ty.bool (decide ((Lib.indexByte (ByteArray.data ((ByteArray.extract SIGNS (((ByteArray.size E) - 1) + 1) (ByteArray.size SIGNS)))).toList (((((E.get! ((ByteArray.size E) - 1)).toNat : Nat) : Int))).toNat.toUInt8) < (0 : Int))))] ok22 ⟨?_, ?_, trivial⟩ ?_
       · intro A B G H I; exact rP (y_move (kp (I 11 rfl) G q61))
       · intro A B G H I d0; exact rP (y_lss (ed d0 rfl rfl rfl) rfl)
       intro a25 s21 D19; have ok23 := D19.ok; have F23 := F22.step0 D19.stp; have q62 := D19.kt q57 rfl; have q63 := D19.kt q58 rfl; have q64 := D19.kt q59 rfl; have q65 := D19.kt q60 rfl; have q66 := D19.kt q61 rfl; have q67 := D19.dn 1 rfl rfl; clear D19; refine tn ?_
       refine cond_p (p := ((Lib.indexByte (ByteArray.data ((ByteArray.extract SIGNS (((ByteArray.size E) - 1) + 1) (ByteArray.size SIGNS)))).toList (((((E.get! ((ByteArray.size E) - 1)).toNat : Nat) : Int))).toNat.toUInt8) < (0 : Int))) q67 (fun c8 => ?_) (fun c8 => ?_)
       ·
        refine wp_seq ?_
        refine rg a25 s21 [(Ty.int (-1 : Int))] ok23 ⟨?_, trivial⟩ ?_
        · intro A B G H I; exact rP (y_assign rfl)
        intro a26 s22 D20; have ok24 := D20.ok; have F24 := F23.step0 D20.stp; have q68 := D20.dn 0 rfl rfl; clear D20; refine tn ?_; refine wp_ret ?_
        refine tr ?_
        refine tr ?_
        refine scr ?_
        refine br ?_
        refine tr ?_
        refine br ?_
        refine tr ?_
        refine scr ?_
        refine br ?_
        exact retL1 rfl ok24 F24 (cvi (by (exact (signIdx_hi hc1).symm)) q68)
       ·
        exfalso
        have := signs_cut (l := E.size - 1 + 1) (c := (((E.get! (E.size - 1)).toNat : Nat) : Int)) (by omega) (by omega); omega
      ·
       exfalso
       omega
     ·
      exfalso
      omega


set_option maxHeartbeats 4000000 in
set_option maxRecDepth 100000 in
theorem sign_fn (r : Int) (σ : GW)  (v0 : Value) (hv0 : Ty.has (Ty.val (Value.int .i32 r)) σ v0)  (hr : -2147483648 ≤ r ∧ r ≤ 2147483647) :
    FnC Try.prog 93 #[v0] σ (Ty.int (signIdx r)) := by
 refine fn_intro0 Try.func93 rfl Try.ntmps93 (Nat.le_of_ble_eq_true rfl) (fun s0 a0 hle F0 ok0 hargs => ?_)
 have p0 : At (Ty.val (Value.int .i32 r)) s0 a0 (.tmp 0) := by have e := hargs 0 _ rfl; show Ty.has _ _ _; rw [e]; exact Ty.up _ hle hv0
 clear hargs; refine wp_seq ?_
 refine rg a0 s0 [(Ty.int (0 : Int))] ok0 ⟨?_, trivial⟩ ?_
 · intro A B G H I; exact rP (y_assign rfl)
 intro a1 s1 D1; have ok1 := D1.ok; have F1 := F0.step0 D1.stp; have q1 := D1.kt p0 rfl; clear D1; refine tn ?_; refine wp_seq ?_
 refine rg a1 s1 [(Ty.val (Value.int .i32 r)), (Ty.int (signIdx r)), (Ty.int (signIdx r))] ok1 ⟨?_, ?_, ?_, trivial⟩ ?_
 · intro A B G H I; exact rP (y_move (kp (I 0 rfl) G q1))
 · intro A B G H I d0; exact rP (y_call #[A.eval ((Operand.const (Value.string (ByteArray.mk #[49, 50, 51, 52, 53, 54, 55, 56, 57, 48, 69, 84])))), A.eval (.tmp 3)] Try.func115 rfl rfl (by simp only [List.map_toArray, List.map_cons, List.map_nil]) (idxRune_fn (r) _ _ _ rfl (ed d0 rfl rfl rfl) (by omega)))
 · intro A B G H I d0 d1 d2 d3; exact rP (y_assign (ed d0 rfl rfl rfl))
 intro a2 s2 D2; have ok2 := D2.ok; have F2 := F1.step0 D2.stp; have q2 := D2.dn 2 rfl rfl; clear D2; refine tn ?_; refine wp_ret ?_
 exact retL1 rfl ok2 F2 q2


end Go.Proofs.Ytbilebfnanlgfaa
