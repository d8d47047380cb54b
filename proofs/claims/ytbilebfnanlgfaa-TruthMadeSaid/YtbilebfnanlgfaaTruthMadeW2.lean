/- The functions that the law TruthMade reaches, each by its contract. Part 2. -/
import Derived.Test.YtbilebfnanlgfaaTruthMadeW1
namespace Go.Proofs.Ytbilebfnanlgfaa
open Go.KL

set_option maxHeartbeats 4000000 in
set_option maxRecDepth 100000 in
theorem rIsName_fn (s : ByteArray) (σ : GW)  (v0 : Value) (hv0 : Ty.has (Ty.val (Value.string s)) σ v0)  (E : s.size ≤ 17592186044416) :
    FnC Try.prog 61 #[v0] σ (Ty.bool (nameL s)) := by
 obtain ⟨L, hL⟩ : ∃ L, L = runsL s := ⟨_, rfl⟩
 have hne : nameI L = nameL s := by rw [hL, name_eq]
 refine fn_intro0 Try.func61 rfl Try.ntmps61 (Nat.le_of_ble_eq_true rfl) (fun s0 a0 hle F0 ok0 hargs => ?_)
 have p0 : At (Ty.val (Value.string s)) s0 a0 (.tmp 0) := by have e := hargs 0 _ rfl; show Ty.has _ _ _; rw [e]; exact Ty.up _ hle hv0
 clear hargs; refine wp_seq ?_
 refine rg a0 s0 [(Ty.bool false)] ok0 ⟨?_, trivial⟩ ?_
 · intro A B E G H; exact rP (y_assign rfl)
 intro a1 s1 D1; have ok1 := D1.ok; have F1 := F0.step0 D1.stp; have q1 := D1.kt p0 rfl; clear D1; refine tn ?_; refine wp_seq ?_
 refine rg a1 s1 [(Ty.val (Value.string s)), (Ty.lst Ty.int L), (Ty.lst Ty.int L)] ok1 ⟨?_, ?_, ?_, trivial⟩ ?_
 · intro A B E G H; exact rP (y_move (kp (H 0 rfl) E q1))
 · intro A B E G H d0; exact rP ((y_call #[A.eval (.tmp 7)] Try.func45 rfl rfl (by simp only [List.map_toArray, List.map_cons, List.map_nil]) (rRunes_fn (s) _ _ (ed d0 rfl rfl rfl) (by omega))).mono (fun τ _ h => cvt (σ := τ) (T := (Ty.lst Ty.int (runsL s))) (U := (Ty.lst Ty.int L)) (by rw [hL]) h))
 · intro A B E G H d0 d1 d2 d3; exact rP (y_assign (ed d0 rfl rfl rfl))
 intro a2 s2 D2; have ok2 := D2.ok; have F2 := F1.step0 D2.stp; have q2 := D2.dn 2 rfl rfl; clear D2; refine tn ?_; refine wp_seq ?_; refine wp_seq ?_
 refine rg a2 s2 [(Ty.lst Ty.int L), (Ty.nat (List.length L)), (Ty.bool (decide ((((List.length L) : Nat) : Int) < (1 : Int)))), (Ty.bool (decide ((((List.length L) : Nat) : Int) < (1 : Int)))), (Ty.grd ((decide ((((List.length L) : Nat) : Int) < (1 : Int))) = false) (Ty.lst Ty.int L)), (Ty.grd ((decide ((((List.length L) : Nat) : Int) < (1 : Int))) = false) (Ty.nat (List.length L))), (Ty.grd ((decide ((((List.length L) : Nat) : Int) < (1 : Int))) = false) (Ty.bool (decide ((20 : Int) < (((List.length L) : Nat) : Int))))), (Ty.bool ((decide ((((List.length L) : Nat) : Int) < (1 : Int))) || (decide ((20 : Int) < (((List.length L) : Nat) : Int))))), (Ty.bool ((decide ((((List.length L) : Nat) : Int) < (1 : Int))) || (decide ((20 : Int) < (((List.length L) : Nat) : Int))))), (Ty.grd (((decide ((((List.length L) : Nat) : Int) < (1 : Int))) || (decide ((20 : Int) < (((List.length L) : Nat) : Int)))) = false) (Ty.lst Ty.int L)), (Ty.grd (((decide ((((List.length L) : Nat) : Int) < (1 : Int))) || (decide ((20 : Int) < (((List.length L) : Nat) : Int)))) = false) (Ty.ref [(Ty.int (L.getD ((0 : Int)).toNat 0))])), (Ty.grd (((decide ((((List.length L) : Nat) : Int) < (1 : Int))) || (decide ((20 : Int) < (((List.length L) : Nat) : Int)))) = false) (Ty.int (L.getD ((0 : Int)).toNat 0))), (Ty.grd (((decide ((((List.length L) : Nat) : Int) < (1 : Int))) || (decide ((20 : Int) < (((List.length L) : Nat) : Int)))) = false) (Ty.bool (decide ((L.getD ((0 : Int)).toNat 0) = (32 : Int))))), (Ty.bool (((decide ((((List.length L) : Nat) : Int) < (1 : Int))) || (decide ((20 : Int) < (((List.length L) : Nat) : Int)))) || (decide ((L.getD ((0 : Int)).toNat 0) = (32 : Int))))), (Ty.bool (((decide ((((List.length L) : Nat) : Int) < (1 : Int))) || (decide ((20 : Int) < (((List.length L) : Nat) : Int)))) || (decide ((L.getD ((0 : Int)).toNat 0) = (32 : Int))))), (Ty.grd ((((decide ((((List.length L) : Nat) : Int) < (1 : Int))) || (decide ((20 : Int) < (((List.length L) : Nat) : Int)))) || (decide ((L.getD ((0 : Int)).toNat 0) = (32 : Int)))) = false) (Ty.lst Ty.int L)), (Ty.grd ((((decide ((((List.length L) : Nat) : Int) < (1 : Int))) || (decide ((20 : Int) < (((List.length L) : Nat) : Int)))) || (decide ((L.getD ((0 : Int)).toNat 0) = (32 : Int)))) = false) (Ty.lst Ty.int L)), (Ty.grd ((((decide ((((List.length L) : Nat) : Int) < (1 : Int))) || (decide ((20 : Int) < (((List.length L) : Nat) : Int)))) || (decide ((L.getD ((0 : Int)).toNat 0) = (32 : Int)))) = false) (Ty.nat (List.length L))), (Ty.grd ((((decide ((((List.length L) : Nat) : Int) < (1 : Int))) || (decide ((20 : Int) < (((List.length L) : Nat) : Int)))) || (decide ((L.getD ((0 : Int)).toNat 0) = (32 : Int)))) = false) (Ty.nat ((List.length L) - 1))), (Ty.grd ((((decide ((((List.length L) : Nat) : Int) < (1 : Int))) || (decide ((20 : Int) < (((List.length L) : Nat) : Int)))) || (decide ((L.getD ((0 : Int)).toNat 0) = (32 : Int)))) = false) (Ty.ref [(Ty.int (L.getD ((List.length L) - 1) 0))])), (Ty.grd ((((decide ((((List.length L) : Nat) : Int) < (1 : Int))) || (decide ((20 : Int) < (((List.length L) : Nat) : Int)))) || (decide ((L.getD ((0 : Int)).toNat 0) = (32 : Int)))) = false) (Ty.int (L.getD ((List.length L) - 1) 0))), (Ty.grd ((((decide ((((List.length L) : Nat) : Int) < (1 : Int))) || (decide ((20 : Int) < (((List.length L) : Nat) : Int)))) || (decide ((L.getD ((0 : Int)).toNat 0) = (32 : Int)))) = false) (Ty.bool (decide ((L.getD ((List.length L) - 1) 0) = (32 : Int))))), (Ty.bool ((((decide ((((List.length L) : Nat) : Int) < (1 : Int))) || (decide ((20 : Int) < (((List.length L) : Nat) : Int)))) || (decide ((L.getD ((0 : Int)).toNat 0) = (32 : Int)))) || (decide ((L.getD ((List.length L) - 1) 0) = (32 : Int)))))] ok2 ⟨?_, ?_, ?_, ?_, ?_, ?_, ?_, ?_, ?_, ?_, ?_, ?_, ?_, ?_, ?_, ?_, ?_, ?_, ?_, ?_, ?_, ?_, ?_, trivial⟩ ?_
 · intro A B E G H; exact rP (y_move (kp (H 3 rfl) E q2))
 · intro A B E G H d0; exact rP (y_len Try.underlying23 (ed d0 rfl rfl rfl))
 · intro A B E G H d0; exact rP (y_lss (ed d0 rfl rfl rfl) rfl)
 · intro A B E G H d0; exact rP (y_move (ed d0 rfl rfl rfl))
 · intro A B E G H d0
   refine run_guard G rfl rfl (by decide) (ed d0 rfl rfl rfl) (fun hg => ?_)
   have hp := of_decide_eq_false hg
   exact y_move (kp (H 3 rfl) E q2)
 · intro A B E G H d0 d1
   refine run_guard G rfl rfl (by decide) (ed d1 rfl rfl rfl) (fun hg => ?_)
   have hp := of_decide_eq_false hg
   exact y_len Try.underlying23 ((ed d0 rfl rfl rfl).1 hg)
 · intro A B E G H d0 d1
   refine run_guard G rfl rfl (by decide) (ed d1 rfl rfl rfl) (fun hg => ?_)
   have hp := of_decide_eq_false hg
   exact y_gtr ((ed d0 rfl rfl rfl).1 hg) rfl
 · intro A B E G H d0 d1; exact rP (y_pick_or (ed d0 rfl rfl rfl) rfl (ed d1 rfl rfl rfl))
 · intro A B E G H d0 d1; exact rP (y_move (ed d0 rfl rfl rfl))
 · intro A B E G H d0
   refine run_guard G rfl rfl (by decide) (ed d0 rfl rfl rfl) (fun hg => ?_)
   obtain ⟨d1, d2⟩ := Bool.or_eq_false_iff.mp hg
   have d1 := of_decide_eq_false d1
   have d2 := of_decide_eq_false d2
   exact y_move (kp (H 3 rfl) E q2)
 · intro A B E G H d0 d1
   refine run_guard G rfl rfl (by decide) (ed d1 rfl rfl rfl) (fun hg => ?_)
   obtain ⟨d3, d4⟩ := Bool.or_eq_false_iff.mp hg
   have d3 := of_decide_eq_false d3
   have d4 := of_decide_eq_false d4
   exact y_index1 Try.underlying23 Try.inf3 ((ed d0 rfl rfl rfl).1 hg) rfl (by omega) (lst_get Ty.int L 0 ((0 : Int)).toNat (by omega))
 · intro A B E G H d0 d1
   refine run_guard G rfl rfl (by decide) (ed d1 rfl rfl rfl) (fun hg => ?_)
   obtain ⟨d5, d6⟩ := Bool.or_eq_false_iff.mp hg
   have d5 := of_decide_eq_false d5
   have d6 := of_decide_eq_false d6
   exact y_load Try.underlying3 rfl ((ed d0 rfl rfl rfl).1 hg) rfl
 · intro A B E G H d0 d1
   refine run_guard G rfl rfl (by decide) (ed d1 rfl rfl rfl) (fun hg => ?_)
   obtain ⟨d7, d8⟩ := Bool.or_eq_false_iff.mp hg
   have d7 := of_decide_eq_false d7
   have d8 := of_decide_eq_false d8
   exact y_eql ((ed d0 rfl rfl rfl).1 hg) rfl
 · intro A B E G H d0 d1; exact rP (y_pick_or (ed d0 rfl rfl rfl) rfl (ed d1 rfl rfl rfl))
 · intro A B E G H d0 d1; exact rP (y_move (ed d0 rfl rfl rfl))
 · intro A B E G H d0
   refine run_guard G rfl rfl (by decide) (ed d0 rfl rfl rfl) (fun hg => ?_)
   obtain ⟨d9, d10⟩ := Bool.or_eq_false_iff.mp hg
   obtain ⟨d11, d12⟩ := Bool.or_eq_false_iff.mp d9
   have d11 := of_decide_eq_false d11
   have d12 := of_decide_eq_false d12
   have d10 := of_decide_eq_false d10
   exact y_move (kp (H 3 rfl) E q2)
 · intro A B E G H d0
   refine run_guard G rfl rfl (by decide) (ed d0 rfl rfl rfl) (fun hg => ?_)
   obtain ⟨d13, d14⟩ := Bool.or_eq_false_iff.mp hg
   obtain ⟨d15, d16⟩ := Bool.or_eq_false_iff.mp d13
   have d15 := of_decide_eq_false d15
   have d16 := of_decide_eq_false d16
   have d14 := of_decide_eq_false d14
   exact y_move (kp (H 3 rfl) E q2)
 · intro A B E G H d0 d1
   refine run_guard G rfl rfl (by decide) (ed d1 rfl rfl rfl) (fun hg => ?_)
   obtain ⟨d17, d18⟩ := Bool.or_eq_false_iff.mp hg
   obtain ⟨d19, d20⟩ := Bool.or_eq_false_iff.mp d17
   have d19 := of_decide_eq_false d19
   have d20 := of_decide_eq_false d20
   have d18 := of_decide_eq_false d18
   exact y_len Try.underlying23 ((ed d0 rfl rfl rfl).1 hg)
 · intro A B E G H d0 d1
   refine run_guard G rfl rfl (by decide) (ed d1 rfl rfl rfl) (fun hg => ?_)
   obtain ⟨d21, d22⟩ := Bool.or_eq_false_iff.mp hg
   obtain ⟨d23, d24⟩ := Bool.or_eq_false_iff.mp d21
   have d23 := of_decide_eq_false d23
   have d24 := of_decide_eq_false d24
   have d22 := of_decide_eq_false d22
   exact (y_sub ((ed d0 rfl rfl rfl).1 hg) rfl (w64 (by omega) (by omega))).mono (fun τ _ h => cvi (σ := τ) (by omega) h)
 · intro A B E G H d0 d1 d2
   refine run_guard G rfl rfl (by decide) (ed d2 rfl rfl rfl) (fun hg => ?_)
   obtain ⟨d25, d26⟩ := Bool.or_eq_false_iff.mp hg
   obtain ⟨d27, d28⟩ := Bool.or_eq_false_iff.mp d25
   have d27 := of_decide_eq_false d27
   have d28 := of_decide_eq_false d28
   have d26 := of_decide_eq_false d26
   exact y_index1 Try.underlying23 Try.inf3 ((ed d0 rfl rfl rfl).1 hg) ((ed d1 rfl rfl rfl).1 hg) (by omega) (lst_get Ty.int L 0 ((List.length L) - 1) (by omega))
 · intro A B E G H d0 d1
   refine run_guard G rfl rfl (by decide) (ed d1 rfl rfl rfl) (fun hg => ?_)
   obtain ⟨d29, d30⟩ := Bool.or_eq_false_iff.mp hg
   obtain ⟨d31, d32⟩ := Bool.or_eq_false_iff.mp d29
   have d31 := of_decide_eq_false d31
   have d32 := of_decide_eq_false d32
   have d30 := of_decide_eq_false d30
   exact y_load Try.underlying3 rfl ((ed d0 rfl rfl rfl).1 hg) rfl
 · intro A B E G H d0 d1
   refine run_guard G rfl rfl (by decide) (ed d1 rfl rfl rfl) (fun hg => ?_)
   obtain ⟨d33, d34⟩ := Bool.or_eq_false_iff.mp hg
   obtain ⟨d35, d36⟩ := Bool.or_eq_false_iff.mp d33
   have d35 := of_decide_eq_false d35
   have d36 := of_decide_eq_false d36
   have d34 := of_decide_eq_false d34
   exact y_eql ((ed d0 rfl rfl rfl).1 hg) rfl
 · intro A B E G H d0 d1; exact rP (y_pick_or (ed d0 rfl rfl rfl) rfl (ed d1 rfl rfl rfl))
 intro a3 s3 D3; have ok3 := D3.ok; have F3 := F2.step0 D3.stp; have q3 := D3.kt q2 rfl; have q4 := D3.dn 22 rfl rfl; clear D3; refine tn ?_
 refine cond_t q4 (fun c1 => ?_) (fun c1 => ?_)
 ·
  simp only [Bool.or_eq_true, decide_eq_true_eq, Int.toNat_zero] at c1; have hb := name_bad (l := L) (by omega)
  refine wp_seq ?_
  refine rg a3 s3 [(Ty.bool false)] ok3 ⟨?_, trivial⟩ ?_
  · intro A B E G H; exact rP (y_assign rfl)
  intro a4 s4 D4; have ok4 := D4.ok; have F4 := F3.step0 D4.stp; have q5 := D4.dn 0 rfl rfl; clear D4; refine tn ?_; refine wp_ret ?_; refine tr ?_
  exact retL1 rfl ok4 F4 (cvb (by (rw [← hne, hb])) q5)
 ·
  obtain ⟨d37, d38⟩ := Bool.or_eq_false_iff.mp c1
  obtain ⟨d39, d40⟩ := Bool.or_eq_false_iff.mp d37
  obtain ⟨d41, d42⟩ := Bool.or_eq_false_iff.mp d39
  replace d41 := of_decide_eq_false d41
  replace d42 := of_decide_eq_false d42
  replace d40 := of_decide_eq_false d40
  replace d38 := of_decide_eq_false d38
  have hx1 : ¬ (L.length < 1 ∨ 20 < L.length ∨ L.getD 0 0 = 32 ∨ L.getD (L.length - 1) 0 = 32) := (by simp only [Bool.or_eq_false_iff, decide_eq_false_iff_not, Int.toNat_zero] at c1; omega)
  refine wp_skip ?_; refine tn ?_; refine wp_seq ?_; refine wp_seq ?_
  refine rg a3 s3 [(Ty.int (0 : Int))] ok3 ⟨?_, trivial⟩ ?_
  · intro A B E G H; exact rP (y_assign rfl)
  intro a5 s5 D5; have ok5 := D5.ok; have F5 := F3.step0 D5.stp; have q6 := D5.kt q3 rfl; have q7 := D5.dn 0 rfl rfl; clear D5; refine tn ?_; refine wp_block ?_
  refine loop (fun n1 a6 w1 => ∃ (t1 : GW) (i : Nat), t1.w = w1 ∧ FromL [] s0 t1 ∧ Ok 86 a6 ∧ At (Ty.nat i) t1 a6 (.tmp 4) ∧ At (Ty.lst Ty.int L) t1 a6 (.tmp 3) ∧ (i ≤ L.length) ∧ (∀ j, j < i → letterB (L.getD j 0) = true) ∧ n1 = L.length - i) (L.length - (0)) ?_ ?_
  ·
   exact ⟨s5, 0, rfl, F5, ok5, (cvi (by (first | rfl | omega | (simp_all; done) | (simp_all; omega))) q7), q6, by omega, fun j hj => absurd hj (Nat.not_lt_zero j), rfl⟩
  ·
   rintro n2 a7 w2 ⟨t2, i, rfl, F6, ok6, q8, q9, hi, hal, rfl⟩
   refine wp_seq ?_; refine wp_seq ?_
   refine reg (a := a7) (σ := t2) rfl (fun i_ => List.getD [(Ty.pr (Ty.nat i)), (Ty.pr (Ty.lst Ty.int L)), (Ty.pr (Ty.nat (List.length L))), (Ty.pr (Ty.bool (decide (((i : Nat) : Int) < (((List.length L) : Nat) : Int)))))] i_ Pr.any) ok6 rfl ⟨?_, ?_, ?_, ?_, trivial⟩ ?_
   · intro A B E G H; exact rP (y_move (kp (H 4 rfl) E q8))
   · intro A B E G H; exact rP (y_move (kp (H 3 rfl) E q9))
   · intro A B E G H d0; exact rP (y_len Try.underlying23 (ed d0 rfl rfl rfl))
   · intro A B E G H d0 d1; exact rP (y_lss (ed d0 rfl rfl rfl) (ed d1 rfl rfl rfl))
   intro a8 s6 D6; have ok7 := D6.ok; have F7 := F6.step0 D6.stp; have q10 := D6.kt q8 rfl; have q11 := D6.kt q9 rfl; have q12 := D6.dn 3 rfl rfl; clear D6; refine tn ?_
   refine cond_p (p := (((i : Nat) : Int) < (((List.length L) : Nat) : Int))) q12 (fun c2 => ?_) (fun c2 => ?_)
   ·
    refine wp_skip ?_; refine tn ?_; refine wp_seq ?_; refine wp_block ?_; refine wp_seq ?_
    refine rg a8 s6 [(Ty.lst Ty.int L), (Ty.nat i), (Ty.ref [(Ty.int (L.getD i 0))]), (Ty.int (L.getD i 0)), (Ty.int (L.getD i 0))] ok7 ⟨?_, ?_, ?_, ?_, ?_, trivial⟩ ?_
    · intro A B E G H; exact rP (y_move (kp (H 3 rfl) E q11))
    · intro A B E G H; exact rP (y_move (kp (H 4 rfl) E q10))
    · intro A B E G H d0 d1; exact rP (y_index1 Try.underlying23 Try.inf3 (ed d0 rfl rfl rfl) (ed d1 rfl rfl rfl) (by omega) (lst_get Ty.int L 0 i (by omega)))
    · intro A B E G H d0; exact rP (y_load Try.underlying3 rfl (ed d0 rfl rfl rfl) rfl)
    · intro A B E G H d0 d1 d2 d3 d4; exact rP (y_assign (ed d0 rfl rfl rfl))
    intro a9 s7 D7; have ok8 := D7.ok; have F8 := F7.step0 D7.stp; have q13 := D7.kt q10 rfl; have q14 := D7.kt q11 rfl; have q15 := D7.dn 4 rfl rfl; clear D7; refine tn ?_; refine wp_seq ?_
    refine rg a9 s7 [(Ty.int (L.getD i 0)), (Ty.bool (decide ((65 : Int) ≤ (L.getD i 0)))), (Ty.bool (decide ((65 : Int) ≤ (L.getD i 0)))), (Ty.grd ((decide ((65 : Int) ≤ (L.getD i 0))) = true) (Ty.int (L.getD i 0))), (Ty.grd ((decide ((65 : Int) ≤ (L.getD i 0))) = true) (Ty.bool (decide ((L.getD i 0) ≤ (90 : Int))))), (Ty.bool ((decide ((65 : Int) ≤ (L.getD i 0))) && (decide ((L.getD i 0) ≤ (90 : Int))))), (Ty.bool ((decide ((65 : Int) ≤ (L.getD i 0))) && (decide ((L.getD i 0) ≤ (90 : Int))))), (Ty.grd (((decide ((65 : Int) ≤ (L.getD i 0))) && (decide ((L.getD i 0) ≤ (90 : Int)))) = false) (Ty.int (L.getD i 0))), (Ty.grd (((decide ((65 : Int) ≤ (L.getD i 0))) && (decide ((L.getD i 0) ≤ (90 : Int)))) = false) (Ty.bool (decide ((97 : Int) ≤ (L.getD i 0))))), (Ty.grd (((decide ((65 : Int) ≤ (L.getD i 0))) && (decide ((L.getD i 0) ≤ (90 : Int)))) = false) (Ty.bool (decide ((97 : Int) ≤ (L.getD i 0))))), (Ty.grd ((((decide ((65 : Int) ≤ (L.getD i 0))) && (decide ((L.getD i 0) ≤ (90 : Int)))) = false) ∧ (decide ((97 : Int) ≤ (L.getD i 0))) = true) (Ty.int (L.getD i 0))), (Ty.grd ((((decide ((65 : Int) ≤ (L.getD i 0))) && (decide ((L.getD i 0) ≤ (90 : Int)))) = false) ∧ (decide ((97 : Int) ≤ (L.getD i 0))) = true) (Ty.bool (decide ((L.getD i 0) ≤ (122 : Int))))), (Ty.grd (((decide ((65 : Int) ≤ (L.getD i 0))) && (decide ((L.getD i 0) ≤ (90 : Int)))) = false) (Ty.bool ((decide ((97 : Int) ≤ (L.getD i 0))) && (decide ((L.getD i 0) ≤ (122 : Int)))))), (Ty.bool (((decide ((65 : Int) ≤ (L.getD i 0))) && (decide ((L.getD i 0) ≤ (90 : Int)))) || ((decide ((97 : Int) ≤ (L.getD i 0))) && (decide ((L.getD i 0) ≤ (122 : Int)))))), (Ty.bool (((decide ((65 : Int) ≤ (L.getD i 0))) && (decide ((L.getD i 0) ≤ (90 : Int)))) || ((decide ((97 : Int) ≤ (L.getD i 0))) && (decide ((L.getD i 0) ≤ (122 : Int)))))), (Ty.grd ((((decide ((65 : Int) ≤ (L.getD i 0))) && (decide ((L.getD i 0) ≤ (90 : Int)))) || ((decide ((97 : Int) ≤ (L.getD i 0))) && (decide ((L.getD i 0) ≤ (122 : Int))))) = false) (Ty.int (L.getD i 0))), (Ty.grd ((((decide ((65 : Int) ≤ (L.getD i 0))) && (decide ((L.getD i 0) ≤ (90 : Int)))) || ((decide ((97 : Int) ≤ (L.getD i 0))) && (decide ((L.getD i 0) ≤ (122 : Int))))) = false) (Ty.bool (decide ((48 : Int) ≤ (L.getD i 0))))), (Ty.grd ((((decide ((65 : Int) ≤ (L.getD i 0))) && (decide ((L.getD i 0) ≤ (90 : Int)))) || ((decide ((97 : Int) ≤ (L.getD i 0))) && (decide ((L.getD i 0) ≤ (122 : Int))))) = false) (Ty.bool (decide ((48 : Int) ≤ (L.getD i 0))))), (Ty.grd (((((decide ((65 : Int) ≤ (L.getD i 0))) && (decide ((L.getD i 0) ≤ (90 : Int)))) || ((decide ((97 : Int) ≤ (L.getD i 0))) && (decide ((L.getD i 0) ≤ (122 : Int))))) = false) ∧ (decide ((48 : Int) ≤ (L.getD i 0))) = true) (Ty.int (L.getD i 0))), (Ty.grd (((((decide ((65 : Int) ≤ (L.getD i 0))) && (decide ((L.getD i 0) ≤ (90 : Int)))) || ((decide ((97 : Int) ≤ (L.getD i 0))) && (decide ((L.getD i 0) ≤ (122 : Int))))) = false) ∧ (decide ((48 : Int) ≤ (L.getD i 0))) = true) (Ty.bool (decide ((L.getD i 0) ≤ (57 : Int))))), (Ty.grd ((((decide ((65 : Int) ≤ (L.getD i 0))) && (decide ((L.getD i 0) ≤ (90 : Int)))) || ((decide ((97 : Int) ≤ (L.getD i 0))) && (decide ((L.getD i 0) ≤ (122 : Int))))) = false) (Ty.bool ((decide ((48 : Int) ≤ (L.getD i 0))) && (decide ((L.getD i 0) ≤ (57 : Int)))))), (Ty.bool ((((decide ((65 : Int) ≤ (L.getD i 0))) && (decide ((L.getD i 0) ≤ (90 : Int)))) || ((decide ((97 : Int) ≤ (L.getD i 0))) && (decide ((L.getD i 0) ≤ (122 : Int))))) || ((decide ((48 : Int) ≤ (L.getD i 0))) && (decide ((L.getD i 0) ≤ (57 : Int)))))), (Ty.bool ((((decide ((65 : Int) ≤ (L.getD i 0))) && (decide ((L.getD i 0) ≤ (90 : Int)))) || ((decide ((97 : Int) ≤ (L.getD i 0))) && (decide ((L.getD i 0) ≤ (122 : Int))))) || ((decide ((48 : Int) ≤ (L.getD i 0))) && (decide ((L.getD i 0) ≤ (57 : Int)))))), (Ty.grd (((((decide ((65 : Int) ≤ (L.getD i 0))) && (decide ((L.getD i 0) ≤ (90 : Int)))) || ((decide ((97 : Int) ≤ (L.getD i 0))) && (decide ((L.getD i 0) ≤ (122 : Int))))) || ((decide ((48 : Int) ≤ (L.getD i 0))) && (decide ((L.getD i 0) ≤ (57 : Int))))) = false) (Ty.int (L.getD i 0))), (Ty.grd (((((decide ((65 : Int) ≤ (L.getD i 0))) && (decide ((L.getD i 0) ≤ (90 : Int)))) || ((decide ((97 : Int) ≤ (L.getD i 0))) && (decide ((L.getD i 0) ≤ (122 : Int))))) || ((decide ((48 : Int) ≤ (L.getD i 0))) && (decide ((L.getD i 0) ≤ (57 : Int))))) = false) (Ty.bool (decide ((L.getD i 0) = (32 : Int))))), (Ty.bool (((((decide ((65 : Int) ≤ (L.getD i 0))) && (decide ((L.getD i 0) ≤ (90 : Int)))) || ((decide ((97 : Int) ≤ (L.getD i 0))) && (decide ((L.getD i 0) ≤ (122 : Int))))) || ((decide ((48 : Int) ≤ (L.getD i 0))) && (decide ((L.getD i 0) ≤ (57 : Int))))) || (decide ((L.getD i 0) = (32 : Int))))), (Ty.bool (((((decide ((65 : Int) ≤ (L.getD i 0))) && (decide ((L.getD i 0) ≤ (90 : Int)))) || ((decide ((97 : Int) ≤ (L.getD i 0))) && (decide ((L.getD i 0) ≤ (122 : Int))))) || ((decide ((48 : Int) ≤ (L.getD i 0))) && (decide ((L.getD i 0) ≤ (57 : Int))))) || (decide ((L.getD i 0) = (32 : Int)))))] ok8 ⟨?_, ?_, ?_, ?_, ?_, ?_, ?_, ?_, ?_, ?_, ?_, ?_, ?_, ?_, ?_, ?_, ?_, ?_, ?_, ?_, ?_, ?_, ?_, ?_, ?_, ?_, ?_, trivial⟩ ?_
    · intro A B E G H; exact rP (y_move (kp (H 5 rfl) E q15))
    · intro A B E G H d0; exact rP (y_geq (ed d0 rfl rfl rfl) rfl)
    · intro A B E G H d0; exact rP (y_move (ed d0 rfl rfl rfl))
    · intro A B E G H d0
      refine run_guard G rfl rfl (by decide) (ed d0 rfl rfl rfl) (fun hg => ?_)
      have hp := of_decide_eq_true hg
      exact y_move (kp (H 5 rfl) E q15)
    · intro A B E G H d0 d1
      refine run_guard G rfl rfl (by decide) (ed d1 rfl rfl rfl) (fun hg => ?_)
      have hp := of_decide_eq_true hg
      exact y_leq ((ed d0 rfl rfl rfl).1 hg) rfl
    · intro A B E G H d0 d1; exact rP (y_pick_and (ed d0 rfl rfl rfl) (ed d1 rfl rfl rfl) rfl)
    · intro A B E G H d0 d1; exact rP (y_move (ed d0 rfl rfl rfl))
    · intro A B E G H d0
      refine run_guard G rfl rfl (by decide) (ed d0 rfl rfl rfl) (fun hg => ?_)
      exact y_move (kp (H 5 rfl) E q15)
    · intro A B E G H d0 d1
      refine run_guard G rfl rfl (by decide) (ed d1 rfl rfl rfl) (fun hg => ?_)
      exact y_geq ((ed d0 rfl rfl rfl).1 hg) rfl
    · intro A B E G H d0 d1 d2
      refine run_guard G rfl rfl (by decide) (ed d1 rfl rfl rfl) (fun hg => ?_)
      exact y_move ((ed d0 rfl rfl rfl).1 hg)
    · intro A B E G H d0
      refine run_guard2 G rfl rfl (by decide) (ed d0 rfl rfl rfl) (fun hg => ?_)
      have hp := of_decide_eq_true hg.2
      exact y_move (kp (H 5 rfl) E q15)
    · intro A B E G H d0 d1
      refine run_guard2 G rfl rfl (by decide) (ed d1 rfl rfl rfl) (fun hg => ?_)
      have hp := of_decide_eq_true hg.2
      exact y_leq ((ed d0 rfl rfl rfl).1 hg) rfl
    · intro A B E G H d0 d1 d2
      refine run_guard G rfl rfl (by decide) (ed d2 rfl rfl rfl) (fun hg => ?_)
      exact y_pick_and ((ed d0 rfl rfl rfl).1 hg) (grd_part hg (ed d1 rfl rfl rfl)) rfl
    · intro A B E G H d0 d1; exact rP (y_pick_or (ed d0 rfl rfl rfl) rfl (ed d1 rfl rfl rfl))
    · intro A B E G H d0 d1; exact rP (y_move (ed d0 rfl rfl rfl))
    · intro A B E G H d0
      refine run_guard G rfl rfl (by decide) (ed d0 rfl rfl rfl) (fun hg => ?_)
      obtain ⟨d43, d44⟩ := Bool.or_eq_false_iff.mp hg
      exact y_move (kp (H 5 rfl) E q15)
    · intro A B E G H d0 d1
      refine run_guard G rfl rfl (by decide) (ed d1 rfl rfl rfl) (fun hg => ?_)
      obtain ⟨d45, d46⟩ := Bool.or_eq_false_iff.mp hg
      exact y_geq ((ed d0 rfl rfl rfl).1 hg) rfl
    · intro A B E G H d0 d1 d2
      refine run_guard G rfl rfl (by decide) (ed d1 rfl rfl rfl) (fun hg => ?_)
      obtain ⟨d47, d48⟩ := Bool.or_eq_false_iff.mp hg
      exact y_move ((ed d0 rfl rfl rfl).1 hg)
    · intro A B E G H d0
      refine run_guard2 G rfl rfl (by decide) (ed d0 rfl rfl rfl) (fun hg => ?_)
      have hp := of_decide_eq_true hg.2
      exact y_move (kp (H 5 rfl) E q15)
    · intro A B E G H d0 d1
      refine run_guard2 G rfl rfl (by decide) (ed d1 rfl rfl rfl) (fun hg => ?_)
      have hp := of_decide_eq_true hg.2
      exact y_leq ((ed d0 rfl rfl rfl).1 hg) rfl
    · intro A B E G H d0 d1 d2
      refine run_guard G rfl rfl (by decide) (ed d2 rfl rfl rfl) (fun hg => ?_)
      obtain ⟨d49, d50⟩ := Bool.or_eq_false_iff.mp hg
      exact y_pick_and ((ed d0 rfl rfl rfl).1 hg) (grd_part hg (ed d1 rfl rfl rfl)) rfl
    · intro A B E G H d0 d1; exact rP (y_pick_or (ed d0 rfl rfl rfl) rfl (ed d1 rfl rfl rfl))
    · intro A B E G H d0 d1; exact rP (y_move (ed d0 rfl rfl rfl))
    · intro A B E G H d0
      refine run_guard G rfl rfl (by decide) (ed d0 rfl rfl rfl) (fun hg => ?_)
      obtain ⟨d51, d52⟩ := Bool.or_eq_false_iff.mp hg
      obtain ⟨d53, d54⟩ := Bool.or_eq_false_iff.mp d51
      exact y_move (kp (H 5 rfl) E q15)
    · intro A B E G H d0 d1
      refine run_guard G rfl rfl (by decide) (ed d1 rfl rfl rfl) (fun hg => ?_)
      obtain ⟨d55, d56⟩ := Bool.or_eq_false_iff.mp hg
      obtain ⟨d57, d58⟩ := Bool.or_eq_false_iff.mp d55
      exact y_eql ((ed d0 rfl rfl rfl).1 hg) rfl
    · intro A B E G H d0 d1; exact rP (y_pick_or (ed d0 rfl rfl rfl) rfl (ed d1 rfl rfl rfl))
    · intro A B E G H d0 d1 d2 d3 d4 d5 d6 d7 d8 d9 d10 d11 d12 d13 d14 d15 d16 d17 d18 d19 d20 d21 d22 d23 d24 d25 d26 d27; exact rP (y_assign (ed d0 rfl rfl rfl))
    intro a10 s8 D8; have ok9 := D8.ok; have F9 := F8.step0 D8.stp; have q16 := D8.kt q13 rfl; have q17 := D8.kt q14 rfl; have q18 := D8.kt q15 rfl; have q19 := D8.dn 26 rfl rfl; clear D8; refine tn ?_; refine wp_seq ?_
    refine rg a10 s8 [(Ty.bool (((((decide ((65 : Int) ≤ (L.getD i 0))) && (decide ((L.getD i 0) ≤ (90 : Int)))) || ((decide ((97 : Int) ≤ (L.getD i 0))) && (decide ((L.getD i 0) ≤ (122 : Int))))) || ((decide ((48 : Int) ≤ (L.getD i 0))) && (decide ((L.getD i 0) ≤ (57 : Int))))) || (decide ((L.getD i 0) = (32 : Int))))), (Ty.bool (!(((((decide ((65 : Int) ≤ (L.getD i 0))) && (decide ((L.getD i 0) ≤ (90 : Int)))) || ((decide ((97 : Int) ≤ (L.getD i 0))) && (decide ((L.getD i 0) ≤ (122 : Int))))) || ((decide ((48 : Int) ≤ (L.getD i 0))) && (decide ((L.getD i 0) ≤ (57 : Int))))) || (decide ((L.getD i 0) = (32 : Int)))))), (Ty.bool (!(((((decide ((65 : Int) ≤ (L.getD i 0))) && (decide ((L.getD i 0) ≤ (90 : Int)))) || ((decide ((97 : Int) ≤ (L.getD i 0))) && (decide ((L.getD i 0) ≤ (122 : Int))))) || ((decide ((48 : Int) ≤ (L.getD i 0))) && (decide ((L.getD i 0) ≤ (57 : Int))))) || (decide ((L.getD i 0) = (32 : Int)))))), (Ty.grd ((!(((((decide ((65 : Int) ≤ (L.getD i 0))) && (decide ((L.getD i 0) ≤ (90 : Int)))) || ((decide ((97 : Int) ≤ (L.getD i 0))) && (decide ((L.getD i 0) ≤ (122 : Int))))) || ((decide ((48 : Int) ≤ (L.getD i 0))) && (decide ((L.getD i 0) ≤ (57 : Int))))) || (decide ((L.getD i 0) = (32 : Int))))) = true) (Ty.int (L.getD i 0))), (Ty.grd ((!(((((decide ((65 : Int) ≤ (L.getD i 0))) && (decide ((L.getD i 0) ≤ (90 : Int)))) || ((decide ((97 : Int) ≤ (L.getD i 0))) && (decide ((L.getD i 0) ≤ (122 : Int))))) || ((decide ((48 : Int) ≤ (L.getD i 0))) && (decide ((L.getD i 0) ≤ (57 : Int))))) || (decide ((L.getD i 0) = (32 : Int))))) = true) (Ty.bool (decide ((L.getD i 0) < (192 : Int))))), (Ty.grd ((!(((((decide ((65 : Int) ≤ (L.getD i 0))) && (decide ((L.getD i 0) ≤ (90 : Int)))) || ((decide ((97 : Int) ≤ (L.getD i 0))) && (decide ((L.getD i 0) ≤ (122 : Int))))) || ((decide ((48 : Int) ≤ (L.getD i 0))) && (decide ((L.getD i 0) ≤ (57 : Int))))) || (decide ((L.getD i 0) = (32 : Int))))) = true) (Ty.bool (decide ((L.getD i 0) < (192 : Int))))), (Ty.grd (((!(((((decide ((65 : Int) ≤ (L.getD i 0))) && (decide ((L.getD i 0) ≤ (90 : Int)))) || ((decide ((97 : Int) ≤ (L.getD i 0))) && (decide ((L.getD i 0) ≤ (122 : Int))))) || ((decide ((48 : Int) ≤ (L.getD i 0))) && (decide ((L.getD i 0) ≤ (57 : Int))))) || (decide ((L.getD i 0) = (32 : Int))))) = true) ∧ (decide ((L.getD i 0) < (192 : Int))) = false) (Ty.int (L.getD i 0))), (Ty.grd (((!(((((decide ((65 : Int) ≤ (L.getD i 0))) && (decide ((L.getD i 0) ≤ (90 : Int)))) || ((decide ((97 : Int) ≤ (L.getD i 0))) && (decide ((L.getD i 0) ≤ (122 : Int))))) || ((decide ((48 : Int) ≤ (L.getD i 0))) && (decide ((L.getD i 0) ≤ (57 : Int))))) || (decide ((L.getD i 0) = (32 : Int))))) = true) ∧ (decide ((L.getD i 0) < (192 : Int))) = false) (Ty.bool (decide ((382 : Int) < (L.getD i 0))))), (Ty.grd ((!(((((decide ((65 : Int) ≤ (L.getD i 0))) && (decide ((L.getD i 0) ≤ (90 : Int)))) || ((decide ((97 : Int) ≤ (L.getD i 0))) && (decide ((L.getD i 0) ≤ (122 : Int))))) || ((decide ((48 : Int) ≤ (L.getD i 0))) && (decide ((L.getD i 0) ≤ (57 : Int))))) || (decide ((L.getD i 0) = (32 : Int))))) = true) (Ty.bool ((decide ((L.getD i 0) < (192 : Int))) || (decide ((382 : Int) < (L.getD i 0)))))), (Ty.grd ((!(((((decide ((65 : Int) ≤ (L.getD i 0))) && (decide ((L.getD i 0) ≤ (90 : Int)))) || ((decide ((97 : Int) ≤ (L.getD i 0))) && (decide ((L.getD i 0) ≤ (122 : Int))))) || ((decide ((48 : Int) ≤ (L.getD i 0))) && (decide ((L.getD i 0) ≤ (57 : Int))))) || (decide ((L.getD i 0) = (32 : Int))))) = true) (Ty.bool ((decide ((L.getD i 0) < (192 : Int))) || (decide ((382 : Int) < (L.getD i 0)))))), (Ty.grd (((!(((((decide ((65 : Int) ≤ (L.getD i 0))) && (decide ((L.getD i 0) ≤ (90 : Int)))) || ((decide ((97 : Int) ≤ (L.getD i 0))) && (decide ((L.getD i 0) ≤ (122 : Int))))) || ((decide ((48 : Int) ≤ (L.getD i 0))) && (decide ((L.getD i 0) ≤ (57 : Int))))) || (decide ((L.getD i 0) = (32 : Int))))) = true) ∧ ((decide ((L.getD i 0) < (192 : Int))) || (decide ((382 : Int) < (L.getD i 0)))) = false) (Ty.int (L.getD i 0))), (Ty.grd (((!(((((decide ((65 : Int) ≤ (L.getD i 0))) && (decide ((L.getD i 0) ≤ (90 : Int)))) || ((decide ((97 : Int) ≤ (L.getD i 0))) && (decide ((L.getD i 0) ≤ (122 : Int))))) || ((decide ((48 : Int) ≤ (L.getD i 0))) && (decide ((L.getD i 0) ≤ (57 : Int))))) || (decide ((L.getD i 0) = (32 : Int))))) = true) ∧ ((decide ((L.getD i 0) < (192 : Int))) || (decide ((382 : Int) < (L.getD i 0)))) = false) (Ty.bool (decide ((L.getD i 0) = (215 : Int))))), (Ty.grd ((!(((((decide ((65 : Int) ≤ (L.getD i 0))) && (decide ((L.getD i 0) ≤ (90 : Int)))) || ((decide ((97 : Int) ≤ (L.getD i 0))) && (decide ((L.getD i 0) ≤ (122 : Int))))) || ((decide ((48 : Int) ≤ (L.getD i 0))) && (decide ((L.getD i 0) ≤ (57 : Int))))) || (decide ((L.getD i 0) = (32 : Int))))) = true) (Ty.bool (((decide ((L.getD i 0) < (192 : Int))) || (decide ((382 : Int) < (L.getD i 0)))) || (decide ((L.getD i 0) = (215 : Int)))))), (Ty.grd ((!(((((decide ((65 : Int) ≤ (L.getD i 0))) && (decide ((L.getD i 0) ≤ (90 : Int)))) || ((decide ((97 : Int) ≤ (L.getD i 0))) && (decide ((L.getD i 0) ≤ (122 : Int))))) || ((decide ((48 : Int) ≤ (L.getD i 0))) && (decide ((L.getD i 0) ≤ (57 : Int))))) || (decide ((L.getD i 0) = (32 : Int))))) = true) (Ty.bool (((decide ((L.getD i 0) < (192 : Int))) || (decide ((382 : Int) < (L.getD i 0)))) || (decide ((L.getD i 0) = (215 : Int)))))), (Ty.grd (((!(((((decide ((65 : Int) ≤ (L.getD i 0))) && (decide ((L.getD i 0) ≤ (90 : Int)))) || ((decide ((97 : Int) ≤ (L.getD i 0))) && (decide ((L.getD i 0) ≤ (122 : Int))))) || ((decide ((48 : Int) ≤ (L.getD i 0))) && (decide ((L.getD i 0) ≤ (57 : Int))))) || (decide ((L.getD i 0) = (32 : Int))))) = true) ∧ (((decide ((L.getD i 0) < (192 : Int))) || (decide ((382 : Int) < (L.getD i 0)))) || (decide ((L.getD i 0) = (215 : Int)))) = false) (Ty.int (L.getD i 0))), (Ty.grd (((!(((((decide ((65 : Int) ≤ (L.getD i 0))) && (decide ((L.getD i 0) ≤ (90 : Int)))) || ((decide ((97 : Int) ≤ (L.getD i 0))) && (decide ((L.getD i 0) ≤ (122 : Int))))) || ((decide ((48 : Int) ≤ (L.getD i 0))) && (decide ((L.getD i 0) ≤ (57 : Int))))) || (decide ((L.getD i 0) = (32 : Int))))) = true) ∧ (((decide ((L.getD i 0) < (192 : Int))) || (decide ((382 : Int) < (L.getD i 0)))) || (decide ((L.getD i 0) = (215 : Int)))) = false) (Ty.bool (decide ((L.getD i 0) = (247 : Int))))), (Ty.grd ((!(((((decide ((65 : Int) ≤ (L.getD i 0))) && (decide ((L.getD i 0) ≤ (90 : Int)))) || ((decide ((97 : Int) ≤ (L.getD i 0))) && (decide ((L.getD i 0) ≤ (122 : Int))))) || ((decide ((48 : Int) ≤ (L.getD i 0))) && (decide ((L.getD i 0) ≤ (57 : Int))))) || (decide ((L.getD i 0) = (32 : Int))))) = true) (Ty.bool ((((decide ((L.getD i 0) < (192 : Int))) || (decide ((382 : Int) < (L.getD i 0)))) || (decide ((L.getD i 0) = (215 : Int)))) || (decide ((L.getD i 0) = (247 : Int)))))), (Ty.bool ((!(((((decide ((65 : Int) ≤ (L.getD i 0))) && (decide ((L.getD i 0) ≤ (90 : Int)))) || ((decide ((97 : Int) ≤ (L.getD i 0))) && (decide ((L.getD i 0) ≤ (122 : Int))))) || ((decide ((48 : Int) ≤ (L.getD i 0))) && (decide ((L.getD i 0) ≤ (57 : Int))))) || (decide ((L.getD i 0) = (32 : Int))))) && ((((decide ((L.getD i 0) < (192 : Int))) || (decide ((382 : Int) < (L.getD i 0)))) || (decide ((L.getD i 0) = (215 : Int)))) || (decide ((L.getD i 0) = (247 : Int))))))] ok9 ⟨?_, ?_, ?_, ?_, ?_, ?_, ?_, ?_, ?_, ?_, ?_, ?_, ?_, ?_, ?_, ?_, ?_, ?_, trivial⟩ ?_
    · intro A B E G H; exact rP (y_move (kp (H 6 rfl) E q19))
    · intro A B E G H d0; exact rP (y_not (ed d0 rfl rfl rfl))
    · intro A B E G H d0; exact rP (y_move (ed d0 rfl rfl rfl))
    · intro A B E G H d0
      refine run_guard G rfl rfl (by decide) (ed d0 rfl rfl rfl) (fun hg => ?_)
      exact y_move (kp (H 5 rfl) E q18)
    · intro A B E G H d0 d1
      refine run_guard G rfl rfl (by decide) (ed d1 rfl rfl rfl) (fun hg => ?_)
      exact y_lss ((ed d0 rfl rfl rfl).1 hg) rfl
    · intro A B E G H d0 d1 d2
      refine run_guard G rfl rfl (by decide) (ed d1 rfl rfl rfl) (fun hg => ?_)
      exact y_move ((ed d0 rfl rfl rfl).1 hg)
    · intro A B E G H d0
      refine run_guard2 G rfl rfl (by decide) (ed d0 rfl rfl rfl) (fun hg => ?_)
      have hp := of_decide_eq_false hg.2
      exact y_move (kp (H 5 rfl) E q18)
    · intro A B E G H d0 d1
      refine run_guard2 G rfl rfl (by decide) (ed d1 rfl rfl rfl) (fun hg => ?_)
      have hp := of_decide_eq_false hg.2
      exact y_gtr ((ed d0 rfl rfl rfl).1 hg) rfl
    · intro A B E G H d0 d1 d2
      refine run_guard G rfl rfl (by decide) (ed d2 rfl rfl rfl) (fun hg => ?_)
      exact y_pick_or ((ed d0 rfl rfl rfl).1 hg) rfl (grd_part hg (ed d1 rfl rfl rfl))
    · intro A B E G H d0 d1 d2
      refine run_guard G rfl rfl (by decide) (ed d2 rfl rfl rfl) (fun hg => ?_)
      exact y_move ((ed d0 rfl rfl rfl).1 hg)
    · intro A B E G H d0
      refine run_guard2 G rfl rfl (by decide) (ed d0 rfl rfl rfl) (fun hg => ?_)
      obtain ⟨d59, d60⟩ := Bool.or_eq_false_iff.mp hg.2
      have d59 := of_decide_eq_false d59
      have d60 := of_decide_eq_false d60
      exact y_move (kp (H 5 rfl) E q18)
    · intro A B E G H d0 d1
      refine run_guard2 G rfl rfl (by decide) (ed d1 rfl rfl rfl) (fun hg => ?_)
      obtain ⟨d61, d62⟩ := Bool.or_eq_false_iff.mp hg.2
      have d61 := of_decide_eq_false d61
      have d62 := of_decide_eq_false d62
      exact y_eql ((ed d0 rfl rfl rfl).1 hg) rfl
    · intro A B E G H d0 d1 d2
      refine run_guard G rfl rfl (by decide) (ed d2 rfl rfl rfl) (fun hg => ?_)
      exact y_pick_or ((ed d0 rfl rfl rfl).1 hg) rfl (grd_part hg (ed d1 rfl rfl rfl))
    · intro A B E G H d0 d1 d2
      refine run_guard G rfl rfl (by decide) (ed d2 rfl rfl rfl) (fun hg => ?_)
      exact y_move ((ed d0 rfl rfl rfl).1 hg)
    · intro A B E G H d0
      refine run_guard2 G rfl rfl (by decide) (ed d0 rfl rfl rfl) (fun hg => ?_)
      obtain ⟨d63, d64⟩ := Bool.or_eq_false_iff.mp hg.2
      obtain ⟨d65, d66⟩ := Bool.or_eq_false_iff.mp d63
      have d65 := of_decide_eq_false d65
      have d66 := of_decide_eq_false d66
      have d64 := of_decide_eq_false d64
      exact y_move (kp (H 5 rfl) E q18)
    · intro A B E G H d0 d1
      refine run_guard2 G rfl rfl (by decide) (ed d1 rfl rfl rfl) (fun hg => ?_)
      obtain ⟨d67, d68⟩ := Bool.or_eq_false_iff.mp hg.2
      obtain ⟨d69, d70⟩ := Bool.or_eq_false_iff.mp d67
      have d69 := of_decide_eq_false d69
      have d70 := of_decide_eq_false d70
      have d68 := of_decide_eq_false d68
      exact y_eql ((ed d0 rfl rfl rfl).1 hg) rfl
    · intro A B E G H d0 d1 d2
      refine run_guard G rfl rfl (by decide) (ed d2 rfl rfl rfl) (fun hg => ?_)
      exact y_pick_or ((ed d0 rfl rfl rfl).1 hg) rfl (grd_part hg (ed d1 rfl rfl rfl))
    · intro A B E G H d0 d1; exact rP (y_pick_and (ed d0 rfl rfl rfl) (ed d1 rfl rfl rfl) rfl)
    intro a11 s9 D9; have ok10 := D9.ok; have F10 := F9.step0 D9.stp; have q20 := D9.kt q16 rfl; have q21 := D9.kt q17 rfl; have q22 := D9.dn 17 rfl rfl; clear D9; refine tn ?_
    refine cond_t q22 (fun c3 => ?_) (fun c3 => ?_)
    ·
     obtain ⟨d71, d72⟩ := Bool.and_eq_true_iff.mp c3
     have hlb : letterB (L.getD i 0) = false := (by rw [Bool.eq_false_iff]; intro h_; simp only [letterB, Bool.or_eq_true, Bool.and_eq_true, Bool.not_eq_true, Bool.or_eq_false_iff, Bool.and_eq_false_iff, Bool.not_eq_true', decide_eq_true_eq, decide_eq_false_iff_not] at h_ c3; omega); have hb := name_let (l := L) (by omega) hlb
     refine wp_seq ?_
     refine rg a11 s9 [(Ty.bool false)] ok10 ⟨?_, trivial⟩ ?_
     · intro A B E G H; exact rP (y_assign rfl)
     intro a12 s10 D10; have ok11 := D10.ok; have F11 := F10.step0 D10.stp; have q23 := D10.dn 0 rfl rfl; clear D10; refine tn ?_; refine wp_ret ?_; refine br ?_; refine tr ?_; refine tr ?_; refine br ?_; refine tr ?_
     exact retL1 rfl ok11 F11 (cvb (by (rw [← hne, hb])) q23)
    ·
     have hlb : letterB (L.getD i 0) = true := (by simp only [letterB, Bool.or_eq_true, Bool.and_eq_true, Bool.not_eq_false', Bool.or_eq_false_iff, Bool.and_eq_false_iff, decide_eq_true_eq, decide_eq_false_iff_not] at c3 ⊢; omega)
     refine wp_skip ?_; refine bn ?_; refine tn ?_
     refine rg a11 s9 [(Ty.nat i), (Ty.nat (i + 1)), (Ty.nat (i + 1))] ok10 ⟨?_, ?_, ?_, trivial⟩ ?_
     · intro A B E G H; exact rP (y_move (kp (H 4 rfl) E q20))
     · intro A B E G H d0; exact rP ((y_add (ed d0 rfl rfl rfl) rfl (w64 (by omega) (by omega))).mono (fun τ _ h => cvi (σ := τ) (by first | omega | exact (Int.natCast_mul _ _).symm) h))
     · intro A B E G H d0 d1 d2; exact rP (y_assign (ed d0 rfl rfl rfl))
     intro a13 s11 D11; have ok12 := D11.ok; have F12 := F10.step0 D11.stp; have q24 := D11.kt q21 rfl; have q25 := D11.dn 2 rfl rfl; clear D11
     exact tn ⟨L.length - ((i+1)), by omega, s11, (i+1), rfl, F12, ok12, (cvi (by (first | rfl | omega | (simp_all; done) | (simp_all; omega))) q25), q24, by omega, fun j hj => by (by_cases e : j = i; subst e; exact hlb; exact hal j (by omega)), rfl⟩
   ·
    refine wp_exit ?_; refine tx ?_; refine tx ?_; refine bx ?_; refine tn ?_; refine wp_seq ?_
    refine rg a8 s6 [(Ty.bool true)] ok7 ⟨?_, trivial⟩ ?_
    · intro A B E G H; exact rP (y_assign rfl)
    intro a14 s12 D12; have ok13 := D12.ok; have F13 := F7.step0 D12.stp; have q26 := D12.dn 0 rfl rfl; clear D12; refine tn ?_; refine wp_ret ?_
    exact retL1 rfl ok13 F13 (cvb (by (rw [← hne]; exact (name_good hx1 (fun j hj => hal j (by omega))).symm)) q26)


set_option maxRecDepth 100000 in
theorem rChangeMay_fn (n : Int) (l : List Int) (σ : GW) (v0 v1 : Value) (hv0 : Ty.has (Ty.int n) σ v0) (hv1 : Ty.has (Ty.lst Ty.int l) σ v1) (hn : -9223372036854775808 ≤ n ∧ n ≤ 9223372036854775807) :
    FnC Try.prog 62 #[v0, v1] σ (Ty.int (chgMay n l)) := by
 refine fn_intro Try.func62 rfl Try.ntmps62 (Nat.le_of_ble_eq_true rfl) (fun s0 a0 hle F0 ok0 hargs => ?_)
 have p0 : At (Ty.int n) s0 a0 (.tmp 0) := by have e := hargs 0 _ rfl; show Ty.has _ _ _; rw [e]; exact Ty.up _ hle hv0
 have p1 : At (Ty.lst Ty.int l) s0 a0 (.tmp 1) := by have e := hargs 1 _ rfl; show Ty.has _ _ _; rw [e]; exact Ty.up _ hle hv1
 have b1 := sl_le p1
 clear hargs; refine wp_seq ?_
 refine rg a0 s0 [(Ty.int (0 : Int))] ok0 ⟨?_, trivial⟩ ?_
 · intro A B E G H; exact rP (y_assign rfl)
 intro a1 s1 D1; have ok1 := D1.ok; have F1 := F0.step0 D1.stp; have q1 := D1.kt p0 rfl; have q2 := D1.kt p1 rfl; clear D1; refine tn ?_; refine wp_seq ?_; refine wp_seq ?_
 refine rg a1 s1 [(Ty.int n), (Ty.bool (decide (n < (1 : Int)))), (Ty.bool (decide (n < (1 : Int)))), (Ty.grd ((decide (n < (1 : Int))) = false) (Ty.int n)), (Ty.grd ((decide (n < (1 : Int))) = false) (Ty.bool (decide ((12 : Int) < n)))), (Ty.bool ((decide (n < (1 : Int))) || (decide ((12 : Int) < n))))] ok1 ⟨?_, ?_, ?_, ?_, ?_, ?_, trivial⟩ ?_
 · intro A B E G H; exact rP (y_move (kp (H 0 rfl) E q1))
 · intro A B E G H d0; exact rP (y_lss (ed d0 rfl rfl rfl) rfl)
 · intro A B E G H d0; exact rP (y_move (ed d0 rfl rfl rfl))
 · intro A B E G H d0
   refine run_guard G rfl rfl (by decide) (ed d0 rfl rfl rfl) (fun hg => ?_)
   have hp := of_decide_eq_false hg
   exact y_move (kp (H 0 rfl) E q1)
 · intro A B E G H d0 d1
   refine run_guard G rfl rfl (by decide) (ed d1 rfl rfl rfl) (fun hg => ?_)
   have hp := of_decide_eq_false hg
   exact y_gtr ((ed d0 rfl rfl rfl).1 hg) rfl
 · intro A B E G H d0 d1; exact rP (y_pick_or (ed d0 rfl rfl rfl) rfl (ed d1 rfl rfl rfl))
 intro a2 s2 D2; have ok2 := D2.ok; have F2 := F1.step0 D2.stp; have q3 := D2.kt q1 rfl; have q4 := D2.kt q2 rfl; have q5 := D2.dn 5 rfl rfl; clear D2; refine tn ?_
 refine cond_t q5 (fun c1 => ?_) (fun c1 => ?_)
 ·
  simp only [Bool.or_eq_true, decide_eq_true_eq] at c1
  refine wp_seq ?_
  refine rg a2 s2 [(Ty.int (1 : Int))] ok2 ⟨?_, trivial⟩ ?_
  · intro A B E G H; exact rP (y_assign rfl)
  intro a3 s3 D3; have ok3 := D3.ok; have F3 := F2.step0 D3.stp; have q6 := D3.dn 0 rfl rfl; clear D3; refine tn ?_; refine wp_ret ?_; refine tr ?_
  exact ret1 rfl ok3 F3 (cvi (by (exact (chgMay_cnt (by omega)).symm)) q6)
 ·
  obtain ⟨d1, d2⟩ := Bool.or_eq_false_iff.mp c1
  replace d1 := of_decide_eq_false d1
  replace d2 := of_decide_eq_false d2
  refine wp_skip ?_; refine tn ?_; refine wp_seq ?_
  refine rg a2 s2 [(Ty.int (0 : Int))] ok2 ⟨?_, trivial⟩ ?_
  · intro A B E G H; exact rP (y_assign rfl)
  intro a4 s4 D4; have ok4 := D4.ok; have F4 := F2.step0 D4.stp; have q7 := D4.kt q3 rfl; have q8 := D4.kt q4 rfl; have q9 := D4.dn 0 rfl rfl; clear D4; refine tn ?_; refine wp_seq ?_; refine wp_seq ?_
  refine rg a4 s4 [(Ty.int (0 : Int))] ok4 ⟨?_, trivial⟩ ?_
  · intro A B E G H; exact rP (y_assign rfl)
  intro a5 s5 D5; have ok5 := D5.ok; have F5 := F4.step0 D5.stp; have q10 := D5.kt q7 rfl; have q11 := D5.kt q8 rfl; have q12 := D5.kt q9 rfl; have q13 := D5.dn 0 rfl rfl; clear D5; refine tn ?_; refine wp_block ?_
  refine loop (fun n1 a6 w1 => ∃ (t1 : GW) (k : Nat) (z : Int), t1.w = w1 ∧ From s0 t1 ∧ Ok 52 a6 ∧ At (Ty.nat k) t1 a6 (.tmp 6) ∧ At (Ty.int z) t1 a6 (.tmp 5) ∧ At (Ty.int n) t1 a6 (.tmp 0) ∧ At (Ty.lst Ty.int l) t1 a6 (.tmp 1) ∧ (k ≤ l.length) ∧ (scanTo n l k = some z) ∧ (0 ≤ z ∧ z ≤ n) ∧ n1 = l.length - k) (l.length - (0)) ?_ ?_
  ·
   exact ⟨s5, 0, 0, rfl, F5, ok5, (cvi (by (first | rfl | omega | (simp_all; done) | (simp_all; omega))) q13), (cvi (by (first | rfl | omega | (simp_all; done) | (simp_all; omega))) q12), q10, q11, by omega, rfl, by omega, rfl⟩
  ·
   rintro n2 a7 w2 ⟨t2, k, z, rfl, F6, ok6, q14, q15, q16, q17, hk, E, hz, rfl⟩
   refine wp_seq ?_; refine wp_seq ?_
   refine reg (a := a7) (σ := t2) rfl (fun i_ => List.getD [(Ty.pr (Ty.nat k)), (Ty.pr (Ty.lst Ty.int l)), (Ty.pr (Ty.nat (List.length l))), (Ty.pr (Ty.bool (decide (((k : Nat) : Int) < (((List.length l) : Nat) : Int)))))] i_ Pr.any) ok6 rfl ⟨?_, ?_, ?_, ?_, trivial⟩ ?_
   · intro A B E G H; exact rP (y_move (kp (H 6 rfl) E q14))
   · intro A B E G H; exact rP (y_move (kp (H 1 rfl) E q17))
   · intro A B E G H d0; exact rP (y_len Try.underlying23 (ed d0 rfl rfl rfl))
   · intro A B E G H d0 d1; exact rP (y_lss (ed d0 rfl rfl rfl) (ed d1 rfl rfl rfl))
   intro a8 s6 D6; have ok7 := D6.ok; have F7 := F6.step0 D6.stp; have q18 := D6.kt q14 rfl; have q19 := D6.kt q15 rfl; have q20 := D6.kt q16 rfl; have q21 := D6.kt q17 rfl; have q22 := D6.dn 3 rfl rfl; clear D6; refine tn ?_
   refine cond_p (p := (((k : Nat) : Int) < (((List.length l) : Nat) : Int))) q22 (fun c2 => ?_) (fun c2 => ?_)
   ·
    refine wp_skip ?_; refine tn ?_; refine wp_seq ?_; refine wp_block ?_; refine wp_seq ?_; refine wp_seq ?_
    refine rg a8 s6 [(Ty.lst Ty.int l), (Ty.nat k), (Ty.ref [(Ty.int (l.getD k 0))]), (Ty.int (l.getD k 0)), (Ty.int z), (Ty.bool (decide ((l.getD k 0) ≤ z))), (Ty.bool (decide ((l.getD k 0) ≤ z))), (Ty.grd ((decide ((l.getD k 0) ≤ z)) = false) (Ty.lst Ty.int l)), (Ty.grd ((decide ((l.getD k 0) ≤ z)) = false) (Ty.nat k)), (Ty.grd ((decide ((l.getD k 0) ≤ z)) = false) (Ty.ref [(Ty.int (l.getD k 0))])), (Ty.grd ((decide ((l.getD k 0) ≤ z)) = false) (Ty.int (l.getD k 0))), (Ty.grd ((decide ((l.getD k 0) ≤ z)) = false) (Ty.int n)), (Ty.grd ((decide ((l.getD k 0) ≤ z)) = false) (Ty.bool (decide (n < (l.getD k 0))))), (Ty.bool ((decide ((l.getD k 0) ≤ z)) || (decide (n < (l.getD k 0))))), (Ty.bool ((decide ((l.getD k 0) ≤ z)) || (decide (n < (l.getD k 0))))), (Ty.grd (((decide ((l.getD k 0) ≤ z)) || (decide (n < (l.getD k 0)))) = false) (Ty.lst Ty.int l)), (Ty.grd (((decide ((l.getD k 0) ≤ z)) || (decide (n < (l.getD k 0)))) = false) (Ty.nat k)), (Ty.grd (((decide ((l.getD k 0) ≤ z)) || (decide (n < (l.getD k 0)))) = false) (Ty.ref [(Ty.int (l.getD k 0))])), (Ty.grd (((decide ((l.getD k 0) ≤ z)) || (decide (n < (l.getD k 0)))) = false) (Ty.int (l.getD k 0))), (Ty.grd (((decide ((l.getD k 0) ≤ z)) || (decide (n < (l.getD k 0)))) = false) (Ty.int z)), (Ty.grd (((decide ((l.getD k 0) ≤ z)) || (decide (n < (l.getD k 0)))) = false) (Ty.int ((l.getD k 0) - z))), (Ty.grd (((decide ((l.getD k 0) ≤ z)) || (decide (n < (l.getD k 0)))) = false) (Ty.nat ((((l.getD k 0) - z)).toNat % 2))), (Ty.grd (((decide ((l.getD k 0) ≤ z)) || (decide (n < (l.getD k 0)))) = false) (Ty.bool (decide (((((((l.getD k 0) - z)).toNat % 2) : Nat) : Int) = (0 : Int))))), (Ty.bool (((decide ((l.getD k 0) ≤ z)) || (decide (n < (l.getD k 0)))) || (decide (((((((l.getD k 0) - z)).toNat % 2) : Nat) : Int) = (0 : Int)))))] ok7 ⟨?_, ?_, ?_, ?_, ?_, ?_, ?_, ?_, ?_, ?_, ?_, ?_, ?_, ?_, ?_, ?_, ?_, ?_, ?_, ?_, ?_, ?_, ?_, ?_, trivial⟩ ?_
    · intro A B E G H; exact rP (y_move (kp (H 1 rfl) E q21))
    · intro A B E G H; exact rP (y_move (kp (H 6 rfl) E q18))
    · intro A B E G H d0 d1; exact rP (y_index1 Try.underlying23 Try.inf3 (ed d0 rfl rfl rfl) (ed d1 rfl rfl rfl) (by omega) (lst_get Ty.int l 0 k (by omega)))
    · intro A B E G H d0; exact rP (y_load Try.underlying3 rfl (ed d0 rfl rfl rfl) rfl)
    · intro A B E G H; exact rP (y_move (kp (H 5 rfl) E q19))
    · intro A B E G H d0 d1; exact rP (y_leq (ed d0 rfl rfl rfl) (ed d1 rfl rfl rfl))
    · intro A B E G H d0; exact rP (y_move (ed d0 rfl rfl rfl))
    · intro A B E G H d0
      refine run_guard G rfl rfl (by decide) (ed d0 rfl rfl rfl) (fun hg => ?_)
      have hp := of_decide_eq_false hg
      exact y_move (kp (H 1 rfl) E q21)
    · intro A B E G H d0
      refine run_guard G rfl rfl (by decide) (ed d0 rfl rfl rfl) (fun hg => ?_)
      have hp := of_decide_eq_false hg
      exact y_move (kp (H 6 rfl) E q18)
    · intro A B E G H d0 d1 d2
      refine run_guard G rfl rfl (by decide) (ed d2 rfl rfl rfl) (fun hg => ?_)
      have hp := of_decide_eq_false hg
      exact y_index1 Try.underlying23 Try.inf3 ((ed d0 rfl rfl rfl).1 hg) ((ed d1 rfl rfl rfl).1 hg) (by omega) (lst_get Ty.int l 0 k (by omega))
    · intro A B E G H d0 d1
      refine run_guard G rfl rfl (by decide) (ed d1 rfl rfl rfl) (fun hg => ?_)
      have hp := of_decide_eq_false hg
      exact y_load Try.underlying3 rfl ((ed d0 rfl rfl rfl).1 hg) rfl
    · intro A B E G H d0
      refine run_guard G rfl rfl (by decide) (ed d0 rfl rfl rfl) (fun hg => ?_)
      have hp := of_decide_eq_false hg
      exact y_move (kp (H 0 rfl) E q20)
    · intro A B E G H d0 d1 d2
      refine run_guard G rfl rfl (by decide) (ed d2 rfl rfl rfl) (fun hg => ?_)
      have hp := of_decide_eq_false hg
      exact y_gtr ((ed d0 rfl rfl rfl).1 hg) ((ed d1 rfl rfl rfl).1 hg)
    · intro A B E G H d0 d1; exact rP (y_pick_or (ed d0 rfl rfl rfl) rfl (ed d1 rfl rfl rfl))
    · intro A B E G H d0 d1; exact rP (y_move (ed d0 rfl rfl rfl))
    · intro A B E G H d0
      refine run_guard G rfl rfl (by decide) (ed d0 rfl rfl rfl) (fun hg => ?_)
      obtain ⟨d3, d4⟩ := Bool.or_eq_false_iff.mp hg
      have d3 := of_decide_eq_false d3
      have d4 := of_decide_eq_false d4
      exact y_move (kp (H 1 rfl) E q21)
    · intro A B E G H d0
      refine run_guard G rfl rfl (by decide) (ed d0 rfl rfl rfl) (fun hg => ?_)
      obtain ⟨d5, d6⟩ := Bool.or_eq_false_iff.mp hg
      have d5 := of_decide_eq_false d5
      have d6 := of_decide_eq_false d6
      exact y_move (kp (H 6 rfl) E q18)
    · intro A B E G H d0 d1 d2
      refine run_guard G rfl rfl (by decide) (ed d2 rfl rfl rfl) (fun hg => ?_)
      obtain ⟨d7, d8⟩ := Bool.or_eq_false_iff.mp hg
      have d7 := of_decide_eq_false d7
      have d8 := of_decide_eq_false d8
      exact y_index1 Try.underlying23 Try.inf3 ((ed d0 rfl rfl rfl).1 hg) ((ed d1 rfl rfl rfl).1 hg) (by omega) (lst_get Ty.int l 0 k (by omega))
    · intro A B E G H d0 d1
      refine run_guard G rfl rfl (by decide) (ed d1 rfl rfl rfl) (fun hg => ?_)
      obtain ⟨d9, d10⟩ := Bool.or_eq_false_iff.mp hg
      have d9 := of_decide_eq_false d9
      have d10 := of_decide_eq_false d10
      exact y_load Try.underlying3 rfl ((ed d0 rfl rfl rfl).1 hg) rfl
    · intro A B E G H d0
      refine run_guard G rfl rfl (by decide) (ed d0 rfl rfl rfl) (fun hg => ?_)
      obtain ⟨d11, d12⟩ := Bool.or_eq_false_iff.mp hg
      have d11 := of_decide_eq_false d11
      have d12 := of_decide_eq_false d12
      exact y_move (kp (H 5 rfl) E q19)
    · intro A B E G H d0 d1 d2
      refine run_guard G rfl rfl (by decide) (ed d2 rfl rfl rfl) (fun hg => ?_)
      obtain ⟨d13, d14⟩ := Bool.or_eq_false_iff.mp hg
      have d13 := of_decide_eq_false d13
      have d14 := of_decide_eq_false d14
      exact y_sub ((ed d0 rfl rfl rfl).1 hg) ((ed d1 rfl rfl rfl).1 hg) (w64 (by omega) (by omega))
    · intro A B E G H d0 d1
      refine run_guard G rfl rfl (by decide) (ed d1 rfl rfl rfl) (fun hg => ?_)
      obtain ⟨d15, d16⟩ := Bool.or_eq_false_iff.mp hg
      have d15 := of_decide_eq_false d15
      have d16 := of_decide_eq_false d16
      exact y_remN (toN (σ := B) ((ed d0 rfl rfl rfl).1 hg) (by omega)) (toN (σ := B) rfl (by omega)) (by omega)
    · intro A B E G H d0 d1
      refine run_guard G rfl rfl (by decide) (ed d1 rfl rfl rfl) (fun hg => ?_)
      obtain ⟨d17, d18⟩ := Bool.or_eq_false_iff.mp hg
      have d17 := of_decide_eq_false d17
      have d18 := of_decide_eq_false d18
      exact y_eql ((ed d0 rfl rfl rfl).1 hg) rfl
    · intro A B E G H d0 d1; exact rP (y_pick_or (ed d0 rfl rfl rfl) rfl (ed d1 rfl rfl rfl))
    intro a9 s7 D7; have ok8 := D7.ok; have F8 := F7.step0 D7.stp; have q23 := D7.kt q18 rfl; have q24 := D7.kt q20 rfl; have q25 := D7.kt q21 rfl; have q26 := D7.dn 23 rfl rfl; clear D7; refine tn ?_
    refine cond_t q26 (fun c3 => ?_) (fun c3 => ?_)
    ·
     simp only [Bool.or_eq_true, decide_eq_true_eq] at c3
     refine wp_seq ?_
     refine rg a9 s7 [(Ty.int (6 : Int))] ok8 ⟨?_, trivial⟩ ?_
     · intro A B E G H; exact rP (y_assign rfl)
     intro a10 s8 D8; have ok9 := D8.ok; have F9 := F8.step0 D8.stp; have q27 := D8.dn 0 rfl rfl; clear D8; refine tn ?_; refine wp_ret ?_; refine tr ?_; refine br ?_; refine tr ?_; refine tr ?_; refine br ?_; refine tr ?_
     exact ret1 rfl ok9 F9 (cvi (by (exact (chgMay_scan (by omega) E (by omega) (by omega)).symm)) q27)
    ·
     obtain ⟨d19, d20⟩ := Bool.or_eq_false_iff.mp c3
     obtain ⟨d21, d22⟩ := Bool.or_eq_false_iff.mp d19
     replace d21 := of_decide_eq_false d21
     replace d22 := of_decide_eq_false d22
     replace d20 := of_decide_eq_false d20
     refine wp_skip ?_; refine tn ?_
     refine rg a9 s7 [(Ty.lst Ty.int l), (Ty.nat k), (Ty.ref [(Ty.int (l.getD k 0))]), (Ty.int (l.getD k 0)), (Ty.int (l.getD k 0))] ok8 ⟨?_, ?_, ?_, ?_, ?_, trivial⟩ ?_
     · intro A B E G H; exact rP (y_move (kp (H 1 rfl) E q25))
     · intro A B E G H; exact rP (y_move (kp (H 6 rfl) E q23))
     · intro A B E G H d0 d1; exact rP (y_index1 Try.underlying23 Try.inf3 (ed d0 rfl rfl rfl) (ed d1 rfl rfl rfl) (by omega) (lst_get Ty.int l 0 k (by omega)))
     · intro A B E G H d0; exact rP (y_load Try.underlying3 rfl (ed d0 rfl rfl rfl) rfl)
     · intro A B E G H d0 d1 d2 d3 d4; exact rP (y_assign (ed d0 rfl rfl rfl))
     intro a11 s9 D9; have ok10 := D9.ok; have F10 := F8.step0 D9.stp; have q28 := D9.kt q23 rfl; have q29 := D9.kt q24 rfl; have q30 := D9.kt q25 rfl; have q31 := D9.dn 4 rfl rfl; clear D9; refine bn ?_; refine tn ?_
     refine rg a11 s9 [(Ty.nat k), (Ty.int (((k : Nat) : Int) + (1 : Int))), (Ty.int (((k : Nat) : Int) + (1 : Int)))] ok10 ⟨?_, ?_, ?_, trivial⟩ ?_
     · intro A B E G H; exact rP (y_move (kp (H 6 rfl) E q28))
     · intro A B E G H d0; exact rP (y_add (ed d0 rfl rfl rfl) rfl (w64 (by omega) (by omega)))
     · intro A B E G H d0 d1 d2; exact rP (y_assign (ed d0 rfl rfl rfl))
     intro a12 s10 D10; have ok11 := D10.ok; have F11 := F10.step0 D10.stp; have q32 := D10.kt q29 rfl; have q33 := D10.kt q30 rfl; have q34 := D10.kt q31 rfl; have q35 := D10.dn 2 rfl rfl; clear D10
     have d1_ := (of_decide_eq_false (Bool.or_eq_false_iff.1 c3).2)
     have d2_ := of_decide_eq_false (Bool.or_eq_false_iff.1 (Bool.or_eq_false_iff.1 c3).1).1
     have d3_ := of_decide_eq_false (Bool.or_eq_false_iff.1 (Bool.or_eq_false_iff.1 c3).1).2
     exact tn ⟨l.length - ((k+1)), by omega, s10, (k+1), (l.getD k 0), rfl, F11, ok11, (cvi (by (first | rfl | omega | (simp_all; done) | (simp_all; omega))) q35), (cvi (by (first | rfl | omega | (simp_all; done) | (simp_all; omega))) q34), q32, q33, by omega, scan_step E (by omega) (by omega) (by omega) d1_, by omega, rfl⟩
   ·
    have hk2 : k = l.length := (by omega)
    refine wp_exit ?_; refine tx ?_; refine tx ?_; refine bx ?_; refine tn ?_; refine wp_seq ?_; refine wp_seq ?_
    refine rg a8 s6 [(Ty.int n), (Ty.int z), (Ty.int (n - z)), (Ty.nat (((n - z)).toNat % 2)), (Ty.bool (decide ((((((n - z)).toNat % 2) : Nat) : Int) = (1 : Int))))] ok7 ⟨?_, ?_, ?_, ?_, ?_, trivial⟩ ?_
    · intro A B E G H; exact rP (y_move (kp (H 0 rfl) E q20))
    · intro A B E G H; exact rP (y_move (kp (H 5 rfl) E q19))
    · intro A B E G H d0 d1; exact rP (y_sub (ed d0 rfl rfl rfl) (ed d1 rfl rfl rfl) (w64 (by omega) (by omega)))
    · intro A B E G H d0; exact rP (y_remN (toN (σ := B) (ed d0 rfl rfl rfl) (by omega)) (toN (σ := B) rfl (by omega)) (by omega))
    · intro A B E G H d0; exact rP (y_eql (ed d0 rfl rfl rfl) rfl)
    intro a13 s11 D11; have ok12 := D11.ok; have F12 := F7.step0 D11.stp; have q36 := D11.dn 4 rfl rfl; clear D11; refine tn ?_
    refine cond_p (p := ((((((n - z)).toNat % 2) : Nat) : Int) = (1 : Int))) q36 (fun c4 => ?_) (fun c4 => ?_)
    ·
     refine wp_seq ?_
     refine rg a13 s11 [(Ty.int (6 : Int))] ok12 ⟨?_, trivial⟩ ?_
     · intro A B E G H; exact rP (y_assign rfl)
     intro a14 s12 D12; have ok13 := D12.ok; have F13 := F12.step0 D12.stp; have q37 := D12.dn 0 rfl rfl; clear D12; refine tn ?_; refine wp_ret ?_; refine tr ?_
     exact ret1 rfl ok13 F13 (cvi (by (exact (chgMay_odd (by omega) (by rw [← hk2]; exact E) (by omega)).symm)) q37)
    ·
     refine wp_skip ?_; refine tn ?_; refine wp_seq ?_
     refine rg a13 s11 [(Ty.int (0 : Int))] ok12 ⟨?_, trivial⟩ ?_
     · intro A B E G H; exact rP (y_assign rfl)
     intro a15 s13 D13; have ok14 := D13.ok; have F14 := F12.step0 D13.stp; have q38 := D13.dn 0 rfl rfl; clear D13; refine tn ?_; refine wp_ret ?_
     exact ret1 rfl ok14 F14 (cvi (by (exact (chgMay_ok (by omega) (by rw [← hk2]; exact E) (by omega)).symm)) q38)

theorem Try.inf9 : Info Try.prog 9 (.string ByteArray.empty) 1 16 := by unfold Info; kernel_rfl
theorem Try.inf29 : Info Try.prog 29 (.slice none 0 0) 1 24 := by unfold Info; kernel_rfl
theorem Try.fld31_0 : fieldOf Try.prog 31 0 = some (9, 0) := by kernel_rfl
theorem Try.fld31_1 : fieldOf Try.prog 31 1 = some (3, 1) := by kernel_rfl
theorem Try.fld31_2 : fieldOf Try.prog 31 2 = some (29, 2) := by kernel_rfl
set_option maxHeartbeats 4000000 in
set_option maxRecDepth 100000 in
theorem rMethodMay_fn (nm : ByteArray) (n : Int) (l : List (List Int)) (σ : GW)  (v0 : Value) (hv0 : Ty.has (Ty.agg [(Ty.val (Value.string nm)), (Ty.int n), (Ty.lst Ty.ints l)]) σ v0)  (hnm : nm.size ≤ 1099511627776) (hn : -9223372036854775808 ≤ n ∧ n ≤ 9223372036854775807) :
    FnC Try.prog 26 #[v0] σ (Ty.int (methMay nm n l)) := by
 refine fn_intro0 Try.func26 rfl Try.ntmps26 (Nat.le_of_ble_eq_true rfl) (fun s0 a0 hle F0 ok0 hargs => ?_)
 have p0 : At (Ty.agg [(Ty.val (Value.string nm)), (Ty.int n), (Ty.lst Ty.ints l)]) s0 a0 (.tmp 0) := by have e := hargs 0 _ rfl; show Ty.has _ _ _; rw [e]; exact Ty.up _ hle hv0
 clear hargs; refine wp_seq ?_
 refine rg a0 s0 [(Ty.ref [(Ty.val (Value.string nm)), (Ty.int n), (Ty.lst Ty.ints l)]), (Ty.int (0 : Int))] ok0 ⟨?_, ?_, trivial⟩ ?_
 · intro A B E G H; exact rP (y_boxagg (kp (H 0 rfl) E p0))
 · intro A B E G H; exact rP (y_assign rfl)
 intro a1 s1 D1; have ok1 := D1.ok; have F1 := F0.step0 D1.stp; have q1 := D1.dn 0 rfl rfl; clear D1; refine tn ?_; refine wp_seq ?_
 refine rg a1 s1 [(Ty.ref [(Ty.val (Value.string nm)), (Ty.int n), (Ty.lst Ty.ints l)]), (Ty.val (Value.string nm)), (Ty.bool (nameL (nm))), (Ty.bool (nameL (nm)))] ok1 ⟨?_, ?_, ?_, ?_, trivial⟩ ?_
 · intro A B E G H; exact rP (y_field Try.fld31_0 Try.inf9 (by decide) (kp (H 1 rfl) E q1) rfl)
 · intro A B E G H d0; exact rP (y_load Try.underlying9 rfl (ed d0 rfl rfl rfl) rfl)
 · intro A B E G H d0; exact rP (y_call #[A.eval (.tmp 7)] Try.func61 rfl rfl (by simp only [List.map_toArray, List.map_cons, List.map_nil]) (rIsName_fn (nm) _ _ (ed d0 rfl rfl rfl) (by omega)))
 · intro A B E G H d0 d1 d2 d3 d4; exact rP (y_assign (ed d0 rfl rfl rfl))
 intro a2 s2 D2; have ok2 := D2.ok; have F2 := F1.step0 D2.stp; have q2 := D2.kt q1 rfl; have q3 := D2.dn 3 rfl rfl; clear D2; refine tn ?_; refine wp_seq ?_; refine wp_seq ?_
 refine rg a2 s2 [(Ty.bool (nameL (nm))), (Ty.bool (!(nameL (nm))))] ok2 ⟨?_, ?_, trivial⟩ ?_
 · intro A B E G H; exact rP (y_move (kp (H 3 rfl) E q3))
 · intro A B E G H d0; exact rP (y_not (ed d0 rfl rfl rfl))
 intro a3 s3 D3; have ok3 := D3.ok; have F3 := F2.step0 D3.stp; have q4 := D3.kt q2 rfl; have q5 := D3.dn 1 rfl rfl; clear D3; refine tn ?_
 refine cond_t q5 (fun c1 => ?_) (fun c1 => ?_)
 ·
  have hnn : nameL nm = false := (by simpa using c1)
  refine wp_seq ?_
  refine rg a3 s3 [(Ty.int (7 : Int))] ok3 ⟨?_, trivial⟩ ?_
  · intro A B E G H; exact rP (y_assign rfl)
  intro a4 s4 D4; have ok4 := D4.ok; have F4 := F3.step0 D4.stp; have q6 := D4.dn 0 rfl rfl; clear D4; refine tn ?_; refine wp_ret ?_; refine tr ?_
  exact retL1 rfl ok4 F4 (cvi (by (unfold methMay; rw [if_pos hnn])) q6)
 ·
  have hnn : ¬ nameL nm = false := (by simpa using c1)
  refine wp_skip ?_; refine tn ?_; refine wp_seq ?_; refine wp_seq ?_
  refine rg a3 s3 [(Ty.ref [(Ty.int n), (Ty.lst Ty.ints l)]), (Ty.int n), (Ty.bool (decide (n < (2 : Int)))), (Ty.bool (decide (n < (2 : Int)))), (Ty.grd ((decide (n < (2 : Int))) = false) (Ty.ref [(Ty.int n), (Ty.lst Ty.ints l)])), (Ty.grd ((decide (n < (2 : Int))) = false) (Ty.int n)), (Ty.grd ((decide (n < (2 : Int))) = false) (Ty.bool (decide ((12 : Int) < n)))), (Ty.bool ((decide (n < (2 : Int))) || (decide ((12 : Int) < n)))), (Ty.bool ((decide (n < (2 : Int))) || (decide ((12 : Int) < n)))), (Ty.grd (((decide (n < (2 : Int))) || (decide ((12 : Int) < n))) = false) (Ty.ref [(Ty.lst Ty.ints l)])), (Ty.grd (((decide (n < (2 : Int))) || (decide ((12 : Int) < n))) = false) (Ty.lst Ty.ints l)), (Ty.grd (((decide (n < (2 : Int))) || (decide ((12 : Int) < n))) = false) (Ty.nat (List.length l))), (Ty.grd (((decide (n < (2 : Int))) || (decide ((12 : Int) < n))) = false) (Ty.bool (decide ((((List.length l) : Nat) : Int) < (1 : Int))))), (Ty.bool (((decide (n < (2 : Int))) || (decide ((12 : Int) < n))) || (decide ((((List.length l) : Nat) : Int) < (1 : Int))))), (Ty.bool (((decide (n < (2 : Int))) || (decide ((12 : Int) < n))) || (decide ((((List.length l) : Nat) : Int) < (1 : Int))))), (Ty.grd ((((decide (n < (2 : Int))) || (decide ((12 : Int) < n))) || (decide ((((List.length l) : Nat) : Int) < (1 : Int)))) = false) (Ty.ref [(Ty.lst Ty.ints l)])), (Ty.grd ((((decide (n < (2 : Int))) || (decide ((12 : Int) < n))) || (decide ((((List.length l) : Nat) : Int) < (1 : Int)))) = false) (Ty.lst Ty.ints l)), (Ty.grd ((((decide (n < (2 : Int))) || (decide ((12 : Int) < n))) || (decide ((((List.length l) : Nat) : Int) < (1 : Int)))) = false) (Ty.nat (List.length l))), (Ty.grd ((((decide (n < (2 : Int))) || (decide ((12 : Int) < n))) || (decide ((((List.length l) : Nat) : Int) < (1 : Int)))) = false) (Ty.bool (decide ((200 : Int) < (((List.length l) : Nat) : Int))))), (Ty.bool ((((decide (n < (2 : Int))) || (decide ((12 : Int) < n))) || (decide ((((List.length l) : Nat) : Int) < (1 : Int)))) || (decide ((200 : Int) < (((List.length l) : Nat) : Int)))))] ok3 ⟨?_, ?_, ?_, ?_, ?_, ?_, ?_, ?_, ?_, ?_, ?_, ?_, ?_, ?_, ?_, ?_, ?_, ?_, ?_, ?_, trivial⟩ ?_
  · intro A B E G H; exact rP (y_field Try.fld31_1 Try.inf3 (by decide) (kp (H 1 rfl) E q4) rfl)
  · intro A B E G H d0; exact rP (y_load Try.underlying3 rfl (ed d0 rfl rfl rfl) rfl)
  · intro A B E G H d0; exact rP (y_lss (ed d0 rfl rfl rfl) rfl)
  · intro A B E G H d0; exact rP (y_move (ed d0 rfl rfl rfl))
  · intro A B E G H d0
    refine run_guard G rfl rfl (by decide) (ed d0 rfl rfl rfl) (fun hg => ?_)
    have hp := of_decide_eq_false hg
    exact y_field Try.fld31_1 Try.inf3 (by decide) (kp (H 1 rfl) E q4) rfl
  · intro A B E G H d0 d1
    refine run_guard G rfl rfl (by decide) (ed d1 rfl rfl rfl) (fun hg => ?_)
    have hp := of_decide_eq_false hg
    exact y_load Try.underlying3 rfl ((ed d0 rfl rfl rfl).1 hg) rfl
  · intro A B E G H d0 d1
    refine run_guard G rfl rfl (by decide) (ed d1 rfl rfl rfl) (fun hg => ?_)
    have hp := of_decide_eq_false hg
    exact y_gtr ((ed d0 rfl rfl rfl).1 hg) rfl
  · intro A B E G H d0 d1; exact rP (y_pick_or (ed d0 rfl rfl rfl) rfl (ed d1 rfl rfl rfl))
  · intro A B E G H d0 d1; exact rP (y_move (ed d0 rfl rfl rfl))
  · intro A B E G H d0
    refine run_guard G rfl rfl (by decide) (ed d0 rfl rfl rfl) (fun hg => ?_)
    obtain ⟨d1, d2⟩ := Bool.or_eq_false_iff.mp hg
    have d1 := of_decide_eq_false d1
    have d2 := of_decide_eq_false d2
    exact y_field Try.fld31_2 Try.inf29 (by decide) (kp (H 1 rfl) E q4) rfl
  · intro A B E G H d0 d1
    refine run_guard G rfl rfl (by decide) (ed d1 rfl rfl rfl) (fun hg => ?_)
    obtain ⟨d3, d4⟩ := Bool.or_eq_false_iff.mp hg
    have d3 := of_decide_eq_false d3
    have d4 := of_decide_eq_false d4
    exact y_load Try.underlying29 rfl ((ed d0 rfl rfl rfl).1 hg) rfl
  · intro A B E G H d0 d1
    refine run_guard G rfl rfl (by decide) (ed d1 rfl rfl rfl) (fun hg => ?_)
    obtain ⟨d5, d6⟩ := Bool.or_eq_false_iff.mp hg
    have d5 := of_decide_eq_false d5
    have d6 := of_decide_eq_false d6
    exact y_len Try.underlying29 ((ed d0 rfl rfl rfl).1 hg)
  · intro A B E G H d0 d1
    refine run_guard G rfl rfl (by decide) (ed d1 rfl rfl rfl) (fun hg => ?_)
    obtain ⟨d7, d8⟩ := Bool.or_eq_false_iff.mp hg
    have d7 := of_decide_eq_false d7
    have d8 := of_decide_eq_false d8
    exact y_lss ((ed d0 rfl rfl rfl).1 hg) rfl
  · intro A B E G H d0 d1; exact rP (y_pick_or (ed d0 rfl rfl rfl) rfl (ed d1 rfl rfl rfl))
  · intro A B E G H d0 d1; exact rP (y_move (ed d0 rfl rfl rfl))
  · intro A B E G H d0
    refine run_guard G rfl rfl (by decide) (ed d0 rfl rfl rfl) (fun hg => ?_)
    obtain ⟨d9, d10⟩ := Bool.or_eq_false_iff.mp hg
    obtain ⟨d11, d12⟩ := Bool.or_eq_false_iff.mp d9
    have d11 := of_decide_eq_false d11
    have d12 := of_decide_eq_false d12
    have d10 := of_decide_eq_false d10
    exact y_field Try.fld31_2 Try.inf29 (by decide) (kp (H 1 rfl) E q4) rfl
  · intro A B E G H d0 d1
    refine run_guard G rfl rfl (by decide) (ed d1 rfl rfl rfl) (fun hg => ?_)
    obtain ⟨d13, d14⟩ := Bool.or_eq_false_iff.mp hg
    obtain ⟨d15, d16⟩ := Bool.or_eq_false_iff.mp d13
    have d15 := of_decide_eq_false d15
    have d16 := of_decide_eq_false d16
    have d14 := of_decide_eq_false d14
    exact y_load Try.underlying29 rfl ((ed d0 rfl rfl rfl).1 hg) rfl
  · intro A B E G H d0 d1
    refine run_guard G rfl rfl (by decide) (ed d1 rfl rfl rfl) (fun hg => ?_)
    obtain ⟨d17, d18⟩ := Bool.or_eq_false_iff.mp hg
    obtain ⟨d19, d20⟩ := Bool.or_eq_false_iff.mp d17
    have d19 := of_decide_eq_false d19
    have d20 := of_decide_eq_false d20
    have d18 := of_decide_eq_false d18
    exact y_len Try.underlying29 ((ed d0 rfl rfl rfl).1 hg)
  · intro A B E G H d0 d1
    refine run_guard G rfl rfl (by decide) (ed d1 rfl rfl rfl) (fun hg => ?_)
    obtain ⟨d21, d22⟩ := Bool.or_eq_false_iff.mp hg
    obtain ⟨d23, d24⟩ := Bool.or_eq_false_iff.mp d21
    have d23 := of_decide_eq_false d23
    have d24 := of_decide_eq_false d24
    have d22 := of_decide_eq_false d22
    exact y_gtr ((ed d0 rfl rfl rfl).1 hg) rfl
  · intro A B E G H d0 d1; exact rP (y_pick_or (ed d0 rfl rfl rfl) rfl (ed d1 rfl rfl rfl))
  intro a5 s5 D5; have ok5 := D5.ok; have F5 := F3.step0 D5.stp; have q7 := D5.kt q4 rfl; have q8 := D5.dn 19 rfl rfl; clear D5; refine tn ?_
  refine cond_t q8 (fun c2 => ?_) (fun c2 => ?_)
  ·
   simp only [Bool.or_eq_true, decide_eq_true_eq] at c2; have h4 : n < 2 ∨ 12 < n ∨ l.length < 1 ∨ 200 < l.length := (by omega)
   refine wp_seq ?_
   refine rg a5 s5 [(Ty.int (1 : Int))] ok5 ⟨?_, trivial⟩ ?_
   · intro A B E G H; exact rP (y_assign rfl)
   intro a6 s6 D6; have ok6 := D6.ok; have F6 := F5.step0 D6.stp; have q9 := D6.dn 0 rfl rfl; clear D6; refine tn ?_; refine wp_ret ?_; refine tr ?_
   exact retL1 rfl ok6 F6 (cvi (by (unfold methMay; rw [if_neg hnn, if_pos h4])) q9)
  ·
   obtain ⟨d25, d26⟩ := Bool.or_eq_false_iff.mp c2
   obtain ⟨d27, d28⟩ := Bool.or_eq_false_iff.mp d25
   obtain ⟨d29, d30⟩ := Bool.or_eq_false_iff.mp d27
   replace d29 := of_decide_eq_false d29
   replace d30 := of_decide_eq_false d30
   replace d28 := of_decide_eq_false d28
   replace d26 := of_decide_eq_false d26
   have h4 : ¬ (n < 2 ∨ 12 < n ∨ l.length < 1 ∨ 200 < l.length) := (by simp only [Bool.or_eq_false_iff, decide_eq_false_iff_not] at c2; omega); have hmm : methMay nm n l = allMay n l := (by unfold methMay; rw [if_neg hnn, if_neg h4])
   refine wp_skip ?_; refine tn ?_; refine wp_seq ?_; refine wp_seq ?_
   refine rg a5 s5 [(Ty.int (0 : Int))] ok5 ⟨?_, trivial⟩ ?_
   · intro A B E G H; exact rP (y_assign rfl)
   intro a7 s7 D7; have ok7 := D7.ok; have F7 := F5.step0 D7.stp; have q10 := D7.kt q7 rfl; have q11 := D7.dn 0 rfl rfl; clear D7; refine tn ?_; refine wp_block ?_
   refine loop (fun n1 a8 w1 => ∃ (t1 : GW) (k : Nat), t1.w = w1 ∧ FromL [] s0 t1 ∧ Ok 49 a8 ∧ At (Ty.nat k) t1 a8 (.tmp 4) ∧ At (Ty.ref [(Ty.val (Value.string nm)), (Ty.int n), (Ty.lst Ty.ints l)]) t1 a8 (.tmp 1) ∧ (k ≤ l.length) ∧ (allMay n (l.drop k) = allMay n l) ∧ n1 = l.length - k) (l.length - (0)) ?_ ?_
   ·
    exact ⟨s7, 0, rfl, F7, ok7, (cvi (by (first | rfl | omega | (simp_all; done) | (simp_all; omega))) q11), q10, by omega, rfl, rfl⟩
   ·
    rintro n2 a9 w2 ⟨t2, k, rfl, F8, ok8, q12, q13, hk, ha, rfl⟩
    refine wp_seq ?_; refine wp_seq ?_
    refine reg (a := a9) (σ := t2) rfl (fun i_ => List.getD [(Ty.pr (Ty.nat k)), (Ty.pr (Ty.ref [(Ty.lst Ty.ints l)])), (Ty.pr (Ty.lst Ty.ints l)), (Ty.pr (Ty.nat (List.length l))), (Ty.pr (Ty.bool (decide (((k : Nat) : Int) < (((List.length l) : Nat) : Int)))))] i_ Pr.any) ok8 rfl ⟨?_, ?_, ?_, ?_, ?_, trivial⟩ ?_
    · intro A B E G H; exact rP (y_move (kp (H 4 rfl) E q12))
    · intro A B E G H; exact rP (y_field Try.fld31_2 Try.inf29 (by decide) (kp (H 1 rfl) E q13) rfl)
    · intro A B E G H d0; exact rP (y_load Try.underlying29 rfl (ed d0 rfl rfl rfl) rfl)
    · intro A B E G H d0; exact rP (y_len Try.underlying29 (ed d0 rfl rfl rfl))
    · intro A B E G H d0 d1; exact rP (y_lss (ed d0 rfl rfl rfl) (ed d1 rfl rfl rfl))
    intro a10 s8 D8; have ok9 := D8.ok; have F9 := F8.step0 D8.stp; have q14 := D8.kt q12 rfl; have q15 := D8.kt q13 rfl; have q16 := D8.dn 4 rfl rfl; clear D8; refine tn ?_
    refine cond_p (p := (((k : Nat) : Int) < (((List.length l) : Nat) : Int))) q16 (fun c3 => ?_) (fun c3 => ?_)
    ·
     refine wp_skip ?_; refine tn ?_; refine wp_seq ?_; refine wp_block ?_; refine wp_seq ?_
     refine rg a10 s8 [(Ty.ref [(Ty.int n), (Ty.lst Ty.ints l)]), (Ty.int n), (Ty.ref [(Ty.lst Ty.ints l)]), (Ty.lst Ty.ints l), (Ty.nat k), (Ty.ref [(Ty.lst Ty.int (l.getD k []))]), (Ty.lst Ty.int (l.getD k [])), (Ty.int (chgMay n ((l.getD k [])))), (Ty.int (chgMay n ((l.getD k []))))] ok9 ⟨?_, ?_, ?_, ?_, ?_, ?_, ?_, ?_, ?_, trivial⟩ ?_
     · intro A B E G H; exact rP (y_field Try.fld31_1 Try.inf3 (by decide) (kp (H 1 rfl) E q15) rfl)
     · intro A B E G H d0; exact rP (y_load Try.underlying3 rfl (ed d0 rfl rfl rfl) rfl)
     · intro A B E G H; exact rP (y_field Try.fld31_2 Try.inf29 (by decide) (kp (H 1 rfl) E q15) rfl)
     · intro A B E G H d0; exact rP (y_load Try.underlying29 rfl (ed d0 rfl rfl rfl) rfl)
     · intro A B E G H; exact rP (y_move (kp (H 4 rfl) E q14))
     · intro A B E G H d0 d1; exact rP (y_index1 Try.underlying29 Try.inf23 (ed d0 rfl rfl rfl) (ed d1 rfl rfl rfl) (by omega) (lst_get Ty.ints l [] k (by omega)))
     · intro A B E G H d0; exact rP (y_load Try.underlying23 rfl (ed d0 rfl rfl rfl) rfl)
     · intro A B E G H d0 d1; exact rP (y_call #[A.eval (.tmp 39), A.eval (.tmp 44)] Try.func62 rfl rfl (by simp only [List.map_toArray, List.map_cons, List.map_nil]) (rChangeMay_fn (n) ((l.getD k [])) _ _ _ (ed d0 rfl rfl rfl) (ed d1 rfl rfl rfl) (by omega)))
     · intro A B E G H d0 d1 d2 d3 d4 d5 d6 d7 d8 d9; exact rP (y_assign (ed d0 rfl rfl rfl))
     intro a11 s9 D9; have ok10 := D9.ok; have F10 := F9.step0 D9.stp; have q17 := D9.kt q14 rfl; have q18 := D9.kt q15 rfl; have q19 := D9.dn 8 rfl rfl; clear D9; refine tn ?_; refine wp_seq ?_
     refine rg a11 s9 [(Ty.int (chgMay n ((l.getD k [])))), (Ty.bool (decide ((chgMay n ((l.getD k []))) ≠ (0 : Int))))] ok10 ⟨?_, ?_, trivial⟩ ?_
     · intro A B E G H; exact rP (y_move (kp (H 5 rfl) E q19))
     · intro A B E G H d0; exact rP (y_neq (ed d0 rfl rfl rfl) rfl)
     intro a12 s10 D10; have ok11 := D10.ok; have F11 := F10.step0 D10.stp; have q20 := D10.kt q17 rfl; have q21 := D10.kt q18 rfl; have q22 := D10.kt q19 rfl; have q23 := D10.dn 1 rfl rfl; clear D10; refine tn ?_
     refine cond_p (p := ((chgMay n ((l.getD k []))) ≠ (0 : Int))) q23 (fun c4 => ?_) (fun c4 => ?_)
     ·
      refine wp_seq ?_
      refine rg a12 s10 [(Ty.int (chgMay n ((l.getD k [])))), (Ty.int (chgMay n ((l.getD k []))))] ok11 ⟨?_, ?_, trivial⟩ ?_
      · intro A B E G H; exact rP (y_move (kp (H 5 rfl) E q22))
      · intro A B E G H d0 d1; exact rP (y_assign (ed d0 rfl rfl rfl))
      intro a13 s11 D11; have ok12 := D11.ok; have F12 := F11.step0 D11.stp; have q24 := D11.dn 1 rfl rfl; clear D11; refine tn ?_; refine wp_ret ?_; refine br ?_; refine tr ?_; refine tr ?_; refine br ?_; refine tr ?_
      exact retL1 rfl ok12 F12 (cvi (by (rw [hmm]; exact (allMay_stop ha (by omega) c4).symm)) q24)
     ·
      refine wp_skip ?_; refine bn ?_; refine tn ?_
      refine rg a12 s10 [(Ty.nat k), (Ty.int (((k : Nat) : Int) + (1 : Int))), (Ty.int (((k : Nat) : Int) + (1 : Int)))] ok11 ⟨?_, ?_, ?_, trivial⟩ ?_
      · intro A B E G H; exact rP (y_move (kp (H 4 rfl) E q20))
      · intro A B E G H d0; exact rP (y_add (ed d0 rfl rfl rfl) rfl (w64 (by omega) (by omega)))
      · intro A B E G H d0 d1 d2; exact rP (y_assign (ed d0 rfl rfl rfl))
      intro a14 s12 D12; have ok13 := D12.ok; have F13 := F11.step0 D12.stp; have q25 := D12.kt q21 rfl; have q26 := D12.dn 2 rfl rfl; clear D12
      exact tn ⟨l.length - ((k+1)), by omega, s12, (k+1), rfl, F13, ok13, (cvi (by (first | rfl | omega | (simp_all; done) | (simp_all; omega))) q26), q25, by omega, allMay_step ha (by omega) c4, rfl⟩
    ·
     refine wp_exit ?_; refine tx ?_; refine tx ?_; refine bx ?_; refine tn ?_; refine wp_seq ?_
     refine rg a10 s8 [(Ty.int (0 : Int))] ok9 ⟨?_, trivial⟩ ?_
     · intro A B E G H; exact rP (y_assign rfl)
     intro a15 s13 D13; have ok14 := D13.ok; have F14 := F9.step0 D13.stp; have q27 := D13.dn 0 rfl rfl; clear D13; refine tn ?_; refine wp_ret ?_
     exact retL1 rfl ok14 F14 (cvi (by (rw [hmm]; exact (allMay_end ha (by omega)).symm)) q27)


set_option maxHeartbeats 4000000 in
set_option maxRecDepth 100000 in
theorem rSignMay_fn (c : Int) (σ : GW)  (v0 : Value) (hv0 : Ty.has (Ty.val (Value.int .i32 c)) σ v0)   :
    FnC Try.prog 86 #[v0] σ (Ty.bool (signMay c)) := by
 refine fn_intro0 Try.func86 rfl Try.ntmps86 (Nat.le_of_ble_eq_true rfl) (fun s0 a0 hle F0 ok0 hargs => ?_)
 have p0 : At (Ty.val (Value.int .i32 c)) s0 a0 (.tmp 0) := by have e := hargs 0 _ rfl; show Ty.has _ _ _; rw [e]; exact Ty.up _ hle hv0
 clear hargs; refine wp_seq ?_
 refine rg a0 s0 [(Ty.bool false)] ok0 ⟨?_, trivial⟩ ?_
 · intro A B E G H; exact rP (y_assign rfl)
 intro a1 s1 D1; have ok1 := D1.ok; have F1 := F0.step0 D1.stp; have q1 := D1.kt p0 rfl; clear D1; refine tn ?_; refine wp_seq ?_
 refine rg a1 s1 [(Ty.val (Value.int .i32 c)), (Ty.bool (decide ((48 : Int) ≤ c))), (Ty.bool (decide ((48 : Int) ≤ c))), (Ty.grd ((decide ((48 : Int) ≤ c)) = true) (Ty.val (Value.int .i32 c))), (Ty.grd ((decide ((48 : Int) ≤ c)) = true) (Ty.bool (decide (c ≤ (57 : Int))))), (Ty.bool ((decide ((48 : Int) ≤ c)) && (decide (c ≤ (57 : Int))))), (Ty.bool ((decide ((48 : Int) ≤ c)) && (decide (c ≤ (57 : Int)))))] ok1 ⟨?_, ?_, ?_, ?_, ?_, ?_, ?_, trivial⟩ ?_
 · intro A B E G H; exact rP (y_move (kp (H 0 rfl) E q1))
 · intro A B E G H d0; exact rP (y_geq (ed d0 rfl rfl rfl) rfl)
 · intro A B E G H d0; exact rP (y_move (ed d0 rfl rfl rfl))
 · intro A B E G H d0
   refine run_guard G rfl rfl (by decide) (ed d0 rfl rfl rfl) (fun hg => ?_)
   have hp := of_decide_eq_true hg
   exact y_move (kp (H 0 rfl) E q1)
 · intro A B E G H d0 d1
   refine run_guard G rfl rfl (by decide) (ed d1 rfl rfl rfl) (fun hg => ?_)
   have hp := of_decide_eq_true hg
   exact y_leq ((ed d0 rfl rfl rfl).1 hg) rfl
 · intro A B E G H d0 d1; exact rP (y_pick_and (ed d0 rfl rfl rfl) (ed d1 rfl rfl rfl) rfl)
 · intro A B E G H d0 d1 d2 d3 d4 d5 d6 d7; exact rP (y_assign (ed d0 rfl rfl rfl))
 intro a2 s2 D2; have ok2 := D2.ok; have F2 := F1.step0 D2.stp; have q2 := D2.kt q1 rfl; have q3 := D2.dn 6 rfl rfl; clear D2; refine tn ?_; refine wp_seq ?_
 refine rg a2 s2 [(Ty.val (Value.int .i32 c)), (Ty.bool (decide ((33 : Int) ≤ c))), (Ty.bool (decide ((33 : Int) ≤ c))), (Ty.grd ((decide ((33 : Int) ≤ c)) = true) (Ty.val (Value.int .i32 c))), (Ty.grd ((decide ((33 : Int) ≤ c)) = true) (Ty.bool (decide (c ≤ (12287 : Int))))), (Ty.bool ((decide ((33 : Int) ≤ c)) && (decide (c ≤ (12287 : Int))))), (Ty.bool ((decide ((33 : Int) ≤ c)) && (decide (c ≤ (12287 : Int))))), (Ty.grd (((decide ((33 : Int) ≤ c)) && (decide (c ≤ (12287 : Int)))) = true) (Ty.bool ((decide ((48 : Int) ≤ c)) && (decide (c ≤ (57 : Int)))))), (Ty.grd (((decide ((33 : Int) ≤ c)) && (decide (c ≤ (12287 : Int)))) = true) (Ty.bool (!((decide ((48 : Int) ≤ c)) && (decide (c ≤ (57 : Int))))))), (Ty.bool (((decide ((33 : Int) ≤ c)) && (decide (c ≤ (12287 : Int)))) && (!((decide ((48 : Int) ≤ c)) && (decide (c ≤ (57 : Int))))))), (Ty.bool (((decide ((33 : Int) ≤ c)) && (decide (c ≤ (12287 : Int)))) && (!((decide ((48 : Int) ≤ c)) && (decide (c ≤ (57 : Int))))))), (Ty.grd ((((decide ((33 : Int) ≤ c)) && (decide (c ≤ (12287 : Int)))) && (!((decide ((48 : Int) ≤ c)) && (decide (c ≤ (57 : Int)))))) = true) (Ty.val (Value.int .i32 c))), (Ty.grd ((((decide ((33 : Int) ≤ c)) && (decide (c ≤ (12287 : Int)))) && (!((decide ((48 : Int) ≤ c)) && (decide (c ≤ (57 : Int)))))) = true) (Ty.bool (decide (c ≠ (40 : Int))))), (Ty.bool ((((decide ((33 : Int) ≤ c)) && (decide (c ≤ (12287 : Int)))) && (!((decide ((48 : Int) ≤ c)) && (decide (c ≤ (57 : Int)))))) && (decide (c ≠ (40 : Int))))), (Ty.bool ((((decide ((33 : Int) ≤ c)) && (decide (c ≤ (12287 : Int)))) && (!((decide ((48 : Int) ≤ c)) && (decide (c ≤ (57 : Int)))))) && (decide (c ≠ (40 : Int))))), (Ty.grd (((((decide ((33 : Int) ≤ c)) && (decide (c ≤ (12287 : Int)))) && (!((decide ((48 : Int) ≤ c)) && (decide (c ≤ (57 : Int)))))) && (decide (c ≠ (40 : Int)))) = true) (Ty.val (Value.int .i32 c))), (Ty.grd (((((decide ((33 : Int) ≤ c)) && (decide (c ≤ (12287 : Int)))) && (!((decide ((48 : Int) ≤ c)) && (decide (c ≤ (57 : Int)))))) && (decide (c ≠ (40 : Int)))) = true) (Ty.bool (decide (c ≠ (41 : Int))))), (Ty.bool (((((decide ((33 : Int) ≤ c)) && (decide (c ≤ (12287 : Int)))) && (!((decide ((48 : Int) ≤ c)) && (decide (c ≤ (57 : Int)))))) && (decide (c ≠ (40 : Int)))) && (decide (c ≠ (41 : Int))))), (Ty.bool (((((decide ((33 : Int) ≤ c)) && (decide (c ≤ (12287 : Int)))) && (!((decide ((48 : Int) ≤ c)) && (decide (c ≤ (57 : Int)))))) && (decide (c ≠ (40 : Int)))) && (decide (c ≠ (41 : Int))))), (Ty.grd ((((((decide ((33 : Int) ≤ c)) && (decide (c ≤ (12287 : Int)))) && (!((decide ((48 : Int) ≤ c)) && (decide (c ≤ (57 : Int)))))) && (decide (c ≠ (40 : Int)))) && (decide (c ≠ (41 : Int)))) = true) (Ty.val (Value.int .i32 c))), (Ty.grd ((((((decide ((33 : Int) ≤ c)) && (decide (c ≤ (12287 : Int)))) && (!((decide ((48 : Int) ≤ c)) && (decide (c ≤ (57 : Int)))))) && (decide (c ≠ (40 : Int)))) && (decide (c ≠ (41 : Int)))) = true) (Ty.bool (decide (c < (127 : Int))))), (Ty.grd ((((((decide ((33 : Int) ≤ c)) && (decide (c ≤ (12287 : Int)))) && (!((decide ((48 : Int) ≤ c)) && (decide (c ≤ (57 : Int)))))) && (decide (c ≠ (40 : Int)))) && (decide (c ≠ (41 : Int)))) = true) (Ty.bool (decide (c < (127 : Int))))), (Ty.grd (((((((decide ((33 : Int) ≤ c)) && (decide (c ≤ (12287 : Int)))) && (!((decide ((48 : Int) ≤ c)) && (decide (c ≤ (57 : Int)))))) && (decide (c ≠ (40 : Int)))) && (decide (c ≠ (41 : Int)))) = true) ∧ (decide (c < (127 : Int))) = false) (Ty.val (Value.int .i32 c))), (Ty.grd (((((((decide ((33 : Int) ≤ c)) && (decide (c ≤ (12287 : Int)))) && (!((decide ((48 : Int) ≤ c)) && (decide (c ≤ (57 : Int)))))) && (decide (c ≠ (40 : Int)))) && (decide (c ≠ (41 : Int)))) = true) ∧ (decide (c < (127 : Int))) = false) (Ty.bool (decide ((160 : Int) < c)))), (Ty.grd ((((((decide ((33 : Int) ≤ c)) && (decide (c ≤ (12287 : Int)))) && (!((decide ((48 : Int) ≤ c)) && (decide (c ≤ (57 : Int)))))) && (decide (c ≠ (40 : Int)))) && (decide (c ≠ (41 : Int)))) = true) (Ty.bool ((decide (c < (127 : Int))) || (decide ((160 : Int) < c))))), (Ty.bool ((((((decide ((33 : Int) ≤ c)) && (decide (c ≤ (12287 : Int)))) && (!((decide ((48 : Int) ≤ c)) && (decide (c ≤ (57 : Int)))))) && (decide (c ≠ (40 : Int)))) && (decide (c ≠ (41 : Int)))) && ((decide (c < (127 : Int))) || (decide ((160 : Int) < c))))), (Ty.bool ((((((decide ((33 : Int) ≤ c)) && (decide (c ≤ (12287 : Int)))) && (!((decide ((48 : Int) ≤ c)) && (decide (c ≤ (57 : Int)))))) && (decide (c ≠ (40 : Int)))) && (decide (c ≠ (41 : Int)))) && ((decide (c < (127 : Int))) || (decide ((160 : Int) < c)))))] ok2 ⟨?_, ?_, ?_, ?_, ?_, ?_, ?_, ?_, ?_, ?_, ?_, ?_, ?_, ?_, ?_, ?_, ?_, ?_, ?_, ?_, ?_, ?_, ?_, ?_, ?_, ?_, ?_, trivial⟩ ?_
 · intro A B E G H; exact rP (y_move (kp (H 0 rfl) E q2))
 · intro A B E G H d0; exact rP (y_geq (ed d0 rfl rfl rfl) rfl)
 · intro A B E G H d0; exact rP (y_move (ed d0 rfl rfl rfl))
 · intro A B E G H d0
   refine run_guard G rfl rfl (by decide) (ed d0 rfl rfl rfl) (fun hg => ?_)
   have hp := of_decide_eq_true hg
   exact y_move (kp (H 0 rfl) E q2)
 · intro A B E G H d0 d1
   refine run_guard G rfl rfl (by decide) (ed d1 rfl rfl rfl) (fun hg => ?_)
   have hp := of_decide_eq_true hg
   exact y_leq ((ed d0 rfl rfl rfl).1 hg) rfl
 · intro A B E G H d0 d1; exact rP (y_pick_and (ed d0 rfl rfl rfl) (ed d1 rfl rfl rfl) rfl)
 · intro A B E G H d0 d1; exact rP (y_move (ed d0 rfl rfl rfl))
 · intro A B E G H d0
   refine run_guard G rfl rfl (by decide) (ed d0 rfl rfl rfl) (fun hg => ?_)
   obtain ⟨d1, d2⟩ := Bool.and_eq_true_iff.mp hg
   have d1 := of_decide_eq_true d1
   have d2 := of_decide_eq_true d2
   exact y_move (kp (H 3 rfl) E q3)
 · intro A B E G H d0 d1
   refine run_guard G rfl rfl (by decide) (ed d1 rfl rfl rfl) (fun hg => ?_)
   obtain ⟨d3, d4⟩ := Bool.and_eq_true_iff.mp hg
   have d3 := of_decide_eq_true d3
   have d4 := of_decide_eq_true d4
   exact y_not ((ed d0 rfl rfl rfl).1 hg)
 · intro A B E G H d0 d1; exact rP (y_pick_and (ed d0 rfl rfl rfl) (ed d1 rfl rfl rfl) rfl)
 · intro A B E G H d0 d1; exact rP (y_move (ed d0 rfl rfl rfl))
 · intro A B E G H d0
   refine run_guard G rfl rfl (by decide) (ed d0 rfl rfl rfl) (fun hg => ?_)
   obtain ⟨d5, d6⟩ := Bool.and_eq_true_iff.mp hg
   obtain ⟨d7, d8⟩ := Bool.and_eq_true_iff.mp d5
   have d7 := of_decide_eq_true d7
   have d8 := of_decide_eq_true d8
   exact y_move (kp (H 0 rfl) E q2)
 · intro A B E G H d0 d1
   refine run_guard G rfl rfl (by decide) (ed d1 rfl rfl rfl) (fun hg => ?_)
   obtain ⟨d9, d10⟩ := Bool.and_eq_true_iff.mp hg
   obtain ⟨d11, d12⟩ := Bool.and_eq_true_iff.mp d9
   have d11 := of_decide_eq_true d11
   have d12 := of_decide_eq_true d12
   exact y_neq ((ed d0 rfl rfl rfl).1 hg) rfl
 · intro A B E G H d0 d1; exact rP (y_pick_and (ed d0 rfl rfl rfl) (ed d1 rfl rfl rfl) rfl)
 · intro A B E G H d0 d1; exact rP (y_move (ed d0 rfl rfl rfl))
 · intro A B E G H d0
   refine run_guard G rfl rfl (by decide) (ed d0 rfl rfl rfl) (fun hg => ?_)
   obtain ⟨d13, d14⟩ := Bool.and_eq_true_iff.mp hg
   obtain ⟨d15, d16⟩ := Bool.and_eq_true_iff.mp d13
   obtain ⟨d17, d18⟩ := Bool.and_eq_true_iff.mp d15
   have d17 := of_decide_eq_true d17
   have d18 := of_decide_eq_true d18
   have d14 := of_decide_eq_true d14
   exact y_move (kp (H 0 rfl) E q2)
 · intro A B E G H d0 d1
   refine run_guard G rfl rfl (by decide) (ed d1 rfl rfl rfl) (fun hg => ?_)
   obtain ⟨d19, d20⟩ := Bool.and_eq_true_iff.mp hg
   obtain ⟨d21, d22⟩ := Bool.and_eq_true_iff.mp d19
   obtain ⟨d23, d24⟩ := Bool.and_eq_true_iff.mp d21
   have d23 := of_decide_eq_true d23
   have d24 := of_decide_eq_true d24
   have d20 := of_decide_eq_true d20
   exact y_neq ((ed d0 rfl rfl rfl).1 hg) rfl
 · intro A B E G H d0 d1; exact rP (y_pick_and (ed d0 rfl rfl rfl) (ed d1 rfl rfl rfl) rfl)
 · intro A B E G H d0 d1; exact rP (y_move (ed d0 rfl rfl rfl))
 · intro A B E G H d0
   refine run_guard G rfl rfl (by decide) (ed d0 rfl rfl rfl) (fun hg => ?_)
   obtain ⟨d25, d26⟩ := Bool.and_eq_true_iff.mp hg
   obtain ⟨d27, d28⟩ := Bool.and_eq_true_iff.mp d25
   obtain ⟨d29, d30⟩ := Bool.and_eq_true_iff.mp d27
   obtain ⟨d31, d32⟩ := Bool.and_eq_true_iff.mp d29
   have d31 := of_decide_eq_true d31
   have d32 := of_decide_eq_true d32
   have d28 := of_decide_eq_true d28
   have d26 := of_decide_eq_true d26
   exact y_move (kp (H 0 rfl) E q2)
 · intro A B E G H d0 d1
   refine run_guard G rfl rfl (by decide) (ed d1 rfl rfl rfl) (fun hg => ?_)
   obtain ⟨d33, d34⟩ := Bool.and_eq_true_iff.mp hg
   obtain ⟨d35, d36⟩ := Bool.and_eq_true_iff.mp d33
   obtain ⟨d37, d38⟩ := Bool.and_eq_true_iff.mp d35
   obtain ⟨d39, d40⟩ := Bool.and_eq_true_iff.mp d37
   have d39 := of_decide_eq_true d39
   have d40 := of_decide_eq_true d40
   have d36 := of_decide_eq_true d36
   have d34 := of_decide_eq_true d34
   exact y_lss ((ed d0 rfl rfl rfl).1 hg) rfl
 · intro A B E G H d0 d1 d2
   refine run_guard G rfl rfl (by decide) (ed d1 rfl rfl rfl) (fun hg => ?_)
   obtain ⟨d41, d42⟩ := Bool.and_eq_true_iff.mp hg
   obtain ⟨d43, d44⟩ := Bool.and_eq_true_iff.mp d41
   obtain ⟨d45, d46⟩ := Bool.and_eq_true_iff.mp d43
   obtain ⟨d47, d48⟩ := Bool.and_eq_true_iff.mp d45
   have d47 := of_decide_eq_true d47
   have d48 := of_decide_eq_true d48
   have d44 := of_decide_eq_true d44
   have d42 := of_decide_eq_true d42
   exact y_move ((ed d0 rfl rfl rfl).1 hg)
 · intro A B E G H d0
   refine run_guard2 G rfl rfl (by decide) (ed d0 rfl rfl rfl) (fun hg => ?_)
   have hp := of_decide_eq_false hg.2
   exact y_move (kp (H 0 rfl) E q2)
 · intro A B E G H d0 d1
   refine run_guard2 G rfl rfl (by decide) (ed d1 rfl rfl rfl) (fun hg => ?_)
   have hp := of_decide_eq_false hg.2
   exact y_gtr ((ed d0 rfl rfl rfl).1 hg) rfl
 · intro A B E G H d0 d1 d2
   refine run_guard G rfl rfl (by decide) (ed d2 rfl rfl rfl) (fun hg => ?_)
   obtain ⟨d49, d50⟩ := Bool.and_eq_true_iff.mp hg
   obtain ⟨d51, d52⟩ := Bool.and_eq_true_iff.mp d49
   obtain ⟨d53, d54⟩ := Bool.and_eq_true_iff.mp d51
   obtain ⟨d55, d56⟩ := Bool.and_eq_true_iff.mp d53
   have d55 := of_decide_eq_true d55
   have d56 := of_decide_eq_true d56
   have d52 := of_decide_eq_true d52
   have d50 := of_decide_eq_true d50
   exact y_pick_or ((ed d0 rfl rfl rfl).1 hg) rfl (grd_part hg (ed d1 rfl rfl rfl))
 · intro A B E G H d0 d1; exact rP (y_pick_and (ed d0 rfl rfl rfl) (ed d1 rfl rfl rfl) rfl)
 · intro A B E G H d0 d1 d2 d3 d4 d5 d6 d7 d8 d9 d10 d11 d12 d13 d14 d15 d16 d17 d18 d19 d20 d21 d22 d23 d24 d25 d26 d27; exact rP (y_assign (ed d0 rfl rfl rfl))
 intro a3 s3 D3; have ok3 := D3.ok; have F3 := F2.step0 D3.stp; have q4 := D3.dn 26 rfl rfl; clear D3; refine tn ?_; refine wp_ret ?_
 exact retL1 rfl ok3 F3 (cvb (by (rw [Bool.eq_iff_iff]; simp only [signMay, Bool.and_eq_true, Bool.or_eq_true, decide_eq_true_eq, Bool.not_eq_true', Bool.and_eq_false_iff, decide_eq_false_iff_not]; omega)) q4)


end Go.Proofs.Ytbilebfnanlgfaa
