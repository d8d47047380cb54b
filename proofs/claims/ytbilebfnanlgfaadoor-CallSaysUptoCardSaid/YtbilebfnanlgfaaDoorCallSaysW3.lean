/- The functions that the law CallSays reaches, each by its contract. Part 3. -/
import Derived.Test.YtbilebfnanlgfaaDoorCallSaysW2
namespace Go.Proofs.YtbilebfnanlgfaaDoor
open Go.KL

set_option maxHeartbeats 4000000 in
set_option maxRecDepth 100000 in
theorem rIsName_fn (s : ByteArray) (σ : GW)  (v0 : Value) (hv0 : Ty.has (Ty.val (Value.string s)) σ v0)  (E : s.size ≤ 17592186044416) :
    FnC Tryd.prog 46 #[v0] σ (Ty.bool (nameL s)) := by
 obtain ⟨L, hL⟩ : ∃ L, L = runsL s := ⟨_, rfl⟩
 have hne : nameI L = nameL s := by rw [hL, name_eq]
 refine fn_intro0 Tryd.func46 rfl Tryd.ntmps46 (Nat.le_of_ble_eq_true rfl) (fun s0 a0 hle F0 ok0 hargs => ?_)
 have p0 : At (Ty.val (Value.string s)) s0 a0 (.tmp 0) := by have e := hargs 0 _ rfl; show Ty.has _ _ _; rw [e]; exact Ty.up _ hle hv0
 clear hargs; refine wp_seq ?_
 refine rg a0 s0 [(Ty.bool false)] ok0 ⟨?_, trivial⟩ ?_
 · intro A B E G H; exact rP (y_assign rfl)
 intro a1 s1 D1; have ok1 := D1.ok; have F1 := F0.step0 D1.stp; have q1 := D1.kt p0 rfl; clear D1; refine tn ?_; refine wp_seq ?_
 refine rg a1 s1 [(Ty.val (Value.string s)), (Ty.lst Ty.int L), (Ty.lst Ty.int L)] ok1 ⟨?_, ?_, ?_, trivial⟩ ?_
 · intro A B E G H; exact rP (y_move (kp (H 0 rfl) E q1))
 · intro A B E G H d0; exact rP ((y_call #[A.eval (.tmp 7)] Tryd.func60 rfl rfl (by simp only [List.map_toArray, List.map_cons, List.map_nil]) (rRunes_fn (s) _ _ (ed d0 rfl rfl rfl) (by omega))).mono (fun τ _ h => cvt (σ := τ) (T := (Ty.lst Ty.int (runsL s))) (U := (Ty.lst Ty.int L)) (by rw [hL]) h))
 · intro A B E G H d0 d1 d2 d3; exact rP (y_assign (ed d0 rfl rfl rfl))
 intro a2 s2 D2; have ok2 := D2.ok; have F2 := F1.step0 D2.stp; have q2 := D2.dn 2 rfl rfl; clear D2; refine tn ?_; refine wp_seq ?_; refine wp_seq ?_
 refine rg a2 s2 [(Ty.lst Ty.int L), (Ty.nat (List.length L)), (Ty.bool (decide ((((List.length L) : Nat) : Int) < (1 : Int)))), (Ty.bool (decide ((((List.length L) : Nat) : Int) < (1 : Int)))), (Ty.grd ((decide ((((List.length L) : Nat) : Int) < (1 : Int))) = false) (Ty.lst Ty.int L)), (Ty.grd ((decide ((((List.length L) : Nat) : Int) < (1 : Int))) = false) (Ty.nat (List.length L))), (Ty.grd ((decide ((((List.length L) : Nat) : Int) < (1 : Int))) = false) (Ty.bool (decide ((20 : Int) < (((List.length L) : Nat) : Int))))), (Ty.bool ((decide ((((List.length L) : Nat) : Int) < (1 : Int))) || (decide ((20 : Int) < (((List.length L) : Nat) : Int))))), (Ty.bool ((decide ((((List.length L) : Nat) : Int) < (1 : Int))) || (decide ((20 : Int) < (((List.length L) : Nat) : Int))))), (Ty.grd (((decide ((((List.length L) : Nat) : Int) < (1 : Int))) || (decide ((20 : Int) < (((List.length L) : Nat) : Int)))) = false) (Ty.lst Ty.int L)), (Ty.grd (((decide ((((List.length L) : Nat) : Int) < (1 : Int))) || (decide ((20 : Int) < (((List.length L) : Nat) : Int)))) = false) (Ty.ref [(Ty.int (L.getD ((0 : Int)).toNat 0))])), (Ty.grd (((decide ((((List.length L) : Nat) : Int) < (1 : Int))) || (decide ((20 : Int) < (((List.length L) : Nat) : Int)))) = false) (Ty.int (L.getD ((0 : Int)).toNat 0))), (Ty.grd (((decide ((((List.length L) : Nat) : Int) < (1 : Int))) || (decide ((20 : Int) < (((List.length L) : Nat) : Int)))) = false) (Ty.bool (decide ((L.getD ((0 : Int)).toNat 0) = (32 : Int))))), (Ty.bool (((decide ((((List.length L) : Nat) : Int) < (1 : Int))) || (decide ((20 : Int) < (((List.length L) : Nat) : Int)))) || (decide ((L.getD ((0 : Int)).toNat 0) = (32 : Int))))), (Ty.bool (((decide ((((List.length L) : Nat) : Int) < (1 : Int))) || (decide ((20 : Int) < (((List.length L) : Nat) : Int)))) || (decide ((L.getD ((0 : Int)).toNat 0) = (32 : Int))))), (Ty.grd ((((decide ((((List.length L) : Nat) : Int) < (1 : Int))) || (decide ((20 : Int) < (((List.length L) : Nat) : Int)))) || (decide ((L.getD ((0 : Int)).toNat 0) = (32 : Int)))) = false) (Ty.lst Ty.int L)), (Ty.grd ((((decide ((((List.length L) : Nat) : Int) < (1 : Int))) || (decide ((20 : Int) < (((List.length L) : Nat) : Int)))) || (decide ((L.getD ((0 : Int)).toNat 0) = (32 : Int)))) = false) (Ty.lst Ty.int L)), (Ty.grd ((((decide ((((List.length L) : Nat) : Int) < (1 : Int))) || (decide ((20 : Int) < (((List.length L) : Nat) : Int)))) || (decide ((L.getD ((0 : Int)).toNat 0) = (32 : Int)))) = false) (Ty.nat (List.length L))), (Ty.grd ((((decide ((((List.length L) : Nat) : Int) < (1 : Int))) || (decide ((20 : Int) < (((List.length L) : Nat) : Int)))) || (decide ((L.getD ((0 : Int)).toNat 0) = (32 : Int)))) = false) (Ty.nat ((List.length L) - 1))), (Ty.grd ((((decide ((((List.length L) : Nat) : Int) < (1 : Int))) || (decide ((20 : Int) < (((List.length L) : Nat) : Int)))) || (decide ((L.getD ((0 : Int)).toNat 0) = (32 : Int)))) = false) (Ty.ref [(Ty.int (L.getD ((List.length L) - 1) 0))])), (Ty.grd ((((decide ((((List.length L) : Nat) : Int) < (1 : Int))) || (decide ((20 : Int) < (((List.length L) : Nat) : Int)))) || (decide ((L.getD ((0 : Int)).toNat 0) = (32 : Int)))) = false) (Ty.int (L.getD ((List.length L) - 1) 0))), (Ty.grd ((((decide ((((List.length L) : Nat) : Int) < (1 : Int))) || (decide ((20 : Int) < (((List.length L) : Nat) : Int)))) || (decide ((L.getD ((0 : Int)).toNat 0) = (32 : Int)))) = false) (Ty.bool (decide ((L.getD ((List.length L) - 1) 0) = (32 : Int))))), (Ty.bool ((((decide ((((List.length L) : Nat) : Int) < (1 : Int))) || (decide ((20 : Int) < (((List.length L) : Nat) : Int)))) || (decide ((L.getD ((0 : Int)).toNat 0) = (32 : Int)))) || (decide ((L.getD ((List.length L) - 1) 0) = (32 : Int)))))] ok2 ⟨?_, ?_, ?_, ?_, ?_, ?_, ?_, ?_, ?_, ?_, ?_, ?_, ?_, ?_, ?_, ?_, ?_, ?_, ?_, ?_, ?_, ?_, ?_, trivial⟩ ?_
 · intro A B E G H; exact rP (y_move (kp (H 3 rfl) E q2))
 · intro A B E G H d0; exact rP (y_len Tryd.underlying26 (ed d0 rfl rfl rfl))
 · intro A B E G H d0; exact rP (y_lss (ed d0 rfl rfl rfl) rfl)
 · intro A B E G H d0; exact rP (y_move (ed d0 rfl rfl rfl))
 · intro A B E G H d0
   refine run_guard G rfl rfl (by decide) (ed d0 rfl rfl rfl) (fun hg => ?_)
   have hp := of_decide_eq_false hg
   exact y_move (kp (H 3 rfl) E q2)
 · intro A B E G H d0 d1
   refine run_guard G rfl rfl (by decide) (ed d1 rfl rfl rfl) (fun hg => ?_)
   have hp := of_decide_eq_false hg
   exact y_len Tryd.underlying26 ((ed d0 rfl rfl rfl).1 hg)
 · intro A B E G H d0 d1
   refine run_guard G rfl rfl (by decide) (ed d1 rfl rfl rfl) (fun hg => ?_)
   have hp := of_decide_eq_false hg
   exact y_gtr ((ed d0 rfl rfl rfl).1 hg) rfl
 · intro A B E G H d0 d1; exact rP (y_pick_or (ed d0 rfl rfl rfl) rfl (ed d1 rfl rfl rfl))
 · intro A B E G H d0 d1; exact rP (y_move (ed d0 rfl rfl rfl))
 · intro A B E G H d0
   refine run_guard G rfl rfl (by decide) (ed d0 rfl rfl rfl) (fun hg => ?_)
   obtain ⟨d1, d2⟩ := Bool.or_eq_false_iff.mp hg
   have d1 := of_decide_eq_false d1
   have d2 := of_decide_eq_false d2
   exact y_move (kp (H 3 rfl) E q2)
 · intro A B E G H d0 d1
   refine run_guard G rfl rfl (by decide) (ed d1 rfl rfl rfl) (fun hg => ?_)
   obtain ⟨d3, d4⟩ := Bool.or_eq_false_iff.mp hg
   have d3 := of_decide_eq_false d3
   have d4 := of_decide_eq_false d4
   exact y_index1 Tryd.underlying26 Tryd.inf3 ((ed d0 rfl rfl rfl).1 hg) rfl (by omega) (lst_get Ty.int L 0 ((0 : Int)).toNat (by omega))
 · intro A B E G H d0 d1
   refine run_guard G rfl rfl (by decide) (ed d1 rfl rfl rfl) (fun hg => ?_)
   obtain ⟨d5, d6⟩ := Bool.or_eq_false_iff.mp hg
   have d5 := of_decide_eq_false d5
   have d6 := of_decide_eq_false d6
   exact y_load Tryd.underlying3 rfl ((ed d0 rfl rfl rfl).1 hg) rfl
 · intro A B E G H d0 d1
   refine run_guard G rfl rfl (by decide) (ed d1 rfl rfl rfl) (fun hg => ?_)
   obtain ⟨d7, d8⟩ := Bool.or_eq_false_iff.mp hg
   have d7 := of_decide_eq_false d7
   have d8 := of_decide_eq_false d8
   exact y_eql ((ed d0 rfl rfl rfl).1 hg) rfl
 · intro A B E G H d0 d1; exact rP (y_pick_or (ed d0 rfl rfl rfl) rfl (ed d1 rfl rfl rfl))
 · intro A B E G H d0 d1; exact rP (y_move (ed d0 rfl rfl rfl))
 · intro A B E G H d0
   refine run_guard G rfl rfl (by decide) (ed d0 rfl rfl rfl) (fun hg => ?_)
   obtain ⟨d9, d10⟩ := Bool.or_eq_false_iff.mp hg
   obtain ⟨d11, d12⟩ := Bool.or_eq_false_iff.mp d9
   have d11 := of_decide_eq_false d11
   have d12 := of_decide_eq_false d12
   have d10 := of_decide_eq_false d10
   exact y_move (kp (H 3 rfl) E q2)
 · intro A B E G H d0
   refine run_guard G rfl rfl (by decide) (ed d0 rfl rfl rfl) (fun hg => ?_)
   obtain ⟨d13, d14⟩ := Bool.or_eq_false_iff.mp hg
   obtain ⟨d15, d16⟩ := Bool.or_eq_false_iff.mp d13
   have d15 := of_decide_eq_false d15
   have d16 := of_decide_eq_false d16
   have d14 := of_decide_eq_false d14
   exact y_move (kp (H 3 rfl) E q2)
 · intro A B E G H d0 d1
   refine run_guard G rfl rfl (by decide) (ed d1 rfl rfl rfl) (fun hg => ?_)
   obtain ⟨d17, d18⟩ := Bool.or_eq_false_iff.mp hg
   obtain ⟨d19, d20⟩ := Bool.or_eq_false_iff.mp d17
   have d19 := of_decide_eq_false d19
   have d20 := of_decide_eq_false d20
   have d18 := of_decide_eq_false d18
   exact y_len Tryd.underlying26 ((ed d0 rfl rfl rfl).1 hg)
 · intro A B E G H d0 d1
   refine run_guard G rfl rfl (by decide) (ed d1 rfl rfl rfl) (fun hg => ?_)
   obtain ⟨d21, d22⟩ := Bool.or_eq_false_iff.mp hg
   obtain ⟨d23, d24⟩ := Bool.or_eq_false_iff.mp d21
   have d23 := of_decide_eq_false d23
   have d24 := of_decide_eq_false d24
   have d22 := of_decide_eq_false d22
   exact (y_sub ((ed d0 rfl rfl rfl).1 hg) rfl (w64 (by omega) (by omega))).mono (fun τ _ h => cvi (σ := τ) (by omega) h)
 · intro A B E G H d0 d1 d2
   refine run_guard G rfl rfl (by decide) (ed d2 rfl rfl rfl) (fun hg => ?_)
   obtain ⟨d25, d26⟩ := Bool.or_eq_false_iff.mp hg
   obtain ⟨d27, d28⟩ := Bool.or_eq_false_iff.mp d25
   have d27 := of_decide_eq_false d27
   have d28 := of_decide_eq_false d28
   have d26 := of_decide_eq_false d26
   exact y_index1 Tryd.underlying26 Tryd.inf3 ((ed d0 rfl rfl rfl).1 hg) ((ed d1 rfl rfl rfl).1 hg) (by omega) (lst_get Ty.int L 0 ((List.length L) - 1) (by omega))
 · intro A B E G H d0 d1
   refine run_guard G rfl rfl (by decide) (ed d1 rfl rfl rfl) (fun hg => ?_)
   obtain ⟨d29, d30⟩ := Bool.or_eq_false_iff.mp hg
   obtain ⟨d31, d32⟩ := Bool.or_eq_false_iff.mp d29
   have d31 := of_decide_eq_false d31
   have d32 := of_decide_eq_false d32
   have d30 := of_decide_eq_false d30
   exact y_load Tryd.underlying3 rfl ((ed d0 rfl rfl rfl).1 hg) rfl
 · intro A B E G H d0 d1
   refine run_guard G rfl rfl (by decide) (ed d1 rfl rfl rfl) (fun hg => ?_)
   obtain ⟨d33, d34⟩ := Bool.or_eq_false_iff.mp hg
   obtain ⟨d35, d36⟩ := Bool.or_eq_false_iff.mp d33
   have d35 := of_decide_eq_false d35
   have d36 := of_decide_eq_false d36
   have d34 := of_decide_eq_false d34
   exact y_eql ((ed d0 rfl rfl rfl).1 hg) rfl
 · intro A B E G H d0 d1; exact rP (y_pick_or (ed d0 rfl rfl rfl) rfl (ed d1 rfl rfl rfl))
 intro a3 s3 D3; have ok3 := D3.ok; have F3 := F2.step0 D3.stp; have q3 := D3.kt q2 rfl; have q4 := D3.dn 22 rfl rfl; clear D3; refine tn ?_
 refine cond_t q4 (fun c1 => ?_) (fun c1 => ?_)
 ·
  simp only [Bool.or_eq_true, decide_eq_true_eq, Int.toNat_zero] at c1; have hb := name_bad (l := L) (by omega)
  refine wp_seq ?_
  refine rg a3 s3 [(Ty.bool false)] ok3 ⟨?_, trivial⟩ ?_
  · intro A B E G H; exact rP (y_assign rfl)
  intro a4 s4 D4; have ok4 := D4.ok; have F4 := F3.step0 D4.stp; have q5 := D4.dn 0 rfl rfl; clear D4; refine tn ?_; refine wp_ret ?_; refine tr ?_
  exact retL1 rfl ok4 F4 (cvb (by (rw [← hne, hb])) q5)
 ·
  obtain ⟨d37, d38⟩ := Bool.or_eq_false_iff.mp c1
  obtain ⟨d39, d40⟩ := Bool.or_eq_false_iff.mp d37
  obtain ⟨d41, d42⟩ := Bool.or_eq_false_iff.mp d39
  replace d41 := of_decide_eq_false d41
  replace d42 := of_decide_eq_false d42
  replace d40 := of_decide_eq_false d40
  replace d38 := of_decide_eq_false d38
  have hx1 : ¬ (L.length < 1 ∨ 20 < L.length ∨ L.getD 0 0 = 32 ∨ L.getD (L.length - 1) 0 = 32) := (by simp only [Bool.or_eq_false_iff, decide_eq_false_iff_not, Int.toNat_zero] at c1; omega)
  refine wp_skip ?_; refine tn ?_; refine wp_seq ?_; refine wp_seq ?_
  refine rg a3 s3 [(Ty.int (0 : Int))] ok3 ⟨?_, trivial⟩ ?_
  · intro A B E G H; exact rP (y_assign rfl)
  intro a5 s5 D5; have ok5 := D5.ok; have F5 := F3.step0 D5.stp; have q6 := D5.kt q3 rfl; have q7 := D5.dn 0 rfl rfl; clear D5; refine tn ?_; refine wp_block ?_
  refine loop (fun n1 a6 w1 => ∃ (t1 : GW) (i : Nat), t1.w = w1 ∧ FromL [] s0 t1 ∧ Ok 86 a6 ∧ At (Ty.nat i) t1 a6 (.tmp 4) ∧ At (Ty.lst Ty.int L) t1 a6 (.tmp 3) ∧ (i ≤ L.length) ∧ (∀ j, j < i → letterB (L.getD j 0) = true) ∧ n1 = L.length - i) (L.length - (0)) ?_ ?_
  ·
   exact ⟨s5, 0, rfl, F5, ok5, (cvi (by (first | rfl | omega | (simp_all; done) | (simp_all; omega))) q7), q6, by omega, fun j hj => absurd hj (Nat.not_lt_zero j), rfl⟩
  ·
   rintro n2 a7 w2 ⟨t2, i, rfl, F6, ok6, q8, q9, hi, hal, rfl⟩
   refine wp_seq ?_; refine wp_seq ?_
   refine reg (a := a7) (σ := t2) rfl (fun i_ => List.getD [(Ty.pr (Ty.nat i)), (Ty.pr (Ty.lst Ty.int L)), (Ty.pr (Ty.nat (List.length L))), (Ty.pr (Ty.bool (decide (((i : Nat) : Int) < (((List.length L) : Nat) : Int)))))] i_ Pr.any) ok6 rfl ⟨?_, ?_, ?_, ?_, trivial⟩ ?_
   · intro A B E G H; exact rP (y_move (kp (H 4 rfl) E q8))
   · intro A B E G H; exact rP (y_move (kp (H 3 rfl) E q9))
   · intro A B E G H d0; exact rP (y_len Tryd.underlying26 (ed d0 rfl rfl rfl))
   · intro A B E G H d0 d1; exact rP (y_lss (ed d0 rfl rfl rfl) (ed d1 rfl rfl rfl))
   intro a8 s6 D6; have ok7 := D6.ok; have F7 := F6.step0 D6.stp; have q10 := D6.kt q8 rfl; have q11 := D6.kt q9 rfl; have q12 := D6.dn 3 rfl rfl; clear D6; refine tn ?_
   refine cond_p (p := (((i : Nat) : Int) < (((List.length L) : Nat) : Int))) q12 (fun c2 => ?_) (fun c2 => ?_)
   ·
    refine wp_skip ?_; refine tn ?_; refine wp_seq ?_; refine wp_block ?_; refine wp_seq ?_
    refine rg a8 s6 [(Ty.lst Ty.int L), (Ty.nat i), (Ty.ref [(Ty.int (L.getD i 0))]), (Ty.int (L.getD i 0)), (Ty.int (L.getD i 0))] ok7 ⟨?_, ?_, ?_, ?_, ?_, trivial⟩ ?_
    · intro A B E G H; exact rP (y_move (kp (H 3 rfl) E q11))
    · intro A B E G H; exact rP (y_move (kp (H 4 rfl) E q10))
    · intro A B E G H d0 d1; exact rP (y_index1 Tryd.underlying26 Tryd.inf3 (ed d0 rfl rfl rfl) (ed d1 rfl rfl rfl) (by omega) (lst_get Ty.int L 0 i (by omega)))
    · intro A B E G H d0; exact rP (y_load Tryd.underlying3 rfl (ed d0 rfl rfl rfl) rfl)
    · intro A B E G H d0 d1 d2 d3 d4; exact rP (y_assign (ed d0 rfl rfl rfl))
    intro a9 s7 D7; have ok8 := D7.ok; have F8 := F7.step0 D7.stp; have q13 := D7.kt q10 rfl; have q14 := D7.kt q11 rfl; have q15 := D7.dn 4 rfl rfl; clear D7; refine tn ?_; refine wp_seq ?_
    refine rg a9 s7 [(Ty.int (L.getD i 0)), (Ty.bool (decide ((65 : Int) ≤ (L.getD i 0)))), (Ty.bool (decide ((65 : Int) ≤ (L.getD i 0)))), (Ty.grd ((decide ((65 : Int) ≤ (L.getD i 0))) = true) (Ty.int (L.getD i 0))), (Ty.grd ((decide ((65 : Int) ≤ (L.getD i 0))) = true) (Ty.bool (decide ((L.getD i 0) ≤ (90 : Int))))), (Ty.bool ((decide ((65 : Int) ≤ (L.getD i 0))) && (decide ((L.getD i 0) ≤ (90 : Int))))), (Ty.bool ((decide ((65 : Int) ≤ (L.getD i 0))) && (decide ((L.getD i 0) ≤ (90 : Int))))), (Ty.grd (((decide ((65 : Int) ≤ (L.getD i 0))) && (decide ((L.getD i 0) ≤ (90 : Int)))) = false) (Ty.int (L.getD i 0))), (Ty.grd (((decide ((65 : Int) ≤ (L.getD i 0))) && (decide ((L.getD i 0) ≤ (90 : Int)))) = false) (Ty.bool (decide ((97 : Int) ≤ (L.getD i 0))))), (Ty.grd (((decide ((65 : Int) ≤ (L.getD i 0))) && (decide ((L.getD i 0) ≤ (90 : Int)))) = false) (Ty.bool (decide ((97 : Int) ≤ (L.getD i 0))))), (Ty.grd ((((decide ((65 : Int) ≤ (L.getD i 0))) && (decide ((L.getD i 0) ≤ (90 : Int)))) = false) ∧ (decide ((97 : Int) ≤ (L.getD i 0))) = true) (Ty.int (L.getD i 0))), (Ty.grd ((((decide ((65 : Int) ≤ (L.getD i 0))) && (decide ((L.getD i 0) ≤ (90 : Int)))) = false) ∧ (decide ((97 : Int) ≤ (L.getD i 0))) = true) (Ty.bool (decide ((L.getD i 0) ≤ (122 : Int))))), (Ty.grd (((decide ((65 : Int) ≤ (L.getD i 0))) && (decide ((L.getD i 0) ≤ (90 : Int)))) = false) (Ty.bool ((decide ((97 : Int) ≤ (L.getD i 0))) && (decide ((L.getD i 0) ≤ (122 : Int)))))), (Ty.bool (((decide ((65 : Int) ≤ (L.getD i 0))) && (decide ((L.getD i 0) ≤ (90 : Int)))) || ((decide ((97 : Int) ≤ (L.getD i 0))) && (decide ((L.getD i 0) ≤ (122 : Int)))))), (Ty.bool (((decide ((65 : Int) ≤ (L.getD i 0))) && (decide ((L.getD i 0) ≤ (90 : Int)))) || ((decide ((97 : Int) ≤ (L.getD i 0))) && (decide ((L.getD i 0) ≤ (122 : Int)))))), (Ty.grd ((((decide ((65 : Int) ≤ (L.getD i 0))) && (decide ((L.getD i 0) ≤ (90 : Int)))) || ((decide ((97 : Int) ≤ (L.getD i 0))) && (decide ((L.getD i 0) ≤ (122 : Int))))) = false) (Ty.int (L.getD i 0))), (Ty.grd ((((decide ((65 : Int) ≤ (L.getD i 0))) && (decide ((L.getD i 0) ≤ (90 : Int)))) || ((decide ((97 : Int) ≤ (L.getD i 0))) && (decide ((L.getD i 0) ≤ (122 : Int))))) = false) (Ty.bool (decide ((48 : Int) ≤ (L.getD i 0))))), (Ty.grd ((((decide ((65 : Int) ≤ (L.getD i 0))) && (decide ((L.getD i 0) ≤ (90 : Int)))) || ((decide ((97 : Int) ≤ (L.getD i 0))) && (decide ((L.getD i 0) ≤ (122 : Int))))) = false) (Ty.bool (decide ((48 : Int) ≤ (L.getD i 0))))), (Ty.grd (((((decide ((65 : Int) ≤ (L.getD i 0))) && (decide ((L.getD i 0) ≤ (90 : Int)))) || ((decide ((97 : Int) ≤ (L.getD i 0))) && (decide ((L.getD i 0) ≤ (122 : Int))))) = false) ∧ (decide ((48 : Int) ≤ (L.getD i 0))) = true) (Ty.int (L.getD i 0))), (Ty.grd (((((decide ((65 : Int) ≤ (L.getD i 0))) && (decide ((L.getD i 0) ≤ (90 : Int)))) || ((decide ((97 : Int) ≤ (L.getD i 0))) && (decide ((L.getD i 0) ≤ (122 : Int))))) = false) ∧ (decide ((48 : Int) ≤ (L.getD i 0))) = true) (Ty.bool (decide ((L.getD i 0) ≤ (57 : Int))))), (Ty.grd ((((decide ((65 : Int) ≤ (L.getD i 0))) && (decide ((L.getD i 0) ≤ (90 : Int)))) || ((decide ((97 : Int) ≤ (L.getD i 0))) && (decide ((L.getD i 0) ≤ (122 : Int))))) = false) (Ty.bool ((decide ((48 : Int) ≤ (L.getD i 0))) && (decide ((L.getD i 0) ≤ (57 : Int)))))), (Ty.bool ((((decide ((65 : Int) ≤ (L.getD i 0))) && (decide ((L.getD i 0) ≤ (90 : Int)))) || ((decide ((97 : Int) ≤ (L.getD i 0))) && (decide ((L.getD i 0) ≤ (122 : Int))))) || ((decide ((48 : Int) ≤ (L.getD i 0))) && (decide ((L.getD i 0) ≤ (57 : Int)))))), (Ty.bool ((((decide ((65 : Int) ≤ (L.getD i 0))) && (decide ((L.getD i 0) ≤ (90 : Int)))) || ((decide ((97 : Int) ≤ (L.getD i 0))) && (decide ((L.getD i 0) ≤ (122 : Int))))) || ((decide ((48 : Int) ≤ (L.getD i 0))) && (decide ((L.getD i 0) ≤ (57 : Int)))))), (Ty.grd (((((decide ((65 : Int) ≤ (L.getD i 0))) && (decide ((L.getD i 0) ≤ (90 : Int)))) || ((decide ((97 : Int) ≤ (L.getD i 0))) && (decide ((L.getD i 0) ≤ (122 : Int))))) || ((decide ((48 : Int) ≤ (L.getD i 0))) && (decide ((L.getD i 0) ≤ (57 : Int))))) = false) (Ty.int (L.getD i 0))), (Ty.grd (((((decide ((65 : Int) ≤ (L.getD i 0))) && (decide ((L.getD i 0) ≤ (90 : Int)))) || ((decide ((97 : Int) ≤ (L.getD i 0))) && (decide ((L.getD i 0) ≤ (122 : Int))))) || ((decide ((48 : Int) ≤ (L.getD i 0))) && (decide ((L.getD i 0) ≤ (57 : Int))))) = false) (Ty.bool (decide ((L.getD i 0) = (32 : Int))))), (Ty.bool (((((decide ((65 : Int) ≤ (L.getD i 0))) && (decide ((L.getD i 0) ≤ (90 : Int)))) || ((decide ((97 : Int) ≤ (L.getD i 0))) && (decide ((L.getD i 0) ≤ (122 : Int))))) || ((decide ((48 : Int) ≤ (L.getD i 0))) && (decide ((L.getD i 0) ≤ (57 : Int))))) || (decide ((L.getD i 0) = (32 : Int))))), (Ty.bool (((((decide ((65 : Int) ≤ (L.getD i 0))) && (decide ((L.getD i 0) ≤ (90 : Int)))) || ((decide ((97 : Int) ≤ (L.getD i 0))) && (decide ((L.getD i 0) ≤ (122 : Int))))) || ((decide ((48 : Int) ≤ (L.getD i 0))) && (decide ((L.getD i 0) ≤ (57 : Int))))) || (decide ((L.getD i 0) = (32 : Int)))))] ok8 ⟨?_, ?_, ?_, ?_, ?_, ?_, ?_, ?_, ?_, ?_, ?_, ?_, ?_, ?_, ?_, ?_, ?_, ?_, ?_, ?_, ?_, ?_, ?_, ?_, ?_, ?_, ?_, trivial⟩ ?_
    · intro A B E G H; exact rP (y_move (kp (H 5 rfl) E q15))
    · intro A B E G H d0; exact rP (y_geq (ed d0 rfl rfl rfl) rfl)
    · intro A B E G H d0; exact rP (y_move (ed d0 rfl rfl rfl))
    · intro A B E G H d0
      refine run_guard G rfl rfl (by decide) (ed d0 rfl rfl rfl) (fun hg => ?_)
      have hp := of_decide_eq_true hg
      exact y_move (kp (H 5 rfl) E q15)
    · intro A B E G H d0 d1
      refine run_guard G rfl rfl (by decide) (ed d1 rfl rfl rfl) (fun hg => ?_)
      have hp := of_decide_eq_true hg
      exact y_leq ((ed d0 rfl rfl rfl).1 hg) rfl
    · intro A B E G H d0 d1; exact rP (y_pick_and (ed d0 rfl rfl rfl) (ed d1 rfl rfl rfl) rfl)
    · intro A B E G H d0 d1; exact rP (y_move (ed d0 rfl rfl rfl))
    · intro A B E G H d0
      refine run_guard G rfl rfl (by decide) (ed d0 rfl rfl rfl) (fun hg => ?_)
      exact y_move (kp (H 5 rfl) E q15)
    · intro A B E G H d0 d1
      refine run_guard G rfl rfl (by decide) (ed d1 rfl rfl rfl) (fun hg => ?_)
      exact y_geq ((ed d0 rfl rfl rfl).1 hg) rfl
    · intro A B E G H d0 d1 d2
      refine run_guard G rfl rfl (by decide) (ed d1 rfl rfl rfl) (fun hg => ?_)
      exact y_move ((ed d0 rfl rfl rfl).1 hg)
    · intro A B E G H d0
      refine run_guard2 G rfl rfl (by decide) (ed d0 rfl rfl rfl) (fun hg => ?_)
      have hp := of_decide_eq_true hg.2
      exact y_move (kp (H 5 rfl) E q15)
    · intro A B E G H d0 d1
      refine run_guard2 G rfl rfl (by decide) (ed d1 rfl rfl rfl) (fun hg => ?_)
      have hp := of_decide_eq_true hg.2
      exact y_leq ((ed d0 rfl rfl rfl).1 hg) rfl
    · intro A B E G H d0 d1 d2
      refine run_guard G rfl rfl (by decide) (ed d2 rfl rfl rfl) (fun hg => ?_)
      exact y_pick_and ((ed d0 rfl rfl rfl).1 hg) (grd_part hg (ed d1 rfl rfl rfl)) rfl
    · intro A B E G H d0 d1; exact rP (y_pick_or (ed d0 rfl rfl rfl) rfl (ed d1 rfl rfl rfl))
    · intro A B E G H d0 d1; exact rP (y_move (ed d0 rfl rfl rfl))
    · intro A B E G H d0
      refine run_guard G rfl rfl (by decide) (ed d0 rfl rfl rfl) (fun hg => ?_)
      obtain ⟨d43, d44⟩ := Bool.or_eq_false_iff.mp hg
      exact y_move (kp (H 5 rfl) E q15)
    · intro A B E G H d0 d1
      refine run_guard G rfl rfl (by decide) (ed d1 rfl rfl rfl) (fun hg => ?_)
      obtain ⟨d45, d46⟩ := Bool.or_eq_false_iff.mp hg
      exact y_geq ((ed d0 rfl rfl rfl).1 hg) rfl
    · intro A B E G H d0 d1 d2
      refine run_guard G rfl rfl (by decide) (ed d1 rfl rfl rfl) (fun hg => ?_)
      obtain ⟨d47, d48⟩ := Bool.or_eq_false_iff.mp hg
      exact y_move ((ed d0 rfl rfl rfl).1 hg)
    · intro A B E G H d0
      refine run_guard2 G rfl rfl (by decide) (ed d0 rfl rfl rfl) (fun hg => ?_)
      have hp := of_decide_eq_true hg.2
      exact y_move (kp (H 5 rfl) E q15)
    · intro A B E G H d0 d1
      refine run_guard2 G rfl rfl (by decide) (ed d1 rfl rfl rfl) (fun hg => ?_)
      have hp := of_decide_eq_true hg.2
      exact y_leq ((ed d0 rfl rfl rfl).1 hg) rfl
    · intro A B E G H d0 d1 d2
      refine run_guard G rfl rfl (by decide) (ed d2 rfl rfl rfl) (fun hg => ?_)
      obtain ⟨d49, d50⟩ := Bool.or_eq_false_iff.mp hg
      exact y_pick_and ((ed d0 rfl rfl rfl).1 hg) (grd_part hg (ed d1 rfl rfl rfl)) rfl
    · intro A B E G H d0 d1; exact rP (y_pick_or (ed d0 rfl rfl rfl) rfl (ed d1 rfl rfl rfl))
    · intro A B E G H d0 d1; exact rP (y_move (ed d0 rfl rfl rfl))
    · intro A B E G H d0
      refine run_guard G rfl rfl (by decide) (ed d0 rfl rfl rfl) (fun hg => ?_)
      obtain ⟨d51, d52⟩ := Bool.or_eq_false_iff.mp hg
      obtain ⟨d53, d54⟩ := Bool.or_eq_false_iff.mp d51
      exact y_move (kp (H 5 rfl) E q15)
    · intro A B E G H d0 d1
      refine run_guard G rfl rfl (by decide) (ed d1 rfl rfl rfl) (fun hg => ?_)
      obtain ⟨d55, d56⟩ := Bool.or_eq_false_iff.mp hg
      obtain ⟨d57, d58⟩ := Bool.or_eq_false_iff.mp d55
      exact y_eql ((ed d0 rfl rfl rfl).1 hg) rfl
    · intro A B E G H d0 d1; exact rP (y_pick_or (ed d0 rfl rfl rfl) rfl (ed d1 rfl rfl rfl))
    · intro A B E G H d0 d1 d2 d3 d4 d5 d6 d7 d8 d9 d10 d11 d12 d13 d14 d15 d16 d17 d18 d19 d20 d21 d22 d23 d24 d25 d26 d27; exact rP (y_assign (ed d0 rfl rfl rfl))
    intro a10 s8 D8; have ok9 := D8.ok; have F9 := F8.step0 D8.stp; have q16 := D8.kt q13 rfl; have q17 := D8.kt q14 rfl; have q18 := D8.kt q15 rfl; have q19 := D8.dn 26 rfl rfl; clear D8; refine tn ?_; refine wp_seq ?_
    refine rg a10 s8 [(Ty.bool (((((decide ((65 : Int) ≤ (L.getD i 0))) && (decide ((L.getD i 0) ≤ (90 : Int)))) || ((decide ((97 : Int) ≤ (L.getD i 0))) && (decide ((L.getD i 0) ≤ (122 : Int))))) || ((decide ((48 : Int) ≤ (L.getD i 0))) && (decide ((L.getD i 0) ≤ (57 : Int))))) || (decide ((L.getD i 0) = (32 : Int))))), (Ty.bool (!(((((decide ((65 : Int) ≤ (L.getD i 0))) && (decide ((L.getD i 0) ≤ (90 : Int)))) || ((decide ((97 : Int) ≤ (L.getD i 0))) && (decide ((L.getD i 0) ≤ (122 : Int))))) || ((decide ((48 : Int) ≤ (L.getD i 0))) && (decide ((L.getD i 0) ≤ (57 : Int))))) || (decide ((L.getD i 0) = (32 : Int)))))), (Ty.bool (!(((((decide ((65 : Int) ≤ (L.getD i 0))) && (decide ((L.getD i 0) ≤ (90 : Int)))) || ((decide ((97 : Int) ≤ (L.getD i 0))) && (decide ((L.getD i 0) ≤ (122 : Int))))) || ((decide ((48 : Int) ≤ (L.getD i 0))) && (decide ((L.getD i 0) ≤ (57 : Int))))) || (decide ((L.getD i 0) = (32 : Int)))))), (Ty.grd ((!(((((decide ((65 : Int) ≤ (L.getD i 0))) && (decide ((L.getD i 0) ≤ (90 : Int)))) || ((decide ((97 : Int) ≤ (L.getD i 0))) && (decide ((L.getD i 0) ≤ (122 : Int))))) || ((decide ((48 : Int) ≤ (L.getD i 0))) && (decide ((L.getD i 0) ≤ (57 : Int))))) || (decide ((L.getD i 0) = (32 : Int))))) = true) (Ty.int (L.getD i 0))), (Ty.grd ((!(((((decide ((65 : Int) ≤ (L.getD i 0))) && (decide ((L.getD i 0) ≤ (90 : Int)))) || ((decide ((97 : Int) ≤ (L.getD i 0))) && (decide ((L.getD i 0) ≤ (122 : Int))))) || ((decide ((48 : Int) ≤ (L.getD i 0))) && (decide ((L.getD i 0) ≤ (57 : Int))))) || (decide ((L.getD i 0) = (32 : Int))))) = true) (Ty.bool (decide ((L.getD i 0) < (192 : Int))))), (Ty.grd ((!(((((decide ((65 : Int) ≤ (L.getD i 0))) && (decide ((L.getD i 0) ≤ (90 : Int)))) || ((decide ((97 : Int) ≤ (L.getD i 0))) && (decide ((L.getD i 0) ≤ (122 : Int))))) || ((decide ((48 : Int) ≤ (L.getD i 0))) && (decide ((L.getD i 0) ≤ (57 : Int))))) || (decide ((L.getD i 0) = (32 : Int))))) = true) (Ty.bool (decide ((L.getD i 0) < (192 : Int))))), (Ty.grd (((!(((((decide ((65 : Int) ≤ (L.getD i 0))) && (decide ((L.getD i 0) ≤ (90 : Int)))) || ((decide ((97 : Int) ≤ (L.getD i 0))) && (decide ((L.getD i 0) ≤ (122 : Int))))) || ((decide ((48 : Int) ≤ (L.getD i 0))) && (decide ((L.getD i 0) ≤ (57 : Int))))) || (decide ((L.getD i 0) = (32 : Int))))) = true) ∧ (decide ((L.getD i 0) < (192 : Int))) = false) (Ty.int (L.getD i 0))), (Ty.grd (((!(((((decide ((65 : Int) ≤ (L.getD i 0))) && (decide ((L.getD i 0) ≤ (90 : Int)))) || ((decide ((97 : Int) ≤ (L.getD i 0))) && (decide ((L.getD i 0) ≤ (122 : Int))))) || ((decide ((48 : Int) ≤ (L.getD i 0))) && (decide ((L.getD i 0) ≤ (57 : Int))))) || (decide ((L.getD i 0) = (32 : Int))))) = true) ∧ (decide ((L.getD i 0) < (192 : Int))) = false) (Ty.bool (decide ((382 : Int) < (L.getD i 0))))), (Ty.grd ((!(((((decide ((65 : Int) ≤ (L.getD i 0))) && (decide ((L.getD i 0) ≤ (90 : Int)))) || ((decide ((97 : Int) ≤ (L.getD i 0))) && (decide ((L.getD i 0) ≤ (122 : Int))))) || ((decide ((48 : Int) ≤ (L.getD i 0))) && (decide ((L.getD i 0) ≤ (57 : Int))))) || (decide ((L.getD i 0) = (32 : Int))))) = true) (Ty.bool ((decide ((L.getD i 0) < (192 : Int))) || (decide ((382 : Int) < (L.getD i 0)))))), (Ty.grd ((!(((((decide ((65 : Int) ≤ (L.getD i 0))) && (decide ((L.getD i 0) ≤ (90 : Int)))) || ((decide ((97 : Int) ≤ (L.getD i 0))) && (decide ((L.getD i 0) ≤ (122 : Int))))) || ((decide ((48 : Int) ≤ (L.getD i 0))) && (decide ((L.getD i 0) ≤ (57 : Int))))) || (decide ((L.getD i 0) = (32 : Int))))) = true) (Ty.bool ((decide ((L.getD i 0) < (192 : Int))) || (decide ((382 : Int) < (L.getD i 0)))))), (Ty.grd (((!(((((decide ((65 : Int) ≤ (L.getD i 0))) && (decide ((L.getD i 0) ≤ (90 : Int)))) || ((decide ((97 : Int) ≤ (L.getD i 0))) && (decide ((L.getD i 0) ≤ (122 : Int))))) || ((decide ((48 : Int) ≤ (L.getD i 0))) && (decide ((L.getD i 0) ≤ (57 : Int))))) || (decide ((L.getD i 0) = (32 : Int))))) = true) ∧ ((decide ((L.getD i 0) < (192 : Int))) || (decide ((382 : Int) < (L.getD i 0)))) = false) (Ty.int (L.getD i 0))), (Ty.grd (((!(((((decide ((65 : Int) ≤ (L.getD i 0))) && (decide ((L.getD i 0) ≤ (90 : Int)))) || ((decide ((97 : Int) ≤ (L.getD i 0))) && (decide ((L.getD i 0) ≤ (122 : Int))))) || ((decide ((48 : Int) ≤ (L.getD i 0))) && (decide ((L.getD i 0) ≤ (57 : Int))))) || (decide ((L.getD i 0) = (32 : Int))))) = true) ∧ ((decide ((L.getD i 0) < (192 : Int))) || (decide ((382 : Int) < (L.getD i 0)))) = false) (Ty.bool (decide ((L.getD i 0) = (215 : Int))))), (Ty.grd ((!(((((decide ((65 : Int) ≤ (L.getD i 0))) && (decide ((L.getD i 0) ≤ (90 : Int)))) || ((decide ((97 : Int) ≤ (L.getD i 0))) && (decide ((L.getD i 0) ≤ (122 : Int))))) || ((decide ((48 : Int) ≤ (L.getD i 0))) && (decide ((L.getD i 0) ≤ (57 : Int))))) || (decide ((L.getD i 0) = (32 : Int))))) = true) (Ty.bool (((decide ((L.getD i 0) < (192 : Int))) || (decide ((382 : Int) < (L.getD i 0)))) || (decide ((L.getD i 0) = (215 : Int)))))), (Ty.grd ((!(((((decide ((65 : Int) ≤ (L.getD i 0))) && (decide ((L.getD i 0) ≤ (90 : Int)))) || ((decide ((97 : Int) ≤ (L.getD i 0))) && (decide ((L.getD i 0) ≤ (122 : Int))))) || ((decide ((48 : Int) ≤ (L.getD i 0))) && (decide ((L.getD i 0) ≤ (57 : Int))))) || (decide ((L.getD i 0) = (32 : Int))))) = true) (Ty.bool (((decide ((L.getD i 0) < (192 : Int))) || (decide ((382 : Int) < (L.getD i 0)))) || (decide ((L.getD i 0) = (215 : Int)))))), (Ty.grd (((!(((((decide ((65 : Int) ≤ (L.getD i 0))) && (decide ((L.getD i 0) ≤ (90 : Int)))) || ((decide ((97 : Int) ≤ (L.getD i 0))) && (decide ((L.getD i 0) ≤ (122 : Int))))) || ((decide ((48 : Int) ≤ (L.getD i 0))) && (decide ((L.getD i 0) ≤ (57 : Int))))) || (decide ((L.getD i 0) = (32 : Int))))) = true) ∧ (((decide ((L.getD i 0) < (192 : Int))) || (decide ((382 : Int) < (L.getD i 0)))) || (decide ((L.getD i 0) = (215 : Int)))) = false) (Ty.int (L.getD i 0))), (Ty.grd (((!(((((decide ((65 : Int) ≤ (L.getD i 0))) && (decide ((L.getD i 0) ≤ (90 : Int)))) || ((decide ((97 : Int) ≤ (L.getD i 0))) && (decide ((L.getD i 0) ≤ (122 : Int))))) || ((decide ((48 : Int) ≤ (L.getD i 0))) && (decide ((L.getD i 0) ≤ (57 : Int))))) || (decide ((L.getD i 0) = (32 : Int))))) = true) ∧ (((decide ((L.getD i 0) < (192 : Int))) || (decide ((382 : Int) < (L.getD i 0)))) || (decide ((L.getD i 0) = (215 : Int)))) = false) (Ty.bool (decide ((L.getD i 0) = (247 : Int))))), (Ty.grd ((!(((((decide ((65 : Int) ≤ (L.getD i 0))) && (decide ((L.getD i 0) ≤ (90 : Int)))) || ((decide ((97 : Int) ≤ (L.getD i 0))) && (decide ((L.getD i 0) ≤ (122 : Int))))) || ((decide ((48 : Int) ≤ (L.getD i 0))) && (decide ((L.getD i 0) ≤ (57 : Int))))) || (decide ((L.getD i 0) = (32 : Int))))) = true) (Ty.bool ((((decide ((L.getD i 0) < (192 : Int))) || (decide ((382 : Int) < (L.getD i 0)))) || (decide ((L.getD i 0) = (215 : Int)))) || (decide ((L.getD i 0) = (247 : Int)))))), (Ty.bool ((!(((((decide ((65 : Int) ≤ (L.getD i 0))) && (decide ((L.getD i 0) ≤ (90 : Int)))) || ((decide ((97 : Int) ≤ (L.getD i 0))) && (decide ((L.getD i 0) ≤ (122 : Int))))) || ((decide ((48 : Int) ≤ (L.getD i 0))) && (decide ((L.getD i 0) ≤ (57 : Int))))) || (decide ((L.getD i 0) = (32 : Int))))) && ((((decide ((L.getD i 0) < (192 : Int))) || (decide ((382 : Int) < (L.getD i 0)))) || (decide ((L.getD i 0) = (215 : Int)))) || (decide ((L.getD i 0) = (247 : Int))))))] ok9 ⟨?_, ?_, ?_, ?_, ?_, ?_, ?_, ?_, ?_, ?_, ?_, ?_, ?_, ?_, ?_, ?_, ?_, ?_, trivial⟩ ?_
    · intro A B E G H; exact rP (y_move (kp (H 6 rfl) E q19))
    · intro A B E G H d0; exact rP (y_not (ed d0 rfl rfl rfl))
    · intro A B E G H d0; exact rP (y_move (ed d0 rfl rfl rfl))
    · intro A B E G H d0
      refine run_guard G rfl rfl (by decide) (ed d0 rfl rfl rfl) (fun hg => ?_)
      exact y_move (kp (H 5 rfl) E q18)
    · intro A B E G H d0 d1
      refine run_guard G rfl rfl (by decide) (ed d1 rfl rfl rfl) (fun hg => ?_)
      exact y_lss ((ed d0 rfl rfl rfl).1 hg) rfl
    · intro A B E G H d0 d1 d2
      refine run_guard G rfl rfl (by decide) (ed d1 rfl rfl rfl) (fun hg => ?_)
      exact y_move ((ed d0 rfl rfl rfl).1 hg)
    · intro A B E G H d0
      refine run_guard2 G rfl rfl (by decide) (ed d0 rfl rfl rfl) (fun hg => ?_)
      have hp := of_decide_eq_false hg.2
      exact y_move (kp (H 5 rfl) E q18)
    · intro A B E G H d0 d1
      refine run_guard2 G rfl rfl (by decide) (ed d1 rfl rfl rfl) (fun hg => ?_)
      have hp := of_decide_eq_false hg.2
      exact y_gtr ((ed d0 rfl rfl rfl).1 hg) rfl
    · intro A B E G H d0 d1 d2
      refine run_guard G rfl rfl (by decide) (ed d2 rfl rfl rfl) (fun hg => ?_)
      exact y_pick_or ((ed d0 rfl rfl rfl).1 hg) rfl (grd_part hg (ed d1 rfl rfl rfl))
    · intro A B E G H d0 d1 d2
      refine run_guard G rfl rfl (by decide) (ed d2 rfl rfl rfl) (fun hg => ?_)
      exact y_move ((ed d0 rfl rfl rfl).1 hg)
    · intro A B E G H d0
      refine run_guard2 G rfl rfl (by decide) (ed d0 rfl rfl rfl) (fun hg => ?_)
      obtain ⟨d59, d60⟩ := Bool.or_eq_false_iff.mp hg.2
      have d59 := of_decide_eq_false d59
      have d60 := of_decide_eq_false d60
      exact y_move (kp (H 5 rfl) E q18)
    · intro A B E G H d0 d1
      refine run_guard2 G rfl rfl (by decide) (ed d1 rfl rfl rfl) (fun hg => ?_)
      obtain ⟨d61, d62⟩ := Bool.or_eq_false_iff.mp hg.2
      have d61 := of_decide_eq_false d61
      have d62 := of_decide_eq_false d62
      exact y_eql ((ed d0 rfl rfl rfl).1 hg) rfl
    · intro A B E G H d0 d1 d2
      refine run_guard G rfl rfl (by decide) (ed d2 rfl rfl rfl) (fun hg => ?_)
      exact y_pick_or ((ed d0 rfl rfl rfl).1 hg) rfl (grd_part hg (ed d1 rfl rfl rfl))
    · intro A B E G H d0 d1 d2
      refine run_guard G rfl rfl (by decide) (ed d2 rfl rfl rfl) (fun hg => ?_)
      exact y_move ((ed d0 rfl rfl rfl).1 hg)
    · intro A B E G H d0
      refine run_guard2 G rfl rfl (by decide) (ed d0 rfl rfl rfl) (fun hg => ?_)
      obtain ⟨d63, d64⟩ := Bool.or_eq_false_iff.mp hg.2
      obtain ⟨d65, d66⟩ := Bool.or_eq_false_iff.mp d63
      have d65 := of_decide_eq_false d65
      have d66 := of_decide_eq_false d66
      have d64 := of_decide_eq_false d64
      exact y_move (kp (H 5 rfl) E q18)
    · intro A B E G H d0 d1
      refine run_guard2 G rfl rfl (by decide) (ed d1 rfl rfl rfl) (fun hg => ?_)
      obtain ⟨d67, d68⟩ := Bool.or_eq_false_iff.mp hg.2
      obtain ⟨d69, d70⟩ := Bool.or_eq_false_iff.mp d67
      have d69 := of_decide_eq_false d69
      have d70 := of_decide_eq_false d70
      have d68 := of_decide_eq_false d68
      exact y_eql ((ed d0 rfl rfl rfl).1 hg) rfl
    · intro A B E G H d0 d1 d2
      refine run_guard G rfl rfl (by decide) (ed d2 rfl rfl rfl) (fun hg => ?_)
      exact y_pick_or ((ed d0 rfl rfl rfl).1 hg) rfl (grd_part hg (ed d1 rfl rfl rfl))
    · intro A B E G H d0 d1; exact rP (y_pick_and (ed d0 rfl rfl rfl) (ed d1 rfl rfl rfl) rfl)
    intro a11 s9 D9; have ok10 := D9.ok; have F10 := F9.step0 D9.stp; have q20 := D9.kt q16 rfl; have q21 := D9.kt q17 rfl; have q22 := D9.dn 17 rfl rfl; clear D9; refine tn ?_
    refine cond_t q22 (fun c3 => ?_) (fun c3 => ?_)
    ·
     obtain ⟨d71, d72⟩ := Bool.and_eq_true_iff.mp c3
     have hlb : letterB (L.getD i 0) = false := (by rw [Bool.eq_false_iff]; intro h_; simp only [letterB, Bool.or_eq_true, Bool.and_eq_true, Bool.not_eq_true, Bool.or_eq_false_iff, Bool.and_eq_false_iff, Bool.not_eq_true', decide_eq_true_eq, decide_eq_false_iff_not] at h_ c3; omega); have hb := name_let (l := L) (by omega) hlb
     refine wp_seq ?_
     refine rg a11 s9 [(Ty.bool false)] ok10 ⟨?_, trivial⟩ ?_
     · intro A B E G H; exact rP (y_assign rfl)
     intro a12 s10 D10; have ok11 := D10.ok; have F11 := F10.step0 D10.stp; have q23 := D10.dn 0 rfl rfl; clear D10; refine tn ?_; refine wp_ret ?_; refine br ?_; refine tr ?_; refine tr ?_; refine br ?_; refine tr ?_
     exact retL1 rfl ok11 F11 (cvb (by (rw [← hne, hb])) q23)
    ·
     have hlb : letterB (L.getD i 0) = true := (by simp only [letterB, Bool.or_eq_true, Bool.and_eq_true, Bool.not_eq_false', Bool.or_eq_false_iff, Bool.and_eq_false_iff, decide_eq_true_eq, decide_eq_false_iff_not] at c3 ⊢; omega)
     refine wp_skip ?_; refine bn ?_; refine tn ?_
     refine rg a11 s9 [(Ty.nat i), (Ty.nat (i + 1)), (Ty.nat (i + 1))] ok10 ⟨?_, ?_, ?_, trivial⟩ ?_
     · intro A B E G H; exact rP (y_move (kp (H 4 rfl) E q20))
     · intro A B E G H d0; exact rP ((y_add (ed d0 rfl rfl rfl) rfl (w64 (by omega) (by omega))).mono (fun τ _ h => cvi (σ := τ) (by first | omega | exact (Int.natCast_mul _ _).symm) h))
     · intro A B E G H d0 d1 d2; exact rP (y_assign (ed d0 rfl rfl rfl))
     intro a13 s11 D11; have ok12 := D11.ok; have F12 := F10.step0 D11.stp; have q24 := D11.kt q21 rfl; have q25 := D11.dn 2 rfl rfl; clear D11
     exact tn ⟨L.length - ((i+1)), by omega, s11, (i+1), rfl, F12, ok12, (cvi (by (first | rfl | omega | (simp_all; done) | (simp_all; omega))) q25), q24, by omega, fun j hj => by (by_cases e : j = i; subst e; exact hlb; exact hal j (by omega)), rfl⟩
   ·
    refine wp_exit ?_; refine tx ?_; refine tx ?_; refine bx ?_; refine tn ?_; refine wp_seq ?_
    refine rg a8 s6 [(Ty.bool true)] ok7 ⟨?_, trivial⟩ ?_
    · intro A B E G H; exact rP (y_assign rfl)
    intro a14 s12 D12; have ok13 := D12.ok; have F13 := F7.step0 D12.stp; have q26 := D12.dn 0 rfl rfl; clear D12; refine tn ?_; refine wp_ret ?_
    exact retL1 rfl ok13 F13 (cvb (by (rw [← hne]; exact (name_good hx1 (fun j hj => hal j (by omega))).symm)) q26)


set_option maxRecDepth 100000 in
theorem rChangeMay_fn (n : Int) (l : List Int) (σ : GW) (v0 v1 : Value) (hv0 : Ty.has (Ty.int n) σ v0) (hv1 : Ty.has (Ty.lst Ty.int l) σ v1) (hn : -9223372036854775808 ≤ n ∧ n ≤ 9223372036854775807) :
    FnC Tryd.prog 29 #[v0, v1] σ (Ty.int (chgMay n l)) := by
 refine fn_intro Tryd.func29 rfl Tryd.ntmps29 (Nat.le_of_ble_eq_true rfl) (fun s0 a0 hle F0 ok0 hargs => ?_)
 have p0 : At (Ty.int n) s0 a0 (.tmp 0) := by have e := hargs 0 _ rfl; show Ty.has _ _ _; rw [e]; exact Ty.up _ hle hv0
 have p1 : At (Ty.lst Ty.int l) s0 a0 (.tmp 1) := by have e := hargs 1 _ rfl; show Ty.has _ _ _; rw [e]; exact Ty.up _ hle hv1
 have b1 := sl_le p1
 clear hargs; refine wp_seq ?_
 refine rg a0 s0 [(Ty.int (0 : Int))] ok0 ⟨?_, trivial⟩ ?_
 · intro A B E G H; exact rP (y_assign rfl)
 intro a1 s1 D1; have ok1 := D1.ok; have F1 := F0.step0 D1.stp; have q1 := D1.kt p0 rfl; have q2 := D1.kt p1 rfl; clear D1; refine tn ?_; refine wp_seq ?_; refine wp_seq ?_
 refine rg a1 s1 [(Ty.int n), (Ty.bool (decide (n < (1 : Int)))), (Ty.bool (decide (n < (1 : Int)))), (Ty.grd ((decide (n < (1 : Int))) = false) (Ty.int n)), (Ty.grd ((decide (n < (1 : Int))) = false) (Ty.bool (decide ((12 : Int) < n)))), (Ty.bool ((decide (n < (1 : Int))) || (decide ((12 : Int) < n))))] ok1 ⟨?_, ?_, ?_, ?_, ?_, ?_, trivial⟩ ?_
 · intro A B E G H; exact rP (y_move (kp (H 0 rfl) E q1))
 · intro A B E G H d0; exact rP (y_lss (ed d0 rfl rfl rfl) rfl)
 · intro A B E G H d0; exact rP (y_move (ed d0 rfl rfl rfl))
 · intro A B E G H d0
   refine run_guard G rfl rfl (by decide) (ed d0 rfl rfl rfl) (fun hg => ?_)
   have hp := of_decide_eq_false hg
   exact y_move (kp (H 0 rfl) E q1)
 · intro A B E G H d0 d1
   refine run_guard G rfl rfl (by decide) (ed d1 rfl rfl rfl) (fun hg => ?_)
   have hp := of_decide_eq_false hg
   exact y_gtr ((ed d0 rfl rfl rfl).1 hg) rfl
 · intro A B E G H d0 d1; exact rP (y_pick_or (ed d0 rfl rfl rfl) rfl (ed d1 rfl rfl rfl))
 intro a2 s2 D2; have ok2 := D2.ok; have F2 := F1.step0 D2.stp; have q3 := D2.kt q1 rfl; have q4 := D2.kt q2 rfl; have q5 := D2.dn 5 rfl rfl; clear D2; refine tn ?_
 refine cond_t q5 (fun c1 => ?_) (fun c1 => ?_)
 ·
  simp only [Bool.or_eq_true, decide_eq_true_eq] at c1
  refine wp_seq ?_
  refine rg a2 s2 [(Ty.int (1 : Int))] ok2 ⟨?_, trivial⟩ ?_
  · intro A B E G H; exact rP (y_assign rfl)
  intro a3 s3 D3; have ok3 := D3.ok; have F3 := F2.step0 D3.stp; have q6 := D3.dn 0 rfl rfl; clear D3; refine tn ?_; refine wp_ret ?_; refine tr ?_
  exact ret1 rfl ok3 F3 (cvi (by (exact (chgMay_cnt (by omega)).symm)) q6)
 ·
  obtain ⟨d1, d2⟩ := Bool.or_eq_false_iff.mp c1
  replace d1 := of_decide_eq_false d1
  replace d2 := of_decide_eq_false d2
  refine wp_skip ?_; refine tn ?_; refine wp_seq ?_
  refine rg a2 s2 [(Ty.int (0 : Int))] ok2 ⟨?_, trivial⟩ ?_
  · intro A B E G H; exact rP (y_assign rfl)
  intro a4 s4 D4; have ok4 := D4.ok; have F4 := F2.step0 D4.stp; have q7 := D4.kt q3 rfl; have q8 := D4.kt q4 rfl; have q9 := D4.dn 0 rfl rfl; clear D4; refine tn ?_; refine wp_seq ?_; refine wp_seq ?_
  refine rg a4 s4 [(Ty.int (0 : Int))] ok4 ⟨?_, trivial⟩ ?_
  · intro A B E G H; exact rP (y_assign rfl)
  intro a5 s5 D5; have ok5 := D5.ok; have F5 := F4.step0 D5.stp; have q10 := D5.kt q7 rfl; have q11 := D5.kt q8 rfl; have q12 := D5.kt q9 rfl; have q13 := D5.dn 0 rfl rfl; clear D5; refine tn ?_; refine wp_block ?_
  refine loop (fun n1 a6 w1 => ∃ (t1 : GW) (k : Nat) (z : Int), t1.w = w1 ∧ From s0 t1 ∧ Ok 52 a6 ∧ At (Ty.nat k) t1 a6 (.tmp 6) ∧ At (Ty.int z) t1 a6 (.tmp 5) ∧ At (Ty.int n) t1 a6 (.tmp 0) ∧ At (Ty.lst Ty.int l) t1 a6 (.tmp 1) ∧ (k ≤ l.length) ∧ (scanTo n l k = some z) ∧ (0 ≤ z ∧ z ≤ n) ∧ n1 = l.length - k) (l.length - (0)) ?_ ?_
  ·
   exact ⟨s5, 0, 0, rfl, F5, ok5, (cvi (by (first | rfl | omega | (simp_all; done) | (simp_all; omega))) q13), (cvi (by (first | rfl | omega | (simp_all; done) | (simp_all; omega))) q12), q10, q11, by omega, rfl, by omega, rfl⟩
  ·
   rintro n2 a7 w2 ⟨t2, k, z, rfl, F6, ok6, q14, q15, q16, q17, hk, E, hz, rfl⟩
   refine wp_seq ?_; refine wp_seq ?_
   refine reg (a := a7) (σ := t2) rfl (fun i_ => List.getD [(Ty.pr (Ty.nat k)), (Ty.pr (Ty.lst Ty.int l)), (Ty.pr (Ty.nat (List.length l))), (Ty.pr (Ty.bool (decide (((k : Nat) : Int) < (((List.length l) : Nat) : Int)))))] i_ Pr.any) ok6 rfl ⟨?_, ?_, ?_, ?_, trivial⟩ ?_
   · intro A B E G H; exact rP (y_move (kp (H 6 rfl) E q14))
   · intro A B E G H; exact rP (y_move (kp (H 1 rfl) E q17))
   · intro A B E G H d0; exact rP (y_len Tryd.underlying26 (ed d0 rfl rfl rfl))
   · intro A B E G H d0 d1; exact rP (y_lss (ed d0 rfl rfl rfl) (ed d1 rfl rfl rfl))
   intro a8 s6 D6; have ok7 := D6.ok; have F7 := F6.step0 D6.stp; have q18 := D6.kt q14 rfl; have q19 := D6.kt q15 rfl; have q20 := D6.kt q16 rfl; have q21 := D6.kt q17 rfl; have q22 := D6.dn 3 rfl rfl; clear D6; refine tn ?_
   refine cond_p (p := (((k : Nat) : Int) < (((List.length l) : Nat) : Int))) q22 (fun c2 => ?_) (fun c2 => ?_)
   ·
    refine wp_skip ?_; refine tn ?_; refine wp_seq ?_; refine wp_block ?_; refine wp_seq ?_; refine wp_seq ?_
    refine rg a8 s6 [(Ty.lst Ty.int l), (Ty.nat k), (Ty.ref [(Ty.int (l.getD k 0))]), (Ty.int (l.getD k 0)), (Ty.int z), (Ty.bool (decide ((l.getD k 0) ≤ z))), (Ty.bool (decide ((l.getD k 0) ≤ z))), (Ty.grd ((decide ((l.getD k 0) ≤ z)) = false) (Ty.lst Ty.int l)), (Ty.grd ((decide ((l.getD k 0) ≤ z)) = false) (Ty.nat k)), (Ty.grd ((decide ((l.getD k 0) ≤ z)) = false) (Ty.ref [(Ty.int (l.getD k 0))])), (Ty.grd ((decide ((l.getD k 0) ≤ z)) = false) (Ty.int (l.getD k 0))), (Ty.grd ((decide ((l.getD k 0) ≤ z)) = false) (Ty.int n)), (Ty.grd ((decide ((l.getD k 0) ≤ z)) = false) (Ty.bool (decide (n < (l.getD k 0))))), (Ty.bool ((decide ((l.getD k 0) ≤ z)) || (decide (n < (l.getD k 0))))), (Ty.bool ((decide ((l.getD k 0) ≤ z)) || (decide (n < (l.getD k 0))))), (Ty.grd (((decide ((l.getD k 0) ≤ z)) || (decide (n < (l.getD k 0)))) = false) (Ty.lst Ty.int l)), (Ty.grd (((decide ((l.getD k 0) ≤ z)) || (decide (n < (l.getD k 0)))) = false) (Ty.nat k)), (Ty.grd (((decide ((l.getD k 0) ≤ z)) || (decide (n < (l.getD k 0)))) = false) (Ty.ref [(Ty.int (l.getD k 0))])), (Ty.grd (((decide ((l.getD k 0) ≤ z)) || (decide (n < (l.getD k 0)))) = false) (Ty.int (l.getD k 0))), (Ty.grd (((decide ((l.getD k 0) ≤ z)) || (decide (n < (l.getD k 0)))) = false) (Ty.int z)), (Ty.grd (((decide ((l.getD k 0) ≤ z)) || (decide (n < (l.getD k 0)))) = false) (Ty.int ((l.getD k 0) - z))), (Ty.grd (((decide ((l.getD k 0) ≤ z)) || (decide (n < (l.getD k 0)))) = false) (Ty.nat ((((l.getD k 0) - z)).toNat % 2))), (Ty.grd (((decide ((l.getD k 0) ≤ z)) || (decide (n < (l.getD k 0)))) = false) (Ty.bool (decide (((((((l.getD k 0) - z)).toNat % 2) : Nat) : Int) = (0 : Int))))), (Ty.bool (((decide ((l.getD k 0) ≤ z)) || (decide (n < (l.getD k 0)))) || (decide (((((((l.getD k 0) - z)).toNat % 2) : Nat) : Int) = (0 : Int)))))] ok7 ⟨?_, ?_, ?_, ?_, ?_, ?_, ?_, ?_, ?_, ?_, ?_, ?_, ?_, ?_, ?_, ?_, ?_, ?_, ?_, ?_, ?_, ?_, ?_, ?_, trivial⟩ ?_
    · intro A B E G H; exact rP (y_move (kp (H 1 rfl) E q21))
    · intro A B E G H; exact rP (y_move (kp (H 6 rfl) E q18))
    · intro A B E G H d0 d1; exact rP (y_index1 Tryd.underlying26 Tryd.inf3 (ed d0 rfl rfl rfl) (ed d1 rfl rfl rfl) (by omega) (lst_get Ty.int l 0 k (by omega)))
    · intro A B E G H d0; exact rP (y_load Tryd.underlying3 rfl (ed d0 rfl rfl rfl) rfl)
    · intro A B E G H; exact rP (y_move (kp (H 5 rfl) E q19))
    · intro A B E G H d0 d1; exact rP (y_leq (ed d0 rfl rfl rfl) (ed d1 rfl rfl rfl))
    · intro A B E G H d0; exact rP (y_move (ed d0 rfl rfl rfl))
    · intro A B E G H d0
      refine run_guard G rfl rfl (by decide) (ed d0 rfl rfl rfl) (fun hg => ?_)
      have hp := of_decide_eq_false hg
      exact y_move (kp (H 1 rfl) E q21)
    · intro A B E G H d0
      refine run_guard G rfl rfl (by decide) (ed d0 rfl rfl rfl) (fun hg => ?_)
      have hp := of_decide_eq_false hg
      exact y_move (kp (H 6 rfl) E q18)
    · intro A B E G H d0 d1 d2
      refine run_guard G rfl rfl (by decide) (ed d2 rfl rfl rfl) (fun hg => ?_)
      have hp := of_decide_eq_false hg
      exact y_index1 Tryd.underlying26 Tryd.inf3 ((ed d0 rfl rfl rfl).1 hg) ((ed d1 rfl rfl rfl).1 hg) (by omega) (lst_get Ty.int l 0 k (by omega))
    · intro A B E G H d0 d1
      refine run_guard G rfl rfl (by decide) (ed d1 rfl rfl rfl) (fun hg => ?_)
      have hp := of_decide_eq_false hg
      exact y_load Tryd.underlying3 rfl ((ed d0 rfl rfl rfl).1 hg) rfl
    · intro A B E G H d0
      refine run_guard G rfl rfl (by decide) (ed d0 rfl rfl rfl) (fun hg => ?_)
      have hp := of_decide_eq_false hg
      exact y_move (kp (H 0 rfl) E q20)
    · intro A B E G H d0 d1 d2
      refine run_guard G rfl rfl (by decide) (ed d2 rfl rfl rfl) (fun hg => ?_)
      have hp := of_decide_eq_false hg
      exact y_gtr ((ed d0 rfl rfl rfl).1 hg) ((ed d1 rfl rfl rfl).1 hg)
    · intro A B E G H d0 d1; exact rP (y_pick_or (ed d0 rfl rfl rfl) rfl (ed d1 rfl rfl rfl))
    · intro A B E G H d0 d1; exact rP (y_move (ed d0 rfl rfl rfl))
    · intro A B E G H d0
      refine run_guard G rfl rfl (by decide) (ed d0 rfl rfl rfl) (fun hg => ?_)
      obtain ⟨d3, d4⟩ := Bool.or_eq_false_iff.mp hg
      have d3 := of_decide_eq_false d3
      have d4 := of_decide_eq_false d4
      exact y_move (kp (H 1 rfl) E q21)
    · intro A B E G H d0
      refine run_guard G rfl rfl (by decide) (ed d0 rfl rfl rfl) (fun hg => ?_)
      obtain ⟨d5, d6⟩ := Bool.or_eq_false_iff.mp hg
      have d5 := of_decide_eq_false d5
      have d6 := of_decide_eq_false d6
      exact y_move (kp (H 6 rfl) E q18)
    · intro A B E G H d0 d1 d2
      refine run_guard G rfl rfl (by decide) (ed d2 rfl rfl rfl) (fun hg => ?_)
      obtain ⟨d7, d8⟩ := Bool.or_eq_false_iff.mp hg
      have d7 := of_decide_eq_false d7
      have d8 := of_decide_eq_false d8
      exact y_index1 Tryd.underlying26 Tryd.inf3 ((ed d0 rfl rfl rfl).1 hg) ((ed d1 rfl rfl rfl).1 hg) (by omega) (lst_get Ty.int l 0 k (by omega))
    · intro A B E G H d0 d1
      refine run_guard G rfl rfl (by decide) (ed d1 rfl rfl rfl) (fun hg => ?_)
      obtain ⟨d9, d10⟩ := Bool.or_eq_false_iff.mp hg
      have d9 := of_decide_eq_false d9
      have d10 := of_decide_eq_false d10
      exact y_load Tryd.underlying3 rfl ((ed d0 rfl rfl rfl).1 hg) rfl
    · intro A B E G H d0
      refine run_guard G rfl rfl (by decide) (ed d0 rfl rfl rfl) (fun hg => ?_)
      obtain ⟨d11, d12⟩ := Bool.or_eq_false_iff.mp hg
      have d11 := of_decide_eq_false d11
      have d12 := of_decide_eq_false d12
      exact y_move (kp (H 5 rfl) E q19)
    · intro A B E G H d0 d1 d2
      refine run_guard G rfl rfl (by decide) (ed d2 rfl rfl rfl) (fun hg => ?_)
      obtain ⟨d13, d14⟩ := Bool.or_eq_false_iff.mp hg
      have d13 := of_decide_eq_false d13
      have d14 := of_decide_eq_false d14
      exact y_sub ((ed d0 rfl rfl rfl).1 hg) ((ed d1 rfl rfl rfl).1 hg) (w64 (by omega) (by omega))
    · intro A B E G H d0 d1
      refine run_guard G rfl rfl (by decide) (ed d1 rfl rfl rfl) (fun hg => ?_)
      obtain ⟨d15, d16⟩ := Bool.or_eq_false_iff.mp hg
      have d15 := of_decide_eq_false d15
      have d16 := of_decide_eq_false d16
      exact y_remN (toN (σ := B) ((ed d0 rfl rfl rfl).1 hg) (by omega)) (toN (σ := B) rfl (by omega)) (by omega)
    · intro A B E G H d0 d1
      refine run_guard G rfl rfl (by decide) (ed d1 rfl rfl rfl) (fun hg => ?_)
      obtain ⟨d17, d18⟩ := Bool.or_eq_false_iff.mp hg
      have d17 := of_decide_eq_false d17
      have d18 := of_decide_eq_false d18
      exact y_eql ((ed d0 rfl rfl rfl).1 hg) rfl
    · intro A B E G H d0 d1; exact rP (y_pick_or (ed d0 rfl rfl rfl) rfl (ed d1 rfl rfl rfl))
    intro a9 s7 D7; have ok8 := D7.ok; have F8 := F7.step0 D7.stp; have q23 := D7.kt q18 rfl; have q24 := D7.kt q20 rfl; have q25 := D7.kt q21 rfl; have q26 := D7.dn 23 rfl rfl; clear D7; refine tn ?_
    refine cond_t q26 (fun c3 => ?_) (fun c3 => ?_)
    ·
     simp only [Bool.or_eq_true, decide_eq_true_eq] at c3
     refine wp_seq ?_
     refine rg a9 s7 [(Ty.int (6 : Int))] ok8 ⟨?_, trivial⟩ ?_
     · intro A B E G H; exact rP (y_assign rfl)
     intro a10 s8 D8; have ok9 := D8.ok; have F9 := F8.step0 D8.stp; have q27 := D8.dn 0 rfl rfl; clear D8; refine tn ?_; refine wp_ret ?_; refine tr ?_; refine br ?_; refine tr ?_; refine tr ?_; refine br ?_; refine tr ?_
     exact ret1 rfl ok9 F9 (cvi (by (exact (chgMay_scan (by omega) E (by omega) (by omega)).symm)) q27)
    ·
     obtain ⟨d19, d20⟩ := Bool.or_eq_false_iff.mp c3
     obtain ⟨d21, d22⟩ := Bool.or_eq_false_iff.mp d19
     replace d21 := of_decide_eq_false d21
     replace d22 := of_decide_eq_false d22
     replace d20 := of_decide_eq_false d20
     refine wp_skip ?_; refine tn ?_
     refine rg a9 s7 [(Ty.lst Ty.int l), (Ty.nat k), (Ty.ref [(Ty.int (l.getD k 0))]), (Ty.int (l.getD k 0)), (Ty.int (l.getD k 0))] ok8 ⟨?_, ?_, ?_, ?_, ?_, trivial⟩ ?_
     · intro A B E G H; exact rP (y_move (kp (H 1 rfl) E q25))
     · intro A B E G H; exact rP (y_move (kp (H 6 rfl) E q23))
     · intro A B E G H d0 d1; exact rP (y_index1 Tryd.underlying26 Tryd.inf3 (ed d0 rfl rfl rfl) (ed d1 rfl rfl rfl) (by omega) (lst_get Ty.int l 0 k (by omega)))
     · intro A B E G H d0; exact rP (y_load Tryd.underlying3 rfl (ed d0 rfl rfl rfl) rfl)
     · intro A B E G H d0 d1 d2 d3 d4; exact rP (y_assign (ed d0 rfl rfl rfl))
     intro a11 s9 D9; have ok10 := D9.ok; have F10 := F8.step0 D9.stp; have q28 := D9.kt q23 rfl; have q29 := D9.kt q24 rfl; have q30 := D9.kt q25 rfl; have q31 := D9.dn 4 rfl rfl; clear D9; refine bn ?_; refine tn ?_
     refine rg a11 s9 [(Ty.nat k), (Ty.int (((k : Nat) : Int) + (1 : Int))), (Ty.int (((k : Nat) : Int) + (1 : Int)))] ok10 ⟨?_, ?_, ?_, trivial⟩ ?_
     · intro A B E G H; exact rP (y_move (kp (H 6 rfl) E q28))
     · intro A B E G H d0; exact rP (y_add (ed d0 rfl rfl rfl) rfl (w64 (by omega) (by omega)))
     · intro A B E G H d0 d1 d2; exact rP (y_assign (ed d0 rfl rfl rfl))
     intro a12 s10 D10; have ok11 := D10.ok; have F11 := F10.step0 D10.stp; have q32 := D10.kt q29 rfl; have q33 := D10.kt q30 rfl; have q34 := D10.kt q31 rfl; have q35 := D10.dn 2 rfl rfl; clear D10
     have d1_ := (of_decide_eq_false (Bool.or_eq_false_iff.1 c3).2)
     have d2_ := of_decide_eq_false (Bool.or_eq_false_iff.1 (Bool.or_eq_false_iff.1 c3).1).1
     have d3_ := of_decide_eq_false (Bool.or_eq_false_iff.1 (Bool.or_eq_false_iff.1 c3).1).2
     exact tn ⟨l.length - ((k+1)), by omega, s10, (k+1), (l.getD k 0), rfl, F11, ok11, (cvi (by (first | rfl | omega | (simp_all; done) | (simp_all; omega))) q35), (cvi (by (first | rfl | omega | (simp_all; done) | (simp_all; omega))) q34), q32, q33, by omega, scan_step E (by omega) (by omega) (by omega) d1_, by omega, rfl⟩
   ·
    have hk2 : k = l.length := (by omega)
    refine wp_exit ?_; refine tx ?_; refine tx ?_; refine bx ?_; refine tn ?_; refine wp_seq ?_; refine wp_seq ?_
    refine rg a8 s6 [(Ty.int n), (Ty.int z), (Ty.int (n - z)), (Ty.nat (((n - z)).toNat % 2)), (Ty.bool (decide ((((((n - z)).toNat % 2) : Nat) : Int) = (1 : Int))))] ok7 ⟨?_, ?_, ?_, ?_, ?_, trivial⟩ ?_
    · intro A B E G H; exact rP (y_move (kp (H 0 rfl) E q20))
    · intro A B E G H; exact rP (y_move (kp (H 5 rfl) E q19))
    · intro A B E G H d0 d1; exact rP (y_sub (ed d0 rfl rfl rfl) (ed d1 rfl rfl rfl) (w64 (by omega) (by omega)))
    · intro A B E G H d0; exact rP (y_remN (toN (σ := B) (ed d0 rfl rfl rfl) (by omega)) (toN (σ := B) rfl (by omega)) (by omega))
    · intro A B E G H d0; exact rP (y_eql (ed d0 rfl rfl rfl) rfl)
    intro a13 s11 D11; have ok12 := D11.ok; have F12 := F7.step0 D11.stp; have q36 := D11.dn 4 rfl rfl; clear D11; refine tn ?_
    refine cond_p (p := ((((((n - z)).toNat % 2) : Nat) : Int) = (1 : Int))) q36 (fun c4 => ?_) (fun c4 => ?_)
    ·
     refine wp_seq ?_
     refine rg a13 s11 [(Ty.int (6 : Int))] ok12 ⟨?_, trivial⟩ ?_
     · intro A B E G H; exact rP (y_assign rfl)
     intro a14 s12 D12; have ok13 := D12.ok; have F13 := F12.step0 D12.stp; have q37 := D12.dn 0 rfl rfl; clear D12; refine tn ?_; refine wp_ret ?_; refine tr ?_
     exact ret1 rfl ok13 F13 (cvi (by (exact (chgMay_odd (by omega) (by rw [← hk2]; exact E) (by omega)).symm)) q37)
    ·
     refine wp_skip ?_; refine tn ?_; refine wp_seq ?_
     refine rg a13 s11 [(Ty.int (0 : Int))] ok12 ⟨?_, trivial⟩ ?_
     · intro A B E G H; exact rP (y_assign rfl)
     intro a15 s13 D13; have ok14 := D13.ok; have F14 := F12.step0 D13.stp; have q38 := D13.dn 0 rfl rfl; clear D13; refine tn ?_; refine wp_ret ?_
     exact ret1 rfl ok14 F14 (cvi (by (exact (chgMay_ok (by omega) (by rw [← hk2]; exact E) (by omega)).symm)) q38)


set_option maxHeartbeats 4000000 in
set_option maxRecDepth 100000 in
theorem rMethodMay_fn (nm : ByteArray) (n : Int) (l : List (List Int)) (σ : GW)  (v0 : Value) (hv0 : Ty.has (Ty.agg [(Ty.val (Value.string nm)), (Ty.int n), (Ty.lst Ty.ints l)]) σ v0)  (hnm : nm.size ≤ 1099511627776) (hn : -9223372036854775808 ≤ n ∧ n ≤ 9223372036854775807) :
    FnC Tryd.prog 28 #[v0] σ (Ty.int (methMay nm n l)) := by
 refine fn_intro0 Tryd.func28 rfl Tryd.ntmps28 (Nat.le_of_ble_eq_true rfl) (fun s0 a0 hle F0 ok0 hargs => ?_)
 have p0 : At (Ty.agg [(Ty.val (Value.string nm)), (Ty.int n), (Ty.lst Ty.ints l)]) s0 a0 (.tmp 0) := by have e := hargs 0 _ rfl; show Ty.has _ _ _; rw [e]; exact Ty.up _ hle hv0
 clear hargs; refine wp_seq ?_
 refine rg a0 s0 [(Ty.ref [(Ty.val (Value.string nm)), (Ty.int n), (Ty.lst Ty.ints l)]), (Ty.int (0 : Int))] ok0 ⟨?_, ?_, trivial⟩ ?_
 · intro A B E G H; exact rP (y_boxagg (kp (H 0 rfl) E p0))
 · intro A B E G H; exact rP (y_assign rfl)
 intro a1 s1 D1; have ok1 := D1.ok; have F1 := F0.step0 D1.stp; have q1 := D1.dn 0 rfl rfl; clear D1; refine tn ?_; refine wp_seq ?_
 refine rg a1 s1 [(Ty.ref [(Ty.val (Value.string nm)), (Ty.int n), (Ty.lst Ty.ints l)]), (Ty.val (Value.string nm)), (Ty.bool (nameL (nm))), (Ty.bool (nameL (nm)))] ok1 ⟨?_, ?_, ?_, ?_, trivial⟩ ?_
 · intro A B E G H; exact rP (y_field Tryd.fld24_0 Tryd.inf9 (by decide) (kp (H 1 rfl) E q1) rfl)
 · intro A B E G H d0; exact rP (y_load Tryd.underlying9 rfl (ed d0 rfl rfl rfl) rfl)
 · intro A B E G H d0; exact rP (y_call #[A.eval (.tmp 7)] Tryd.func46 rfl rfl (by simp only [List.map_toArray, List.map_cons, List.map_nil]) (rIsName_fn (nm) _ _ (ed d0 rfl rfl rfl) (by omega)))
 · intro A B E G H d0 d1 d2 d3 d4; exact rP (y_assign (ed d0 rfl rfl rfl))
 intro a2 s2 D2; have ok2 := D2.ok; have F2 := F1.step0 D2.stp; have q2 := D2.kt q1 rfl; have q3 := D2.dn 3 rfl rfl; clear D2; refine tn ?_; refine wp_seq ?_; refine wp_seq ?_
 refine rg a2 s2 [(Ty.bool (nameL (nm))), (Ty.bool (!(nameL (nm))))] ok2 ⟨?_, ?_, trivial⟩ ?_
 · intro A B E G H; exact rP (y_move (kp (H 3 rfl) E q3))
 · intro A B E G H d0; exact rP (y_not (ed d0 rfl rfl rfl))
 intro a3 s3 D3; have ok3 := D3.ok; have F3 := F2.step0 D3.stp; have q4 := D3.kt q2 rfl; have q5 := D3.dn 1 rfl rfl; clear D3; refine tn ?_
 refine cond_t q5 (fun c1 => ?_) (fun c1 => ?_)
 ·
  have hnn : nameL nm = false := (by simpa using c1)
  refine wp_seq ?_
  refine rg a3 s3 [(Ty.int (7 : Int))] ok3 ⟨?_, trivial⟩ ?_
  · intro A B E G H; exact rP (y_assign rfl)
  intro a4 s4 D4; have ok4 := D4.ok; have F4 := F3.step0 D4.stp; have q6 := D4.dn 0 rfl rfl; clear D4; refine tn ?_; refine wp_ret ?_; refine tr ?_
  exact retL1 rfl ok4 F4 (cvi (by (unfold methMay; rw [if_pos hnn])) q6)
 ·
  have hnn : ¬ nameL nm = false := (by simpa using c1)
  refine wp_skip ?_; refine tn ?_; refine wp_seq ?_; refine wp_seq ?_
  refine rg a3 s3 [(Ty.ref [(Ty.int n), (Ty.lst Ty.ints l)]), (Ty.int n), (Ty.bool (decide (n < (2 : Int)))), (Ty.bool (decide (n < (2 : Int)))), (Ty.grd ((decide (n < (2 : Int))) = false) (Ty.ref [(Ty.int n), (Ty.lst Ty.ints l)])), (Ty.grd ((decide (n < (2 : Int))) = false) (Ty.int n)), (Ty.grd ((decide (n < (2 : Int))) = false) (Ty.bool (decide ((12 : Int) < n)))), (Ty.bool ((decide (n < (2 : Int))) || (decide ((12 : Int) < n)))), (Ty.bool ((decide (n < (2 : Int))) || (decide ((12 : Int) < n)))), (Ty.grd (((decide (n < (2 : Int))) || (decide ((12 : Int) < n))) = false) (Ty.ref [(Ty.lst Ty.ints l)])), (Ty.grd (((decide (n < (2 : Int))) || (decide ((12 : Int) < n))) = false) (Ty.lst Ty.ints l)), (Ty.grd (((decide (n < (2 : Int))) || (decide ((12 : Int) < n))) = false) (Ty.nat (List.length l))), (Ty.grd (((decide (n < (2 : Int))) || (decide ((12 : Int) < n))) = false) (Ty.bool (decide ((((List.length l) : Nat) : Int) < (1 : Int))))), (Ty.bool (((decide (n < (2 : Int))) || (decide ((12 : Int) < n))) || (decide ((((List.length l) : Nat) : Int) < (1 : Int))))), (Ty.bool (((decide (n < (2 : Int))) || (decide ((12 : Int) < n))) || (decide ((((List.length l) : Nat) : Int) < (1 : Int))))), (Ty.grd ((((decide (n < (2 : Int))) || (decide ((12 : Int) < n))) || (decide ((((List.length l) : Nat) : Int) < (1 : Int)))) = false) (Ty.ref [(Ty.lst Ty.ints l)])), (Ty.grd ((((decide (n < (2 : Int))) || (decide ((12 : Int) < n))) || (decide ((((List.length l) : Nat) : Int) < (1 : Int)))) = false) (Ty.lst Ty.ints l)), (Ty.grd ((((decide (n < (2 : Int))) || (decide ((12 : Int) < n))) || (decide ((((List.length l) : Nat) : Int) < (1 : Int)))) = false) (Ty.nat (List.length l))), (Ty.grd ((((decide (n < (2 : Int))) || (decide ((12 : Int) < n))) || (decide ((((List.length l) : Nat) : Int) < (1 : Int)))) = false) (Ty.bool (decide ((200 : Int) < (((List.length l) : Nat) : Int))))), (Ty.bool ((((decide (n < (2 : Int))) || (decide ((12 : Int) < n))) || (decide ((((List.length l) : Nat) : Int) < (1 : Int)))) || (decide ((200 : Int) < (((List.length l) : Nat) : Int)))))] ok3 ⟨?_, ?_, ?_, ?_, ?_, ?_, ?_, ?_, ?_, ?_, ?_, ?_, ?_, ?_, ?_, ?_, ?_, ?_, ?_, ?_, trivial⟩ ?_
  · intro A B E G H; exact rP (y_field Tryd.fld24_1 Tryd.inf3 (by decide) (kp (H 1 rfl) E q4) rfl)
  · intro A B E G H d0; exact rP (y_load Tryd.underlying3 rfl (ed d0 rfl rfl rfl) rfl)
  · intro A B E G H d0; exact rP (y_lss (ed d0 rfl rfl rfl) rfl)
  · intro A B E G H d0; exact rP (y_move (ed d0 rfl rfl rfl))
  · intro A B E G H d0
    refine run_guard G rfl rfl (by decide) (ed d0 rfl rfl rfl) (fun hg => ?_)
    have hp := of_decide_eq_false hg
    exact y_field Tryd.fld24_1 Tryd.inf3 (by decide) (kp (H 1 rfl) E q4) rfl
  · intro A B E G H d0 d1
    refine run_guard G rfl rfl (by decide) (ed d1 rfl rfl rfl) (fun hg => ?_)
    have hp := of_decide_eq_false hg
    exact y_load Tryd.underlying3 rfl ((ed d0 rfl rfl rfl).1 hg) rfl
  · intro A B E G H d0 d1
    refine run_guard G rfl rfl (by decide) (ed d1 rfl rfl rfl) (fun hg => ?_)
    have hp := of_decide_eq_false hg
    exact y_gtr ((ed d0 rfl rfl rfl).1 hg) rfl
  · intro A B E G H d0 d1; exact rP (y_pick_or (ed d0 rfl rfl rfl) rfl (ed d1 rfl rfl rfl))
  · intro A B E G H d0 d1; exact rP (y_move (ed d0 rfl rfl rfl))
  · intro A B E G H d0
    refine run_guard G rfl rfl (by decide) (ed d0 rfl rfl rfl) (fun hg => ?_)
    obtain ⟨d1, d2⟩ := Bool.or_eq_false_iff.mp hg
    have d1 := of_decide_eq_false d1
    have d2 := of_decide_eq_false d2
    exact y_field Tryd.fld24_2 Tryd.inf22 (by decide) (kp (H 1 rfl) E q4) rfl
  · intro A B E G H d0 d1
    refine run_guard G rfl rfl (by decide) (ed d1 rfl rfl rfl) (fun hg => ?_)
    obtain ⟨d3, d4⟩ := Bool.or_eq_false_iff.mp hg
    have d3 := of_decide_eq_false d3
    have d4 := of_decide_eq_false d4
    exact y_load Tryd.underlying22 rfl ((ed d0 rfl rfl rfl).1 hg) rfl
  · intro A B E G H d0 d1
    refine run_guard G rfl rfl (by decide) (ed d1 rfl rfl rfl) (fun hg => ?_)
    obtain ⟨d5, d6⟩ := Bool.or_eq_false_iff.mp hg
    have d5 := of_decide_eq_false d5
    have d6 := of_decide_eq_false d6
    exact y_len Tryd.underlying22 ((ed d0 rfl rfl rfl).1 hg)
  · intro A B E G H d0 d1
    refine run_guard G rfl rfl (by decide) (ed d1 rfl rfl rfl) (fun hg => ?_)
    obtain ⟨d7, d8⟩ := Bool.or_eq_false_iff.mp hg
    have d7 := of_decide_eq_false d7
    have d8 := of_decide_eq_false d8
    exact y_lss ((ed d0 rfl rfl rfl).1 hg) rfl
  · intro A B E G H d0 d1; exact rP (y_pick_or (ed d0 rfl rfl rfl) rfl (ed d1 rfl rfl rfl))
  · intro A B E G H d0 d1; exact rP (y_move (ed d0 rfl rfl rfl))
  · intro A B E G H d0
    refine run_guard G rfl rfl (by decide) (ed d0 rfl rfl rfl) (fun hg => ?_)
    obtain ⟨d9, d10⟩ := Bool.or_eq_false_iff.mp hg
    obtain ⟨d11, d12⟩ := Bool.or_eq_false_iff.mp d9
    have d11 := of_decide_eq_false d11
    have d12 := of_decide_eq_false d12
    have d10 := of_decide_eq_false d10
    exact y_field Tryd.fld24_2 Tryd.inf22 (by decide) (kp (H 1 rfl) E q4) rfl
  · intro A B E G H d0 d1
    refine run_guard G rfl rfl (by decide) (ed d1 rfl rfl rfl) (fun hg => ?_)
    obtain ⟨d13, d14⟩ := Bool.or_eq_false_iff.mp hg
    obtain ⟨d15, d16⟩ := Bool.or_eq_false_iff.mp d13
    have d15 := of_decide_eq_false d15
    have d16 := of_decide_eq_false d16
    have d14 := of_decide_eq_false d14
    exact y_load Tryd.underlying22 rfl ((ed d0 rfl rfl rfl).1 hg) rfl
  · intro A B E G H d0 d1
    refine run_guard G rfl rfl (by decide) (ed d1 rfl rfl rfl) (fun hg => ?_)
    obtain ⟨d17, d18⟩ := Bool.or_eq_false_iff.mp hg
    obtain ⟨d19, d20⟩ := Bool.or_eq_false_iff.mp d17
    have d19 := of_decide_eq_false d19
    have d20 := of_decide_eq_false d20
    have d18 := of_decide_eq_false d18
    exact y_len Tryd.underlying22 ((ed d0 rfl rfl rfl).1 hg)
  · intro A B E G H d0 d1
    refine run_guard G rfl rfl (by decide) (ed d1 rfl rfl rfl) (fun hg => ?_)
    obtain ⟨d21, d22⟩ := Bool.or_eq_false_iff.mp hg
    obtain ⟨d23, d24⟩ := Bool.or_eq_false_iff.mp d21
    have d23 := of_decide_eq_false d23
    have d24 := of_decide_eq_false d24
    have d22 := of_decide_eq_false d22
    exact y_gtr ((ed d0 rfl rfl rfl).1 hg) rfl
  · intro A B E G H d0 d1; exact rP (y_pick_or (ed d0 rfl rfl rfl) rfl (ed d1 rfl rfl rfl))
  intro a5 s5 D5; have ok5 := D5.ok; have F5 := F3.step0 D5.stp; have q7 := D5.kt q4 rfl; have q8 := D5.dn 19 rfl rfl; clear D5; refine tn ?_
  refine cond_t q8 (fun c2 => ?_) (fun c2 => ?_)
  ·
   simp only [Bool.or_eq_true, decide_eq_true_eq] at c2; have h4 : n < 2 ∨ 12 < n ∨ l.length < 1 ∨ 200 < l.length := (by omega)
   refine wp_seq ?_
   refine rg a5 s5 [(Ty.int (1 : Int))] ok5 ⟨?_, trivial⟩ ?_
   · intro A B E G H; exact rP (y_assign rfl)
   intro a6 s6 D6; have ok6 := D6.ok; have F6 := F5.step0 D6.stp; have q9 := D6.dn 0 rfl rfl; clear D6; refine tn ?_; refine wp_ret ?_; refine tr ?_
   exact retL1 rfl ok6 F6 (cvi (by (unfold methMay; rw [if_neg hnn, if_pos h4])) q9)
  ·
   obtain ⟨d25, d26⟩ := Bool.or_eq_false_iff.mp c2
   obtain ⟨d27, d28⟩ := Bool.or_eq_false_iff.mp d25
   obtain ⟨d29, d30⟩ := Bool.or_eq_false_iff.mp d27
   replace d29 := of_decide_eq_false d29
   replace d30 := of_decide_eq_false d30
   replace d28 := of_decide_eq_false d28
   replace d26 := of_decide_eq_false d26
   have h4 : ¬ (n < 2 ∨ 12 < n ∨ l.length < 1 ∨ 200 < l.length) := (by simp only [Bool.or_eq_false_iff, decide_eq_false_iff_not] at c2; omega); have hmm : methMay nm n l = allMay n l := (by unfold methMay; rw [if_neg hnn, if_neg h4])
   refine wp_skip ?_; refine tn ?_; refine wp_seq ?_; refine wp_seq ?_
   refine rg a5 s5 [(Ty.int (0 : Int))] ok5 ⟨?_, trivial⟩ ?_
   · intro A B E G H; exact rP (y_assign rfl)
   intro a7 s7 D7; have ok7 := D7.ok; have F7 := F5.step0 D7.stp; have q10 := D7.kt q7 rfl; have q11 := D7.dn 0 rfl rfl; clear D7; refine tn ?_; refine wp_block ?_
   refine loop (fun n1 a8 w1 => ∃ (t1 : GW) (k : Nat), t1.w = w1 ∧ FromL [] s0 t1 ∧ Ok 49 a8 ∧ At (Ty.nat k) t1 a8 (.tmp 4) ∧ At (Ty.ref [(Ty.val (Value.string nm)), (Ty.int n), (Ty.lst Ty.ints l)]) t1 a8 (.tmp 1) ∧ (k ≤ l.length) ∧ (allMay n (l.drop k) = allMay n l) ∧ n1 = l.length - k) (l.length - (0)) ?_ ?_
   ·
    exact ⟨s7, 0, rfl, F7, ok7, (cvi (by (first | rfl | omega | (simp_all; done) | (simp_all; omega))) q11), q10, by omega, rfl, rfl⟩
   ·
    rintro n2 a9 w2 ⟨t2, k, rfl, F8, ok8, q12, q13, hk, ha, rfl⟩
    refine wp_seq ?_; refine wp_seq ?_
    refine reg (a := a9) (σ := t2) rfl (fun i_ => List.getD [(Ty.pr (Ty.nat k)), (Ty.pr (Ty.ref [(Ty.lst Ty.ints l)])), (Ty.pr (Ty.lst Ty.ints l)), (Ty.pr (Ty.nat (List.length l))), (Ty.pr (Ty.bool (decide (((k : Nat) : Int) < (((List.length l) : Nat) : Int)))))] i_ Pr.any) ok8 rfl ⟨?_, ?_, ?_, ?_, ?_, trivial⟩ ?_
    · intro A B E G H; exact rP (y_move (kp (H 4 rfl) E q12))
    · intro A B E G H; exact rP (y_field Tryd.fld24_2 Tryd.inf22 (by decide) (kp (H 1 rfl) E q13) rfl)
    · intro A B E G H d0; exact rP (y_load Tryd.underlying22 rfl (ed d0 rfl rfl rfl) rfl)
    · intro A B E G H d0; exact rP (y_len Tryd.underlying22 (ed d0 rfl rfl rfl))
    · intro A B E G H d0 d1; exact rP (y_lss (ed d0 rfl rfl rfl) (ed d1 rfl rfl rfl))
    intro a10 s8 D8; have ok9 := D8.ok; have F9 := F8.step0 D8.stp; have q14 := D8.kt q12 rfl; have q15 := D8.kt q13 rfl; have q16 := D8.dn 4 rfl rfl; clear D8; refine tn ?_
    refine cond_p (p := (((k : Nat) : Int) < (((List.length l) : Nat) : Int))) q16 (fun c3 => ?_) (fun c3 => ?_)
    ·
     refine wp_skip ?_; refine tn ?_; refine wp_seq ?_; refine wp_block ?_; refine wp_seq ?_
     refine rg a10 s8 [(Ty.ref [(Ty.int n), (Ty.lst Ty.ints l)]), (Ty.int n), (Ty.ref [(Ty.lst Ty.ints l)]), (Ty.lst Ty.ints l), (Ty.nat k), (Ty.ref [(Ty.lst Ty.int (l.getD k []))]), (Ty.lst Ty.int (l.getD k [])), (Ty.int (chgMay n ((l.getD k [])))), (Ty.int (chgMay n ((l.getD k []))))] ok9 ⟨?_, ?_, ?_, ?_, ?_, ?_, ?_, ?_, ?_, trivial⟩ ?_
     · intro A B E G H; exact rP (y_field Tryd.fld24_1 Tryd.inf3 (by decide) (kp (H 1 rfl) E q15) rfl)
     · intro A B E G H d0; exact rP (y_load Tryd.underlying3 rfl (ed d0 rfl rfl rfl) rfl)
     · intro A B E G H; exact rP (y_field Tryd.fld24_2 Tryd.inf22 (by decide) (kp (H 1 rfl) E q15) rfl)
     · intro A B E G H d0; exact rP (y_load Tryd.underlying22 rfl (ed d0 rfl rfl rfl) rfl)
     · intro A B E G H; exact rP (y_move (kp (H 4 rfl) E q14))
     · intro A B E G H d0 d1; exact rP (y_index1 Tryd.underlying22 Tryd.inf26 (ed d0 rfl rfl rfl) (ed d1 rfl rfl rfl) (by omega) (lst_get Ty.ints l [] k (by omega)))
     · intro A B E G H d0; exact rP (y_load Tryd.underlying26 rfl (ed d0 rfl rfl rfl) rfl)
     · intro A B E G H d0 d1; exact rP (y_call #[A.eval (.tmp 39), A.eval (.tmp 44)] Tryd.func29 rfl rfl (by simp only [List.map_toArray, List.map_cons, List.map_nil]) (rChangeMay_fn (n) ((l.getD k [])) _ _ _ (ed d0 rfl rfl rfl) (ed d1 rfl rfl rfl) (by omega)))
     · intro A B E G H d0 d1 d2 d3 d4 d5 d6 d7 d8 d9; exact rP (y_assign (ed d0 rfl rfl rfl))
     intro a11 s9 D9; have ok10 := D9.ok; have F10 := F9.step0 D9.stp; have q17 := D9.kt q14 rfl; have q18 := D9.kt q15 rfl; have q19 := D9.dn 8 rfl rfl; clear D9; refine tn ?_; refine wp_seq ?_
     refine rg a11 s9 [(Ty.int (chgMay n ((l.getD k [])))), (Ty.bool (decide ((chgMay n ((l.getD k []))) ≠ (0 : Int))))] ok10 ⟨?_, ?_, trivial⟩ ?_
     · intro A B E G H; exact rP (y_move (kp (H 5 rfl) E q19))
     · intro A B E G H d0; exact rP (y_neq (ed d0 rfl rfl rfl) rfl)
     intro a12 s10 D10; have ok11 := D10.ok; have F11 := F10.step0 D10.stp; have q20 := D10.kt q17 rfl; have q21 := D10.kt q18 rfl; have q22 := D10.kt q19 rfl; have q23 := D10.dn 1 rfl rfl; clear D10; refine tn ?_
     refine cond_p (p := ((chgMay n ((l.getD k []))) ≠ (0 : Int))) q23 (fun c4 => ?_) (fun c4 => ?_)
     ·
      refine wp_seq ?_
      refine rg a12 s10 [(Ty.int (chgMay n ((l.getD k [])))), (Ty.int (chgMay n ((l.getD k []))))] ok11 ⟨?_, ?_, trivial⟩ ?_
      · intro A B E G H; exact rP (y_move (kp (H 5 rfl) E q22))
      · intro A B E G H d0 d1; exact rP (y_assign (ed d0 rfl rfl rfl))
      intro a13 s11 D11; have ok12 := D11.ok; have F12 := F11.step0 D11.stp; have q24 := D11.dn 1 rfl rfl; clear D11; refine tn ?_; refine wp_ret ?_; refine br ?_; refine tr ?_; refine tr ?_; refine br ?_; refine tr ?_
      exact retL1 rfl ok12 F12 (cvi (by (rw [hmm]; exact (allMay_stop ha (by omega) c4).symm)) q24)
     ·
      refine wp_skip ?_; refine bn ?_; refine tn ?_
      refine rg a12 s10 [(Ty.nat k), (Ty.int (((k : Nat) : Int) + (1 : Int))), (Ty.int (((k : Nat) : Int) + (1 : Int)))] ok11 ⟨?_, ?_, ?_, trivial⟩ ?_
      · intro A B E G H; exact rP (y_move (kp (H 4 rfl) E q20))
      · intro A B E G H d0; exact rP (y_add (ed d0 rfl rfl rfl) rfl (w64 (by omega) (by omega)))
      · intro A B E G H d0 d1 d2; exact rP (y_assign (ed d0 rfl rfl rfl))
      intro a14 s12 D12; have ok13 := D12.ok; have F13 := F11.step0 D12.stp; have q25 := D12.kt q21 rfl; have q26 := D12.dn 2 rfl rfl; clear D12
      exact tn ⟨l.length - ((k+1)), by omega, s12, (k+1), rfl, F13, ok13, (cvi (by (first | rfl | omega | (simp_all; done) | (simp_all; omega))) q26), q25, by omega, allMay_step ha (by omega) c4, rfl⟩
    ·
     refine wp_exit ?_; refine tx ?_; refine tx ?_; refine bx ?_; refine tn ?_; refine wp_seq ?_
     refine rg a10 s8 [(Ty.int (0 : Int))] ok9 ⟨?_, trivial⟩ ?_
     · intro A B E G H; exact rP (y_assign rfl)
     intro a15 s13 D13; have ok14 := D13.ok; have F14 := F9.step0 D13.stp; have q27 := D13.dn 0 rfl rfl; clear D13; refine tn ?_; refine wp_ret ?_
     exact retL1 rfl ok14 F14 (cvi (by (rw [hmm]; exact (allMay_end ha (by omega)).symm)) q27)


set_option maxHeartbeats 4000000 in
set_option maxRecDepth 100000 in
theorem rCallsMay_fn (nm : ByteArray) (n : Int) (l : List (List Int)) (cs : List BCall) (σ : GW)  (v0 v1 : Value) (hv0 : Ty.has (Ty.agg [(Ty.val (Value.string nm)), (Ty.int n), (Ty.lst Ty.ints l)]) σ v0) (hv1 : Ty.has (Ty.lstc 2 callC cs) σ v1)  (hnm : nm.size ≤ 1099511627776) (hn : -9223372036854775808 ≤ n ∧ n ≤ 9223372036854775807) :
    FnC Tryd.prog 9 #[v0, v1] σ (Ty.int (callsMay nm n l cs)) := by
 refine fn_intro0 Tryd.func9 rfl Tryd.ntmps9 (Nat.le_of_ble_eq_true rfl) (fun s0 a0 hle F0 ok0 hargs => ?_)
 have p0 : At (Ty.agg [(Ty.val (Value.string nm)), (Ty.int n), (Ty.lst Ty.ints l)]) s0 a0 (.tmp 0) := by have e := hargs 0 _ rfl; show Ty.has _ _ _; rw [e]; exact Ty.up _ hle hv0
 have p1 : At (Ty.lstc 2 callC cs) s0 a0 (.tmp 1) := by have e := hargs 1 _ rfl; show Ty.has _ _ _; rw [e]; exact Ty.up _ hle hv1
 have b1 := sl_le p1
 clear hargs; refine wp_seq ?_
 refine rg a0 s0 [(Ty.ref [(Ty.val (Value.string nm)), (Ty.int n), (Ty.lst Ty.ints l)]), (Ty.int (0 : Int))] ok0 ⟨?_, ?_, trivial⟩ ?_
 · intro A B E G H; exact rP (y_boxagg (kp (H 0 rfl) E p0))
 · intro A B E G H; exact rP (y_assign rfl)
 intro a1 s1 D1; have ok1 := D1.ok; have F1 := F0.step0 D1.stp; have q1 := D1.kt p1 rfl; have q2 := D1.dn 0 rfl rfl; clear D1; refine tn ?_; refine wp_seq ?_
 refine rg a1 s1 [(Ty.agg [(Ty.val (Value.string nm)), (Ty.int n), (Ty.lst Ty.ints l)]), (Ty.int (methMay nm n l)), (Ty.int (methMay nm n l))] ok1 ⟨?_, ?_, ?_, trivial⟩ ?_
 · intro A B E G H; exact rP (y_loadagg Tryd.underlying24 Tryd.inf24 (kp (H 2 rfl) E q2))
 · intro A B E G H d0; exact rP (y_call #[A.eval (.tmp 11)] Tryd.func28 rfl rfl (by simp only [List.map_toArray, List.map_cons, List.map_nil]) (rMethodMay_fn (nm) (n) (l) _ _ (ed d0 rfl rfl rfl) (by first | omega | assumption) (by first | omega | assumption)))
 · intro A B E G H d0 d1 d2 d3; exact rP (y_assign (ed d0 rfl rfl rfl))
 intro a2 s2 D2; have ok2 := D2.ok; have F2 := F1.step0 D2.stp; have q3 := D2.kt q1 rfl; have q4 := D2.kt q2 rfl; have q5 := D2.dn 2 rfl rfl; clear D2; refine tn ?_; refine wp_seq ?_; refine wp_seq ?_
 refine rg a2 s2 [(Ty.int (methMay nm n l)), (Ty.bool (decide ((methMay nm n l) ≠ (0 : Int))))] ok2 ⟨?_, ?_, trivial⟩ ?_
 · intro A B E G H; exact rP (y_move (kp (H 5 rfl) E q5))
 · intro A B E G H d0; exact rP (y_neq (ed d0 rfl rfl rfl) rfl)
 intro a3 s3 D3; have ok3 := D3.ok; have F3 := F2.step0 D3.stp; have q6 := D3.kt q3 rfl; have q7 := D3.kt q4 rfl; have q8 := D3.kt q5 rfl; have q9 := D3.dn 1 rfl rfl; clear D3; refine tn ?_
 refine cond_p (p := ((methMay nm n l) ≠ (0 : Int))) q9 (fun c1 => ?_) (fun c1 => ?_)
 ·
  have hm := callsMay_meth (cs := cs) c1
  refine wp_seq ?_
  refine rg a3 s3 [(Ty.int (methMay nm n l)), (Ty.int (methMay nm n l))] ok3 ⟨?_, ?_, trivial⟩ ?_
  · intro A B E G H; exact rP (y_move (kp (H 5 rfl) E q8))
  · intro A B E G H d0 d1; exact rP (y_assign (ed d0 rfl rfl rfl))
  intro a4 s4 D4; have ok4 := D4.ok; have F4 := F3.step0 D4.stp; have q10 := D4.dn 1 rfl rfl; clear D4; refine tn ?_; refine wp_ret ?_; refine tr ?_
  exact retL1 rfl ok4 F4 (cvi (by (exact hm.symm)) q10)
 ·
  refine wp_skip ?_; refine tn ?_; refine wp_seq ?_; refine wp_seq ?_
  refine rg a3 s3 [(Ty.lstc 2 callC cs), (Ty.nat (List.length cs)), (Ty.bool (decide ((((List.length cs) : Nat) : Int) < (1 : Int)))), (Ty.bool (decide ((((List.length cs) : Nat) : Int) < (1 : Int)))), (Ty.grd ((decide ((((List.length cs) : Nat) : Int) < (1 : Int))) = false) (Ty.lstc 2 callC cs)), (Ty.grd ((decide ((((List.length cs) : Nat) : Int) < (1 : Int))) = false) (Ty.nat (List.length cs))), (Ty.grd ((decide ((((List.length cs) : Nat) : Int) < (1 : Int))) = false) (Ty.bool (decide ((8 : Int) < (((List.length cs) : Nat) : Int))))), (Ty.bool ((decide ((((List.length cs) : Nat) : Int) < (1 : Int))) || (decide ((8 : Int) < (((List.length cs) : Nat) : Int)))))] ok3 ⟨?_, ?_, ?_, ?_, ?_, ?_, ?_, ?_, trivial⟩ ?_
  · intro A B E G H; exact rP (y_move (kp (H 1 rfl) E q6))
  · intro A B E G H d0; exact rP (y_len Tryd.underlying25 (ed d0 rfl rfl rfl))
  · intro A B E G H d0; exact rP (y_lss (ed d0 rfl rfl rfl) rfl)
  · intro A B E G H d0; exact rP (y_move (ed d0 rfl rfl rfl))
  · intro A B E G H d0
    refine run_guard G rfl rfl (by decide) (ed d0 rfl rfl rfl) (fun hg => ?_)
    have hp := of_decide_eq_false hg
    exact y_move (kp (H 1 rfl) E q6)
  · intro A B E G H d0 d1
    refine run_guard G rfl rfl (by decide) (ed d1 rfl rfl rfl) (fun hg => ?_)
    have hp := of_decide_eq_false hg
    exact y_len Tryd.underlying25 ((ed d0 rfl rfl rfl).1 hg)
  · intro A B E G H d0 d1
    refine run_guard G rfl rfl (by decide) (ed d1 rfl rfl rfl) (fun hg => ?_)
    have hp := of_decide_eq_false hg
    exact y_gtr ((ed d0 rfl rfl rfl).1 hg) rfl
  · intro A B E G H d0 d1; exact rP (y_pick_or (ed d0 rfl rfl rfl) rfl (ed d1 rfl rfl rfl))
  intro a5 s5 D5; have ok5 := D5.ok; have F5 := F3.step0 D5.stp; have q11 := D5.kt q6 rfl; have q12 := D5.kt q7 rfl; have q13 := D5.dn 7 rfl rfl; clear D5; refine tn ?_
  refine cond_t q13 (fun c2 => ?_) (fun c2 => ?_)
  ·
   simp only [Bool.or_eq_true, decide_eq_true_eq] at c2; have hm := callsMay_cnt (cs := cs) c1 (by omega)
   refine wp_seq ?_
   refine rg a5 s5 [(Ty.int (1 : Int))] ok5 ⟨?_, trivial⟩ ?_
   · intro A B E G H; exact rP (y_assign rfl)
   intro a6 s6 D6; have ok6 := D6.ok; have F6 := F5.step0 D6.stp; have q14 := D6.dn 0 rfl rfl; clear D6; refine tn ?_; refine wp_ret ?_; refine tr ?_
   exact retL1 rfl ok6 F6 (cvi (by (exact hm.symm)) q14)
  ·
   obtain ⟨d1, d2⟩ := Bool.or_eq_false_iff.mp c2
   replace d1 := of_decide_eq_false d1
   replace d2 := of_decide_eq_false d2
   have hx2 : ¬ (cs.length < 1 ∨ 8 < cs.length) := (by simp only [Bool.or_eq_false_iff, decide_eq_false_iff_not] at c2; omega); have hm := callsMay_all c1 hx2; have hl2 := (methMay_ok' (Classical.not_not.1 c1)).1.l2
   refine wp_skip ?_; refine tn ?_; refine wp_seq ?_; refine wp_seq ?_
   refine rg a5 s5 [(Ty.int (0 : Int))] ok5 ⟨?_, trivial⟩ ?_
   · intro A B E G H; exact rP (y_assign rfl)
   intro a7 s7 D7; have ok7 := D7.ok; have F7 := F5.step0 D7.stp; have q15 := D7.kt q11 rfl; have q16 := D7.kt q12 rfl; have q17 := D7.dn 0 rfl rfl; clear D7; refine tn ?_; refine wp_block ?_
   refine loop (fun n1 a8 w1 => ∃ (t1 : GW) (i : Nat), t1.w = w1 ∧ FromL [] s0 t1 ∧ Ok 88 a8 ∧ At (Ty.nat i) t1 a8 (.tmp 6) ∧ At (Ty.lstc 2 callC cs) t1 a8 (.tmp 1) ∧ At (Ty.ref [(Ty.val (Value.string nm)), (Ty.int n), (Ty.lst Ty.ints l)]) t1 a8 (.tmp 2) ∧ (i ≤ cs.length) ∧ (callsTo n l.length ((cs.take i).map (·.1)) (cs.drop i) = callsTo n l.length [] cs) ∧ n1 = cs.length - i) (cs.length - (0)) ?_ ?_
   ·
    exact ⟨s7, 0, rfl, F7, ok7, (cvi (by (first | rfl | omega | (simp_all; done) | (simp_all; omega))) q17), q15, q16, by omega, rfl, rfl⟩
   ·
    rintro n2 a9 w2 ⟨t2, i, rfl, F8, ok8, q18, q19, q20, hi, hc, rfl⟩
    refine wp_seq ?_; refine wp_seq ?_
    refine reg (a := a9) (σ := t2) rfl (fun i_ => List.getD [(Ty.pr (Ty.nat i)), (Ty.pr (Ty.lstc 2 callC cs)), (Ty.pr (Ty.nat (List.length cs))), (Ty.pr (Ty.bool (decide (((i : Nat) : Int) < (((List.length cs) : Nat) : Int)))))] i_ Pr.any) ok8 rfl ⟨?_, ?_, ?_, ?_, trivial⟩ ?_
    · intro A B E G H; exact rP (y_move (kp (H 6 rfl) E q18))
    · intro A B E G H; exact rP (y_move (kp (H 1 rfl) E q19))
    · intro A B E G H d0; exact rP (y_len Tryd.underlying25 (ed d0 rfl rfl rfl))
    · intro A B E G H d0 d1; exact rP (y_lss (ed d0 rfl rfl rfl) (ed d1 rfl rfl rfl))
    intro a10 s8 D8; have ok9 := D8.ok; have F9 := F8.step0 D8.stp; have q21 := D8.kt q18 rfl; have q22 := D8.kt q19 rfl; have q23 := D8.kt q20 rfl; have q24 := D8.dn 3 rfl rfl; clear D8; refine tn ?_
    refine cond_p (p := (((i : Nat) : Int) < (((List.length cs) : Nat) : Int))) q24 (fun c3 => ?_) (fun c3 => ?_)
    ·
     refine wp_skip ?_; refine tn ?_; refine wp_seq ?_; refine wp_block ?_; refine wp_seq ?_
     refine rg a10 s8 [(Ty.lstc 2 callC cs), (Ty.nat i), (Ty.ref [(Ty.val (Value.int .i32 ((cs.getD i D0)).1)), (Ty.lst Ty.ints ((cs.getD i D0)).2)]), (Ty.ref [(Ty.val (Value.int .i32 ((cs.getD i D0)).1)), (Ty.lst Ty.ints ((cs.getD i D0)).2)]), (Ty.val (Value.int .i32 ((cs.getD i D0)).1)), (Ty.bool (signMay (((cs.getD i D0)).1))), (Ty.bool (signMay (((cs.getD i D0)).1)))] ok9 ⟨?_, ?_, ?_, ?_, ?_, ?_, ?_, trivial⟩ ?_
     · intro A B E G H; exact rP (y_move (kp (H 1 rfl) E q22))
     · intro A B E G H; exact rP (y_move (kp (H 6 rfl) E q21))
     · intro A B E G H d0 d1; exact rP (y_indexc (i := ((i : Nat) : Int)) D0 Tryd.underlying25 Tryd.inf50 (ed d0 rfl rfl rfl) (ed d1 rfl rfl rfl) (by omega) (by omega) (by decide) (fun _ => rfl))
     · intro A B E G H d0; exact rP (y_field Tryd.fld50_0 Tryd.inf21 (by decide) (ed d0 rfl rfl rfl) rfl)
     · intro A B E G H d0; exact rP (y_load Tryd.underlying21 rfl (ed d0 rfl rfl rfl) rfl)
     · intro A B E G H d0; exact rP (y_call #[A.eval (.tmp 34)] Tryd.func7 rfl rfl (by simp only [List.map_toArray, List.map_cons, List.map_nil]) (rSignMay_fn (((cs.getD i D0)).1) _ _ (cvi (σ := B) (by omega) (ed d0 rfl rfl rfl)) ))
     · intro A B E G H d0 d1 d2 d3 d4 d5 d6 d7; exact rP (y_assign (ed d0 rfl rfl rfl))
     intro a11 s9 D9; have ok10 := D9.ok; have F10 := F9.step0 D9.stp; have q25 := D9.kt q21 rfl; have q26 := D9.kt q22 rfl; have q27 := D9.kt q23 rfl; have q28 := D9.dn 6 rfl rfl; clear D9; refine tn ?_; refine wp_seq ?_; refine wp_seq ?_
     refine rg a11 s9 [(Ty.bool (signMay (((cs.getD i D0)).1))), (Ty.bool (!(signMay (((cs.getD i D0)).1))))] ok10 ⟨?_, ?_, trivial⟩ ?_
     · intro A B E G H; exact rP (y_move (kp (H 7 rfl) E q28))
     · intro A B E G H d0; exact rP (y_not (ed d0 rfl rfl rfl))
     intro a12 s10 D10; have ok11 := D10.ok; have F11 := F10.step0 D10.stp; have q29 := D10.kt q25 rfl; have q30 := D10.kt q26 rfl; have q31 := D10.kt q27 rfl; have q32 := D10.dn 1 rfl rfl; clear D10; refine tn ?_
     refine cond_t q32 (fun c4 => ?_) (fun c4 => ?_)
     ·
      have hs4 : signMay (cs.getD i D0).1 = false := (by simpa using c4); have hv := calls_at hc (by omega) (step_sign hs4) (by decide)
      refine wp_seq ?_
      refine rg a12 s10 [(Ty.int (4 : Int))] ok11 ⟨?_, trivial⟩ ?_
      · intro A B E G H; exact rP (y_assign rfl)
      intro a13 s11 D11; have ok12 := D11.ok; have F12 := F11.step0 D11.stp; have q33 := D11.dn 0 rfl rfl; clear D11; refine tn ?_; refine wp_ret ?_; refine tr ?_; refine br ?_; refine tr ?_; refine tr ?_; refine br ?_; refine tr ?_
      exact retL1 rfl ok12 F12 (cvi (by (rw [hm]; exact hv.symm)) q33)
     ·
      have hs4 : signMay (cs.getD i D0).1 = true := (by simpa using c4)
      refine wp_skip ?_; refine tn ?_; refine wp_seq ?_; refine wp_seq ?_
      refine rg a12 s10 [(Ty.int (0 : Int))] ok11 ⟨?_, trivial⟩ ?_
      · intro A B E G H; exact rP (y_assign rfl)
      intro a14 s12 D12; have ok13 := D12.ok; have F13 := F11.step0 D12.stp; have q34 := D12.kt q29 rfl; have q35 := D12.kt q30 rfl; have q36 := D12.kt q31 rfl; have q37 := D12.dn 0 rfl rfl; clear D12; refine tn ?_; refine wp_block ?_
      refine loop (fun n3 a15 w3 => ∃ (t3 : GW) (k : Nat), t3.w = w3 ∧ FromL [] s0 t3 ∧ Ok 88 a15 ∧ At (Ty.nat k) t3 a15 (.tmp 8) ∧ At (Ty.nat i) t3 a15 (.tmp 6) ∧ At (Ty.lstc 2 callC cs) t3 a15 (.tmp 1) ∧ At (Ty.ref [(Ty.val (Value.string nm)), (Ty.int n), (Ty.lst Ty.ints l)]) t3 a15 (.tmp 2) ∧ (k ≤ i) ∧ (∀ j, j < k → (cs.getD j D0).1 ≠ (cs.getD i D0).1) ∧ n3 = i - k) (i - (0)) ?_ ?_
      ·
       exact ⟨s12, 0, rfl, F13, ok13, (cvi (by (first | rfl | omega | (simp_all; done) | (simp_all; omega))) q37), q34, q35, q36, by omega, fun j hj => absurd hj (Nat.not_lt_zero j), rfl⟩
      ·
       rintro n4 a16 w4 ⟨t4, k, rfl, F14, ok14, q38, q39, q40, q41, hk, hno, rfl⟩
       refine wp_seq ?_; refine wp_seq ?_
       refine reg (a := a16) (σ := t4) rfl (fun i_ => List.getD [(Ty.pr (Ty.nat k)), (Ty.pr (Ty.nat i)), (Ty.pr (Ty.bool (decide (((k : Nat) : Int) < ((i : Nat) : Int)))))] i_ Pr.any) ok14 rfl ⟨?_, ?_, ?_, trivial⟩ ?_
       · intro A B E G H; exact rP (y_move (kp (H 8 rfl) E q38))
       · intro A B E G H; exact rP (y_move (kp (H 6 rfl) E q39))
       · intro A B E G H d0 d1; exact rP (y_lss (ed d0 rfl rfl rfl) (ed d1 rfl rfl rfl))
       intro a17 s13 D13; have ok15 := D13.ok; have F15 := F14.step0 D13.stp; have q42 := D13.kt q38 rfl; have q43 := D13.kt q39 rfl; have q44 := D13.kt q40 rfl; have q45 := D13.kt q41 rfl; have q46 := D13.dn 2 rfl rfl; clear D13; refine tn ?_
       refine cond_p (p := (((k : Nat) : Int) < ((i : Nat) : Int))) q46 (fun c5 => ?_) (fun c5 => ?_)
       ·
        refine wp_skip ?_; refine tn ?_; refine wp_seq ?_; refine wp_block ?_; refine wp_seq ?_
        refine rg a17 s13 [(Ty.lstc 2 callC cs), (Ty.nat k), (Ty.ref [(Ty.val (Value.int .i32 ((cs.getD k D0)).1)), (Ty.lst Ty.ints ((cs.getD k D0)).2)]), (Ty.ref [(Ty.val (Value.int .i32 ((cs.getD k D0)).1)), (Ty.lst Ty.ints ((cs.getD k D0)).2)]), (Ty.val (Value.int .i32 ((cs.getD k D0)).1)), (Ty.lstc 2 callC cs), (Ty.nat i), (Ty.ref [(Ty.val (Value.int .i32 ((cs.getD i D0)).1)), (Ty.lst Ty.ints ((cs.getD i D0)).2)]), (Ty.ref [(Ty.val (Value.int .i32 ((cs.getD i D0)).1)), (Ty.lst Ty.ints ((cs.getD i D0)).2)]), (Ty.val (Value.int .i32 ((cs.getD i D0)).1)), (Ty.bool (decide (((cs.getD k D0)).1 = ((cs.getD i D0)).1)))] ok15 ⟨?_, ?_, ?_, ?_, ?_, ?_, ?_, ?_, ?_, ?_, ?_, trivial⟩ ?_
        · intro A B E G H; exact rP (y_move (kp (H 1 rfl) E q44))
        · intro A B E G H; exact rP (y_move (kp (H 8 rfl) E q42))
        · intro A B E G H d0 d1; exact rP (y_indexc (i := ((k : Nat) : Int)) D0 Tryd.underlying25 Tryd.inf50 (ed d0 rfl rfl rfl) (ed d1 rfl rfl rfl) (by omega) (by omega) (by decide) (fun _ => rfl))
        · intro A B E G H d0; exact rP (y_field Tryd.fld50_0 Tryd.inf21 (by decide) (ed d0 rfl rfl rfl) rfl)
        · intro A B E G H d0; exact rP (y_load Tryd.underlying21 rfl (ed d0 rfl rfl rfl) rfl)
        · intro A B E G H; exact rP (y_move (kp (H 1 rfl) E q44))
        · intro A B E G H; exact rP (y_move (kp (H 6 rfl) E q43))
        · intro A B E G H d0 d1; exact rP (y_indexc (i := ((i : Nat) : Int)) D0 Tryd.underlying25 Tryd.inf50 (ed d0 rfl rfl rfl) (ed d1 rfl rfl rfl) (by omega) (by omega) (by decide) (fun _ => rfl))
        · intro A B E G H d0; exact rP (y_field Tryd.fld50_0 Tryd.inf21 (by decide) (ed d0 rfl rfl rfl) rfl)
        · intro A B E G H d0; exact rP (y_load Tryd.underlying21 rfl (ed d0 rfl rfl rfl) rfl)
        · intro A B E G H d0 d1; exact rP (y_eql (ed d0 rfl rfl rfl) (ed d1 rfl rfl rfl))
        intro a18 s14 D14; have ok16 := D14.ok; have F16 := F15.step0 D14.stp; have q47 := D14.kt q42 rfl; have q48 := D14.kt q43 rfl; have q49 := D14.kt q44 rfl; have q50 := D14.kt q45 rfl; have q51 := D14.dn 10 rfl rfl; clear D14; refine tn ?_
        refine cond_p (p := (((cs.getD k D0)).1 = ((cs.getD i D0)).1)) q51 (fun c6 => ?_) (fun c6 => ?_)
        ·
         have hs5 : (cs.getD i D0).1 ∈ ((cs.take i).map (·.1)) := pre_in (by omega) (by omega) c6; have hv := calls_at hc (by omega) (step_dbl hs4 hs5) (by decide)
         refine wp_seq ?_
         refine rg a18 s14 [(Ty.int (8 : Int))] ok16 ⟨?_, trivial⟩ ?_
         · intro A B E G H; exact rP (y_assign rfl)
         intro a19 s15 D15; have ok17 := D15.ok; have F17 := F16.step0 D15.stp; have q52 := D15.dn 0 rfl rfl; clear D15; refine tn ?_; refine wp_ret ?_; refine br ?_; refine tr ?_; refine tr ?_; refine br ?_; refine tr ?_; refine br ?_; refine tr ?_; refine tr ?_; refine br ?_; refine tr ?_
         exact retL1 rfl ok17 F17 (cvi (by (rw [hm]; exact hv.symm)) q52)
        ·
         refine wp_skip ?_; refine bn ?_; refine tn ?_
         refine rg a18 s14 [(Ty.nat k), (Ty.nat (k + 1)), (Ty.nat (k + 1))] ok16 ⟨?_, ?_, ?_, trivial⟩ ?_
         · intro A B E G H; exact rP (y_move (kp (H 8 rfl) E q47))
         · intro A B E G H d0; exact rP ((y_add (ed d0 rfl rfl rfl) rfl (w64 (by omega) (by omega))).mono (fun τ _ h => cvi (σ := τ) (by first | omega | exact (Int.natCast_mul _ _).symm) h))
         · intro A B E G H d0 d1 d2; exact rP (y_assign (ed d0 rfl rfl rfl))
         intro a20 s16 D16; have ok18 := D16.ok; have F18 := F16.step0 D16.stp; have q53 := D16.kt q48 rfl; have q54 := D16.kt q49 rfl; have q55 := D16.kt q50 rfl; have q56 := D16.dn 2 rfl rfl; clear D16
         exact tn ⟨i - ((k+1)), by omega, s16, (k+1), rfl, F18, ok18, (cvi (by (first | rfl | omega | (simp_all; done) | (simp_all; omega))) q56), q53, q54, q55, by omega, fun j hj => by (by_cases e : j = k; subst e; assumption; exact hno j (by omega)), rfl⟩
       ·
        have hs5 : (cs.getD i D0).1 ∉ ((cs.take i).map (·.1)) := pre_out (fun j hj => hno j (by omega))
        refine wp_exit ?_; refine tx ?_; refine tx ?_; refine bx ?_; refine tn ?_; refine wp_seq ?_; refine wp_seq ?_
        refine rg a17 s13 [(Ty.lstc 2 callC cs), (Ty.nat i), (Ty.ref [(Ty.val (Value.int .i32 ((cs.getD i D0)).1)), (Ty.lst Ty.ints ((cs.getD i D0)).2)]), (Ty.ref [(Ty.lst Ty.ints ((cs.getD i D0)).2)]), (Ty.lst Ty.ints ((cs.getD i D0)).2), (Ty.nat (List.length ((cs.getD i D0)).2)), (Ty.ref [(Ty.lst Ty.ints l)]), (Ty.lst Ty.ints l), (Ty.nat (List.length l)), (Ty.bool (decide ((((List.length l) : Nat) : Int) < (((List.length ((cs.getD i D0)).2) : Nat) : Int))))] ok15 ⟨?_, ?_, ?_, ?_, ?_, ?_, ?_, ?_, ?_, ?_, trivial⟩ ?_
        · intro A B E G H; exact rP (y_move (kp (H 1 rfl) E q44))
        · intro A B E G H; exact rP (y_move (kp (H 6 rfl) E q43))
        · intro A B E G H d0 d1; exact rP (y_indexc (i := ((i : Nat) : Int)) D0 Tryd.underlying25 Tryd.inf50 (ed d0 rfl rfl rfl) (ed d1 rfl rfl rfl) (by omega) (by omega) (by decide) (fun _ => rfl))
        · intro A B E G H d0; exact rP (y_field Tryd.fld50_1 Tryd.inf22 (by decide) (ed d0 rfl rfl rfl) rfl)
        · intro A B E G H d0; exact rP (y_load Tryd.underlying22 rfl (ed d0 rfl rfl rfl) rfl)
        · intro A B E G H d0; exact rP (y_len Tryd.underlying22 (ed d0 rfl rfl rfl))
        · intro A B E G H; exact rP (y_field Tryd.fld24_2 Tryd.inf22 (by decide) (kp (H 2 rfl) E q45) rfl)
        · intro A B E G H d0; exact rP (y_load Tryd.underlying22 rfl (ed d0 rfl rfl rfl) rfl)
        · intro A B E G H d0; exact rP (y_len Tryd.underlying22 (ed d0 rfl rfl rfl))
        · intro A B E G H d0 d1; exact rP (y_gtr (ed d0 rfl rfl rfl) (ed d1 rfl rfl rfl))
        intro a21 s17 D17; have ok19 := D17.ok; have F19 := F15.step0 D17.stp; have q57 := D17.kt q43 rfl; have q58 := D17.kt q44 rfl; have q59 := D17.kt q45 rfl; have q60 := D17.dn 9 rfl rfl; clear D17; refine tn ?_
        refine cond_p (p := ((((List.length l) : Nat) : Int) < (((List.length ((cs.getD i D0)).2) : Nat) : Int))) q60 (fun c7 => ?_) (fun c7 => ?_)
        ·
         have hs6 : l.length < (cs.getD i D0).2.length := (by omega); have hv := calls_at hc (by omega) (step_long hs4 hs5 hs6) (by decide)
         refine wp_seq ?_
         refine rg a21 s17 [(Ty.int (1 : Int))] ok19 ⟨?_, trivial⟩ ?_
         · intro A B E G H; exact rP (y_assign rfl)
         intro a22 s18 D18; have ok20 := D18.ok; have F20 := F19.step0 D18.stp; have q61 := D18.dn 0 rfl rfl; clear D18; refine tn ?_; refine wp_ret ?_; refine tr ?_; refine br ?_; refine tr ?_; refine tr ?_; refine br ?_; refine tr ?_
         exact retL1 rfl ok20 F20 (cvi (by (rw [hm]; exact hv.symm)) q61)
        ·
         have hs6 : ¬ l.length < (cs.getD i D0).2.length := (by omega)
         refine wp_skip ?_; refine tn ?_; refine wp_seq ?_
         refine rg a21 s17 [(Ty.int (0 : Int))] ok19 ⟨?_, trivial⟩ ?_
         · intro A B E G H; exact rP (y_assign rfl)
         intro a23 s19 D19; have ok21 := D19.ok; have F21 := F19.step0 D19.stp; have q62 := D19.kt q57 rfl; have q63 := D19.kt q58 rfl; have q64 := D19.kt q59 rfl; have q65 := D19.dn 0 rfl rfl; clear D19; refine tn ?_; refine wp_block ?_
         refine loop (fun n5 a24 w5 => ∃ (t5 : GW) (k : Nat), t5.w = w5 ∧ FromL [] s0 t5 ∧ Ok 88 a24 ∧ At (Ty.nat k) t5 a24 (.tmp 9) ∧ At (Ty.nat i) t5 a24 (.tmp 6) ∧ At (Ty.lstc 2 callC cs) t5 a24 (.tmp 1) ∧ At (Ty.ref [(Ty.val (Value.string nm)), (Ty.int n), (Ty.lst Ty.ints l)]) t5 a24 (.tmp 2) ∧ (k ≤ (cs.getD i D0).2.length) ∧ (allMay n ((cs.getD i D0).2.drop k) = allMay n (cs.getD i D0).2) ∧ n5 = (cs.getD i D0).2.length - k) ((cs.getD i D0).2.length - (0)) ?_ ?_
         ·
          exact ⟨s19, 0, rfl, F21, ok21, (cvi (by (first | rfl | omega | (simp_all; done) | (simp_all; omega))) q65), q62, q63, q64, by omega, rfl, rfl⟩
         ·
          rintro n6 a25 w6 ⟨t6, k, rfl, F22, ok22, q66, q67, q68, q69, hk, ha, rfl⟩
          refine wp_seq ?_; refine wp_seq ?_
          refine reg (a := a25) (σ := t6) rfl (fun i_ => List.getD [(Ty.pr (Ty.nat k)), (Ty.pr (Ty.lstc 2 callC cs)), (Ty.pr (Ty.nat i)), (Ty.pr (Ty.ref [(Ty.val (Value.int .i32 ((cs.getD i D0)).1)), (Ty.lst Ty.ints ((cs.getD i D0)).2)])), (Ty.pr (Ty.ref [(Ty.lst Ty.ints ((cs.getD i D0)).2)])), (Ty.pr (Ty.lst Ty.ints ((cs.getD i D0)).2)), (Ty.pr (Ty.nat (List.length ((cs.getD i D0)).2))), (Ty.pr (Ty.bool (decide (((k : Nat) : Int) < (((List.length ((cs.getD i D0)).2) : Nat) : Int)))))] i_ Pr.any) ok22 rfl ⟨?_, ?_, ?_, ?_, ?_, ?_, ?_, ?_, trivial⟩ ?_
          · intro A B E G H; exact rP (y_move (kp (H 9 rfl) E q66))
          · intro A B E G H; exact rP (y_move (kp (H 1 rfl) E q68))
          · intro A B E G H; exact rP (y_move (kp (H 6 rfl) E q67))
          · intro A B E G H d0 d1; exact rP (y_indexc (i := ((i : Nat) : Int)) D0 Tryd.underlying25 Tryd.inf50 (ed d0 rfl rfl rfl) (ed d1 rfl rfl rfl) (by omega) (by omega) (by decide) (fun _ => rfl))
          · intro A B E G H d0; exact rP (y_field Tryd.fld50_1 Tryd.inf22 (by decide) (ed d0 rfl rfl rfl) rfl)
          · intro A B E G H d0; exact rP (y_load Tryd.underlying22 rfl (ed d0 rfl rfl rfl) rfl)
          · intro A B E G H d0; exact rP (y_len Tryd.underlying22 (ed d0 rfl rfl rfl))
          · intro A B E G H d0 d1; exact rP (y_lss (ed d0 rfl rfl rfl) (ed d1 rfl rfl rfl))
          intro a26 s20 D20; have ok23 := D20.ok; have F23 := F22.step0 D20.stp; have q70 := D20.kt q66 rfl; have q71 := D20.kt q67 rfl; have q72 := D20.kt q68 rfl; have q73 := D20.kt q69 rfl; have q74 := D20.dn 7 rfl rfl; clear D20; refine tn ?_
          refine cond_p (p := (((k : Nat) : Int) < (((List.length ((cs.getD i D0)).2) : Nat) : Int))) q74 (fun c8 => ?_) (fun c8 => ?_)
          ·
           refine wp_skip ?_; refine tn ?_; refine wp_seq ?_; refine wp_block ?_; refine wp_seq ?_
           refine rg a26 s20 [(Ty.ref [(Ty.int n), (Ty.lst Ty.ints l)]), (Ty.int n), (Ty.lstc 2 callC cs), (Ty.nat i), (Ty.ref [(Ty.val (Value.int .i32 ((cs.getD i D0)).1)), (Ty.lst Ty.ints ((cs.getD i D0)).2)]), (Ty.ref [(Ty.lst Ty.ints ((cs.getD i D0)).2)]), (Ty.lst Ty.ints ((cs.getD i D0)).2), (Ty.nat k), (Ty.ref [(Ty.lst Ty.int (((cs.getD i D0)).2.getD k []))]), (Ty.lst Ty.int (((cs.getD i D0)).2.getD k [])), (Ty.int (chgMay n ((((cs.getD i D0)).2.getD k [])))), (Ty.int (chgMay n ((((cs.getD i D0)).2.getD k []))))] ok23 ⟨?_, ?_, ?_, ?_, ?_, ?_, ?_, ?_, ?_, ?_, ?_, ?_, trivial⟩ ?_
           · intro A B E G H; exact rP (y_field Tryd.fld24_1 Tryd.inf3 (by decide) (kp (H 2 rfl) E q73) rfl)
           · intro A B E G H d0; exact rP (y_load Tryd.underlying3 rfl (ed d0 rfl rfl rfl) rfl)
           · intro A B E G H; exact rP (y_move (kp (H 1 rfl) E q72))
           · intro A B E G H; exact rP (y_move (kp (H 6 rfl) E q71))
           · intro A B E G H d0 d1; exact rP (y_indexc (i := ((i : Nat) : Int)) D0 Tryd.underlying25 Tryd.inf50 (ed d0 rfl rfl rfl) (ed d1 rfl rfl rfl) (by omega) (by omega) (by decide) (fun _ => rfl))
           · intro A B E G H d0; exact rP (y_field Tryd.fld50_1 Tryd.inf22 (by decide) (ed d0 rfl rfl rfl) rfl)
           · intro A B E G H d0; exact rP (y_load Tryd.underlying22 rfl (ed d0 rfl rfl rfl) rfl)
           · intro A B E G H; exact rP (y_move (kp (H 9 rfl) E q70))
           · intro A B E G H d0 d1; exact rP (y_index1 Tryd.underlying22 Tryd.inf26 (ed d0 rfl rfl rfl) (ed d1 rfl rfl rfl) (by omega) (lst_get Ty.ints ((cs.getD i D0)).2 [] k (by omega)))
           · intro A B E G H d0; exact rP (y_load Tryd.underlying26 rfl (ed d0 rfl rfl rfl) rfl)
           · intro A B E G H d0 d1; exact rP (y_call #[A.eval (.tmp 75), A.eval (.tmp 83)] Tryd.func29 rfl rfl (by simp only [List.map_toArray, List.map_cons, List.map_nil]) (rChangeMay_fn (n) ((((cs.getD i D0)).2.getD k [])) _ _ _ (ed d0 rfl rfl rfl) (ed d1 rfl rfl rfl) (by omega)))
           · intro A B E G H d0 d1 d2 d3 d4 d5 d6 d7 d8 d9 d10 d11 d12; exact rP (y_assign (ed d0 rfl rfl rfl))
           intro a27 s21 D21; have ok24 := D21.ok; have F24 := F23.step0 D21.stp; have q75 := D21.kt q70 rfl; have q76 := D21.kt q71 rfl; have q77 := D21.kt q72 rfl; have q78 := D21.kt q73 rfl; have q79 := D21.dn 11 rfl rfl; clear D21; refine tn ?_; refine wp_seq ?_
           refine rg a27 s21 [(Ty.int (chgMay n ((((cs.getD i D0)).2.getD k [])))), (Ty.bool (decide ((chgMay n ((((cs.getD i D0)).2.getD k []))) ≠ (0 : Int))))] ok24 ⟨?_, ?_, trivial⟩ ?_
           · intro A B E G H; exact rP (y_move (kp (H 10 rfl) E q79))
           · intro A B E G H d0; exact rP (y_neq (ed d0 rfl rfl rfl) rfl)
           intro a28 s22 D22; have ok25 := D22.ok; have F25 := F24.step0 D22.stp; have q80 := D22.kt q75 rfl; have q81 := D22.kt q76 rfl; have q82 := D22.kt q77 rfl; have q83 := D22.kt q78 rfl; have q84 := D22.kt q79 rfl; have q85 := D22.dn 1 rfl rfl; clear D22; refine tn ?_
           refine cond_p (p := ((chgMay n ((((cs.getD i D0)).2.getD k []))) ≠ (0 : Int))) q85 (fun c9 => ?_) (fun c9 => ?_)
           ·
            have hae := allMay_stop ha (by omega) c9; have hv := calls_at hc (by omega) ((step_all hs4 hs5 hs6).trans hae) c9
            refine wp_seq ?_
            refine rg a28 s22 [(Ty.int (chgMay n ((((cs.getD i D0)).2.getD k [])))), (Ty.int (chgMay n ((((cs.getD i D0)).2.getD k []))))] ok25 ⟨?_, ?_, trivial⟩ ?_
            · intro A B E G H; exact rP (y_move (kp (H 10 rfl) E q84))
            · intro A B E G H d0 d1; exact rP (y_assign (ed d0 rfl rfl rfl))
            intro a29 s23 D23; have ok26 := D23.ok; have F26 := F25.step0 D23.stp; have q86 := D23.dn 1 rfl rfl; clear D23; refine tn ?_; refine wp_ret ?_; refine br ?_; refine tr ?_; refine tr ?_; refine br ?_; refine br ?_; refine tr ?_; refine tr ?_; refine br ?_; refine tr ?_
            exact retL1 rfl ok26 F26 (cvi (by (rw [hm]; exact hv.symm)) q86)
           ·
            refine wp_skip ?_; refine bn ?_; refine tn ?_
            refine rg a28 s22 [(Ty.nat k), (Ty.nat (k + 1)), (Ty.nat (k + 1))] ok25 ⟨?_, ?_, ?_, trivial⟩ ?_
            · intro A B E G H; exact rP (y_move (kp (H 9 rfl) E q80))
            · intro A B E G H d0; exact rP ((y_add (ed d0 rfl rfl rfl) rfl (w64 (by omega) (by omega))).mono (fun τ _ h => cvi (σ := τ) (by first | omega | exact (Int.natCast_mul _ _).symm) h))
            · intro A B E G H d0 d1 d2; exact rP (y_assign (ed d0 rfl rfl rfl))
            intro a30 s24 D24; have ok27 := D24.ok; have F27 := F25.step0 D24.stp; have q87 := D24.kt q81 rfl; have q88 := D24.kt q82 rfl; have q89 := D24.kt q83 rfl; have q90 := D24.dn 2 rfl rfl; clear D24
            exact tn ⟨(cs.getD i D0).2.length - ((k+1)), by omega, s24, (k+1), rfl, F27, ok27, (cvi (by (first | rfl | omega | (simp_all; done) | (simp_all; omega))) q90), q87, q88, q89, by omega, allMay_step ha (by omega) (by assumption), rfl⟩
          ·
           have ha0 := allMay_end ha (by omega)
           refine wp_exit ?_; refine tx ?_; refine tx ?_; refine bx ?_; refine bn ?_; refine tn ?_
           refine rg a26 s20 [(Ty.nat i), (Ty.nat (i + 1)), (Ty.nat (i + 1))] ok23 ⟨?_, ?_, ?_, trivial⟩ ?_
           · intro A B E G H; exact rP (y_move (kp (H 6 rfl) E q71))
           · intro A B E G H d0; exact rP ((y_add (ed d0 rfl rfl rfl) rfl (w64 (by omega) (by omega))).mono (fun τ _ h => cvi (σ := τ) (by first | omega | exact (Int.natCast_mul _ _).symm) h))
           · intro A B E G H d0 d1 d2; exact rP (y_assign (ed d0 rfl rfl rfl))
           intro a31 s25 D25; have ok28 := D25.ok; have F28 := F23.step0 D25.stp; have q91 := D25.kt q72 rfl; have q92 := D25.kt q73 rfl; have q93 := D25.dn 2 rfl rfl; clear D25
           exact tn ⟨cs.length - ((i+1)), by omega, s25, (i+1), rfl, F28, ok28, (cvi (by (first | rfl | omega | (simp_all; done) | (simp_all; omega))) q93), q91, q92, by omega, calls_step hc (by omega) (by rw [step_all hs4 hs5 hs6]; exact ha0), rfl⟩
    ·
     refine wp_exit ?_; refine tx ?_; refine tx ?_; refine bx ?_; refine tn ?_; refine wp_seq ?_
     refine rg a10 s8 [(Ty.int (0 : Int))] ok9 ⟨?_, trivial⟩ ?_
     · intro A B E G H; exact rP (y_assign rfl)
     intro a32 s26 D26; have ok29 := D26.ok; have F29 := F9.step0 D26.stp; have q94 := D26.dn 0 rfl rfl; clear D26; refine tn ?_; refine wp_ret ?_
     exact retL1 rfl ok29 F29 (cvi (by (rw [hm]; exact (calls_end hc (by omega)).symm)) q94)


set_option maxHeartbeats 4000000 in
set_option maxRecDepth 100000 in
theorem small_fn (n : Nat) (σ : GW)  (v0 : Value) (hv0 : Ty.has (Ty.nat n) σ v0)  (hn : n < 100) :
    FnC Tryd.prog 72 #[v0] σ (Ty.val (Value.string (decB n))) := by
 have hz1 := digits_size
 have hz2 := smalls_size
 refine fn_intro0 Tryd.func72 rfl Tryd.ntmps72 (Nat.le_of_ble_eq_true rfl) (fun s0 a0 hle F0 ok0 hargs => ?_)
 have p0 : At (Ty.nat n) s0 a0 (.tmp 0) := by have e := hargs 0 _ rfl; show Ty.has _ _ _; rw [e]; exact Ty.up _ hle hv0
 clear hargs; refine wp_seq ?_
 refine rg a0 s0 [(Ty.val (Value.string (ByteArray.mk #[])))] ok0 ⟨?_, trivial⟩ ?_
 · intro A B E G H; exact rP (y_assign rfl)
 intro a1 s1 D1; have ok1 := D1.ok; have F1 := F0.step0 D1.stp; have q1 := D1.kt p0 rfl; clear D1; refine tn ?_; refine wp_seq ?_; refine wp_seq ?_
 refine rg a1 s1 [(Ty.nat n), (Ty.bool (decide (((n : Nat) : Int) < (10 : Int))))] ok1 ⟨?_, ?_, trivial⟩ ?_
 · intro A B E G H; exact rP (y_move (kp (H 0 rfl) E q1))
 · intro A B E G H d0; exact rP (y_lss (ed d0 rfl rfl rfl) rfl)
 intro a2 s2 D2; have ok2 := D2.ok; have F2 := F1.step0 D2.stp; have q2 := D2.kt q1 rfl; have q3 := D2.dn 1 rfl rfl; clear D2; refine tn ?_
 refine cond_p (p := (((n : Nat) : Int) < (10 : Int))) q3 (fun c1 => ?_) (fun c1 => ?_)
 ·
  refine wp_seq ?_
  refine rg a2 s2 [(Ty.nat n), (Ty.nat n), (Ty.nat (n + 1)), (Ty.val (Value.string (ByteArray.extract digitsB n (n + 1)))), (Ty.val (Value.string (ByteArray.extract digitsB n (n + 1))))] ok2 ⟨?_, ?_, ?_, ?_, ?_, trivial⟩ ?_
  · intro A B E G H; exact rP (y_move (kp (H 0 rfl) E q2))
  · intro A B E G H; exact rP (y_move (kp (H 0 rfl) E q2))
  · intro A B E G H d0; exact rP ((y_add (ed d0 rfl rfl rfl) rfl (w64 (by omega) (by omega))).mono (fun τ _ h => cvi (σ := τ) (by first | omega | exact (Int.natCast_mul _ _).symm) h))
  · intro A B E G H d0 d1; exact rP (y_sft (l := n) (h := (n + 1)) Tryd.underlying9 rfl (ed d0 rfl rfl rfl) (ed d1 rfl rfl rfl) (by omega) (by omega))
  · intro A B E G H d0 d1 d2 d3 d4; exact rP (y_assign (ed d0 rfl rfl rfl))
  intro a3 s3 D3; have ok3 := D3.ok; have F3 := F2.step0 D3.stp; have q4 := D3.dn 4 rfl rfl; clear D3; refine tn ?_; refine wp_ret ?_; refine tr ?_
  exact retL1 rfl ok3 F3 (cvt (by (rw [small_lo (by omega)])) q4)
 ·
  refine wp_skip ?_; refine tn ?_; refine wp_seq ?_
  refine rg a2 s2 [(Ty.nat n), (Ty.nat (n * 2)), (Ty.nat n), (Ty.nat (n * 2)), (Ty.nat ((n * 2) + 2)), (Ty.val (Value.string (ByteArray.extract smallsB (n * 2) ((n * 2) + 2)))), (Ty.val (Value.string (ByteArray.extract smallsB (n * 2) ((n * 2) + 2))))] ok2 ⟨?_, ?_, ?_, ?_, ?_, ?_, ?_, trivial⟩ ?_
  · intro A B E G H; exact rP (y_move (kp (H 0 rfl) E q2))
  · intro A B E G H d0; exact rP ((y_mul (ed d0 rfl rfl rfl) rfl (w64 (by omega) (by omega))).mono (fun τ _ h => cvi (σ := τ) (by first | omega | exact (Int.natCast_mul _ _).symm) h))
  · intro A B E G H; exact rP (y_move (kp (H 0 rfl) E q2))
  · intro A B E G H d0; exact rP ((y_mul (ed d0 rfl rfl rfl) rfl (w64 (by omega) (by omega))).mono (fun τ _ h => cvi (σ := τ) (by first | omega | exact (Int.natCast_mul _ _).symm) h))
  · intro A B E G H d0; exact rP ((y_add (ed d0 rfl rfl rfl) rfl (w64 (by omega) (by omega))).mono (fun τ _ h => cvi (σ := τ) (by first | omega | exact (Int.natCast_mul _ _).symm) h))
  · intro A B E G H d0 d1; exact rP (y_sft (l := (n * 2)) (h := ((n * 2) + 2)) Tryd.underlying9 rfl (ed d0 rfl rfl rfl) (ed d1 rfl rfl rfl) (by omega) (by omega))
  · intro A B E G H d0 d1 d2 d3 d4 d5 d6; exact rP (y_assign (ed d0 rfl rfl rfl))
  intro a4 s4 D4; have ok4 := D4.ok; have F4 := F2.step0 D4.stp; have q5 := D4.dn 6 rfl rfl; clear D4; refine tn ?_; refine wp_ret ?_
  exact retL1 rfl ok4 F4 (cvt (by (rw [small_hi (by omega) (by omega)])) q5)


set_option maxHeartbeats 4000000 in
set_option maxRecDepth 100000 in
theorem formatInt_fn (n : Nat) (b : Int) (σ : GW)  (v0 v1 : Value) (hv0 : Ty.has (Ty.nat n) σ v0) (hv1 : Ty.has (Ty.int b) σ v1)  (hn : n < 100) (hb : b = 10) :
    FnC Tryd.prog 62 #[v0, v1] σ (Ty.val (Value.string (decB n))) := by
 refine fn_intro0 Tryd.func62 rfl Tryd.ntmps62 (Nat.le_of_ble_eq_true rfl) (fun s0 a0 hle F0 ok0 hargs => ?_)
 have p0 : At (Ty.nat n) s0 a0 (.tmp 0) := by have e := hargs 0 _ rfl; show Ty.has _ _ _; rw [e]; exact Ty.up _ hle hv0
 have p1 : At (Ty.int b) s0 a0 (.tmp 1) := by have e := hargs 1 _ rfl; show Ty.has _ _ _; rw [e]; exact Ty.up _ hle hv1
 clear hargs; refine wp_seq ?_
 refine rg a0 s0 [(Ty.val (Value.string (ByteArray.mk #[])))] ok0 ⟨?_, trivial⟩ ?_
 · intro A B E G H; exact rP (y_assign rfl)
 intro a1 s1 D1; have ok1 := D1.ok; have F1 := F0.step0 D1.stp; have q1 := D1.kt p0 rfl; have q2 := D1.kt p1 rfl; clear D1; refine tn ?_; refine wp_seq ?_; refine wp_seq ?_
 refine rg a1 s1 [(Ty.int b), (Ty.bool (decide (b = (10 : Int))))] ok1 ⟨?_, ?_, trivial⟩ ?_
 · intro A B E G H; exact rP (y_move (kp (H 1 rfl) E q2))
 · intro A B E G H d0; exact rP (y_eql (ed d0 rfl rfl rfl) rfl)
 intro a2 s2 D2; have ok2 := D2.ok; have F2 := F1.step0 D2.stp; have q3 := D2.kt q1 rfl; have q4 := D2.kt q2 rfl; have q5 := D2.dn 1 rfl rfl; clear D2; refine tn ?_
 refine cond_p (p := (b = (10 : Int))) q5 (fun c1 => ?_) (fun c1 => ?_)
 ·
  refine wp_seq ?_; refine wp_seq ?_
  refine rg a2 s2 [(Ty.nat n), (Ty.bool (decide ((0 : Int) ≤ ((n : Nat) : Int)))), (Ty.bool (decide ((0 : Int) ≤ ((n : Nat) : Int)))), (Ty.grd ((decide ((0 : Int) ≤ ((n : Nat) : Int))) = true) (Ty.nat n)), (Ty.grd ((decide ((0 : Int) ≤ ((n : Nat) : Int))) = true) (Ty.bool (decide (((n : Nat) : Int) < (100 : Int))))), (Ty.bool ((decide ((0 : Int) ≤ ((n : Nat) : Int))) && (decide (((n : Nat) : Int) < (100 : Int)))))] ok2 ⟨?_, ?_, ?_, ?_, ?_, ?_, trivial⟩ ?_
  · intro A B E G H; exact rP (y_move (kp (H 0 rfl) E q3))
  · intro A B E G H d0; exact rP (y_leq rfl (ed d0 rfl rfl rfl))
  · intro A B E G H d0; exact rP (y_move (ed d0 rfl rfl rfl))
  · intro A B E G H d0
    refine run_guard G rfl rfl (by decide) (ed d0 rfl rfl rfl) (fun hg => ?_)
    have hp := of_decide_eq_true hg
    exact y_move (kp (H 0 rfl) E q3)
  · intro A B E G H d0 d1
    refine run_guard G rfl rfl (by decide) (ed d1 rfl rfl rfl) (fun hg => ?_)
    have hp := of_decide_eq_true hg
    exact y_lss ((ed d0 rfl rfl rfl).1 hg) rfl
  · intro A B E G H d0 d1; exact rP (y_pick_and (ed d0 rfl rfl rfl) (ed d1 rfl rfl rfl) rfl)
  intro a3 s3 D3; have ok3 := D3.ok; have F3 := F2.step0 D3.stp; have q6 := D3.kt q3 rfl; have q7 := D3.dn 5 rfl rfl; clear D3; refine tn ?_
  refine cond_t q7 (fun c2 => ?_) (fun c2 => ?_)
  ·
   obtain ⟨d1, d2⟩ := Bool.and_eq_true_iff.mp c2
   replace d1 := of_decide_eq_true d1
   replace d2 := of_decide_eq_true d2
   refine wp_seq ?_
   refine rg a3 s3 [(Ty.nat n), (Ty.val (Value.string (decB n))), (Ty.val (Value.string (decB n)))] ok3 ⟨?_, ?_, ?_, trivial⟩ ?_
   · intro A B E G H; exact rP (y_move (kp (H 0 rfl) E q6))
   · intro A B E G H d0; exact rP (y_call #[A.eval (.tmp 18)] Tryd.func72 rfl rfl (by simp only [List.map_toArray, List.map_cons, List.map_nil]) (small_fn (n) _ _ (ed d0 rfl rfl rfl) (by omega)))
   · intro A B E G H d0 d1 d2 d3; exact rP (y_assign (ed d0 rfl rfl rfl))
   intro a4 s4 D4; have ok4 := D4.ok; have F4 := F3.step0 D4.stp; have q8 := D4.dn 2 rfl rfl; clear D4; refine tn ?_; refine wp_ret ?_; refine tr ?_; refine tr ?_
   exact retL1 rfl ok4 F4 q8
  ·
   exfalso
   simp at c2; omega
 ·
  exfalso
  omega


set_option maxHeartbeats 4000000 in
set_option maxRecDepth 100000 in
theorem itoa0_fn (n : Nat) (σ : GW)  (v0 : Value) (hv0 : Ty.has (Ty.nat n) σ v0)  (hn : n < 100) :
    FnC Tryd.prog 48 #[v0] σ (Ty.val (Value.string (decB n))) := by
 refine fn_intro0 Tryd.func48 rfl Tryd.ntmps48 (Nat.le_of_ble_eq_true rfl) (fun s0 a0 hle F0 ok0 hargs => ?_)
 have p0 : At (Ty.nat n) s0 a0 (.tmp 0) := by have e := hargs 0 _ rfl; show Ty.has _ _ _; rw [e]; exact Ty.up _ hle hv0
 clear hargs; refine wp_seq ?_
 refine rg a0 s0 [(Ty.val (Value.string (ByteArray.mk #[])))] ok0 ⟨?_, trivial⟩ ?_
 · intro A B E G H; exact rP (y_assign rfl)
 intro a1 s1 D1; have ok1 := D1.ok; have F1 := F0.step0 D1.stp; have q1 := D1.kt p0 rfl; clear D1; refine tn ?_; refine wp_seq ?_
 refine rg a1 s1 [(Ty.nat n), (Ty.val (Value.string (decB n))), (Ty.val (Value.string (decB n)))] ok1 ⟨?_, ?_, ?_, trivial⟩ ?_
 · intro A B E G H; exact rP (y_move (kp (H 0 rfl) E q1))
 · intro A B E G H d0; exact rP (y_call #[A.eval (.tmp 3), A.eval ((Operand.const (Value.int IntKind.i64 10)))] Tryd.func62 rfl rfl (by simp only [List.map_toArray, List.map_cons, List.map_nil]) (formatInt_fn (n) ((10 : Int)) _ _ _ (ed d0 rfl rfl rfl) (cvi (σ := B) (by first | omega | rfl) rfl) (by first | omega | rfl) (by first | omega | rfl)))
 · intro A B E G H d0 d1 d2 d3; exact rP (y_assign (ed d0 rfl rfl rfl))
 intro a2 s2 D2; have ok2 := D2.ok; have F2 := F1.step0 D2.stp; have q2 := D2.dn 2 rfl rfl; clear D2; refine tn ?_; refine wp_ret ?_
 exact retL1 rfl ok2 F2 q2


set_option maxHeartbeats 4000000 in
set_option maxRecDepth 100000 in
theorem itoa_fn (n : Nat) (σ : GW)  (v0 : Value) (hv0 : Ty.has (Ty.nat n) σ v0)  (hn : n < 100) :
    FnC Tryd.prog 31 #[v0] σ (Ty.val (Value.string (decB n))) := by
 refine fn_intro0 Tryd.func31 rfl Tryd.ntmps31 (Nat.le_of_ble_eq_true rfl) (fun s0 a0 hle F0 ok0 hargs => ?_)
 have p0 : At (Ty.nat n) s0 a0 (.tmp 0) := by have e := hargs 0 _ rfl; show Ty.has _ _ _; rw [e]; exact Ty.up _ hle hv0
 clear hargs; refine wp_seq ?_
 refine rg a0 s0 [(Ty.val (Value.string (ByteArray.mk #[])))] ok0 ⟨?_, trivial⟩ ?_
 · intro A B E G H; exact rP (y_assign rfl)
 intro a1 s1 D1; have ok1 := D1.ok; have F1 := F0.step0 D1.stp; have q1 := D1.kt p0 rfl; clear D1; refine tn ?_; refine wp_seq ?_
 refine rg a1 s1 [(Ty.nat n), (Ty.val (Value.string (decB n))), (Ty.val (Value.string (decB n)))] ok1 ⟨?_, ?_, ?_, trivial⟩ ?_
 · intro A B E G H; exact rP (y_move (kp (H 0 rfl) E q1))
 · intro A B E G H d0; exact rP (y_call #[A.eval (.tmp 3)] Tryd.func48 rfl rfl (by simp only [List.map_toArray, List.map_cons, List.map_nil]) (itoa0_fn (n) _ _ (ed d0 rfl rfl rfl) (by omega)))
 · intro A B E G H d0 d1 d2 d3; exact rP (y_assign (ed d0 rfl rfl rfl))
 intro a2 s2 D2; have ok2 := D2.ok; have F2 := F1.step0 D2.stp; have q2 := D2.dn 2 rfl rfl; clear D2; refine tn ?_; refine wp_ret ?_
 exact retL1 rfl ok2 F2 q2


end Go.Proofs.YtbilebfnanlgfaaDoor
