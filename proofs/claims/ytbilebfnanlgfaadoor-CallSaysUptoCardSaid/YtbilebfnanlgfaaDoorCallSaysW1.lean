/- The functions that the law CallSays reaches, each by its contract. Part 1. -/
import Derived.Test.YtbilebfnanlgfaaDoorCallSaysK1
import Derived.Test.YtbilebfnanlgfaaDoorCallSaysK2
import Derived.Test.YtbilebfnanlgfaaDoorProg
namespace Go.Proofs.YtbilebfnanlgfaaDoor
open Go.KL

set_option maxHeartbeats 4000000 in
set_option maxRecDepth 100000 in
theorem callSign_fn (c : Int) (σ : GW)  (v0 : Value) (hv0 : Ty.has (Ty.val (Value.int .i32 c)) σ v0)   :
    FnC Tryd.prog 6 #[v0] σ (Ty.bool (signMay c)) := by
 refine fn_intro0 Tryd.func6 rfl Tryd.ntmps6 (Nat.le_of_ble_eq_true rfl) (fun s0 a0 hle F0 ok0 hargs => ?_)
 have p0 : At (Ty.val (Value.int .i32 c)) s0 a0 (.tmp 0) := by have e := hargs 0 _ rfl; show Ty.has _ _ _; rw [e]; exact Ty.up _ hle hv0
 clear hargs; refine wp_seq ?_
 refine rg a0 s0 [(Ty.bool false)] ok0 ⟨?_, trivial⟩ ?_
 · intro A B E G H; exact rP (y_assign rfl)
 intro a1 s1 D1; have ok1 := D1.ok; have F1 := F0.step0 D1.stp; have q1 := D1.kt p0 rfl; clear D1; refine tn ?_; refine wp_seq ?_
 refine rg a1 s1 [(Ty.val (Value.int .i32 c)), (Ty.bool (decide ((32 : Int) < c))), (Ty.bool (decide ((32 : Int) < c))), (Ty.grd ((decide ((32 : Int) < c)) = true) (Ty.val (Value.int .i32 c))), (Ty.grd ((decide ((32 : Int) < c)) = true) (Ty.bool (decide (c < (12288 : Int))))), (Ty.bool ((decide ((32 : Int) < c)) && (decide (c < (12288 : Int))))), (Ty.bool ((decide ((32 : Int) < c)) && (decide (c < (12288 : Int))))), (Ty.grd (((decide ((32 : Int) < c)) && (decide (c < (12288 : Int)))) = true) (Ty.val (Value.int .i32 c))), (Ty.grd (((decide ((32 : Int) < c)) && (decide (c < (12288 : Int)))) = true) (Ty.bool (decide (c ≠ (40 : Int))))), (Ty.bool (((decide ((32 : Int) < c)) && (decide (c < (12288 : Int)))) && (decide (c ≠ (40 : Int))))), (Ty.bool (((decide ((32 : Int) < c)) && (decide (c < (12288 : Int)))) && (decide (c ≠ (40 : Int))))), (Ty.grd ((((decide ((32 : Int) < c)) && (decide (c < (12288 : Int)))) && (decide (c ≠ (40 : Int)))) = true) (Ty.val (Value.int .i32 c))), (Ty.grd ((((decide ((32 : Int) < c)) && (decide (c < (12288 : Int)))) && (decide (c ≠ (40 : Int)))) = true) (Ty.bool (decide (c ≠ (41 : Int))))), (Ty.bool ((((decide ((32 : Int) < c)) && (decide (c < (12288 : Int)))) && (decide (c ≠ (40 : Int)))) && (decide (c ≠ (41 : Int))))), (Ty.bool ((((decide ((32 : Int) < c)) && (decide (c < (12288 : Int)))) && (decide (c ≠ (40 : Int)))) && (decide (c ≠ (41 : Int))))), (Ty.grd (((((decide ((32 : Int) < c)) && (decide (c < (12288 : Int)))) && (decide (c ≠ (40 : Int)))) && (decide (c ≠ (41 : Int)))) = true) (Ty.val (Value.int .i32 c))), (Ty.grd (((((decide ((32 : Int) < c)) && (decide (c < (12288 : Int)))) && (decide (c ≠ (40 : Int)))) && (decide (c ≠ (41 : Int)))) = true) (Ty.bool (decide (c < (48 : Int))))), (Ty.grd (((((decide ((32 : Int) < c)) && (decide (c < (12288 : Int)))) && (decide (c ≠ (40 : Int)))) && (decide (c ≠ (41 : Int)))) = true) (Ty.bool (decide (c < (48 : Int))))), (Ty.grd ((((((decide ((32 : Int) < c)) && (decide (c < (12288 : Int)))) && (decide (c ≠ (40 : Int)))) && (decide (c ≠ (41 : Int)))) = true) ∧ (decide (c < (48 : Int))) = false) (Ty.val (Value.int .i32 c))), (Ty.grd ((((((decide ((32 : Int) < c)) && (decide (c < (12288 : Int)))) && (decide (c ≠ (40 : Int)))) && (decide (c ≠ (41 : Int)))) = true) ∧ (decide (c < (48 : Int))) = false) (Ty.bool (decide ((57 : Int) < c)))), (Ty.grd (((((decide ((32 : Int) < c)) && (decide (c < (12288 : Int)))) && (decide (c ≠ (40 : Int)))) && (decide (c ≠ (41 : Int)))) = true) (Ty.bool ((decide (c < (48 : Int))) || (decide ((57 : Int) < c))))), (Ty.bool (((((decide ((32 : Int) < c)) && (decide (c < (12288 : Int)))) && (decide (c ≠ (40 : Int)))) && (decide (c ≠ (41 : Int)))) && ((decide (c < (48 : Int))) || (decide ((57 : Int) < c))))), (Ty.bool (((((decide ((32 : Int) < c)) && (decide (c < (12288 : Int)))) && (decide (c ≠ (40 : Int)))) && (decide (c ≠ (41 : Int)))) && ((decide (c < (48 : Int))) || (decide ((57 : Int) < c))))), (Ty.grd ((((((decide ((32 : Int) < c)) && (decide (c < (12288 : Int)))) && (decide (c ≠ (40 : Int)))) && (decide (c ≠ (41 : Int)))) && ((decide (c < (48 : Int))) || (decide ((57 : Int) < c)))) = true) (Ty.val (Value.int .i32 c))), (Ty.grd ((((((decide ((32 : Int) < c)) && (decide (c < (12288 : Int)))) && (decide (c ≠ (40 : Int)))) && (decide (c ≠ (41 : Int)))) && ((decide (c < (48 : Int))) || (decide ((57 : Int) < c)))) = true) (Ty.bool (decide (c < (127 : Int))))), (Ty.grd ((((((decide ((32 : Int) < c)) && (decide (c < (12288 : Int)))) && (decide (c ≠ (40 : Int)))) && (decide (c ≠ (41 : Int)))) && ((decide (c < (48 : Int))) || (decide ((57 : Int) < c)))) = true) (Ty.bool (decide (c < (127 : Int))))), (Ty.grd (((((((decide ((32 : Int) < c)) && (decide (c < (12288 : Int)))) && (decide (c ≠ (40 : Int)))) && (decide (c ≠ (41 : Int)))) && ((decide (c < (48 : Int))) || (decide ((57 : Int) < c)))) = true) ∧ (decide (c < (127 : Int))) = false) (Ty.val (Value.int .i32 c))), (Ty.grd (((((((decide ((32 : Int) < c)) && (decide (c < (12288 : Int)))) && (decide (c ≠ (40 : Int)))) && (decide (c ≠ (41 : Int)))) && ((decide (c < (48 : Int))) || (decide ((57 : Int) < c)))) = true) ∧ (decide (c < (127 : Int))) = false) (Ty.bool (decide ((161 : Int) ≤ c)))), (Ty.grd ((((((decide ((32 : Int) < c)) && (decide (c < (12288 : Int)))) && (decide (c ≠ (40 : Int)))) && (decide (c ≠ (41 : Int)))) && ((decide (c < (48 : Int))) || (decide ((57 : Int) < c)))) = true) (Ty.bool ((decide (c < (127 : Int))) || (decide ((161 : Int) ≤ c))))), (Ty.bool ((((((decide ((32 : Int) < c)) && (decide (c < (12288 : Int)))) && (decide (c ≠ (40 : Int)))) && (decide (c ≠ (41 : Int)))) && ((decide (c < (48 : Int))) || (decide ((57 : Int) < c)))) && ((decide (c < (127 : Int))) || (decide ((161 : Int) ≤ c))))), (Ty.bool ((((((decide ((32 : Int) < c)) && (decide (c < (12288 : Int)))) && (decide (c ≠ (40 : Int)))) && (decide (c ≠ (41 : Int)))) && ((decide (c < (48 : Int))) || (decide ((57 : Int) < c)))) && ((decide (c < (127 : Int))) || (decide ((161 : Int) ≤ c)))))] ok1 ⟨?_, ?_, ?_, ?_, ?_, ?_, ?_, ?_, ?_, ?_, ?_, ?_, ?_, ?_, ?_, ?_, ?_, ?_, ?_, ?_, ?_, ?_, ?_, ?_, ?_, ?_, ?_, ?_, ?_, ?_, ?_, trivial⟩ ?_
 · intro A B E G H; exact rP (y_move (kp (H 0 rfl) E q1))
 · intro A B E G H d0; exact rP (y_gtr (ed d0 rfl rfl rfl) rfl)
 · intro A B E G H d0; exact rP (y_move (ed d0 rfl rfl rfl))
 · intro A B E G H d0
   refine run_guard G rfl rfl (by decide) (ed d0 rfl rfl rfl) (fun hg => ?_)
   have hp := of_decide_eq_true hg
   exact y_move (kp (H 0 rfl) E q1)
 · intro A B E G H d0 d1
   refine run_guard G rfl rfl (by decide) (ed d1 rfl rfl rfl) (fun hg => ?_)
   have hp := of_decide_eq_true hg
   exact y_lss ((ed d0 rfl rfl rfl).1 hg) rfl
 · intro A B E G H d0 d1; exact rP (y_pick_and (ed d0 rfl rfl rfl) (ed d1 rfl rfl rfl) rfl)
 · intro A B E G H d0 d1; exact rP (y_move (ed d0 rfl rfl rfl))
 · intro A B E G H d0
   refine run_guard G rfl rfl (by decide) (ed d0 rfl rfl rfl) (fun hg => ?_)
   obtain ⟨d1, d2⟩ := Bool.and_eq_true_iff.mp hg
   have d1 := of_decide_eq_true d1
   have d2 := of_decide_eq_true d2
   exact y_move (kp (H 0 rfl) E q1)
 · intro A B E G H d0 d1
   refine run_guard G rfl rfl (by decide) (ed d1 rfl rfl rfl) (fun hg => ?_)
   obtain ⟨d3, d4⟩ := Bool.and_eq_true_iff.mp hg
   have d3 := of_decide_eq_true d3
   have d4 := of_decide_eq_true d4
   exact y_neq ((ed d0 rfl rfl rfl).1 hg) rfl
 · intro A B E G H d0 d1; exact rP (y_pick_and (ed d0 rfl rfl rfl) (ed d1 rfl rfl rfl) rfl)
 · intro A B E G H d0 d1; exact rP (y_move (ed d0 rfl rfl rfl))
 · intro A B E G H d0
   refine run_guard G rfl rfl (by decide) (ed d0 rfl rfl rfl) (fun hg => ?_)
   obtain ⟨d5, d6⟩ := Bool.and_eq_true_iff.mp hg
   obtain ⟨d7, d8⟩ := Bool.and_eq_true_iff.mp d5
   have d7 := of_decide_eq_true d7
   have d8 := of_decide_eq_true d8
   have d6 := of_decide_eq_true d6
   exact y_move (kp (H 0 rfl) E q1)
 · intro A B E G H d0 d1
   refine run_guard G rfl rfl (by decide) (ed d1 rfl rfl rfl) (fun hg => ?_)
   obtain ⟨d9, d10⟩ := Bool.and_eq_true_iff.mp hg
   obtain ⟨d11, d12⟩ := Bool.and_eq_true_iff.mp d9
   have d11 := of_decide_eq_true d11
   have d12 := of_decide_eq_true d12
   have d10 := of_decide_eq_true d10
   exact y_neq ((ed d0 rfl rfl rfl).1 hg) rfl
 · intro A B E G H d0 d1; exact rP (y_pick_and (ed d0 rfl rfl rfl) (ed d1 rfl rfl rfl) rfl)
 · intro A B E G H d0 d1; exact rP (y_move (ed d0 rfl rfl rfl))
 · intro A B E G H d0
   refine run_guard G rfl rfl (by decide) (ed d0 rfl rfl rfl) (fun hg => ?_)
   obtain ⟨d13, d14⟩ := Bool.and_eq_true_iff.mp hg
   obtain ⟨d15, d16⟩ := Bool.and_eq_true_iff.mp d13
   obtain ⟨d17, d18⟩ := Bool.and_eq_true_iff.mp d15
   have d17 := of_decide_eq_true d17
   have d18 := of_decide_eq_true d18
   have d16 := of_decide_eq_true d16
   have d14 := of_decide_eq_true d14
   exact y_move (kp (H 0 rfl) E q1)
 · intro A B E G H d0 d1
   refine run_guard G rfl rfl (by decide) (ed d1 rfl rfl rfl) (fun hg => ?_)
   obtain ⟨d19, d20⟩ := Bool.and_eq_true_iff.mp hg
   obtain ⟨d21, d22⟩ := Bool.and_eq_true_iff.mp d19
   obtain ⟨d23, d24⟩ := Bool.and_eq_true_iff.mp d21
   have d23 := of_decide_eq_true d23
   have d24 := of_decide_eq_true d24
   have d22 := of_decide_eq_true d22
   have d20 := of_decide_eq_true d20
   exact y_lss ((ed d0 rfl rfl rfl).1 hg) rfl
 · intro A B E G H d0 d1 d2
   refine run_guard G rfl rfl (by decide) (ed d1 rfl rfl rfl) (fun hg => ?_)
   obtain ⟨d25, d26⟩ := Bool.and_eq_true_iff.mp hg
   obtain ⟨d27, d28⟩ := Bool.and_eq_true_iff.mp d25
   obtain ⟨d29, d30⟩ := Bool.and_eq_true_iff.mp d27
   have d29 := of_decide_eq_true d29
   have d30 := of_decide_eq_true d30
   have d28 := of_decide_eq_true d28
   have d26 := of_decide_eq_true d26
   exact y_move ((ed d0 rfl rfl rfl).1 hg)
 · intro A B E G H d0
   refine run_guard2 G rfl rfl (by decide) (ed d0 rfl rfl rfl) (fun hg => ?_)
   have hp := of_decide_eq_false hg.2
   exact y_move (kp (H 0 rfl) E q1)
 · intro A B E G H d0 d1
   refine run_guard2 G rfl rfl (by decide) (ed d1 rfl rfl rfl) (fun hg => ?_)
   have hp := of_decide_eq_false hg.2
   exact y_gtr ((ed d0 rfl rfl rfl).1 hg) rfl
 · intro A B E G H d0 d1 d2
   refine run_guard G rfl rfl (by decide) (ed d2 rfl rfl rfl) (fun hg => ?_)
   obtain ⟨d31, d32⟩ := Bool.and_eq_true_iff.mp hg
   obtain ⟨d33, d34⟩ := Bool.and_eq_true_iff.mp d31
   obtain ⟨d35, d36⟩ := Bool.and_eq_true_iff.mp d33
   have d35 := of_decide_eq_true d35
   have d36 := of_decide_eq_true d36
   have d34 := of_decide_eq_true d34
   have d32 := of_decide_eq_true d32
   exact y_pick_or ((ed d0 rfl rfl rfl).1 hg) rfl (grd_part hg (ed d1 rfl rfl rfl))
 · intro A B E G H d0 d1; exact rP (y_pick_and (ed d0 rfl rfl rfl) (ed d1 rfl rfl rfl) rfl)
 · intro A B E G H d0 d1; exact rP (y_move (ed d0 rfl rfl rfl))
 · intro A B E G H d0
   refine run_guard G rfl rfl (by decide) (ed d0 rfl rfl rfl) (fun hg => ?_)
   obtain ⟨d37, d38⟩ := Bool.and_eq_true_iff.mp hg
   obtain ⟨d39, d40⟩ := Bool.and_eq_true_iff.mp d37
   obtain ⟨d41, d42⟩ := Bool.and_eq_true_iff.mp d39
   obtain ⟨d43, d44⟩ := Bool.and_eq_true_iff.mp d41
   have d43 := of_decide_eq_true d43
   have d44 := of_decide_eq_true d44
   have d42 := of_decide_eq_true d42
   have d40 := of_decide_eq_true d40
   exact y_move (kp (H 0 rfl) E q1)
 · intro A B E G H d0 d1
   refine run_guard G rfl rfl (by decide) (ed d1 rfl rfl rfl) (fun hg => ?_)
   obtain ⟨d45, d46⟩ := Bool.and_eq_true_iff.mp hg
   obtain ⟨d47, d48⟩ := Bool.and_eq_true_iff.mp d45
   obtain ⟨d49, d50⟩ := Bool.and_eq_true_iff.mp d47
   obtain ⟨d51, d52⟩ := Bool.and_eq_true_iff.mp d49
   have d51 := of_decide_eq_true d51
   have d52 := of_decide_eq_true d52
   have d50 := of_decide_eq_true d50
   have d48 := of_decide_eq_true d48
   exact y_lss ((ed d0 rfl rfl rfl).1 hg) rfl
 · intro A B E G H d0 d1 d2
   refine run_guard G rfl rfl (by decide) (ed d1 rfl rfl rfl) (fun hg => ?_)
   obtain ⟨d53, d54⟩ := Bool.and_eq_true_iff.mp hg
   obtain ⟨d55, d56⟩ := Bool.and_eq_true_iff.mp d53
   obtain ⟨d57, d58⟩ := Bool.and_eq_true_iff.mp d55
   obtain ⟨d59, d60⟩ := Bool.and_eq_true_iff.mp d57
   have d59 := of_decide_eq_true d59
   have d60 := of_decide_eq_true d60
   have d58 := of_decide_eq_true d58
   have d56 := of_decide_eq_true d56
   exact y_move ((ed d0 rfl rfl rfl).1 hg)
 · intro A B E G H d0
   refine run_guard2 G rfl rfl (by decide) (ed d0 rfl rfl rfl) (fun hg => ?_)
   have hp := of_decide_eq_false hg.2
   exact y_move (kp (H 0 rfl) E q1)
 · intro A B E G H d0 d1
   refine run_guard2 G rfl rfl (by decide) (ed d1 rfl rfl rfl) (fun hg => ?_)
   have hp := of_decide_eq_false hg.2
   exact y_geq ((ed d0 rfl rfl rfl).1 hg) rfl
 · intro A B E G H d0 d1 d2
   refine run_guard G rfl rfl (by decide) (ed d2 rfl rfl rfl) (fun hg => ?_)
   obtain ⟨d61, d62⟩ := Bool.and_eq_true_iff.mp hg
   obtain ⟨d63, d64⟩ := Bool.and_eq_true_iff.mp d61
   obtain ⟨d65, d66⟩ := Bool.and_eq_true_iff.mp d63
   obtain ⟨d67, d68⟩ := Bool.and_eq_true_iff.mp d65
   have d67 := of_decide_eq_true d67
   have d68 := of_decide_eq_true d68
   have d66 := of_decide_eq_true d66
   have d64 := of_decide_eq_true d64
   exact y_pick_or ((ed d0 rfl rfl rfl).1 hg) rfl (grd_part hg (ed d1 rfl rfl rfl))
 · intro A B E G H d0 d1; exact rP (y_pick_and (ed d0 rfl rfl rfl) (ed d1 rfl rfl rfl) rfl)
 · intro A B E G H d0 d1 d2 d3 d4 d5 d6 d7 d8 d9 d10 d11 d12 d13 d14 d15 d16 d17 d18 d19 d20 d21 d22 d23 d24 d25 d26 d27 d28 d29 d30 d31; exact rP (y_assign (ed d0 rfl rfl rfl))
 intro a2 s2 D2; have ok2 := D2.ok; have F2 := F1.step0 D2.stp; have q2 := D2.dn 30 rfl rfl; clear D2; refine tn ?_; refine wp_ret ?_
 exact retL1 rfl ok2 F2 (cvb (by (rw [Bool.eq_iff_iff]; simp only [signMay, Bool.and_eq_true, Bool.or_eq_true, decide_eq_true_eq]; omega)) q2)


set_option maxHeartbeats 4000000 in
set_option maxRecDepth 100000 in
theorem rSignMay_fn (c : Int) (σ : GW)  (v0 : Value) (hv0 : Ty.has (Ty.val (Value.int .i32 c)) σ v0)   :
    FnC Tryd.prog 7 #[v0] σ (Ty.bool (signMay c)) := by
 refine fn_intro0 Tryd.func7 rfl Tryd.ntmps7 (Nat.le_of_ble_eq_true rfl) (fun s0 a0 hle F0 ok0 hargs => ?_)
 have p0 : At (Ty.val (Value.int .i32 c)) s0 a0 (.tmp 0) := by have e := hargs 0 _ rfl; show Ty.has _ _ _; rw [e]; exact Ty.up _ hle hv0
 clear hargs; refine wp_seq ?_
 refine rg a0 s0 [(Ty.bool false)] ok0 ⟨?_, trivial⟩ ?_
 · intro A B E G H; exact rP (y_assign rfl)
 intro a1 s1 D1; have ok1 := D1.ok; have F1 := F0.step0 D1.stp; have q1 := D1.kt p0 rfl; clear D1; refine tn ?_; refine wp_seq ?_
 refine rg a1 s1 [(Ty.val (Value.int .i32 c)), (Ty.bool (decide ((48 : Int) ≤ c))), (Ty.bool (decide ((48 : Int) ≤ c))), (Ty.grd ((decide ((48 : Int) ≤ c)) = true) (Ty.val (Value.int .i32 c))), (Ty.grd ((decide ((48 : Int) ≤ c)) = true) (Ty.bool (decide (c ≤ (57 : Int))))), (Ty.bool ((decide ((48 : Int) ≤ c)) && (decide (c ≤ (57 : Int))))), (Ty.bool ((decide ((48 : Int) ≤ c)) && (decide (c ≤ (57 : Int)))))] ok1 ⟨?_, ?_, ?_, ?_, ?_, ?_, ?_, trivial⟩ ?_
 · intro A B E G H; exact rP (y_move (kp (H 0 rfl) E q1))
 · intro A B E G H d0; exact rP (y_geq (ed d0 rfl rfl rfl) rfl)
 · intro A B E G H d0; exact rP (y_move (ed d0 rfl rfl rfl))
 · intro A B E G H d0
   refine run_guard G rfl rfl (by decide) (ed d0 rfl rfl rfl) (fun hg => ?_)
   have hp := of_decide_eq_true hg
   exact y_move (kp (H 0 rfl) E q1)
 · intro A B E G H d0 d1
   refine run_guard G rfl rfl (by decide) (ed d1 rfl rfl rfl) (fun hg => ?_)
   have hp := of_decide_eq_true hg
   exact y_leq ((ed d0 rfl rfl rfl).1 hg) rfl
 · intro A B E G H d0 d1; exact rP (y_pick_and (ed d0 rfl rfl rfl) (ed d1 rfl rfl rfl) rfl)
 · intro A B E G H d0 d1 d2 d3 d4 d5 d6 d7; exact rP (y_assign (ed d0 rfl rfl rfl))
 intro a2 s2 D2; have ok2 := D2.ok; have F2 := F1.step0 D2.stp; have q2 := D2.kt q1 rfl; have q3 := D2.dn 6 rfl rfl; clear D2; refine tn ?_; refine wp_seq ?_
 refine rg a2 s2 [(Ty.val (Value.int .i32 c)), (Ty.bool (decide ((33 : Int) ≤ c))), (Ty.bool (decide ((33 : Int) ≤ c))), (Ty.grd ((decide ((33 : Int) ≤ c)) = true) (Ty.val (Value.int .i32 c))), (Ty.grd ((decide ((33 : Int) ≤ c)) = true) (Ty.bool (decide (c ≤ (12287 : Int))))), (Ty.bool ((decide ((33 : Int) ≤ c)) && (decide (c ≤ (12287 : Int))))), (Ty.bool ((decide ((33 : Int) ≤ c)) && (decide (c ≤ (12287 : Int))))), (Ty.grd (((decide ((33 : Int) ≤ c)) && (decide (c ≤ (12287 : Int)))) = true) (Ty.bool ((decide ((48 : Int) ≤ c)) && (decide (c ≤ (57 : Int)))))), (Ty.grd (((decide ((33 : Int) ≤ c)) && (decide (c ≤ (12287 : Int)))) = true) (Ty.bool (!((decide ((48 : Int) ≤ c)) && (decide (c ≤ (57 : Int))))))), (Ty.bool (((decide ((33 : Int) ≤ c)) && (decide (c ≤ (12287 : Int)))) && (!((decide ((48 : Int) ≤ c)) && (decide (c ≤ (57 : Int))))))), (Ty.bool (((decide ((33 : Int) ≤ c)) && (decide (c ≤ (12287 : Int)))) && (!((decide ((48 : Int) ≤ c)) && (decide (c ≤ (57 : Int))))))), (Ty.grd ((((decide ((33 : Int) ≤ c)) && (decide (c ≤ (12287 : Int)))) && (!((decide ((48 : Int) ≤ c)) && (decide (c ≤ (57 : Int)))))) = true) (Ty.val (Value.int .i32 c))), (Ty.grd ((((decide ((33 : Int) ≤ c)) && (decide (c ≤ (12287 : Int)))) && (!((decide ((48 : Int) ≤ c)) && (decide (c ≤ (57 : Int)))))) = true) (Ty.bool (decide (c ≠ (40 : Int))))), (Ty.bool ((((decide ((33 : Int) ≤ c)) && (decide (c ≤ (12287 : Int)))) && (!((decide ((48 : Int) ≤ c)) && (decide (c ≤ (57 : Int)))))) && (decide (c ≠ (40 : Int))))), (Ty.bool ((((decide ((33 : Int) ≤ c)) && (decide (c ≤ (12287 : Int)))) && (!((decide ((48 : Int) ≤ c)) && (decide (c ≤ (57 : Int)))))) && (decide (c ≠ (40 : Int))))), (Ty.grd (((((decide ((33 : Int) ≤ c)) && (decide (c ≤ (12287 : Int)))) && (!((decide ((48 : Int) ≤ c)) && (decide (c ≤ (57 : Int)))))) && (decide (c ≠ (40 : Int)))) = true) (Ty.val (Value.int .i32 c))), (Ty.grd (((((decide ((33 : Int) ≤ c)) && (decide (c ≤ (12287 : Int)))) && (!((decide ((48 : Int) ≤ c)) && (decide (c ≤ (57 : Int)))))) && (decide (c ≠ (40 : Int)))) = true) (Ty.bool (decide (c ≠ (41 : Int))))), (Ty.bool (((((decide ((33 : Int) ≤ c)) && (decide (c ≤ (12287 : Int)))) && (!((decide ((48 : Int) ≤ c)) && (decide (c ≤ (57 : Int)))))) && (decide (c ≠ (40 : Int)))) && (decide (c ≠ (41 : Int))))), (Ty.bool (((((decide ((33 : Int) ≤ c)) && (decide (c ≤ (12287 : Int)))) && (!((decide ((48 : Int) ≤ c)) && (decide (c ≤ (57 : Int)))))) && (decide (c ≠ (40 : Int)))) && (decide (c ≠ (41 : Int))))), (Ty.grd ((((((decide ((33 : Int) ≤ c)) && (decide (c ≤ (12287 : Int)))) && (!((decide ((48 : Int) ≤ c)) && (decide (c ≤ (57 : Int)))))) && (decide (c ≠ (40 : Int)))) && (decide (c ≠ (41 : Int)))) = true) (Ty.val (Value.int .i32 c))), (Ty.grd ((((((decide ((33 : Int) ≤ c)) && (decide (c ≤ (12287 : Int)))) && (!((decide ((48 : Int) ≤ c)) && (decide (c ≤ (57 : Int)))))) && (decide (c ≠ (40 : Int)))) && (decide (c ≠ (41 : Int)))) = true) (Ty.bool (decide (c < (127 : Int))))), (Ty.grd ((((((decide ((33 : Int) ≤ c)) && (decide (c ≤ (12287 : Int)))) && (!((decide ((48 : Int) ≤ c)) && (decide (c ≤ (57 : Int)))))) && (decide (c ≠ (40 : Int)))) && (decide (c ≠ (41 : Int)))) = true) (Ty.bool (decide (c < (127 : Int))))), (Ty.grd (((((((decide ((33 : Int) ≤ c)) && (decide (c ≤ (12287 : Int)))) && (!((decide ((48 : Int) ≤ c)) && (decide (c ≤ (57 : Int)))))) && (decide (c ≠ (40 : Int)))) && (decide (c ≠ (41 : Int)))) = true) ∧ (decide (c < (127 : Int))) = false) (Ty.val (Value.int .i32 c))), (Ty.grd (((((((decide ((33 : Int) ≤ c)) && (decide (c ≤ (12287 : Int)))) && (!((decide ((48 : Int) ≤ c)) && (decide (c ≤ (57 : Int)))))) && (decide (c ≠ (40 : Int)))) && (decide (c ≠ (41 : Int)))) = true) ∧ (decide (c < (127 : Int))) = false) (Ty.bool (decide ((160 : Int) < c)))), (Ty.grd ((((((decide ((33 : Int) ≤ c)) && (decide (c ≤ (12287 : Int)))) && (!((decide ((48 : Int) ≤ c)) && (decide (c ≤ (57 : Int)))))) && (decide (c ≠ (40 : Int)))) && (decide (c ≠ (41 : Int)))) = true) (Ty.bool ((decide (c < (127 : Int))) || (decide ((160 : Int) < c))))), (Ty.bool ((((((decide ((33 : Int) ≤ c)) && (decide (c ≤ (12287 : Int)))) && (!((decide ((48 : Int) ≤ c)) && (decide (c ≤ (57 : Int)))))) && (decide (c ≠ (40 : Int)))) && (decide (c ≠ (41 : Int)))) && ((decide (c < (127 : Int))) || (decide ((160 : Int) < c))))), (Ty.bool ((((((decide ((33 : Int) ≤ c)) && (decide (c ≤ (12287 : Int)))) && (!((decide ((48 : Int) ≤ c)) && (decide (c ≤ (57 : Int)))))) && (decide (c ≠ (40 : Int)))) && (decide (c ≠ (41 : Int)))) && ((decide (c < (127 : Int))) || (decide ((160 : Int) < c)))))] ok2 ⟨?_, ?_, ?_, ?_, ?_, ?_, ?_, ?_, ?_, ?_, ?_, ?_, ?_, ?_, ?_, ?_, ?_, ?_, ?_, ?_, ?_, ?_, ?_, ?_, ?_, ?_, ?_, trivial⟩ ?_
 · intro A B E G H; exact rP (y_move (kp (H 0 rfl) E q2))
 · intro A B E G H d0; exact rP (y_geq (ed d0 rfl rfl rfl) rfl)
 · intro A B E G H d0; exact rP (y_move (ed d0 rfl rfl rfl))
 · intro A B E G H d0
   refine run_guard G rfl rfl (by decide) (ed d0 rfl rfl rfl) (fun hg => ?_)
   have hp := of_decide_eq_true hg
   exact y_move (kp (H 0 rfl) E q2)
 · intro A B E G H d0 d1
   refine run_guard G rfl rfl (by decide) (ed d1 rfl rfl rfl) (fun hg => ?_)
   have hp := of_decide_eq_true hg
   exact y_leq ((ed d0 rfl rfl rfl).1 hg) rfl
 · intro A B E G H d0 d1; exact rP (y_pick_and (ed d0 rfl rfl rfl) (ed d1 rfl rfl rfl) rfl)
 · intro A B E G H d0 d1; exact rP (y_move (ed d0 rfl rfl rfl))
 · intro A B E G H d0
   refine run_guard G rfl rfl (by decide) (ed d0 rfl rfl rfl) (fun hg => ?_)
   obtain ⟨d1, d2⟩ := Bool.and_eq_true_iff.mp hg
   have d1 := of_decide_eq_true d1
   have d2 := of_decide_eq_true d2
   exact y_move (kp (H 3 rfl) E q3)
 · intro A B E G H d0 d1
   refine run_guard G rfl rfl (by decide) (ed d1 rfl rfl rfl) (fun hg => ?_)
   obtain ⟨d3, d4⟩ := Bool.and_eq_true_iff.mp hg
   have d3 := of_decide_eq_true d3
   have d4 := of_decide_eq_true d4
   exact y_not ((ed d0 rfl rfl rfl).1 hg)
 · intro A B E G H d0 d1; exact rP (y_pick_and (ed d0 rfl rfl rfl) (ed d1 rfl rfl rfl) rfl)
 · intro A B E G H d0 d1; exact rP (y_move (ed d0 rfl rfl rfl))
 · intro A B E G H d0
   refine run_guard G rfl rfl (by decide) (ed d0 rfl rfl rfl) (fun hg => ?_)
   obtain ⟨d5, d6⟩ := Bool.and_eq_true_iff.mp hg
   obtain ⟨d7, d8⟩ := Bool.and_eq_true_iff.mp d5
   have d7 := of_decide_eq_true d7
   have d8 := of_decide_eq_true d8
   exact y_move (kp (H 0 rfl) E q2)
 · intro A B E G H d0 d1
   refine run_guard G rfl rfl (by decide) (ed d1 rfl rfl rfl) (fun hg => ?_)
   obtain ⟨d9, d10⟩ := Bool.and_eq_true_iff.mp hg
   obtain ⟨d11, d12⟩ := Bool.and_eq_true_iff.mp d9
   have d11 := of_decide_eq_true d11
   have d12 := of_decide_eq_true d12
   exact y_neq ((ed d0 rfl rfl rfl).1 hg) rfl
 · intro A B E G H d0 d1; exact rP (y_pick_and (ed d0 rfl rfl rfl) (ed d1 rfl rfl rfl) rfl)
 · intro A B E G H d0 d1; exact rP (y_move (ed d0 rfl rfl rfl))
 · intro A B E G H d0
   refine run_guard G rfl rfl (by decide) (ed d0 rfl rfl rfl) (fun hg => ?_)
   obtain ⟨d13, d14⟩ := Bool.and_eq_true_iff.mp hg
   obtain ⟨d15, d16⟩ := Bool.and_eq_true_iff.mp d13
   obtain ⟨d17, d18⟩ := Bool.and_eq_true_iff.mp d15
   have d17 := of_decide_eq_true d17
   have d18 := of_decide_eq_true d18
   have d14 := of_decide_eq_true d14
   exact y_move (kp (H 0 rfl) E q2)
 · intro A B E G H d0 d1
   refine run_guard G rfl rfl (by decide) (ed d1 rfl rfl rfl) (fun hg => ?_)
   obtain ⟨d19, d20⟩ := Bool.and_eq_true_iff.mp hg
   obtain ⟨d21, d22⟩ := Bool.and_eq_true_iff.mp d19
   obtain ⟨d23, d24⟩ := Bool.and_eq_true_iff.mp d21
   have d23 := of_decide_eq_true d23
   have d24 := of_decide_eq_true d24
   have d20 := of_decide_eq_true d20
   exact y_neq ((ed d0 rfl rfl rfl).1 hg) rfl
 · intro A B E G H d0 d1; exact rP (y_pick_and (ed d0 rfl rfl rfl) (ed d1 rfl rfl rfl) rfl)
 · intro A B E G H d0 d1; exact rP (y_move (ed d0 rfl rfl rfl))
 · intro A B E G H d0
   refine run_guard G rfl rfl (by decide) (ed d0 rfl rfl rfl) (fun hg => ?_)
   obtain ⟨d25, d26⟩ := Bool.and_eq_true_iff.mp hg
   obtain ⟨d27, d28⟩ := Bool.and_eq_true_iff.mp d25
   obtain ⟨d29, d30⟩ := Bool.and_eq_true_iff.mp d27
   obtain ⟨d31, d32⟩ := Bool.and_eq_true_iff.mp d29
   have d31 := of_decide_eq_true d31
   have d32 := of_decide_eq_true d32
   have d28 := of_decide_eq_true d28
   have d26 := of_decide_eq_true d26
   exact y_move (kp (H 0 rfl) E q2)
 · intro A B E G H d0 d1
   refine run_guard G rfl rfl (by decide) (ed d1 rfl rfl rfl) (fun hg => ?_)
   obtain ⟨d33, d34⟩ := Bool.and_eq_true_iff.mp hg
   obtain ⟨d35, d36⟩ := Bool.and_eq_true_iff.mp d33
   obtain ⟨d37, d38⟩ := Bool.and_eq_true_iff.mp d35
   obtain ⟨d39, d40⟩ := Bool.and_eq_true_iff.mp d37
   have d39 := of_decide_eq_true d39
   have d40 := of_decide_eq_true d40
   have d36 := of_decide_eq_true d36
   have d34 := of_decide_eq_true d34
   exact y_lss ((ed d0 rfl rfl rfl).1 hg) rfl
 · intro A B E G H d0 d1 d2
   refine run_guard G rfl rfl (by decide) (ed d1 rfl rfl rfl) (fun hg => ?_)
   obtain ⟨d41, d42⟩ := Bool.and_eq_true_iff.mp hg
   obtain ⟨d43, d44⟩ := Bool.and_eq_true_iff.mp d41
   obtain ⟨d45, d46⟩ := Bool.and_eq_true_iff.mp d43
   obtain ⟨d47, d48⟩ := Bool.and_eq_true_iff.mp d45
   have d47 := of_decide_eq_true d47
   have d48 := of_decide_eq_true d48
   have d44 := of_decide_eq_true d44
   have d42 := of_decide_eq_true d42
   exact y_move ((ed d0 rfl rfl rfl).1 hg)
 · intro A B E G H d0
   refine run_guard2 G rfl rfl (by decide) (ed d0 rfl rfl rfl) (fun hg => ?_)
   have hp := of_decide_eq_false hg.2
   exact y_move (kp (H 0 rfl) E q2)
 · intro A B E G H d0 d1
   refine run_guard2 G rfl rfl (by decide) (ed d1 rfl rfl rfl) (fun hg => ?_)
   have hp := of_decide_eq_false hg.2
   exact y_gtr ((ed d0 rfl rfl rfl).1 hg) rfl
 · intro A B E G H d0 d1 d2
   refine run_guard G rfl rfl (by decide) (ed d2 rfl rfl rfl) (fun hg => ?_)
   obtain ⟨d49, d50⟩ := Bool.and_eq_true_iff.mp hg
   obtain ⟨d51, d52⟩ := Bool.and_eq_true_iff.mp d49
   obtain ⟨d53, d54⟩ := Bool.and_eq_true_iff.mp d51
   obtain ⟨d55, d56⟩ := Bool.and_eq_true_iff.mp d53
   have d55 := of_decide_eq_true d55
   have d56 := of_decide_eq_true d56
   have d52 := of_decide_eq_true d52
   have d50 := of_decide_eq_true d50
   exact y_pick_or ((ed d0 rfl rfl rfl).1 hg) rfl (grd_part hg (ed d1 rfl rfl rfl))
 · intro A B E G H d0 d1; exact rP (y_pick_and (ed d0 rfl rfl rfl) (ed d1 rfl rfl rfl) rfl)
 · intro A B E G H d0 d1 d2 d3 d4 d5 d6 d7 d8 d9 d10 d11 d12 d13 d14 d15 d16 d17 d18 d19 d20 d21 d22 d23 d24 d25 d26 d27; exact rP (y_assign (ed d0 rfl rfl rfl))
 intro a3 s3 D3; have ok3 := D3.ok; have F3 := F2.step0 D3.stp; have q4 := D3.dn 26 rfl rfl; clear D3; refine tn ?_; refine wp_ret ?_
 exact retL1 rfl ok3 F3 (cvb (by (rw [Bool.eq_iff_iff]; simp only [signMay, Bool.and_eq_true, Bool.or_eq_true, decide_eq_true_eq, Bool.not_eq_true', Bool.and_eq_false_iff, decide_eq_false_iff_not]; omega)) q4)


set_option maxRecDepth 100000 in
theorem letter_fn (c : Int) (σ : GW) (v0 : Value) (hv0 : Ty.has (Ty.val (Value.int .i32 c)) σ v0)  :
    FnC Tryd.prog 59 #[v0] σ (Ty.bool (letterB c)) := by
 refine fn_intro Tryd.func59 rfl Tryd.ntmps59 (Nat.le_of_ble_eq_true rfl) (fun s0 a0 hle F0 ok0 hargs => ?_)
 have p0 : At (Ty.val (Value.int .i32 c)) s0 a0 (.tmp 0) := by have e := hargs 0 _ rfl; show Ty.has _ _ _; rw [e]; exact Ty.up _ hle hv0
 clear hargs; refine wp_seq ?_
 refine rg a0 s0 [(Ty.bool false)] ok0 ⟨?_, trivial⟩ ?_
 · intro A B E G H; exact rP (y_assign rfl)
 intro a1 s1 D1; have ok1 := D1.ok; have F1 := F0.step0 D1.stp; have q1 := D1.kt p0 rfl; clear D1; refine tn ?_; refine wp_seq ?_
 refine rg a1 s1 [(Ty.val (Value.int .i32 c)), (Ty.bool (decide ((65 : Int) ≤ c))), (Ty.bool (decide ((65 : Int) ≤ c))), (Ty.grd ((decide ((65 : Int) ≤ c)) = true) (Ty.val (Value.int .i32 c))), (Ty.grd ((decide ((65 : Int) ≤ c)) = true) (Ty.bool (decide (c ≤ (90 : Int))))), (Ty.bool ((decide ((65 : Int) ≤ c)) && (decide (c ≤ (90 : Int))))), (Ty.bool ((decide ((65 : Int) ≤ c)) && (decide (c ≤ (90 : Int))))), (Ty.grd (((decide ((65 : Int) ≤ c)) && (decide (c ≤ (90 : Int)))) = false) (Ty.val (Value.int .i32 c))), (Ty.grd (((decide ((65 : Int) ≤ c)) && (decide (c ≤ (90 : Int)))) = false) (Ty.bool (decide ((97 : Int) ≤ c)))), (Ty.grd (((decide ((65 : Int) ≤ c)) && (decide (c ≤ (90 : Int)))) = false) (Ty.bool (decide ((97 : Int) ≤ c)))), (Ty.grd ((((decide ((65 : Int) ≤ c)) && (decide (c ≤ (90 : Int)))) = false) ∧ (decide ((97 : Int) ≤ c)) = true) (Ty.val (Value.int .i32 c))), (Ty.grd ((((decide ((65 : Int) ≤ c)) && (decide (c ≤ (90 : Int)))) = false) ∧ (decide ((97 : Int) ≤ c)) = true) (Ty.bool (decide (c ≤ (122 : Int))))), (Ty.grd (((decide ((65 : Int) ≤ c)) && (decide (c ≤ (90 : Int)))) = false) (Ty.bool ((decide ((97 : Int) ≤ c)) && (decide (c ≤ (122 : Int)))))), (Ty.bool (((decide ((65 : Int) ≤ c)) && (decide (c ≤ (90 : Int)))) || ((decide ((97 : Int) ≤ c)) && (decide (c ≤ (122 : Int)))))), (Ty.bool (((decide ((65 : Int) ≤ c)) && (decide (c ≤ (90 : Int)))) || ((decide ((97 : Int) ≤ c)) && (decide (c ≤ (122 : Int)))))), (Ty.grd ((((decide ((65 : Int) ≤ c)) && (decide (c ≤ (90 : Int)))) || ((decide ((97 : Int) ≤ c)) && (decide (c ≤ (122 : Int))))) = false) (Ty.val (Value.int .i32 c))), (Ty.grd ((((decide ((65 : Int) ≤ c)) && (decide (c ≤ (90 : Int)))) || ((decide ((97 : Int) ≤ c)) && (decide (c ≤ (122 : Int))))) = false) (Ty.bool (decide ((48 : Int) ≤ c)))), (Ty.grd ((((decide ((65 : Int) ≤ c)) && (decide (c ≤ (90 : Int)))) || ((decide ((97 : Int) ≤ c)) && (decide (c ≤ (122 : Int))))) = false) (Ty.bool (decide ((48 : Int) ≤ c)))), (Ty.grd (((((decide ((65 : Int) ≤ c)) && (decide (c ≤ (90 : Int)))) || ((decide ((97 : Int) ≤ c)) && (decide (c ≤ (122 : Int))))) = false) ∧ (decide ((48 : Int) ≤ c)) = true) (Ty.val (Value.int .i32 c))), (Ty.grd (((((decide ((65 : Int) ≤ c)) && (decide (c ≤ (90 : Int)))) || ((decide ((97 : Int) ≤ c)) && (decide (c ≤ (122 : Int))))) = false) ∧ (decide ((48 : Int) ≤ c)) = true) (Ty.bool (decide (c ≤ (57 : Int))))), (Ty.grd ((((decide ((65 : Int) ≤ c)) && (decide (c ≤ (90 : Int)))) || ((decide ((97 : Int) ≤ c)) && (decide (c ≤ (122 : Int))))) = false) (Ty.bool ((decide ((48 : Int) ≤ c)) && (decide (c ≤ (57 : Int)))))), (Ty.bool ((((decide ((65 : Int) ≤ c)) && (decide (c ≤ (90 : Int)))) || ((decide ((97 : Int) ≤ c)) && (decide (c ≤ (122 : Int))))) || ((decide ((48 : Int) ≤ c)) && (decide (c ≤ (57 : Int)))))), (Ty.bool ((((decide ((65 : Int) ≤ c)) && (decide (c ≤ (90 : Int)))) || ((decide ((97 : Int) ≤ c)) && (decide (c ≤ (122 : Int))))) || ((decide ((48 : Int) ≤ c)) && (decide (c ≤ (57 : Int)))))), (Ty.grd (((((decide ((65 : Int) ≤ c)) && (decide (c ≤ (90 : Int)))) || ((decide ((97 : Int) ≤ c)) && (decide (c ≤ (122 : Int))))) || ((decide ((48 : Int) ≤ c)) && (decide (c ≤ (57 : Int))))) = false) (Ty.val (Value.int .i32 c))), (Ty.grd (((((decide ((65 : Int) ≤ c)) && (decide (c ≤ (90 : Int)))) || ((decide ((97 : Int) ≤ c)) && (decide (c ≤ (122 : Int))))) || ((decide ((48 : Int) ≤ c)) && (decide (c ≤ (57 : Int))))) = false) (Ty.bool (decide (c = (32 : Int))))), (Ty.bool (((((decide ((65 : Int) ≤ c)) && (decide (c ≤ (90 : Int)))) || ((decide ((97 : Int) ≤ c)) && (decide (c ≤ (122 : Int))))) || ((decide ((48 : Int) ≤ c)) && (decide (c ≤ (57 : Int))))) || (decide (c = (32 : Int))))), (Ty.bool (((((decide ((65 : Int) ≤ c)) && (decide (c ≤ (90 : Int)))) || ((decide ((97 : Int) ≤ c)) && (decide (c ≤ (122 : Int))))) || ((decide ((48 : Int) ≤ c)) && (decide (c ≤ (57 : Int))))) || (decide (c = (32 : Int))))), (Ty.grd ((((((decide ((65 : Int) ≤ c)) && (decide (c ≤ (90 : Int)))) || ((decide ((97 : Int) ≤ c)) && (decide (c ≤ (122 : Int))))) || ((decide ((48 : Int) ≤ c)) && (decide (c ≤ (57 : Int))))) || (decide (c = (32 : Int)))) = false) (Ty.val (Value.int .i32 c))), (Ty.grd ((((((decide ((65 : Int) ≤ c)) && (decide (c ≤ (90 : Int)))) || ((decide ((97 : Int) ≤ c)) && (decide (c ≤ (122 : Int))))) || ((decide ((48 : Int) ≤ c)) && (decide (c ≤ (57 : Int))))) || (decide (c = (32 : Int)))) = false) (Ty.bool (decide ((192 : Int) ≤ c)))), (Ty.grd ((((((decide ((65 : Int) ≤ c)) && (decide (c ≤ (90 : Int)))) || ((decide ((97 : Int) ≤ c)) && (decide (c ≤ (122 : Int))))) || ((decide ((48 : Int) ≤ c)) && (decide (c ≤ (57 : Int))))) || (decide (c = (32 : Int)))) = false) (Ty.bool (decide ((192 : Int) ≤ c)))), (Ty.grd (((((((decide ((65 : Int) ≤ c)) && (decide (c ≤ (90 : Int)))) || ((decide ((97 : Int) ≤ c)) && (decide (c ≤ (122 : Int))))) || ((decide ((48 : Int) ≤ c)) && (decide (c ≤ (57 : Int))))) || (decide (c = (32 : Int)))) = false) ∧ (decide ((192 : Int) ≤ c)) = true) (Ty.val (Value.int .i32 c))), (Ty.grd (((((((decide ((65 : Int) ≤ c)) && (decide (c ≤ (90 : Int)))) || ((decide ((97 : Int) ≤ c)) && (decide (c ≤ (122 : Int))))) || ((decide ((48 : Int) ≤ c)) && (decide (c ≤ (57 : Int))))) || (decide (c = (32 : Int)))) = false) ∧ (decide ((192 : Int) ≤ c)) = true) (Ty.bool (decide (c ≤ (382 : Int))))), (Ty.grd ((((((decide ((65 : Int) ≤ c)) && (decide (c ≤ (90 : Int)))) || ((decide ((97 : Int) ≤ c)) && (decide (c ≤ (122 : Int))))) || ((decide ((48 : Int) ≤ c)) && (decide (c ≤ (57 : Int))))) || (decide (c = (32 : Int)))) = false) (Ty.bool ((decide ((192 : Int) ≤ c)) && (decide (c ≤ (382 : Int)))))), (Ty.grd ((((((decide ((65 : Int) ≤ c)) && (decide (c ≤ (90 : Int)))) || ((decide ((97 : Int) ≤ c)) && (decide (c ≤ (122 : Int))))) || ((decide ((48 : Int) ≤ c)) && (decide (c ≤ (57 : Int))))) || (decide (c = (32 : Int)))) = false) (Ty.bool ((decide ((192 : Int) ≤ c)) && (decide (c ≤ (382 : Int)))))), (Ty.grd (((((((decide ((65 : Int) ≤ c)) && (decide (c ≤ (90 : Int)))) || ((decide ((97 : Int) ≤ c)) && (decide (c ≤ (122 : Int))))) || ((decide ((48 : Int) ≤ c)) && (decide (c ≤ (57 : Int))))) || (decide (c = (32 : Int)))) = false) ∧ ((decide ((192 : Int) ≤ c)) && (decide (c ≤ (382 : Int)))) = true) (Ty.val (Value.int .i32 c))), (Ty.grd (((((((decide ((65 : Int) ≤ c)) && (decide (c ≤ (90 : Int)))) || ((decide ((97 : Int) ≤ c)) && (decide (c ≤ (122 : Int))))) || ((decide ((48 : Int) ≤ c)) && (decide (c ≤ (57 : Int))))) || (decide (c = (32 : Int)))) = false) ∧ ((decide ((192 : Int) ≤ c)) && (decide (c ≤ (382 : Int)))) = true) (Ty.bool (decide (c ≠ (215 : Int))))), (Ty.grd ((((((decide ((65 : Int) ≤ c)) && (decide (c ≤ (90 : Int)))) || ((decide ((97 : Int) ≤ c)) && (decide (c ≤ (122 : Int))))) || ((decide ((48 : Int) ≤ c)) && (decide (c ≤ (57 : Int))))) || (decide (c = (32 : Int)))) = false) (Ty.bool (((decide ((192 : Int) ≤ c)) && (decide (c ≤ (382 : Int)))) && (decide (c ≠ (215 : Int)))))), (Ty.grd ((((((decide ((65 : Int) ≤ c)) && (decide (c ≤ (90 : Int)))) || ((decide ((97 : Int) ≤ c)) && (decide (c ≤ (122 : Int))))) || ((decide ((48 : Int) ≤ c)) && (decide (c ≤ (57 : Int))))) || (decide (c = (32 : Int)))) = false) (Ty.bool (((decide ((192 : Int) ≤ c)) && (decide (c ≤ (382 : Int)))) && (decide (c ≠ (215 : Int)))))), (Ty.grd (((((((decide ((65 : Int) ≤ c)) && (decide (c ≤ (90 : Int)))) || ((decide ((97 : Int) ≤ c)) && (decide (c ≤ (122 : Int))))) || ((decide ((48 : Int) ≤ c)) && (decide (c ≤ (57 : Int))))) || (decide (c = (32 : Int)))) = false) ∧ (((decide ((192 : Int) ≤ c)) && (decide (c ≤ (382 : Int)))) && (decide (c ≠ (215 : Int)))) = true) (Ty.val (Value.int .i32 c))), (Ty.grd (((((((decide ((65 : Int) ≤ c)) && (decide (c ≤ (90 : Int)))) || ((decide ((97 : Int) ≤ c)) && (decide (c ≤ (122 : Int))))) || ((decide ((48 : Int) ≤ c)) && (decide (c ≤ (57 : Int))))) || (decide (c = (32 : Int)))) = false) ∧ (((decide ((192 : Int) ≤ c)) && (decide (c ≤ (382 : Int)))) && (decide (c ≠ (215 : Int)))) = true) (Ty.bool (decide (c ≠ (247 : Int))))), (Ty.grd ((((((decide ((65 : Int) ≤ c)) && (decide (c ≤ (90 : Int)))) || ((decide ((97 : Int) ≤ c)) && (decide (c ≤ (122 : Int))))) || ((decide ((48 : Int) ≤ c)) && (decide (c ≤ (57 : Int))))) || (decide (c = (32 : Int)))) = false) (Ty.bool ((((decide ((192 : Int) ≤ c)) && (decide (c ≤ (382 : Int)))) && (decide (c ≠ (215 : Int)))) && (decide (c ≠ (247 : Int)))))), (Ty.bool ((((((decide ((65 : Int) ≤ c)) && (decide (c ≤ (90 : Int)))) || ((decide ((97 : Int) ≤ c)) && (decide (c ≤ (122 : Int))))) || ((decide ((48 : Int) ≤ c)) && (decide (c ≤ (57 : Int))))) || (decide (c = (32 : Int)))) || ((((decide ((192 : Int) ≤ c)) && (decide (c ≤ (382 : Int)))) && (decide (c ≠ (215 : Int)))) && (decide (c ≠ (247 : Int)))))), (Ty.bool ((((((decide ((65 : Int) ≤ c)) && (decide (c ≤ (90 : Int)))) || ((decide ((97 : Int) ≤ c)) && (decide (c ≤ (122 : Int))))) || ((decide ((48 : Int) ≤ c)) && (decide (c ≤ (57 : Int))))) || (decide (c = (32 : Int)))) || ((((decide ((192 : Int) ≤ c)) && (decide (c ≤ (382 : Int)))) && (decide (c ≠ (215 : Int)))) && (decide (c ≠ (247 : Int))))))] ok1 ⟨?_, ?_, ?_, ?_, ?_, ?_, ?_, ?_, ?_, ?_, ?_, ?_, ?_, ?_, ?_, ?_, ?_, ?_, ?_, ?_, ?_, ?_, ?_, ?_, ?_, ?_, ?_, ?_, ?_, ?_, ?_, ?_, ?_, ?_, ?_, ?_, ?_, ?_, ?_, ?_, ?_, ?_, ?_, trivial⟩ ?_
 · intro A B E G H; exact rP (y_move (kp (H 0 rfl) E q1))
 · intro A B E G H d0; exact rP (y_geq (ed d0 rfl rfl rfl) rfl)
 · intro A B E G H d0; exact rP (y_move (ed d0 rfl rfl rfl))
 · intro A B E G H d0
   refine run_guard G rfl rfl (by decide) (ed d0 rfl rfl rfl) (fun hg => ?_)
   have hp := of_decide_eq_true hg
   exact y_move (kp (H 0 rfl) E q1)
 · intro A B E G H d0 d1
   refine run_guard G rfl rfl (by decide) (ed d1 rfl rfl rfl) (fun hg => ?_)
   have hp := of_decide_eq_true hg
   exact y_leq ((ed d0 rfl rfl rfl).1 hg) rfl
 · intro A B E G H d0 d1; exact rP (y_pick_and (ed d0 rfl rfl rfl) (ed d1 rfl rfl rfl) rfl)
 · intro A B E G H d0 d1; exact rP (y_move (ed d0 rfl rfl rfl))
 · intro A B E G H d0
   refine run_guard G rfl rfl (by decide) (ed d0 rfl rfl rfl) (fun hg => ?_)
   exact y_move (kp (H 0 rfl) E q1)
 · intro A B E G H d0 d1
   refine run_guard G rfl rfl (by decide) (ed d1 rfl rfl rfl) (fun hg => ?_)
   exact y_geq ((ed d0 rfl rfl rfl).1 hg) rfl
 · intro A B E G H d0 d1 d2
   refine run_guard G rfl rfl (by decide) (ed d1 rfl rfl rfl) (fun hg => ?_)
   exact y_move ((ed d0 rfl rfl rfl).1 hg)
 · intro A B E G H d0
   refine run_guard2 G rfl rfl (by decide) (ed d0 rfl rfl rfl) (fun hg => ?_)
   have hp := of_decide_eq_true hg.2
   exact y_move (kp (H 0 rfl) E q1)
 · intro A B E G H d0 d1
   refine run_guard2 G rfl rfl (by decide) (ed d1 rfl rfl rfl) (fun hg => ?_)
   have hp := of_decide_eq_true hg.2
   exact y_leq ((ed d0 rfl rfl rfl).1 hg) rfl
 · intro A B E G H d0 d1 d2
   refine run_guard G rfl rfl (by decide) (ed d2 rfl rfl rfl) (fun hg => ?_)
   exact y_pick_and ((ed d0 rfl rfl rfl).1 hg) (grd_part hg (ed d1 rfl rfl rfl)) rfl
 · intro A B E G H d0 d1; exact rP (y_pick_or (ed d0 rfl rfl rfl) rfl (ed d1 rfl rfl rfl))
 · intro A B E G H d0 d1; exact rP (y_move (ed d0 rfl rfl rfl))
 · intro A B E G H d0
   refine run_guard G rfl rfl (by decide) (ed d0 rfl rfl rfl) (fun hg => ?_)
   obtain ⟨d1, d2⟩ := Bool.or_eq_false_iff.mp hg
   exact y_move (kp (H 0 rfl) E q1)
 · intro A B E G H d0 d1
   refine run_guard G rfl rfl (by decide) (ed d1 rfl rfl rfl) (fun hg => ?_)
   obtain ⟨d3, d4⟩ := Bool.or_eq_false_iff.mp hg
   exact y_geq ((ed d0 rfl rfl rfl).1 hg) rfl
 · intro A B E G H d0 d1 d2
   refine run_guard G rfl rfl (by decide) (ed d1 rfl rfl rfl) (fun hg => ?_)
   obtain ⟨d5, d6⟩ := Bool.or_eq_false_iff.mp hg
   exact y_move ((ed d0 rfl rfl rfl).1 hg)
 · intro A B E G H d0
   refine run_guard2 G rfl rfl (by decide) (ed d0 rfl rfl rfl) (fun hg => ?_)
   have hp := of_decide_eq_true hg.2
   exact y_move (kp (H 0 rfl) E q1)
 · intro A B E G H d0 d1
   refine run_guard2 G rfl rfl (by decide) (ed d1 rfl rfl rfl) (fun hg => ?_)
   have hp := of_decide_eq_true hg.2
   exact y_leq ((ed d0 rfl rfl rfl).1 hg) rfl
 · intro A B E G H d0 d1 d2
   refine run_guard G rfl rfl (by decide) (ed d2 rfl rfl rfl) (fun hg => ?_)
   obtain ⟨d7, d8⟩ := Bool.or_eq_false_iff.mp hg
   exact y_pick_and ((ed d0 rfl rfl rfl).1 hg) (grd_part hg (ed d1 rfl rfl rfl)) rfl
 · intro A B E G H d0 d1; exact rP (y_pick_or (ed d0 rfl rfl rfl) rfl (ed d1 rfl rfl rfl))
 · intro A B E G H d0 d1; exact rP (y_move (ed d0 rfl rfl rfl))
 · intro A B E G H d0
   refine run_guard G rfl rfl (by decide) (ed d0 rfl rfl rfl) (fun hg => ?_)
   obtain ⟨d9, d10⟩ := Bool.or_eq_false_iff.mp hg
   obtain ⟨d11, d12⟩ := Bool.or_eq_false_iff.mp d9
   exact y_move (kp (H 0 rfl) E q1)
 · intro A B E G H d0 d1
   refine run_guard G rfl rfl (by decide) (ed d1 rfl rfl rfl) (fun hg => ?_)
   obtain ⟨d13, d14⟩ := Bool.or_eq_false_iff.mp hg
   obtain ⟨d15, d16⟩ := Bool.or_eq_false_iff.mp d13
   exact y_eql ((ed d0 rfl rfl rfl).1 hg) rfl
 · intro A B E G H d0 d1; exact rP (y_pick_or (ed d0 rfl rfl rfl) rfl (ed d1 rfl rfl rfl))
 · intro A B E G H d0 d1; exact rP (y_move (ed d0 rfl rfl rfl))
 · intro A B E G H d0
   refine run_guard G rfl rfl (by decide) (ed d0 rfl rfl rfl) (fun hg => ?_)
   obtain ⟨d17, d18⟩ := Bool.or_eq_false_iff.mp hg
   obtain ⟨d19, d20⟩ := Bool.or_eq_false_iff.mp d17
   obtain ⟨d21, d22⟩ := Bool.or_eq_false_iff.mp d19
   have d18 := of_decide_eq_false d18
   exact y_move (kp (H 0 rfl) E q1)
 · intro A B E G H d0 d1
   refine run_guard G rfl rfl (by decide) (ed d1 rfl rfl rfl) (fun hg => ?_)
   obtain ⟨d23, d24⟩ := Bool.or_eq_false_iff.mp hg
   obtain ⟨d25, d26⟩ := Bool.or_eq_false_iff.mp d23
   obtain ⟨d27, d28⟩ := Bool.or_eq_false_iff.mp d25
   have d24 := of_decide_eq_false d24
   exact y_geq ((ed d0 rfl rfl rfl).1 hg) rfl
 · intro A B E G H d0 d1 d2
   refine run_guard G rfl rfl (by decide) (ed d1 rfl rfl rfl) (fun hg => ?_)
   obtain ⟨d29, d30⟩ := Bool.or_eq_false_iff.mp hg
   obtain ⟨d31, d32⟩ := Bool.or_eq_false_iff.mp d29
   obtain ⟨d33, d34⟩ := Bool.or_eq_false_iff.mp d31
   have d30 := of_decide_eq_false d30
   exact y_move ((ed d0 rfl rfl rfl).1 hg)
 · intro A B E G H d0
   refine run_guard2 G rfl rfl (by decide) (ed d0 rfl rfl rfl) (fun hg => ?_)
   have hp := of_decide_eq_true hg.2
   exact y_move (kp (H 0 rfl) E q1)
 · intro A B E G H d0 d1
   refine run_guard2 G rfl rfl (by decide) (ed d1 rfl rfl rfl) (fun hg => ?_)
   have hp := of_decide_eq_true hg.2
   exact y_leq ((ed d0 rfl rfl rfl).1 hg) rfl
 · intro A B E G H d0 d1 d2
   refine run_guard G rfl rfl (by decide) (ed d2 rfl rfl rfl) (fun hg => ?_)
   obtain ⟨d35, d36⟩ := Bool.or_eq_false_iff.mp hg
   obtain ⟨d37, d38⟩ := Bool.or_eq_false_iff.mp d35
   obtain ⟨d39, d40⟩ := Bool.or_eq_false_iff.mp d37
   have d36 := of_decide_eq_false d36
   exact y_pick_and ((ed d0 rfl rfl rfl).1 hg) (grd_part hg (ed d1 rfl rfl rfl)) rfl
 · intro A B E G H d0 d1 d2
   refine run_guard G rfl rfl (by decide) (ed d2 rfl rfl rfl) (fun hg => ?_)
   obtain ⟨d41, d42⟩ := Bool.or_eq_false_iff.mp hg
   obtain ⟨d43, d44⟩ := Bool.or_eq_false_iff.mp d41
   obtain ⟨d45, d46⟩ := Bool.or_eq_false_iff.mp d43
   have d42 := of_decide_eq_false d42
   exact y_move ((ed d0 rfl rfl rfl).1 hg)
 · intro A B E G H d0
   refine run_guard2 G rfl rfl (by decide) (ed d0 rfl rfl rfl) (fun hg => ?_)
   obtain ⟨d47, d48⟩ := Bool.and_eq_true_iff.mp hg.2
   have d47 := of_decide_eq_true d47
   have d48 := of_decide_eq_true d48
   exact y_move (kp (H 0 rfl) E q1)
 · intro A B E G H d0 d1
   refine run_guard2 G rfl rfl (by decide) (ed d1 rfl rfl rfl) (fun hg => ?_)
   obtain ⟨d49, d50⟩ := Bool.and_eq_true_iff.mp hg.2
   have d49 := of_decide_eq_true d49
   have d50 := of_decide_eq_true d50
   exact y_neq ((ed d0 rfl rfl rfl).1 hg) rfl
 · intro A B E G H d0 d1 d2
   refine run_guard G rfl rfl (by decide) (ed d2 rfl rfl rfl) (fun hg => ?_)
   obtain ⟨d51, d52⟩ := Bool.or_eq_false_iff.mp hg
   obtain ⟨d53, d54⟩ := Bool.or_eq_false_iff.mp d51
   obtain ⟨d55, d56⟩ := Bool.or_eq_false_iff.mp d53
   have d52 := of_decide_eq_false d52
   exact y_pick_and ((ed d0 rfl rfl rfl).1 hg) (grd_part hg (ed d1 rfl rfl rfl)) rfl
 · intro A B E G H d0 d1 d2
   refine run_guard G rfl rfl (by decide) (ed d2 rfl rfl rfl) (fun hg => ?_)
   obtain ⟨d57, d58⟩ := Bool.or_eq_false_iff.mp hg
   obtain ⟨d59, d60⟩ := Bool.or_eq_false_iff.mp d57
   obtain ⟨d61, d62⟩ := Bool.or_eq_false_iff.mp d59
   have d58 := of_decide_eq_false d58
   exact y_move ((ed d0 rfl rfl rfl).1 hg)
 · intro A B E G H d0
   refine run_guard2 G rfl rfl (by decide) (ed d0 rfl rfl rfl) (fun hg => ?_)
   obtain ⟨d63, d64⟩ := Bool.and_eq_true_iff.mp hg.2
   obtain ⟨d65, d66⟩ := Bool.and_eq_true_iff.mp d63
   have d65 := of_decide_eq_true d65
   have d66 := of_decide_eq_true d66
   have d64 := of_decide_eq_true d64
   exact y_move (kp (H 0 rfl) E q1)
 · intro A B E G H d0 d1
   refine run_guard2 G rfl rfl (by decide) (ed d1 rfl rfl rfl) (fun hg => ?_)
   obtain ⟨d67, d68⟩ := Bool.and_eq_true_iff.mp hg.2
   obtain ⟨d69, d70⟩ := Bool.and_eq_true_iff.mp d67
   have d69 := of_decide_eq_true d69
   have d70 := of_decide_eq_true d70
   have d68 := of_decide_eq_true d68
   exact y_neq ((ed d0 rfl rfl rfl).1 hg) rfl
 · intro A B E G H d0 d1 d2
   refine run_guard G rfl rfl (by decide) (ed d2 rfl rfl rfl) (fun hg => ?_)
   obtain ⟨d71, d72⟩ := Bool.or_eq_false_iff.mp hg
   obtain ⟨d73, d74⟩ := Bool.or_eq_false_iff.mp d71
   obtain ⟨d75, d76⟩ := Bool.or_eq_false_iff.mp d73
   have d72 := of_decide_eq_false d72
   exact y_pick_and ((ed d0 rfl rfl rfl).1 hg) (grd_part hg (ed d1 rfl rfl rfl)) rfl
 · intro A B E G H d0 d1; exact rP (y_pick_or (ed d0 rfl rfl rfl) rfl (ed d1 rfl rfl rfl))
 · intro A B E G H d0 d1 d2 d3 d4 d5 d6 d7 d8 d9 d10 d11 d12 d13 d14 d15 d16 d17 d18 d19 d20 d21 d22 d23 d24 d25 d26 d27 d28 d29 d30 d31 d32 d33 d34 d35 d36 d37 d38 d39 d40 d41 d42 d43; exact rP (y_assign (ed d0 rfl rfl rfl))
 intro a2 s2 D2; have ok2 := D2.ok; have F2 := F1.step0 D2.stp; have q2 := D2.dn 42 rfl rfl; clear D2; refine tn ?_; refine wp_ret ?_
 exact ret1 rfl ok2 F2 (cvb (by (rfl)) q2)


set_option maxRecDepth 100000 in
theorem mName_fn (s : ByteArray) (σ : GW) (v0 : Value) (hv0 : Ty.has (Ty.val (Value.string s)) σ v0) (E : s.size ≤ 1099511627776) :
    FnC Tryd.prog 44 #[v0] σ (Ty.bool (nameL s)) := by
 refine fn_intro Tryd.func44 rfl Tryd.ntmps44 (Nat.le_of_ble_eq_true rfl) (fun s0 a0 hle F0 ok0 hargs => ?_)
 have p0 : At (Ty.val (Value.string s)) s0 a0 (.tmp 0) := by have e := hargs 0 _ rfl; show Ty.has _ _ _; rw [e]; exact Ty.up _ hle hv0
 clear hargs; refine wp_seq ?_
 refine rg a0 s0 [(Ty.bool false)] ok0 ⟨?_, trivial⟩ ?_
 · intro A B E G H; exact rP (y_assign rfl)
 intro a1 s1 D1; have ok1 := D1.ok; have F1 := F0.step0 D1.stp; have q1 := D1.kt p0 rfl; clear D1; refine tn ?_; refine wp_seq ?_
 refine rg a1 s1 [(Ty.int (0 : Int))] ok1 ⟨?_, trivial⟩ ?_
 · intro A B E G H; exact rP (y_assign rfl)
 intro a2 s2 D2; have ok2 := D2.ok; have F2 := F1.step0 D2.stp; have q2 := D2.kt q1 rfl; have q3 := D2.dn 0 rfl rfl; clear D2; refine tn ?_; refine wp_seq ?_; refine wp_seq ?_
 refine reg (a := a2) (σ := s2) rfl (fun i_ => List.getD [(Ty.pr (Ty.val (Value.string s))), (Pr.iter 7 s 0)] i_ Pr.any) ok2 rfl ⟨?_, ?_, trivial⟩ ?_
 · intro A B E G H; exact rP (y_move (kp (H 0 rfl) E q2))
 · intro A B E G H d0; exact rP (y_range 7 Tryd.underlying9 (ed d0 rfl rfl rfl))
 intro a3 s3 D3; have ok3 := D3.ok; have F3 := F2.step0 D3.stp; have q4 := D3.kt q2 rfl; have q5 := D3.kt q3 rfl
 have q6 : (Pr.iter 7 s 0).has s3 (a3.eval (.tmp 7)) := D3.done 1
 clear D3; refine tn ?_; refine wp_block ?_
 refine loop (fun n1 a4 w1 => ∃ (t1 : GW) (xs : List Nat) (p : Nat) (f : Nat), t1.w = w1 ∧ From s0 t1 ∧ Ok 35 a4 ∧ (Pr.iter 7 s p).has t1 (a4.eval (.tmp 7)) ∧ At (Ty.nat xs.length) t1 a4 (.tmp 3) ∧ At (Ty.val (Value.string s)) t1 a4 (.tmp 0) ∧ (∀ c ∈ xs, letterB ((c : Nat) : Int) = true) ∧ (xs ++ runesF s f p = runesL s) ∧ (s.size ≤ f + p) ∧ (p ≤ s.size + 4) ∧ (xs.length ≤ p) ∧ (xs.length = 0 ∨ 0 < s.size) ∧ n1 = s.size + 8 - p) (s.size + 8 - (0)) ?_ ?_
 ·
  exact ⟨s3, ([] : List Nat), 0, s.size, rfl, F3, ok3, (cvit (by omega) q6), (cvi (by (first | rfl | omega | (simp_all; done) | (simp_all; omega))) q5), q4, fun c hc => by simp at hc, rfl, by omega, by omega, by simp, .inl rfl, rfl⟩
 ·
  rintro n2 a5 w2 ⟨t2, xs, p, f, rfl, F4, ok4, q7, q8, q9, hall, heq, hf, hp, hx, hz, rfl⟩
  have hw := wid_pos s p
  have hw2 := wid_le s p
  refine wp_seq ?_
  refine reg2 (a := a5) (σ := t2) rfl 0 (fun i_ => List.getD [] i_ Pr.any) ok4 rfl (by decide) rfl trivial ?_
  intro a6 s4 D4; have ok5 := D4.ok; have F5 := F4.step0 D4.stp; have q10 := (Pr.iter 7 s p).up D4.stp q7
  have q11 : a6.eval (.tmp 7) = a5.eval (.tmp 7) := D4.same 7 rfl
  have q12 := D4.kt q8 rfl; have q13 := D4.kt q9 rfl; clear D4
  refine tail_step (m := 7) (R := (fun v τ => (Ty.nxt (decide (p < s.size)) p (run1 s p)).has τ v ∧ Iter τ 7 (a5.eval (.tmp 7)) s (stepTo s p))) rfl rfl (by decide) ok5 (m_next (by decide) q10 q11) (fun a7 s5 hs1 ok6 r1 sm1 => ?_)
  have F6 := F5.step hs1 (by decide)
  have q14 : (Pr.iter 7 s (stepTo s p)).has s5 (a5.eval (.tmp 7)) := (r1).2
  have q15 := (sm1 7 (by decide)).trans q11
  have q16 : At (Ty.nat xs.length) s5 a7 (.tmp 3) := kpm hs1 (by decide) (sm1 3 (by decide)) q12
  have q17 : At (Ty.val (Value.string s)) s5 a7 (.tmp 0) := kpm hs1 (by decide) (sm1 0 (by decide)) q13
  have q18 : At (Ty.nxt (decide (p < s.size)) p (run1 s p)) s5 a7 (.tmp 8) := (r1).1
  refine tail_step (m := 0) (R := (fun v τ => Pr.has (Ty.pr (Ty.bool (decide (p < s.size)))) τ v)) rfl rfl (by decide) ok6 (Yld.toM (y_ext_n0 q18)) (fun a8 s6 hs2 ok7 r2 sm2 => ?_)
  have F7 := F6.step hs2 (by decide); have q19 := Iter.keep q14 hs2 (by decide) (.inl rfl); have q20 := (sm2 7 (by decide)).trans q15
  have q21 : At (Ty.nat xs.length) s6 a8 (.tmp 3) := kpm hs2 (by decide) (sm2 3 (by decide)) q16
  have q22 : At (Ty.val (Value.string s)) s6 a8 (.tmp 0) := kpm hs2 (by decide) (sm2 0 (by decide)) q17
  have q23 : At (Ty.nxt (decide (p < s.size)) p (run1 s p)) s6 a8 (.tmp 8) := kpm hs2 (by decide) (sm2 8 (by decide)) q18
  have q24 : At (Ty.bool (decide (p < s.size))) s6 a8 (.tmp 9) := r2
  refine wpList_nil ?_
  have q25 : (Pr.iter 7 s (stepTo s p)).has s6 (a8.eval (.tmp 7)) := al q20 q19
  refine tn ?_; refine wp_seq ?_
  refine cond_p (p := (p < s.size)) q24 (fun c1 => ?_) (fun c1 => ?_)
  ·
   refine wp_skip ?_; refine tn ?_; refine wp_block ?_; refine wp_seq ?_
   refine rg a8 s6 [(Ty.val (Value.int .i32 ((run1 s p : Nat) : Int))), (Ty.val (Value.int .i32 ((run1 s p : Nat) : Int)))] ok7 ⟨?_, ?_, trivial⟩ ?_
   · intro A B E G H; exact rP (y_ext_n2 (kp (H 8 rfl) E q23) (decide_eq_true (by omega)))
   · intro A B E G H d0 d1; exact rP (y_assign (ed d0 rfl rfl rfl))
   intro a9 s7 D5; have ok8 := D5.ok; have F8 := F7.step0 D5.stp
   have q26 : (Pr.iter 7 s (stepTo s p)).has s7 (a9.eval (.tmp 7)) := D5.ko q25 rfl
   have q27 := D5.kt q21 rfl; have q28 := D5.kt q22 rfl; have q29 := D5.dn 1 rfl rfl; clear D5; refine tn ?_; refine wp_seq ?_; refine wp_seq ?_
   refine rg a9 s7 [(Ty.val (Value.int .i32 ((run1 s p : Nat) : Int))), (Ty.bool (letterB (((run1 s p : Nat) : Int)))), (Ty.bool (!(letterB (((run1 s p : Nat) : Int)))))] ok8 ⟨?_, ?_, ?_, trivial⟩ ?_
   · intro A B E G H; exact rP (y_move (kp (H 5 rfl) E q29))
   · intro A B E G H d0; exact rP (y_call #[A.eval (.tmp 11)] Tryd.func59 rfl rfl (by simp only [List.map_toArray, List.map_cons, List.map_nil]) (letter_fn (((run1 s p : Nat) : Int)) _ _ (ed d0 rfl rfl rfl) ))
   · intro A B E G H d0; exact rP (y_not (ed d0 rfl rfl rfl))
   intro a10 s8 D6; have ok9 := D6.ok; have F9 := F8.step0 D6.stp
   have q30 : (Pr.iter 7 s (stepTo s p)).has s8 (a10.eval (.tmp 7)) := D6.ko q26 rfl
   have q31 := D6.kt q27 rfl; have q32 := D6.kt q28 rfl; have q33 := D6.dn 2 rfl rfl; clear D6; refine tn ?_
   refine cond_t q33 (fun c2 => ?_) (fun c2 => ?_)
   ·
    have hlet : letterB (run1 s p : Nat) = false := (by simpa using c2)
    refine wp_seq ?_
    refine rg a10 s8 [(Ty.bool false)] ok9 ⟨?_, trivial⟩ ?_
    · intro A B E G H; exact rP (y_assign rfl)
    intro a11 s9 D7; have ok10 := D7.ok; have F10 := F9.step0 D7.stp; have q34 := D7.dn 0 rfl rfl; clear D7; refine tn ?_; refine wp_ret ?_; refine tr ?_; refine br ?_; refine tr ?_; refine br ?_; refine tr ?_
    exact ret1 rfl ok10 F10 (cvb (by (exact (nameL_no heq (by omega) (by omega) hlet).symm)) q34)
   ·
    have hlet : letterB (run1 s p : Nat) = true := (by simpa using c2)
    refine wp_skip ?_; refine tn ?_
    refine rg a10 s8 [(Ty.nat xs.length), (Ty.int (((xs.length : Nat) : Int) + (1 : Int))), (Ty.int (((xs.length : Nat) : Int) + (1 : Int)))] ok9 ⟨?_, ?_, ?_, trivial⟩ ?_
    · intro A B E G H; exact rP (y_move (kp (H 3 rfl) E q31))
    · intro A B E G H d0; exact rP (y_add (ed d0 rfl rfl rfl) rfl (w64 (by omega) (by omega)))
    · intro A B E G H d0 d1 d2; exact rP (y_assign (ed d0 rfl rfl rfl))
    intro a12 s10 D8; have ok11 := D8.ok; have F11 := F9.step0 D8.stp
    have q35 : (Pr.iter 7 s (stepTo s p)).has s10 (a12.eval (.tmp 7)) := D8.ko q30 rfl
    have q36 := D8.kt q32 rfl; have q37 := D8.dn 2 rfl rfl; clear D8; refine bn ?_
    exact tn ⟨s.size + 8 - ((p + wid s p)), by omega, s10, (xs ++ [run1 s p]), (p + wid s p), (f - 1), rfl, F11, ok11, (cvit (by unfold stepTo; rw [if_pos (by omega)]) q35), (cvi (by (simp)) q37), q36, fun c hc => by (rcases List.mem_append.1 hc with h | h; exact hall c h; simp at h; subst h; exact hlet), runesF_step heq (by omega) (by omega), by omega, by omega, by simp; omega, .inr (by omega), rfl⟩
  ·
   refine wp_exit ?_; refine tx ?_; refine tx ?_; refine bx ?_; refine tn ?_; refine wp_seq ?_
   refine rg a8 s6 [(Ty.nat xs.length), (Ty.bool (decide ((1 : Int) ≤ ((xs.length : Nat) : Int)))), (Ty.bool (decide ((1 : Int) ≤ ((xs.length : Nat) : Int)))), (Ty.grd ((decide ((1 : Int) ≤ ((xs.length : Nat) : Int))) = true) (Ty.nat xs.length)), (Ty.grd ((decide ((1 : Int) ≤ ((xs.length : Nat) : Int))) = true) (Ty.bool (decide (((xs.length : Nat) : Int) ≤ (20 : Int))))), (Ty.bool ((decide ((1 : Int) ≤ ((xs.length : Nat) : Int))) && (decide (((xs.length : Nat) : Int) ≤ (20 : Int))))), (Ty.bool ((decide ((1 : Int) ≤ ((xs.length : Nat) : Int))) && (decide (((xs.length : Nat) : Int) ≤ (20 : Int))))), (Ty.grd (((decide ((1 : Int) ≤ ((xs.length : Nat) : Int))) && (decide (((xs.length : Nat) : Int) ≤ (20 : Int)))) = true) (Ty.val (Value.string s))), (Ty.grd (((decide ((1 : Int) ≤ ((xs.length : Nat) : Int))) && (decide (((xs.length : Nat) : Int) ≤ (20 : Int)))) = true) (Ty.val (Value.int .u8 (((s.get! ((0 : Int)).toNat).toNat : Nat) : Int)))), (Ty.grd (((decide ((1 : Int) ≤ ((xs.length : Nat) : Int))) && (decide (((xs.length : Nat) : Int) ≤ (20 : Int)))) = true) (Ty.bool (decide ((((s.get! ((0 : Int)).toNat).toNat : Nat) : Int) ≠ (32 : Int))))), (Ty.bool (((decide ((1 : Int) ≤ ((xs.length : Nat) : Int))) && (decide (((xs.length : Nat) : Int) ≤ (20 : Int)))) && (decide ((((s.get! ((0 : Int)).toNat).toNat : Nat) : Int) ≠ (32 : Int))))), (Ty.bool (((decide ((1 : Int) ≤ ((xs.length : Nat) : Int))) && (decide (((xs.length : Nat) : Int) ≤ (20 : Int)))) && (decide ((((s.get! ((0 : Int)).toNat).toNat : Nat) : Int) ≠ (32 : Int))))), (Ty.grd ((((decide ((1 : Int) ≤ ((xs.length : Nat) : Int))) && (decide (((xs.length : Nat) : Int) ≤ (20 : Int)))) && (decide ((((s.get! ((0 : Int)).toNat).toNat : Nat) : Int) ≠ (32 : Int)))) = true) (Ty.val (Value.string s))), (Ty.grd ((((decide ((1 : Int) ≤ ((xs.length : Nat) : Int))) && (decide (((xs.length : Nat) : Int) ≤ (20 : Int)))) && (decide ((((s.get! ((0 : Int)).toNat).toNat : Nat) : Int) ≠ (32 : Int)))) = true) (Ty.val (Value.string s))), (Ty.grd ((((decide ((1 : Int) ≤ ((xs.length : Nat) : Int))) && (decide (((xs.length : Nat) : Int) ≤ (20 : Int)))) && (decide ((((s.get! ((0 : Int)).toNat).toNat : Nat) : Int) ≠ (32 : Int)))) = true) (Ty.nat (ByteArray.size s))), (Ty.grd ((((decide ((1 : Int) ≤ ((xs.length : Nat) : Int))) && (decide (((xs.length : Nat) : Int) ≤ (20 : Int)))) && (decide ((((s.get! ((0 : Int)).toNat).toNat : Nat) : Int) ≠ (32 : Int)))) = true) (Ty.int ((((ByteArray.size s) : Nat) : Int) - (1 : Int)))), (Ty.grd ((((decide ((1 : Int) ≤ ((xs.length : Nat) : Int))) && (decide (((xs.length : Nat) : Int) ≤ (20 : Int)))) && (decide ((((s.get! ((0 : Int)).toNat).toNat : Nat) : Int) ≠ (32 : Int)))) = true) (Ty.val (Value.int .u8 (((s.get! (((((ByteArray.size s) : Nat) : Int) - (1 : Int))).toNat).toNat : Nat) : Int)))), (Ty.grd ((((decide ((1 : Int) ≤ ((xs.length : Nat) : Int))) && (decide (((xs.length : Nat) : Int) ≤ (20 : Int)))) && (decide ((((s.get! ((0 : Int)).toNat).toNat : Nat) : Int) ≠ (32 : Int)))) = true) (Ty.bool (decide ((((s.get! (((((ByteArray.size s) : Nat) : Int) - (1 : Int))).toNat).toNat : Nat) : Int) ≠ (32 : Int))))), (Ty.bool ((((decide ((1 : Int) ≤ ((xs.length : Nat) : Int))) && (decide (((xs.length : Nat) : Int) ≤ (20 : Int)))) && (decide ((((s.get! ((0 : Int)).toNat).toNat : Nat) : Int) ≠ (32 : Int)))) && (decide ((((s.get! (((((ByteArray.size s) : Nat) : Int) - (1 : Int))).toNat).toNat : Nat) : Int) ≠ (32 : Int))))), (Ty.bool ((((decide ((1 : Int) ≤ ((xs.length : Nat) : Int))) && (decide (((xs.length : Nat) : Int) ≤ (20 : Int)))) && (decide ((((s.get! ((0 : Int)).toNat).toNat : Nat) : Int) ≠ (32 : Int)))) && (decide ((((s.get! (((((ByteArray.size s) : Nat) : Int) - (1 : Int))).toNat).toNat : Nat) : Int) ≠ (32 : Int)))))] ok7 ⟨?_, ?_, ?_, ?_, ?_, ?_, ?_, ?_, ?_, ?_, ?_, ?_, ?_, ?_, ?_, ?_, ?_, ?_, ?_, ?_, trivial⟩ ?_
   · intro A B E G H; exact rP (y_move (kp (H 3 rfl) E q21))
   · intro A B E G H d0; exact rP (y_geq (ed d0 rfl rfl rfl) rfl)
   · intro A B E G H d0; exact rP (y_move (ed d0 rfl rfl rfl))
   · intro A B E G H d0
     refine run_guard G rfl rfl (by decide) (ed d0 rfl rfl rfl) (fun hg => ?_)
     have hp := of_decide_eq_true hg
     exact y_move (kp (H 3 rfl) E q21)
   · intro A B E G H d0 d1
     refine run_guard G rfl rfl (by decide) (ed d1 rfl rfl rfl) (fun hg => ?_)
     have hp := of_decide_eq_true hg
     exact y_leq ((ed d0 rfl rfl rfl).1 hg) rfl
   · intro A B E G H d0 d1; exact rP (y_pick_and (ed d0 rfl rfl rfl) (ed d1 rfl rfl rfl) rfl)
   · intro A B E G H d0 d1; exact rP (y_move (ed d0 rfl rfl rfl))
   · intro A B E G H d0
     refine run_guard G rfl rfl (by decide) (ed d0 rfl rfl rfl) (fun hg => ?_)
     obtain ⟨d1, d2⟩ := Bool.and_eq_true_iff.mp hg
     have d1 := of_decide_eq_true d1
     have d2 := of_decide_eq_true d2
     exact y_move (kp (H 0 rfl) E q22)
   · intro A B E G H d0 d1
     refine run_guard G rfl rfl (by decide) (ed d1 rfl rfl rfl) (fun hg => ?_)
     obtain ⟨d3, d4⟩ := Bool.and_eq_true_iff.mp hg
     have d3 := of_decide_eq_true d3
     have d4 := of_decide_eq_true d4
     exact y_sindex Tryd.underlying9 ((ed d0 rfl rfl rfl).1 hg) rfl (by omega) (by omega)
   · intro A B E G H d0 d1
     refine run_guard G rfl rfl (by decide) (ed d1 rfl rfl rfl) (fun hg => ?_)
     obtain ⟨d5, d6⟩ := Bool.and_eq_true_iff.mp hg
     have d5 := of_decide_eq_true d5
     have d6 := of_decide_eq_true d6
     exact y_neq ((ed d0 rfl rfl rfl).1 hg) rfl
   · intro A B E G H d0 d1; exact rP (y_pick_and (ed d0 rfl rfl rfl) (ed d1 rfl rfl rfl) rfl)
   · intro A B E G H d0 d1; exact rP (y_move (ed d0 rfl rfl rfl))
   · intro A B E G H d0
     refine run_guard G rfl rfl (by decide) (ed d0 rfl rfl rfl) (fun hg => ?_)
     obtain ⟨d7, d8⟩ := Bool.and_eq_true_iff.mp hg
     obtain ⟨d9, d10⟩ := Bool.and_eq_true_iff.mp d7
     have d9 := of_decide_eq_true d9
     have d10 := of_decide_eq_true d10
     have d8 := of_decide_eq_true d8
     exact y_move (kp (H 0 rfl) E q22)
   · intro A B E G H d0
     refine run_guard G rfl rfl (by decide) (ed d0 rfl rfl rfl) (fun hg => ?_)
     obtain ⟨d11, d12⟩ := Bool.and_eq_true_iff.mp hg
     obtain ⟨d13, d14⟩ := Bool.and_eq_true_iff.mp d11
     have d13 := of_decide_eq_true d13
     have d14 := of_decide_eq_true d14
     have d12 := of_decide_eq_true d12
     exact y_move (kp (H 0 rfl) E q22)
   · intro A B E G H d0 d1
     refine run_guard G rfl rfl (by decide) (ed d1 rfl rfl rfl) (fun hg => ?_)
     obtain ⟨d15, d16⟩ := Bool.and_eq_true_iff.mp hg
     obtain ⟨d17, d18⟩ := Bool.and_eq_true_iff.mp d15
     have d17 := of_decide_eq_true d17
     have d18 := of_decide_eq_true d18
     have d16 := of_decide_eq_true d16
     exact y_len_str Tryd.underlying9 ((ed d0 rfl rfl rfl).1 hg)
   · intro A B E G H d0 d1
     refine run_guard G rfl rfl (by decide) (ed d1 rfl rfl rfl) (fun hg => ?_)
     obtain ⟨d19, d20⟩ := Bool.and_eq_true_iff.mp hg
     obtain ⟨d21, d22⟩ := Bool.and_eq_true_iff.mp d19
     have d21 := of_decide_eq_true d21
     have d22 := of_decide_eq_true d22
     have d20 := of_decide_eq_true d20
     exact y_sub ((ed d0 rfl rfl rfl).1 hg) rfl (w64 (by omega) (by omega))
   · intro A B E G H d0 d1 d2
     refine run_guard G rfl rfl (by decide) (ed d2 rfl rfl rfl) (fun hg => ?_)
     obtain ⟨d23, d24⟩ := Bool.and_eq_true_iff.mp hg
     obtain ⟨d25, d26⟩ := Bool.and_eq_true_iff.mp d23
     have d25 := of_decide_eq_true d25
     have d26 := of_decide_eq_true d26
     have d24 := of_decide_eq_true d24
     exact y_sindex Tryd.underlying9 ((ed d0 rfl rfl rfl).1 hg) ((ed d1 rfl rfl rfl).1 hg) (by omega) (by omega)
   · intro A B E G H d0 d1
     refine run_guard G rfl rfl (by decide) (ed d1 rfl rfl rfl) (fun hg => ?_)
     obtain ⟨d27, d28⟩ := Bool.and_eq_true_iff.mp hg
     obtain ⟨d29, d30⟩ := Bool.and_eq_true_iff.mp d27
     have d29 := of_decide_eq_true d29
     have d30 := of_decide_eq_true d30
     have d28 := of_decide_eq_true d28
     exact y_neq ((ed d0 rfl rfl rfl).1 hg) rfl
   · intro A B E G H d0 d1; exact rP (y_pick_and (ed d0 rfl rfl rfl) (ed d1 rfl rfl rfl) rfl)
   · intro A B E G H d0 d1 d2 d3 d4 d5 d6 d7 d8 d9 d10 d11 d12 d13 d14 d15 d16 d17 d18 d19 d20; exact rP (y_assign (ed d0 rfl rfl rfl))
   intro a13 s11 D9; have ok12 := D9.ok; have F12 := F7.step0 D9.stp; have q38 := D9.dn 19 rfl rfl; clear D9; refine tn ?_; refine wp_ret ?_
   exact ret1 rfl ok12 F12 (cvb (by (rw [runesF_end (by omega), List.append_nil] at heq; rw [nameL_all (by rw [← heq]; exact hall), heq]; simp)) q38)

theorem Tryd.inf3 : Info Tryd.prog 3 (.int .i64 0) 1 8 := by unfold Info; kernel_rfl
set_option maxRecDepth 100000 in
theorem pCheck_fn (n : Int) (l : List Int) (σ : GW) (v0 v1 : Value) (hv0 : Ty.has (Ty.int n) σ v0) (hv1 : Ty.has (Ty.lst Ty.int l) σ v1) (hn : -9223372036854775808 ≤ n ∧ n ≤ 9223372036854775807) :
    FnC Tryd.prog 27 #[v0, v1] σ (Ty.int (chgMay n l)) := by
 refine fn_intro Tryd.func27 rfl Tryd.ntmps27 (Nat.le_of_ble_eq_true rfl) (fun s0 a0 hle F0 ok0 hargs => ?_)
 have p0 : At (Ty.int n) s0 a0 (.tmp 0) := by have e := hargs 0 _ rfl; show Ty.has _ _ _; rw [e]; exact Ty.up _ hle hv0
 have p1 : At (Ty.lst Ty.int l) s0 a0 (.tmp 1) := by have e := hargs 1 _ rfl; show Ty.has _ _ _; rw [e]; exact Ty.up _ hle hv1
 have b1 := sl_le p1
 clear hargs; refine wp_seq ?_
 refine rg a0 s0 [(Ty.int (0 : Int))] ok0 ⟨?_, trivial⟩ ?_
 · intro A B E G H; exact rP (y_assign rfl)
 intro a1 s1 D1; have ok1 := D1.ok; have F1 := F0.step0 D1.stp; have q1 := D1.kt p0 rfl; have q2 := D1.kt p1 rfl; clear D1; refine tn ?_; refine wp_seq ?_; refine wp_seq ?_
 refine rg a1 s1 [(Ty.int n), (Ty.bool (decide (n < (1 : Int)))), (Ty.bool (decide (n < (1 : Int)))), (Ty.grd ((decide (n < (1 : Int))) = false) (Ty.int n)), (Ty.grd ((decide (n < (1 : Int))) = false) (Ty.bool (decide ((12 : Int) < n)))), (Ty.bool ((decide (n < (1 : Int))) || (decide ((12 : Int) < n))))] ok1 ⟨?_, ?_, ?_, ?_, ?_, ?_, trivial⟩ ?_
 · intro A B E G H; exact rP (y_move (kp (H 0 rfl) E q1))
 · intro A B E G H d0; exact rP (y_lss (ed d0 rfl rfl rfl) rfl)
 · intro A B E G H d0; exact rP (y_move (ed d0 rfl rfl rfl))
 · intro A B E G H d0
   refine run_guard G rfl rfl (by decide) (ed d0 rfl rfl rfl) (fun hg => ?_)
   have hp := of_decide_eq_false hg
   exact y_move (kp (H 0 rfl) E q1)
 · intro A B E G H d0 d1
   refine run_guard G rfl rfl (by decide) (ed d1 rfl rfl rfl) (fun hg => ?_)
   have hp := of_decide_eq_false hg
   exact y_gtr ((ed d0 rfl rfl rfl).1 hg) rfl
 · intro A B E G H d0 d1; exact rP (y_pick_or (ed d0 rfl rfl rfl) rfl (ed d1 rfl rfl rfl))
 intro a2 s2 D2; have ok2 := D2.ok; have F2 := F1.step0 D2.stp; have q3 := D2.kt q1 rfl; have q4 := D2.kt q2 rfl; have q5 := D2.dn 5 rfl rfl; clear D2; refine tn ?_
 refine cond_t q5 (fun c1 => ?_) (fun c1 => ?_)
 ·
  simp only [Bool.or_eq_true, decide_eq_true_eq] at c1
  refine wp_seq ?_
  refine rg a2 s2 [(Ty.int (1 : Int))] ok2 ⟨?_, trivial⟩ ?_
  · intro A B E G H; exact rP (y_assign rfl)
  intro a3 s3 D3; have ok3 := D3.ok; have F3 := F2.step0 D3.stp; have q6 := D3.dn 0 rfl rfl; clear D3; refine tn ?_; refine wp_ret ?_; refine tr ?_
  exact ret1 rfl ok3 F3 (cvi (by (exact (chgMay_cnt (by omega)).symm)) q6)
 ·
  obtain ⟨d1, d2⟩ := Bool.or_eq_false_iff.mp c1
  replace d1 := of_decide_eq_false d1
  replace d2 := of_decide_eq_false d2
  refine wp_skip ?_; refine tn ?_; refine wp_seq ?_
  refine rg a2 s2 [(Ty.int (0 : Int))] ok2 ⟨?_, trivial⟩ ?_
  · intro A B E G H; exact rP (y_assign rfl)
  intro a4 s4 D4; have ok4 := D4.ok; have F4 := F2.step0 D4.stp; have q7 := D4.kt q3 rfl; have q8 := D4.kt q4 rfl; have q9 := D4.dn 0 rfl rfl; clear D4; refine tn ?_; refine wp_seq ?_; refine wp_seq ?_
  refine rg a4 s4 [(Ty.lst Ty.int l), (Ty.nat (List.length l)), (Ty.int (0 : Int))] ok4 ⟨?_, ?_, ?_, trivial⟩ ?_
  · intro A B E G H; exact rP (y_move (kp (H 1 rfl) E q8))
  · intro A B E G H d0; exact rP (y_len Tryd.underlying26 (ed d0 rfl rfl rfl))
  · intro A B E G H; exact rP (y_move rfl)
  intro a5 s5 D5; have ok5 := D5.ok; have F5 := F4.step0 D5.stp; have q10 := D5.kt q7 rfl; have q11 := D5.kt q9 rfl; have q12 := D5.dn 0 rfl rfl; have q13 := D5.dn 1 rfl rfl; have q14 := D5.dn 2 rfl rfl; clear D5; refine tn ?_; refine wp_block ?_
  refine loop (fun n1 a6 w1 => ∃ (t1 : GW) (k : Nat) (z : Int), t1.w = w1 ∧ From s0 t1 ∧ Ok 42 a6 ∧ At (Ty.nat k) t1 a6 (.tmp 16) ∧ At (Ty.int z) t1 a6 (.tmp 5) ∧ At (Ty.int n) t1 a6 (.tmp 0) ∧ At (Ty.lst Ty.int l) t1 a6 (.tmp 14) ∧ At (Ty.nat (List.length l)) t1 a6 (.tmp 15) ∧ (k ≤ l.length) ∧ (scanTo n l k = some z) ∧ (0 ≤ z ∧ z ≤ n) ∧ n1 = l.length - k) (l.length - (0)) ?_ ?_
  ·
   exact ⟨s5, 0, 0, rfl, F5, ok5, (cvi (by (first | rfl | omega | (simp_all; done) | (simp_all; omega))) q14), (cvi (by (first | rfl | omega | (simp_all; done) | (simp_all; omega))) q11), q10, q12, q13, by omega, rfl, by omega, rfl⟩
  ·
   rintro n2 a7 w2 ⟨t2, k, z, rfl, F6, ok6, q15, q16, q17, q18, q19, hk, E, hz, rfl⟩
   refine wp_seq ?_
   refine reg (a := a7) (σ := t2) rfl (fun i_ => List.getD [(Ty.pr (Ty.bool (decide (((k : Nat) : Int) < (((List.length l) : Nat) : Int)))))] i_ Pr.any) ok6 rfl ⟨?_, trivial⟩ ?_
   · intro A B E G H; exact rP (y_lss (kp (H 16 rfl) E q15) (kp (H 15 rfl) E q19))
   intro a8 s6 D6; have ok7 := D6.ok; have F7 := F6.step0 D6.stp; have q20 := D6.kt q15 rfl; have q21 := D6.kt q16 rfl; have q22 := D6.kt q17 rfl; have q23 := D6.kt q18 rfl; have q24 := D6.kt q19 rfl; have q25 := D6.dn 0 rfl rfl; clear D6; refine tn ?_; refine wp_seq ?_
   refine cond_p (p := (((k : Nat) : Int) < (((List.length l) : Nat) : Int))) q25 (fun c2 => ?_) (fun c2 => ?_)
   ·
    refine wp_skip ?_; refine tn ?_; refine wp_seq ?_; refine wp_block ?_; refine wp_seq ?_
    refine rg a8 s6 [(Ty.ref [(Ty.int (l.getD k 0))]), (Ty.int (l.getD k 0)), (Ty.int (l.getD k 0))] ok7 ⟨?_, ?_, ?_, trivial⟩ ?_
    · intro A B E G H; exact rP (y_index1 Tryd.underlying26 Tryd.inf3 (kp (H 14 rfl) E q23) (kp (H 16 rfl) E q20) (by omega) (lst_get Ty.int l 0 k (by omega)))
    · intro A B E G H d0; exact rP (y_load Tryd.underlying3 rfl (ed d0 rfl rfl rfl) rfl)
    · intro A B E G H d0 d1 d2; exact rP (y_assign (ed d0 rfl rfl rfl))
    intro a9 s7 D7; have ok8 := D7.ok; have F8 := F7.step0 D7.stp; have q26 := D7.kt q20 rfl; have q27 := D7.kt q21 rfl; have q28 := D7.kt q22 rfl; have q29 := D7.kt q23 rfl; have q30 := D7.kt q24 rfl; have q31 := D7.dn 2 rfl rfl; clear D7; refine tn ?_; refine wp_seq ?_; refine wp_seq ?_
    refine rg a9 s7 [(Ty.int (l.getD k 0)), (Ty.int z), (Ty.bool (decide ((l.getD k 0) ≤ z))), (Ty.bool (decide ((l.getD k 0) ≤ z))), (Ty.grd ((decide ((l.getD k 0) ≤ z)) = false) (Ty.int (l.getD k 0))), (Ty.grd ((decide ((l.getD k 0) ≤ z)) = false) (Ty.int n)), (Ty.grd ((decide ((l.getD k 0) ≤ z)) = false) (Ty.bool (decide (n < (l.getD k 0))))), (Ty.bool ((decide ((l.getD k 0) ≤ z)) || (decide (n < (l.getD k 0))))), (Ty.bool ((decide ((l.getD k 0) ≤ z)) || (decide (n < (l.getD k 0))))), (Ty.grd (((decide ((l.getD k 0) ≤ z)) || (decide (n < (l.getD k 0)))) = false) (Ty.int (l.getD k 0))), (Ty.grd (((decide ((l.getD k 0) ≤ z)) || (decide (n < (l.getD k 0)))) = false) (Ty.int z)), (Ty.grd (((decide ((l.getD k 0) ≤ z)) || (decide (n < (l.getD k 0)))) = false) (Ty.int ((l.getD k 0) - z))), (Ty.grd (((decide ((l.getD k 0) ≤ z)) || (decide (n < (l.getD k 0)))) = false) (Ty.nat ((((l.getD k 0) - z)).toNat % 2))), (Ty.grd (((decide ((l.getD k 0) ≤ z)) || (decide (n < (l.getD k 0)))) = false) (Ty.bool (decide (((((((l.getD k 0) - z)).toNat % 2) : Nat) : Int) = (0 : Int))))), (Ty.bool (((decide ((l.getD k 0) ≤ z)) || (decide (n < (l.getD k 0)))) || (decide (((((((l.getD k 0) - z)).toNat % 2) : Nat) : Int) = (0 : Int)))))] ok8 ⟨?_, ?_, ?_, ?_, ?_, ?_, ?_, ?_, ?_, ?_, ?_, ?_, ?_, ?_, ?_, trivial⟩ ?_
    · intro A B E G H; exact rP (y_move (kp (H 7 rfl) E q31))
    · intro A B E G H; exact rP (y_move (kp (H 5 rfl) E q27))
    · intro A B E G H d0 d1; exact rP (y_leq (ed d0 rfl rfl rfl) (ed d1 rfl rfl rfl))
    · intro A B E G H d0; exact rP (y_move (ed d0 rfl rfl rfl))
    · intro A B E G H d0
      refine run_guard G rfl rfl (by decide) (ed d0 rfl rfl rfl) (fun hg => ?_)
      have hp := of_decide_eq_false hg
      exact y_move (kp (H 7 rfl) E q31)
    · intro A B E G H d0
      refine run_guard G rfl rfl (by decide) (ed d0 rfl rfl rfl) (fun hg => ?_)
      have hp := of_decide_eq_false hg
      exact y_move (kp (H 0 rfl) E q28)
    · intro A B E G H d0 d1 d2
      refine run_guard G rfl rfl (by decide) (ed d2 rfl rfl rfl) (fun hg => ?_)
      have hp := of_decide_eq_false hg
      exact y_gtr ((ed d0 rfl rfl rfl).1 hg) ((ed d1 rfl rfl rfl).1 hg)
    · intro A B E G H d0 d1; exact rP (y_pick_or (ed d0 rfl rfl rfl) rfl (ed d1 rfl rfl rfl))
    · intro A B E G H d0 d1; exact rP (y_move (ed d0 rfl rfl rfl))
    · intro A B E G H d0
      refine run_guard G rfl rfl (by decide) (ed d0 rfl rfl rfl) (fun hg => ?_)
      obtain ⟨d3, d4⟩ := Bool.or_eq_false_iff.mp hg
      have d3 := of_decide_eq_false d3
      have d4 := of_decide_eq_false d4
      exact y_move (kp (H 7 rfl) E q31)
    · intro A B E G H d0
      refine run_guard G rfl rfl (by decide) (ed d0 rfl rfl rfl) (fun hg => ?_)
      obtain ⟨d5, d6⟩ := Bool.or_eq_false_iff.mp hg
      have d5 := of_decide_eq_false d5
      have d6 := of_decide_eq_false d6
      exact y_move (kp (H 5 rfl) E q27)
    · intro A B E G H d0 d1 d2
      refine run_guard G rfl rfl (by decide) (ed d2 rfl rfl rfl) (fun hg => ?_)
      obtain ⟨d7, d8⟩ := Bool.or_eq_false_iff.mp hg
      have d7 := of_decide_eq_false d7
      have d8 := of_decide_eq_false d8
      exact y_sub ((ed d0 rfl rfl rfl).1 hg) ((ed d1 rfl rfl rfl).1 hg) (w64 (by omega) (by omega))
    · intro A B E G H d0 d1
      refine run_guard G rfl rfl (by decide) (ed d1 rfl rfl rfl) (fun hg => ?_)
      obtain ⟨d9, d10⟩ := Bool.or_eq_false_iff.mp hg
      have d9 := of_decide_eq_false d9
      have d10 := of_decide_eq_false d10
      exact y_remN (toN (σ := B) ((ed d0 rfl rfl rfl).1 hg) (by omega)) (toN (σ := B) rfl (by omega)) (by omega)
    · intro A B E G H d0 d1
      refine run_guard G rfl rfl (by decide) (ed d1 rfl rfl rfl) (fun hg => ?_)
      obtain ⟨d11, d12⟩ := Bool.or_eq_false_iff.mp hg
      have d11 := of_decide_eq_false d11
      have d12 := of_decide_eq_false d12
      exact y_eql ((ed d0 rfl rfl rfl).1 hg) rfl
    · intro A B E G H d0 d1; exact rP (y_pick_or (ed d0 rfl rfl rfl) rfl (ed d1 rfl rfl rfl))
    intro a10 s8 D8; have ok9 := D8.ok; have F9 := F8.step0 D8.stp; have q32 := D8.kt q26 rfl; have q33 := D8.kt q28 rfl; have q34 := D8.kt q29 rfl; have q35 := D8.kt q30 rfl; have q36 := D8.kt q31 rfl; have q37 := D8.dn 14 rfl rfl; clear D8; refine tn ?_
    refine cond_t q37 (fun c3 => ?_) (fun c3 => ?_)
    ·
     simp only [Bool.or_eq_true, decide_eq_true_eq] at c3
     refine wp_seq ?_
     refine rg a10 s8 [(Ty.int (6 : Int))] ok9 ⟨?_, trivial⟩ ?_
     · intro A B E G H; exact rP (y_assign rfl)
     intro a11 s9 D9; have ok10 := D9.ok; have F10 := F9.step0 D9.stp; have q38 := D9.dn 0 rfl rfl; clear D9; refine tn ?_; refine wp_ret ?_; refine tr ?_; refine br ?_; refine tr ?_; refine tr ?_; refine br ?_; refine tr ?_
     exact ret1 rfl ok10 F10 (cvi (by (exact (chgMay_scan (by omega) E (by omega) (by omega)).symm)) q38)
    ·
     obtain ⟨d13, d14⟩ := Bool.or_eq_false_iff.mp c3
     obtain ⟨d15, d16⟩ := Bool.or_eq_false_iff.mp d13
     replace d15 := of_decide_eq_false d15
     replace d16 := of_decide_eq_false d16
     replace d14 := of_decide_eq_false d14
     refine wp_skip ?_; refine tn ?_
     refine rg a10 s8 [(Ty.int (l.getD k 0)), (Ty.int (l.getD k 0))] ok9 ⟨?_, ?_, trivial⟩ ?_
     · intro A B E G H; exact rP (y_move (kp (H 7 rfl) E q36))
     · intro A B E G H d0 d1; exact rP (y_assign (ed d0 rfl rfl rfl))
     intro a12 s10 D10; have ok11 := D10.ok; have F11 := F9.step0 D10.stp; have q39 := D10.kt q32 rfl; have q40 := D10.kt q33 rfl; have q41 := D10.kt q34 rfl; have q42 := D10.kt q35 rfl; have q43 := D10.dn 1 rfl rfl; clear D10; refine bn ?_; refine tn ?_
     refine rg a12 s10 [(Ty.int (((k : Nat) : Int) + (1 : Int))), (Ty.int (((k : Nat) : Int) + (1 : Int)))] ok11 ⟨?_, ?_, trivial⟩ ?_
     · intro A B E G H; exact rP (y_add (kp (H 16 rfl) E q39) rfl (w64 (by omega) (by omega)))
     · intro A B E G H d0; exact rP (y_move (ed d0 rfl rfl rfl))
     intro a13 s11 D11; have ok12 := D11.ok; have F12 := F11.step0 D11.stp; have q44 := D11.kt q40 rfl; have q45 := D11.kt q41 rfl; have q46 := D11.kt q42 rfl; have q47 := D11.kt q43 rfl; have q48 := D11.dn 1 rfl rfl; clear D11
     have d1_ := (of_decide_eq_false (Bool.or_eq_false_iff.1 c3).2)
     have d2_ := of_decide_eq_false (Bool.or_eq_false_iff.1 (Bool.or_eq_false_iff.1 c3).1).1
     have d3_ := of_decide_eq_false (Bool.or_eq_false_iff.1 (Bool.or_eq_false_iff.1 c3).1).2
     exact tn ⟨l.length - ((k+1)), by omega, s11, (k+1), (l.getD k 0), rfl, F12, ok12, (cvi (by (first | rfl | omega | (simp_all; done) | (simp_all; omega))) q48), (cvi (by (first | rfl | omega | (simp_all; done) | (simp_all; omega))) q47), q44, q45, q46, by omega, scan_step E (by omega) (by omega) (by omega) d1_, by omega, rfl⟩
   ·
    have hk2 : k = l.length := (by omega)
    refine wp_exit ?_; refine tx ?_; refine tx ?_; refine bx ?_; refine tn ?_; refine wp_seq ?_; refine wp_seq ?_
    refine rg a8 s6 [(Ty.int n), (Ty.int z), (Ty.int (n - z)), (Ty.nat (((n - z)).toNat % 2)), (Ty.bool (decide ((((((n - z)).toNat % 2) : Nat) : Int) = (1 : Int))))] ok7 ⟨?_, ?_, ?_, ?_, ?_, trivial⟩ ?_
    · intro A B E G H; exact rP (y_move (kp (H 0 rfl) E q22))
    · intro A B E G H; exact rP (y_move (kp (H 5 rfl) E q21))
    · intro A B E G H d0 d1; exact rP (y_sub (ed d0 rfl rfl rfl) (ed d1 rfl rfl rfl) (w64 (by omega) (by omega)))
    · intro A B E G H d0; exact rP (y_remN (toN (σ := B) (ed d0 rfl rfl rfl) (by omega)) (toN (σ := B) rfl (by omega)) (by omega))
    · intro A B E G H d0; exact rP (y_eql (ed d0 rfl rfl rfl) rfl)
    intro a14 s12 D12; have ok13 := D12.ok; have F13 := F7.step0 D12.stp; have q49 := D12.dn 4 rfl rfl; clear D12; refine tn ?_
    refine cond_p (p := ((((((n - z)).toNat % 2) : Nat) : Int) = (1 : Int))) q49 (fun c4 => ?_) (fun c4 => ?_)
    ·
     refine wp_seq ?_
     refine rg a14 s12 [(Ty.int (6 : Int))] ok13 ⟨?_, trivial⟩ ?_
     · intro A B E G H; exact rP (y_assign rfl)
     intro a15 s13 D13; have ok14 := D13.ok; have F14 := F13.step0 D13.stp; have q50 := D13.dn 0 rfl rfl; clear D13; refine tn ?_; refine wp_ret ?_; refine tr ?_
     exact ret1 rfl ok14 F14 (cvi (by (exact (chgMay_odd (by omega) (by rw [← hk2]; exact E) (by omega)).symm)) q50)
    ·
     refine wp_skip ?_; refine tn ?_; refine wp_seq ?_
     refine rg a14 s12 [(Ty.int (0 : Int))] ok13 ⟨?_, trivial⟩ ?_
     · intro A B E G H; exact rP (y_assign rfl)
     intro a16 s14 D14; have ok15 := D14.ok; have F15 := F13.step0 D14.stp; have q51 := D14.dn 0 rfl rfl; clear D14; refine tn ?_; refine wp_ret ?_
     exact ret1 rfl ok15 F15 (cvi (by (exact (chgMay_ok (by omega) (by rw [← hk2]; exact E) (by omega)).symm)) q51)

theorem Tryd.inf9 : Info Tryd.prog 9 (.string ByteArray.empty) 1 16 := by unfold Info; kernel_rfl
theorem Tryd.inf22 : Info Tryd.prog 22 (.slice none 0 0) 1 24 := by unfold Info; kernel_rfl
theorem Tryd.inf26 : Info Tryd.prog 26 (.slice none 0 0) 1 24 := by unfold Info; kernel_rfl
theorem Tryd.fld24_0 : fieldOf Tryd.prog 24 0 = some (9, 0) := by kernel_rfl
theorem Tryd.fld24_1 : fieldOf Tryd.prog 24 1 = some (3, 1) := by kernel_rfl
theorem Tryd.fld24_2 : fieldOf Tryd.prog 24 2 = some (22, 2) := by kernel_rfl
set_option maxRecDepth 100000 in
theorem mCheck_fn (nm : ByteArray) (n : Int) (l : List (List Int)) (σ : GW) (v0 : Value) (hv0 : Ty.has (Ty.agg [(Ty.val (Value.string nm)), (Ty.int n), (Ty.lst Ty.ints l)]) σ v0) (hnm : nm.size ≤ 1099511627776) (hn : -9223372036854775808 ≤ n ∧ n ≤ 9223372036854775807) :
    FnC Tryd.prog 24 #[v0] σ (Ty.int (methMay nm n l)) := by
 refine fn_intro Tryd.func24 rfl Tryd.ntmps24 (Nat.le_of_ble_eq_true rfl) (fun s0 a0 hle F0 ok0 hargs => ?_)
 have p0 : At (Ty.agg [(Ty.val (Value.string nm)), (Ty.int n), (Ty.lst Ty.ints l)]) s0 a0 (.tmp 0) := by have e := hargs 0 _ rfl; show Ty.has _ _ _; rw [e]; exact Ty.up _ hle hv0
 clear hargs; refine wp_seq ?_
 refine rg a0 s0 [(Ty.ref [(Ty.val (Value.string nm)), (Ty.int n), (Ty.lst Ty.ints l)]), (Ty.int (0 : Int))] ok0 ⟨?_, ?_, trivial⟩ ?_
 · intro A B E G H; exact rP (y_boxagg (kp (H 0 rfl) E p0))
 · intro A B E G H; exact rP (y_assign rfl)
 intro a1 s1 D1; have ok1 := D1.ok; have F1 := F0.step0 D1.stp; have q1 := D1.dn 0 rfl rfl; clear D1; refine tn ?_; refine wp_seq ?_; refine wp_block ?_; refine wp_seq ?_
 refine rg a1 s1 [(Ty.ref [(Ty.val (Value.string nm)), (Ty.int n), (Ty.lst Ty.ints l)]), (Ty.val (Value.string nm)), (Ty.bool (nameL (nm))), (Ty.bool (!(nameL (nm)))), (Ty.bool (!(nameL (nm))))] ok1 ⟨?_, ?_, ?_, ?_, ?_, trivial⟩ ?_
 · intro A B E G H; exact rP (y_field Tryd.fld24_0 Tryd.inf9 (by decide) (kp (H 1 rfl) E q1) rfl)
 · intro A B E G H d0; exact rP (y_load Tryd.underlying9 rfl (ed d0 rfl rfl rfl) rfl)
 · intro A B E G H d0; exact rP (y_call #[A.eval (.tmp 8)] Tryd.func44 rfl rfl (by simp only [List.map_toArray, List.map_cons, List.map_nil]) (mName_fn (nm) _ _ (ed d0 rfl rfl rfl) (by first | omega | assumption)))
 · intro A B E G H d0; exact rP (y_not (ed d0 rfl rfl rfl))
 · intro A B E G H d0 d1; exact rP (y_assign (ed d0 rfl rfl rfl))
 intro a2 s2 D2; have ok2 := D2.ok; have F2 := F1.step0 D2.stp; have q2 := D2.kt q1 rfl; have q3 := D2.dn 4 rfl rfl; clear D2; refine tn ?_
 refine cond_t q3 (fun c1 => ?_) (fun c1 => ?_)
 ·
  have hnn : nameL nm = false := (by simpa using c1)
  refine wp_seq ?_
  refine rg a2 s2 [(Ty.int (7 : Int))] ok2 ⟨?_, trivial⟩ ?_
  · intro A B E G H; exact rP (y_assign rfl)
  intro a3 s3 D3; have ok3 := D3.ok; have F3 := F2.step0 D3.stp; have q4 := D3.dn 0 rfl rfl; clear D3; refine tn ?_; refine wp_ret ?_; refine br ?_; refine tr ?_
  exact ret1 rfl ok3 F3 (cvi (by (unfold methMay; rw [if_pos hnn])) q4)
 ·
  have hnn : ¬ nameL nm = false := (by simpa using c1)
  refine wp_seq ?_
  refine rg a2 s2 [(Ty.ref [(Ty.int n), (Ty.lst Ty.ints l)]), (Ty.int n), (Ty.bool (decide (n < (2 : Int)))), (Ty.bool (decide (n < (2 : Int)))), (Ty.grd ((decide (n < (2 : Int))) = false) (Ty.ref [(Ty.int n), (Ty.lst Ty.ints l)])), (Ty.grd ((decide (n < (2 : Int))) = false) (Ty.int n)), (Ty.grd ((decide (n < (2 : Int))) = false) (Ty.bool (decide ((12 : Int) < n)))), (Ty.bool ((decide (n < (2 : Int))) || (decide ((12 : Int) < n)))), (Ty.bool ((decide (n < (2 : Int))) || (decide ((12 : Int) < n)))), (Ty.grd (((decide (n < (2 : Int))) || (decide ((12 : Int) < n))) = false) (Ty.ref [(Ty.lst Ty.ints l)])), (Ty.grd (((decide (n < (2 : Int))) || (decide ((12 : Int) < n))) = false) (Ty.lst Ty.ints l)), (Ty.grd (((decide (n < (2 : Int))) || (decide ((12 : Int) < n))) = false) (Ty.nat (List.length l))), (Ty.grd (((decide (n < (2 : Int))) || (decide ((12 : Int) < n))) = false) (Ty.bool (decide ((((List.length l) : Nat) : Int) < (1 : Int))))), (Ty.bool (((decide (n < (2 : Int))) || (decide ((12 : Int) < n))) || (decide ((((List.length l) : Nat) : Int) < (1 : Int))))), (Ty.bool (((decide (n < (2 : Int))) || (decide ((12 : Int) < n))) || (decide ((((List.length l) : Nat) : Int) < (1 : Int))))), (Ty.grd ((((decide (n < (2 : Int))) || (decide ((12 : Int) < n))) || (decide ((((List.length l) : Nat) : Int) < (1 : Int)))) = false) (Ty.ref [(Ty.lst Ty.ints l)])), (Ty.grd ((((decide (n < (2 : Int))) || (decide ((12 : Int) < n))) || (decide ((((List.length l) : Nat) : Int) < (1 : Int)))) = false) (Ty.lst Ty.ints l)), (Ty.grd ((((decide (n < (2 : Int))) || (decide ((12 : Int) < n))) || (decide ((((List.length l) : Nat) : Int) < (1 : Int)))) = false) (Ty.nat (List.length l))), (Ty.grd ((((decide (n < (2 : Int))) || (decide ((12 : Int) < n))) || (decide ((((List.length l) : Nat) : Int) < (1 : Int)))) = false) (Ty.bool (decide ((200 : Int) < (((List.length l) : Nat) : Int))))), (Ty.bool ((((decide (n < (2 : Int))) || (decide ((12 : Int) < n))) || (decide ((((List.length l) : Nat) : Int) < (1 : Int)))) || (decide ((200 : Int) < (((List.length l) : Nat) : Int))))), (Ty.bool ((((decide (n < (2 : Int))) || (decide ((12 : Int) < n))) || (decide ((((List.length l) : Nat) : Int) < (1 : Int)))) || (decide ((200 : Int) < (((List.length l) : Nat) : Int)))))] ok2 ⟨?_, ?_, ?_, ?_, ?_, ?_, ?_, ?_, ?_, ?_, ?_, ?_, ?_, ?_, ?_, ?_, ?_, ?_, ?_, ?_, ?_, trivial⟩ ?_
  · intro A B E G H; exact rP (y_field Tryd.fld24_1 Tryd.inf3 (by decide) (kp (H 1 rfl) E q2) rfl)
  · intro A B E G H d0; exact rP (y_load Tryd.underlying3 rfl (ed d0 rfl rfl rfl) rfl)
  · intro A B E G H d0; exact rP (y_lss (ed d0 rfl rfl rfl) rfl)
  · intro A B E G H d0; exact rP (y_move (ed d0 rfl rfl rfl))
  · intro A B E G H d0
    refine run_guard G rfl rfl (by decide) (ed d0 rfl rfl rfl) (fun hg => ?_)
    have hp := of_decide_eq_false hg
    exact y_field Tryd.fld24_1 Tryd.inf3 (by decide) (kp (H 1 rfl) E q2) rfl
  · intro A B E G H d0 d1
    refine run_guard G rfl rfl (by decide) (ed d1 rfl rfl rfl) (fun hg => ?_)
    have hp := of_decide_eq_false hg
    exact y_load Tryd.underlying3 rfl ((ed d0 rfl rfl rfl).1 hg) rfl
  · intro A B E G H d0 d1
    refine run_guard G rfl rfl (by decide) (ed d1 rfl rfl rfl) (fun hg => ?_)
    have hp := of_decide_eq_false hg
    exact y_gtr ((ed d0 rfl rfl rfl).1 hg) rfl
  · intro A B E G H d0 d1; exact rP (y_pick_or (ed d0 rfl rfl rfl) rfl (ed d1 rfl rfl rfl))
  · intro A B E G H d0 d1; exact rP (y_move (ed d0 rfl rfl rfl))
  · intro A B E G H d0
    refine run_guard G rfl rfl (by decide) (ed d0 rfl rfl rfl) (fun hg => ?_)
    obtain ⟨d1, d2⟩ := Bool.or_eq_false_iff.mp hg
    have d1 := of_decide_eq_false d1
    have d2 := of_decide_eq_false d2
    exact y_field Tryd.fld24_2 Tryd.inf22 (by decide) (kp (H 1 rfl) E q2) rfl
  · intro A B E G H d0 d1
    refine run_guard G rfl rfl (by decide) (ed d1 rfl rfl rfl) (fun hg => ?_)
    obtain ⟨d3, d4⟩ := Bool.or_eq_false_iff.mp hg
    have d3 := of_decide_eq_false d3
    have d4 := of_decide_eq_false d4
    exact y_load Tryd.underlying22 rfl ((ed d0 rfl rfl rfl).1 hg) rfl
  · intro A B E G H d0 d1
    refine run_guard G rfl rfl (by decide) (ed d1 rfl rfl rfl) (fun hg => ?_)
    obtain ⟨d5, d6⟩ := Bool.or_eq_false_iff.mp hg
    have d5 := of_decide_eq_false d5
    have d6 := of_decide_eq_false d6
    exact y_len Tryd.underlying22 ((ed d0 rfl rfl rfl).1 hg)
  · intro A B E G H d0 d1
    refine run_guard G rfl rfl (by decide) (ed d1 rfl rfl rfl) (fun hg => ?_)
    obtain ⟨d7, d8⟩ := Bool.or_eq_false_iff.mp hg
    have d7 := of_decide_eq_false d7
    have d8 := of_decide_eq_false d8
    exact y_lss ((ed d0 rfl rfl rfl).1 hg) rfl
  · intro A B E G H d0 d1; exact rP (y_pick_or (ed d0 rfl rfl rfl) rfl (ed d1 rfl rfl rfl))
  · intro A B E G H d0 d1; exact rP (y_move (ed d0 rfl rfl rfl))
  · intro A B E G H d0
    refine run_guard G rfl rfl (by decide) (ed d0 rfl rfl rfl) (fun hg => ?_)
    obtain ⟨d9, d10⟩ := Bool.or_eq_false_iff.mp hg
    obtain ⟨d11, d12⟩ := Bool.or_eq_false_iff.mp d9
    have d11 := of_decide_eq_false d11
    have d12 := of_decide_eq_false d12
    have d10 := of_decide_eq_false d10
    exact y_field Tryd.fld24_2 Tryd.inf22 (by decide) (kp (H 1 rfl) E q2) rfl
  · intro A B E G H d0 d1
    refine run_guard G rfl rfl (by decide) (ed d1 rfl rfl rfl) (fun hg => ?_)
    obtain ⟨d13, d14⟩ := Bool.or_eq_false_iff.mp hg
    obtain ⟨d15, d16⟩ := Bool.or_eq_false_iff.mp d13
    have d15 := of_decide_eq_false d15
    have d16 := of_decide_eq_false d16
    have d14 := of_decide_eq_false d14
    exact y_load Tryd.underlying22 rfl ((ed d0 rfl rfl rfl).1 hg) rfl
  · intro A B E G H d0 d1
    refine run_guard G rfl rfl (by decide) (ed d1 rfl rfl rfl) (fun hg => ?_)
    obtain ⟨d17, d18⟩ := Bool.or_eq_false_iff.mp hg
    obtain ⟨d19, d20⟩ := Bool.or_eq_false_iff.mp d17
    have d19 := of_decide_eq_false d19
    have d20 := of_decide_eq_false d20
    have d18 := of_decide_eq_false d18
    exact y_len Tryd.underlying22 ((ed d0 rfl rfl rfl).1 hg)
  · intro A B E G H d0 d1
    refine run_guard G rfl rfl (by decide) (ed d1 rfl rfl rfl) (fun hg => ?_)
    obtain ⟨d21, d22⟩ := Bool.or_eq_false_iff.mp hg
    obtain ⟨d23, d24⟩ := Bool.or_eq_false_iff.mp d21
    have d23 := of_decide_eq_false d23
    have d24 := of_decide_eq_false d24
    have d22 := of_decide_eq_false d22
    exact y_gtr ((ed d0 rfl rfl rfl).1 hg) rfl
  · intro A B E G H d0 d1; exact rP (y_pick_or (ed d0 rfl rfl rfl) rfl (ed d1 rfl rfl rfl))
  · intro A B E G H d0 d1; exact rP (y_assign (ed d0 rfl rfl rfl))
  intro a4 s4 D4; have ok4 := D4.ok; have F4 := F2.step0 D4.stp; have q5 := D4.kt q2 rfl; have q6 := D4.dn 20 rfl rfl; clear D4; refine tn ?_
  refine cond_t q6 (fun c2 => ?_) (fun c2 => ?_)
  ·
   simp only [Bool.or_eq_true, decide_eq_true_eq] at c2; have h4 : n < 2 ∨ 12 < n ∨ l.length < 1 ∨ 200 < l.length := (by omega)
   refine wp_seq ?_
   refine rg a4 s4 [(Ty.int (1 : Int))] ok4 ⟨?_, trivial⟩ ?_
   · intro A B E G H; exact rP (y_assign rfl)
   intro a5 s5 D5; have ok5 := D5.ok; have F5 := F4.step0 D5.stp; have q7 := D5.dn 0 rfl rfl; clear D5; refine tn ?_; refine wp_ret ?_; refine br ?_; refine tr ?_
   exact ret1 rfl ok5 F5 (cvi (by (unfold methMay; rw [if_neg hnn, if_pos h4])) q7)
  ·
   obtain ⟨d25, d26⟩ := Bool.or_eq_false_iff.mp c2
   obtain ⟨d27, d28⟩ := Bool.or_eq_false_iff.mp d25
   obtain ⟨d29, d30⟩ := Bool.or_eq_false_iff.mp d27
   replace d29 := of_decide_eq_false d29
   replace d30 := of_decide_eq_false d30
   replace d28 := of_decide_eq_false d28
   replace d26 := of_decide_eq_false d26
   have h4 : ¬ (n < 2 ∨ 12 < n ∨ l.length < 1 ∨ 200 < l.length) := (by simp only [Bool.or_eq_false_iff, decide_eq_false_iff_not] at c2; omega); have hmm : methMay nm n l = allMay n l := (by unfold methMay; rw [if_neg hnn, if_neg h4])
   refine wp_skip ?_; refine bn ?_; refine tn ?_; refine wp_seq ?_; refine wp_seq ?_
   refine rg a4 s4 [(Ty.ref [(Ty.lst Ty.ints l)]), (Ty.lst Ty.ints l), (Ty.nat (List.length l)), (Ty.int (0 : Int))] ok4 ⟨?_, ?_, ?_, ?_, trivial⟩ ?_
   · intro A B E G H; exact rP (y_field Tryd.fld24_2 Tryd.inf22 (by decide) (kp (H 1 rfl) E q5) rfl)
   · intro A B E G H d0; exact rP (y_load Tryd.underlying22 rfl (ed d0 rfl rfl rfl) rfl)
   · intro A B E G H d0; exact rP (y_len Tryd.underlying22 (ed d0 rfl rfl rfl))
   · intro A B E G H; exact rP (y_move rfl)
   intro a6 s6 D6; have ok6 := D6.ok; have F6 := F4.step0 D6.stp; have q8 := D6.kt q5 rfl; have q9 := D6.dn 1 rfl rfl
   have b1 := sl_le q9
   have q10 := D6.dn 2 rfl rfl; have q11 := D6.dn 3 rfl rfl; clear D6; refine tn ?_; refine wp_block ?_
   refine loop (fun n1 a7 w1 => ∃ (t1 : GW) (k : Nat), t1.w = w1 ∧ From s0 t1 ∧ Ok 47 a7 ∧ At (Ty.nat k) t1 a7 (.tmp 35) ∧ At (Ty.ref [(Ty.val (Value.string nm)), (Ty.int n), (Ty.lst Ty.ints l)]) t1 a7 (.tmp 1) ∧ At (Ty.lst Ty.ints l) t1 a7 (.tmp 33) ∧ At (Ty.nat (List.length l)) t1 a7 (.tmp 34) ∧ (k ≤ l.length) ∧ (allMay n (l.drop k) = allMay n l) ∧ n1 = l.length - k) (l.length - (0)) ?_ ?_
   ·
    exact ⟨s6, 0, rfl, F6, ok6, (cvi (by (first | rfl | omega | (simp_all; done) | (simp_all; omega))) q11), q8, q9, q10, by omega, rfl, rfl⟩
   ·
    rintro n2 a8 w2 ⟨t2, k, rfl, F7, ok7, q12, q13, q14, q15, hk, ha, rfl⟩
    refine wp_seq ?_
    refine reg (a := a8) (σ := t2) rfl (fun i_ => List.getD [(Ty.pr (Ty.bool (decide (((k : Nat) : Int) < (((List.length l) : Nat) : Int)))))] i_ Pr.any) ok7 rfl ⟨?_, trivial⟩ ?_
    · intro A B E G H; exact rP (y_lss (kp (H 35 rfl) E q12) (kp (H 34 rfl) E q15))
    intro a9 s7 D7; have ok8 := D7.ok; have F8 := F7.step0 D7.stp; have q16 := D7.kt q12 rfl; have q17 := D7.kt q13 rfl; have q18 := D7.kt q14 rfl; have q19 := D7.kt q15 rfl; have q20 := D7.dn 0 rfl rfl; clear D7; refine tn ?_; refine wp_seq ?_
    refine cond_p (p := (((k : Nat) : Int) < (((List.length l) : Nat) : Int))) q20 (fun c3 => ?_) (fun c3 => ?_)
    ·
     refine wp_skip ?_; refine tn ?_; refine wp_seq ?_; refine wp_block ?_; refine wp_seq ?_
     refine rg a9 s7 [(Ty.ref [(Ty.lst Ty.int (l.getD k []))]), (Ty.lst Ty.int (l.getD k [])), (Ty.lst Ty.int (l.getD k []))] ok8 ⟨?_, ?_, ?_, trivial⟩ ?_
     · intro A B E G H; exact rP (y_index1 Tryd.underlying22 Tryd.inf26 (kp (H 33 rfl) E q18) (kp (H 35 rfl) E q16) (by omega) (lst_get Ty.ints l [] k (by omega)))
     · intro A B E G H d0; exact rP (y_load Tryd.underlying26 rfl (ed d0 rfl rfl rfl) rfl)
     · intro A B E G H d0 d1 d2; exact rP (y_assign (ed d0 rfl rfl rfl))
     intro a10 s8 D8; have ok9 := D8.ok; have F9 := F8.step0 D8.stp; have q21 := D8.kt q16 rfl; have q22 := D8.kt q17 rfl; have q23 := D8.kt q18 rfl; have q24 := D8.kt q19 rfl; have q25 := D8.dn 2 rfl rfl; clear D8; refine tn ?_; refine wp_seq ?_
     refine rg a10 s8 [(Ty.ref [(Ty.int n), (Ty.lst Ty.ints l)]), (Ty.int n), (Ty.lst Ty.int (l.getD k [])), (Ty.int (chgMay n ((l.getD k [])))), (Ty.int (chgMay n ((l.getD k []))))] ok9 ⟨?_, ?_, ?_, ?_, ?_, trivial⟩ ?_
     · intro A B E G H; exact rP (y_field Tryd.fld24_1 Tryd.inf3 (by decide) (kp (H 1 rfl) E q22) rfl)
     · intro A B E G H d0; exact rP (y_load Tryd.underlying3 rfl (ed d0 rfl rfl rfl) rfl)
     · intro A B E G H; exact rP (y_move (kp (H 4 rfl) E q25))
     · intro A B E G H d0 d1; exact rP (y_call #[A.eval (.tmp 40), A.eval (.tmp 41)] Tryd.func27 rfl rfl (by simp only [List.map_toArray, List.map_cons, List.map_nil]) (pCheck_fn (n) ((l.getD k [])) _ _ _ (ed d0 rfl rfl rfl) (ed d1 rfl rfl rfl) (by omega)))
     · intro A B E G H d0 d1 d2 d3 d4 d5; exact rP (y_assign (ed d0 rfl rfl rfl))
     intro a11 s9 D9; have ok10 := D9.ok; have F10 := F9.step0 D9.stp; have q26 := D9.kt q21 rfl; have q27 := D9.kt q22 rfl; have q28 := D9.kt q23 rfl; have q29 := D9.kt q24 rfl; have q30 := D9.dn 4 rfl rfl; clear D9; refine tn ?_; refine wp_seq ?_
     refine rg a11 s9 [(Ty.int (chgMay n ((l.getD k [])))), (Ty.bool (decide ((chgMay n ((l.getD k []))) ≠ (0 : Int))))] ok10 ⟨?_, ?_, trivial⟩ ?_
     · intro A B E G H; exact rP (y_move (kp (H 5 rfl) E q30))
     · intro A B E G H d0; exact rP (y_neq (ed d0 rfl rfl rfl) rfl)
     intro a12 s10 D10; have ok11 := D10.ok; have F11 := F10.step0 D10.stp; have q31 := D10.kt q26 rfl; have q32 := D10.kt q27 rfl; have q33 := D10.kt q28 rfl; have q34 := D10.kt q29 rfl; have q35 := D10.kt q30 rfl; have q36 := D10.dn 1 rfl rfl; clear D10; refine tn ?_
     refine cond_p (p := ((chgMay n ((l.getD k []))) ≠ (0 : Int))) q36 (fun c4 => ?_) (fun c4 => ?_)
     ·
      refine wp_seq ?_
      refine rg a12 s10 [(Ty.int (chgMay n ((l.getD k [])))), (Ty.int (chgMay n ((l.getD k []))))] ok11 ⟨?_, ?_, trivial⟩ ?_
      · intro A B E G H; exact rP (y_move (kp (H 5 rfl) E q35))
      · intro A B E G H d0 d1; exact rP (y_assign (ed d0 rfl rfl rfl))
      intro a13 s11 D11; have ok12 := D11.ok; have F12 := F11.step0 D11.stp; have q37 := D11.dn 1 rfl rfl; clear D11; refine tn ?_; refine wp_ret ?_; refine br ?_; refine tr ?_; refine tr ?_; refine br ?_; refine tr ?_
      exact ret1 rfl ok12 F12 (cvi (by (rw [hmm]; exact (allMay_stop ha (by omega) c4).symm)) q37)
     ·
      refine wp_skip ?_; refine bn ?_; refine tn ?_
      refine rg a12 s10 [(Ty.int (((k : Nat) : Int) + (1 : Int))), (Ty.int (((k : Nat) : Int) + (1 : Int)))] ok11 ⟨?_, ?_, trivial⟩ ?_
      · intro A B E G H; exact rP (y_add (kp (H 35 rfl) E q31) rfl (w64 (by omega) (by omega)))
      · intro A B E G H d0; exact rP (y_move (ed d0 rfl rfl rfl))
      intro a14 s12 D12; have ok13 := D12.ok; have F13 := F11.step0 D12.stp; have q38 := D12.kt q32 rfl; have q39 := D12.kt q33 rfl; have q40 := D12.kt q34 rfl; have q41 := D12.dn 1 rfl rfl; clear D12
      exact tn ⟨l.length - ((k+1)), by omega, s12, (k+1), rfl, F13, ok13, (cvi (by (first | rfl | omega | (simp_all; done) | (simp_all; omega))) q41), q38, q39, q40, by omega, allMay_step ha (by omega) c4, rfl⟩
    ·
     refine wp_exit ?_; refine tx ?_; refine tx ?_; refine bx ?_; refine tn ?_; refine wp_seq ?_
     refine rg a9 s7 [(Ty.int (0 : Int))] ok8 ⟨?_, trivial⟩ ?_
     · intro A B E G H; exact rP (y_assign rfl)
     intro a15 s13 D13; have ok14 := D13.ok; have F14 := F8.step0 D13.stp; have q42 := D13.dn 0 rfl rfl; clear D13; refine tn ?_; refine wp_ret ?_
     exact ret1 rfl ok14 F14 (cvi (by (rw [hmm]; exact (allMay_end ha (by omega)).symm)) q42)

theorem Tryd.inf21 : Info Tryd.prog 21 (.int .i32 0) 1 4 := by unfold Info; kernel_rfl
theorem Tryd.fld50_0 : fieldOf Tryd.prog 50 0 = some (21, 0) := by kernel_rfl
set_option maxHeartbeats 4000000 in
set_option maxRecDepth 100000 in
theorem callChk1_fn (sx : Int) (lx : List (List Int)) (sc : Int) (lc : List (List Int)) (σ : GW)  (v0 v1 : Value) (hv0 : Ty.has (Ty.agg [(Ty.val (Value.int .i32 sx)), (Ty.lst Ty.ints lx)]) σ v0) (hv1 : Ty.has (Ty.ref [(Ty.val (Value.int .i32 sc)), (Ty.lst Ty.ints lc)]) σ v1)   :
    FnC Tryd.prog 26 #[v0, v1] σ (Ty.bool (decide (sx = sc))) := by
 refine fn_intro0 Tryd.func26 rfl Tryd.ntmps26 (Nat.le_of_ble_eq_true rfl) (fun s0 a0 hle F0 ok0 hargs => ?_)
 have p0 : At (Ty.agg [(Ty.val (Value.int .i32 sx)), (Ty.lst Ty.ints lx)]) s0 a0 (.tmp 0) := by have e := hargs 0 _ rfl; show Ty.has _ _ _; rw [e]; exact Ty.up _ hle hv0
 have p1 : At (Ty.ref [(Ty.val (Value.int .i32 sc)), (Ty.lst Ty.ints lc)]) s0 a0 (.tmp 1) := by have e := hargs 1 _ rfl; show Ty.has _ _ _; rw [e]; exact Ty.up _ hle hv1
 clear hargs; refine wp_seq ?_
 refine rg a0 s0 [(Ty.ref [(Ty.val (Value.int .i32 sx)), (Ty.lst Ty.ints lx)]), (Ty.bool false)] ok0 ⟨?_, ?_, trivial⟩ ?_
 · intro A B E G H; exact rP (y_boxagg (kp (H 0 rfl) E p0))
 · intro A B E G H; exact rP (y_assign rfl)
 intro a1 s1 D1; have ok1 := D1.ok; have F1 := F0.step0 D1.stp; have q1 := D1.kt p1 rfl; have q2 := D1.dn 0 rfl rfl; clear D1; refine tn ?_; refine wp_seq ?_
 refine rg a1 s1 [(Ty.ref [(Ty.val (Value.int .i32 sx)), (Ty.lst Ty.ints lx)]), (Ty.val (Value.int .i32 sx)), (Ty.ref [(Ty.val (Value.int .i32 sc)), (Ty.lst Ty.ints lc)]), (Ty.val (Value.int .i32 sc)), (Ty.bool (decide (sx = sc))), (Ty.bool (decide (sx = sc)))] ok1 ⟨?_, ?_, ?_, ?_, ?_, ?_, trivial⟩ ?_
 · intro A B E G H; exact rP (y_field Tryd.fld50_0 Tryd.inf21 (by decide) (kp (H 2 rfl) E q2) rfl)
 · intro A B E G H d0; exact rP (y_load Tryd.underlying21 rfl (ed d0 rfl rfl rfl) rfl)
 · intro A B E G H; exact rP (y_field Tryd.fld50_0 Tryd.inf21 (by decide) (kp (H 1 rfl) E q1) rfl)
 · intro A B E G H d0; exact rP (y_load Tryd.underlying21 rfl (ed d0 rfl rfl rfl) rfl)
 · intro A B E G H d0 d1; exact rP (y_eql (ed d0 rfl rfl rfl) (ed d1 rfl rfl rfl))
 · intro A B E G H d0 d1 d2 d3 d4 d5; exact rP (y_assign (ed d0 rfl rfl rfl))
 intro a2 s2 D2; have ok2 := D2.ok; have F2 := F1.step0 D2.stp; have q3 := D2.dn 5 rfl rfl; clear D2; refine tn ?_; refine wp_ret ?_
 exact retL1 rfl ok2 F2 q3


end Go.Proofs.YtbilebfnanlgfaaDoor
