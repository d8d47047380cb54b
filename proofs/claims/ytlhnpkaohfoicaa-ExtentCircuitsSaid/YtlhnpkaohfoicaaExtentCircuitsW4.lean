/- The functions that the law ExtentCircuits reaches, each by its contract. Part 4. -/
import Derived.Test.YtlhnpkaohfoicaaExtentCircuitsW3
namespace Go.Proofs.Ytlhnpkaohfoicaa
open Go.KL

set_option maxRecDepth 100000 in
theorem extentCircuits_fn (n : Int) (cs : List (List Int)) (σ : GW)  (v0 v1 : Value) (hv0 : Ty.has (Ty.int n) σ v0) (hv1 : Ty.has (Ty.lst Ty.ints cs) σ v1)   :
    FnC Try.prog 4 #[v0, v1] σ (Ty.bool true) := by
 refine fn_intro0 Try.func4 rfl Try.ntmps4 (Nat.le_of_ble_eq_true rfl) (fun s0 a0 hle F0 ok0 hargs => ?_)
 have p0 : At (Ty.int n) s0 a0 (.tmp 0) := by have e := hargs 0 _ rfl; show Ty.has _ _ _; rw [e]; exact Ty.up _ hle hv0
 have p1 : At (Ty.lst Ty.ints cs) s0 a0 (.tmp 1) := by have e := hargs 1 _ rfl; show Ty.has _ _ _; rw [e]; exact Ty.up _ hle hv1
 have b1 := sl_le p1
 clear hargs
 refine wp_seq ?_
 refine reg (a := a0) (σ := s0) rfl (fun i_ => List.getD [(Ty.pr (Ty.bool false))] i_ Pr.any) ok0 rfl ⟨?_, trivial⟩ ?_
 · intro ax tx hs okx sm
   exact run_plain rfl (y_assign rfl)
 intro a1 s1 D1
 have ok1 := D1.ok
 have F1 := F0.step0 D1.stp
 have q1 : At (Ty.int n) s1 a1 (.tmp 0) := D1.kt p0 rfl
 have q2 : At (Ty.lst Ty.ints cs) s1 a1 (.tmp 1) := D1.kt p1 rfl
 clear D1
 refine tn ?_
 refine wp_seq ?_
 refine wp_seq ?_
 refine reg (a := a1) (σ := s1) rfl (fun i_ => List.getD [(Ty.pr (Ty.int n)), (Ty.pr (Ty.bool (decide (n = (4 : Int))))), (Ty.pr (Ty.bool (decide (n = (4 : Int))))), (Ty.pr (Ty.grd ((decide (n = (4 : Int))) = true) (Ty.lst Ty.ints cs))), (Ty.pr (Ty.grd ((decide (n = (4 : Int))) = true) (Ty.nat (List.length cs)))), (Ty.pr (Ty.grd ((decide (n = (4 : Int))) = true) (Ty.bool (decide ((3 : Int) < (((List.length cs) : Nat) : Int)))))), (Ty.pr (Ty.bool ((decide (n = (4 : Int))) && (decide ((3 : Int) < (((List.length cs) : Nat) : Int)))))), (Ty.pr (Ty.bool ((decide (n = (4 : Int))) && (decide ((3 : Int) < (((List.length cs) : Nat) : Int)))))), (Ty.pr (Ty.grd (((decide (n = (4 : Int))) && (decide ((3 : Int) < (((List.length cs) : Nat) : Int)))) = true) (Ty.lst Ty.ints cs))), (Ty.pr (Ty.grd (((decide (n = (4 : Int))) && (decide ((3 : Int) < (((List.length cs) : Nat) : Int)))) = true) (Ty.nat (List.length cs)))), (Ty.pr (Ty.grd (((decide (n = (4 : Int))) && (decide ((3 : Int) < (((List.length cs) : Nat) : Int)))) = true) (Ty.bool (decide ((((List.length cs) : Nat) : Int) < (9 : Int)))))), (Ty.pr (Ty.bool (((decide (n = (4 : Int))) && (decide ((3 : Int) < (((List.length cs) : Nat) : Int)))) && (decide ((((List.length cs) : Nat) : Int) < (9 : Int))))))] i_ Pr.any) ok1 rfl ⟨?_, ?_, ?_, ?_, ?_, ?_, ?_, ?_, ?_, ?_, ?_, ?_, trivial⟩ ?_
 · intro ax tx hs okx sm
   exact run_plain rfl (y_move (kp (sm 0 rfl) hs q1))
 · intro ax tx hs okx sm d0
   have e0 : At (Ty.int n) tx ax (.tmp 14) := d0 rfl
   exact run_plain rfl (y_eql e0 rfl)
 · intro ax tx hs okx sm d0
   have e1 : At (Ty.bool (decide (n = (4 : Int)))) tx ax (.tmp 15) := d0 rfl
   exact run_plain rfl (y_move e1)
 · intro ax tx hs okx sm d0
   have e2 : At (Ty.bool (decide (n = (4 : Int)))) tx ax (.tmp 16) := d0 rfl
   refine run_guard (T := (Ty.lst Ty.ints cs)) okx rfl rfl (by decide) e2 (fun hg => ?_)
   have hp := of_decide_eq_true hg
   exact y_move (kp (sm 1 rfl) hs q2)
 · intro ax tx hs okx sm d0 d1
   have e3 : At (Ty.grd ((decide (n = (4 : Int))) = true) (Ty.lst Ty.ints cs)) tx ax (.tmp 17) := d0 rfl
   have e2 : At (Ty.bool (decide (n = (4 : Int)))) tx ax (.tmp 16) := d1 rfl
   refine run_guard (T := (Ty.nat (List.length cs))) okx rfl rfl (by decide) e2 (fun hg => ?_)
   have hp := of_decide_eq_true hg
   exact y_len Try.underlying33 (e3.1 hg)
 · intro ax tx hs okx sm d0 d1
   have e4 : At (Ty.grd ((decide (n = (4 : Int))) = true) (Ty.nat (List.length cs))) tx ax (.tmp 18) := d0 rfl
   have e2 : At (Ty.bool (decide (n = (4 : Int)))) tx ax (.tmp 16) := d1 rfl
   refine run_guard (T := (Ty.bool (decide ((3 : Int) < (((List.length cs) : Nat) : Int))))) okx rfl rfl (by decide) e2 (fun hg => ?_)
   have hp := of_decide_eq_true hg
   exact y_gtr (e4.1 hg) rfl
 · intro ax tx hs okx sm d0 d1
   have e2 : At (Ty.bool (decide (n = (4 : Int)))) tx ax (.tmp 16) := d0 rfl
   have e5 : At (Ty.grd ((decide (n = (4 : Int))) = true) (Ty.bool (decide ((3 : Int) < (((List.length cs) : Nat) : Int))))) tx ax (.tmp 19) := d1 rfl
   exact run_plain rfl (y_pick_and e2 e5 rfl)
 · intro ax tx hs okx sm d0 d1
   have e6 : At (Ty.bool ((decide (n = (4 : Int))) && (decide ((3 : Int) < (((List.length cs) : Nat) : Int))))) tx ax (.tmp 20) := d0 rfl
   have e2 : At (Ty.bool (decide (n = (4 : Int)))) tx ax (.tmp 16) := d1 rfl
   exact run_plain rfl (y_move e6)
 · intro ax tx hs okx sm d0
   have e7 : At (Ty.bool ((decide (n = (4 : Int))) && (decide ((3 : Int) < (((List.length cs) : Nat) : Int))))) tx ax (.tmp 21) := d0 rfl
   refine run_guard (T := (Ty.lst Ty.ints cs)) okx rfl rfl (by decide) e7 (fun hg => ?_)
   obtain ⟨d1, d2⟩ := Bool.and_eq_true_iff.mp hg
   have d1 := of_decide_eq_true d1
   have d2 := of_decide_eq_true d2
   exact y_move (kp (sm 1 rfl) hs q2)
 · intro ax tx hs okx sm d0 d1
   have e8 : At (Ty.grd (((decide (n = (4 : Int))) && (decide ((3 : Int) < (((List.length cs) : Nat) : Int)))) = true) (Ty.lst Ty.ints cs)) tx ax (.tmp 22) := d0 rfl
   have e7 : At (Ty.bool ((decide (n = (4 : Int))) && (decide ((3 : Int) < (((List.length cs) : Nat) : Int))))) tx ax (.tmp 21) := d1 rfl
   refine run_guard (T := (Ty.nat (List.length cs))) okx rfl rfl (by decide) e7 (fun hg => ?_)
   obtain ⟨d3, d4⟩ := Bool.and_eq_true_iff.mp hg
   have d3 := of_decide_eq_true d3
   have d4 := of_decide_eq_true d4
   exact y_len Try.underlying33 (e8.1 hg)
 · intro ax tx hs okx sm d0 d1
   have e9 : At (Ty.grd (((decide (n = (4 : Int))) && (decide ((3 : Int) < (((List.length cs) : Nat) : Int)))) = true) (Ty.nat (List.length cs))) tx ax (.tmp 23) := d0 rfl
   have e7 : At (Ty.bool ((decide (n = (4 : Int))) && (decide ((3 : Int) < (((List.length cs) : Nat) : Int))))) tx ax (.tmp 21) := d1 rfl
   refine run_guard (T := (Ty.bool (decide ((((List.length cs) : Nat) : Int) < (9 : Int))))) okx rfl rfl (by decide) e7 (fun hg => ?_)
   obtain ⟨d5, d6⟩ := Bool.and_eq_true_iff.mp hg
   have d5 := of_decide_eq_true d5
   have d6 := of_decide_eq_true d6
   exact y_lss (e9.1 hg) rfl
 · intro ax tx hs okx sm d0 d1
   have e7 : At (Ty.bool ((decide (n = (4 : Int))) && (decide ((3 : Int) < (((List.length cs) : Nat) : Int))))) tx ax (.tmp 21) := d0 rfl
   have e10 : At (Ty.grd (((decide (n = (4 : Int))) && (decide ((3 : Int) < (((List.length cs) : Nat) : Int)))) = true) (Ty.bool (decide ((((List.length cs) : Nat) : Int) < (9 : Int))))) tx ax (.tmp 24) := d1 rfl
   exact run_plain rfl (y_pick_and e7 e10 rfl)
 intro a2 s2 D2
 have ok2 := D2.ok
 have F2 := F1.step0 D2.stp
 have q3 : At (Ty.int n) s2 a2 (.tmp 0) := D2.kt q1 rfl
 have q4 : At (Ty.lst Ty.ints cs) s2 a2 (.tmp 1) := D2.kt q2 rfl
 have q5 : At (Ty.bool (((decide (n = (4 : Int))) && (decide ((3 : Int) < (((List.length cs) : Nat) : Int)))) && (decide ((((List.length cs) : Nat) : Int) < (9 : Int))))) s2 a2 (.tmp 25) := D2.done 11
 clear D2
 refine tn ?_
 refine cond_t q5 (fun c1 => ?_) (fun c1 => ?_)
 ·
  obtain ⟨d7, d8⟩ := Bool.and_eq_true_iff.mp c1
  obtain ⟨d9, d10⟩ := Bool.and_eq_true_iff.mp d7
  replace d9 := of_decide_eq_true d9
  replace d10 := of_decide_eq_true d10
  replace d8 := of_decide_eq_true d8
  refine wp_seq ?_
  refine reg (a := a2) (σ := s2) rfl (fun i_ => List.getD [(Ty.pr (Ty.bool true))] i_ Pr.any) ok2 rfl ⟨?_, trivial⟩ ?_
  · intro ax tx hs okx sm
    exact run_plain rfl (y_assign rfl)
  intro a3 s3 D3
  have ok3 := D3.ok
  have F3 := F2.step0 D3.stp
  have q6 : At (Ty.bool true) s3 a3 (.tmp 4) := D3.done 0
  clear D3
  refine tn ?_
  refine wp_ret ?_
  refine tr ?_
  exact retL1 rfl ok3 F3 q6
 ·
  refine wp_skip ?_
  refine tn ?_
  refine wp_seq ?_
  refine reg (a := a2) (σ := s2) rfl (fun i_ => List.getD [(Ty.pr (Ty.int n)), (Ty.pr (Ty.lst Ty.ints cs)), (Ty.pr (Ty.tup3 (Ty.lst Ty.int ((cirO n cs).getD [])) (Ty.bool (cirO n cs).isSome) (Ty.int (cirMay n cs)))), (Ty.pr (Ty.tup3 (Ty.lst Ty.int ((cirO n cs).getD [])) (Ty.bool (cirO n cs).isSome) (Ty.int (cirMay n cs)))), (Ty.pr (Ty.lst Ty.int ((cirO n cs).getD []))), (Ty.pr (Ty.bool (cirO n cs).isSome)), (Ty.pr (Ty.int (cirMay n cs))), (Ty.pr (Ty.lst Ty.int ((cirO n cs).getD []))), (Ty.pr (Ty.bool (cirO n cs).isSome)), (Ty.pr (Ty.int (cirMay n cs)))] i_ Pr.any) ok2 rfl ⟨?_, ?_, ?_, ?_, ?_, ?_, ?_, ?_, ?_, ?_, trivial⟩ ?_
  · intro ax tx hs okx sm
    exact run_plain rfl (y_move (kp (sm 0 rfl) hs q3))
  · intro ax tx hs okx sm
    exact run_plain rfl (y_move (kp (sm 1 rfl) hs q4))
  · intro ax tx hs okx sm d0 d1
    have e0 : At (Ty.int n) tx ax (.tmp 27) := d0 rfl
    have e1 : At (Ty.lst Ty.ints cs) tx ax (.tmp 28) := d1 rfl
    exact run_plain rfl (y_call #[ax.eval (.tmp 27), ax.eval (.tmp 28)] Try.func20 rfl rfl (by simp only [List.map_toArray, List.map_cons, List.map_nil]) (extCircuit_fn (n) (cs) _ _ _ e0 e1 ))
  · intro ax tx hs okx sm d0
    have e2 : At (Ty.tup3 (Ty.lst Ty.int ((cirO n cs).getD [])) (Ty.bool (cirO n cs).isSome) (Ty.int (cirMay n cs))) tx ax (.tmp 29) := d0 rfl
    exact run_plain rfl (y_move e2)
  · intro ax tx hs okx sm d0
    have e3 : At (Ty.tup3 (Ty.lst Ty.int ((cirO n cs).getD [])) (Ty.bool (cirO n cs).isSome) (Ty.int (cirMay n cs))) tx ax (.tmp 26) := d0 rfl
    exact run_plain rfl (y_ext3_0 e3)
  · intro ax tx hs okx sm d0 d1
    have e3 : At (Ty.tup3 (Ty.lst Ty.int ((cirO n cs).getD [])) (Ty.bool (cirO n cs).isSome) (Ty.int (cirMay n cs))) tx ax (.tmp 26) := d0 rfl
    exact run_plain rfl (y_ext3_1 e3)
  · intro ax tx hs okx sm d0 d1
    have e3 : At (Ty.tup3 (Ty.lst Ty.int ((cirO n cs).getD [])) (Ty.bool (cirO n cs).isSome) (Ty.int (cirMay n cs))) tx ax (.tmp 26) := d0 rfl
    exact run_plain rfl (y_ext3_2 e3)
  · intro ax tx hs okx sm d0 d1 d2 d3 d4 d5 d6 d7 d8
    have e4 : At (Ty.lst Ty.int ((cirO n cs).getD [])) tx ax (.tmp 30) := d0 rfl
    have e2 : At (Ty.tup3 (Ty.lst Ty.int ((cirO n cs).getD [])) (Ty.bool (cirO n cs).isSome) (Ty.int (cirMay n cs))) tx ax (.tmp 29) := d1 rfl
    have e0 : At (Ty.int n) tx ax (.tmp 27) := d2 rfl
    have e1 : At (Ty.lst Ty.ints cs) tx ax (.tmp 28) := d3 rfl
    have e3 : At (Ty.tup3 (Ty.lst Ty.int ((cirO n cs).getD [])) (Ty.bool (cirO n cs).isSome) (Ty.int (cirMay n cs))) tx ax (.tmp 26) := d5 rfl
    exact run_plain rfl (y_assign e4)
  · intro ax tx hs okx sm d0 d1 d2 d3 d4 d5 d6 d7 d8 d9
    have e5 : At (Ty.bool (cirO n cs).isSome) tx ax (.tmp 31) := d0 rfl
    have e7 : At (Ty.lst Ty.int ((cirO n cs).getD [])) tx ax (.tmp 5) := d1 rfl
    have e0 : At (Ty.int n) tx ax (.tmp 27) := d2 rfl
    have e1 : At (Ty.lst Ty.ints cs) tx ax (.tmp 28) := d3 rfl
    have e2 : At (Ty.tup3 (Ty.lst Ty.int ((cirO n cs).getD [])) (Ty.bool (cirO n cs).isSome) (Ty.int (cirMay n cs))) tx ax (.tmp 29) := d4 rfl
    have e3 : At (Ty.tup3 (Ty.lst Ty.int ((cirO n cs).getD [])) (Ty.bool (cirO n cs).isSome) (Ty.int (cirMay n cs))) tx ax (.tmp 26) := d5 rfl
    have e4 : At (Ty.lst Ty.int ((cirO n cs).getD [])) tx ax (.tmp 30) := d6 rfl
    exact run_plain rfl (y_assign e5)
  · intro ax tx hs okx sm d0 d1 d2 d3 d4 d5 d6 d7 d8 d9 d10
    have e6 : At (Ty.int (cirMay n cs)) tx ax (.tmp 32) := d0 rfl
    have e8 : At (Ty.bool (cirO n cs).isSome) tx ax (.tmp 6) := d1 rfl
    have e0 : At (Ty.int n) tx ax (.tmp 27) := d2 rfl
    have e1 : At (Ty.lst Ty.ints cs) tx ax (.tmp 28) := d3 rfl
    have e2 : At (Ty.tup3 (Ty.lst Ty.int ((cirO n cs).getD [])) (Ty.bool (cirO n cs).isSome) (Ty.int (cirMay n cs))) tx ax (.tmp 29) := d4 rfl
    have e3 : At (Ty.tup3 (Ty.lst Ty.int ((cirO n cs).getD [])) (Ty.bool (cirO n cs).isSome) (Ty.int (cirMay n cs))) tx ax (.tmp 26) := d5 rfl
    have e4 : At (Ty.lst Ty.int ((cirO n cs).getD [])) tx ax (.tmp 30) := d6 rfl
    have e5 : At (Ty.bool (cirO n cs).isSome) tx ax (.tmp 31) := d7 rfl
    have e7 : At (Ty.lst Ty.int ((cirO n cs).getD [])) tx ax (.tmp 5) := d9 rfl
    exact run_plain rfl (y_assign e6)
  intro a4 s4 D4
  have ok4 := D4.ok
  have F4 := F2.step0 D4.stp
  have q7 : At (Ty.int n) s4 a4 (.tmp 0) := D4.kt q3 rfl
  have q8 : At (Ty.lst Ty.ints cs) s4 a4 (.tmp 1) := D4.kt q4 rfl
  have q9 : At (Ty.lst Ty.int ((cirO n cs).getD [])) s4 a4 (.tmp 5) := D4.done 7
  have q10 : At (Ty.bool (cirO n cs).isSome) s4 a4 (.tmp 6) := D4.done 8
  have q11 : At (Ty.int (cirMay n cs)) s4 a4 (.tmp 7) := D4.done 9
  clear D4
  refine tn ?_
  refine wp_seq ?_
  refine reg (a := a4) (σ := s4) rfl (fun i_ => List.getD [(Ty.pr (Ty.int (0 : Int)))] i_ Pr.any) ok4 rfl ⟨?_, trivial⟩ ?_
  · intro ax tx hs okx sm
    exact run_plain rfl (y_assign rfl)
  intro a5 s5 D5
  have ok5 := D5.ok
  have F5 := F4.step0 D5.stp
  have q12 : At (Ty.int n) s5 a5 (.tmp 0) := D5.kt q7 rfl
  have q13 : At (Ty.lst Ty.ints cs) s5 a5 (.tmp 1) := D5.kt q8 rfl
  have q14 : At (Ty.lst Ty.int ((cirO n cs).getD [])) s5 a5 (.tmp 5) := D5.kt q9 rfl
  have q15 : At (Ty.bool (cirO n cs).isSome) s5 a5 (.tmp 6) := D5.kt q10 rfl
  have q16 : At (Ty.int (cirMay n cs)) s5 a5 (.tmp 7) := D5.kt q11 rfl
  have q17 : At (Ty.int (0 : Int)) s5 a5 (.tmp 8) := D5.done 0
  clear D5
  refine tn ?_
  refine wp_seq ?_
  refine wp_seq ?_
  refine reg (a := a5) (σ := s5) rfl (fun i_ => List.getD [(Ty.pr (Ty.int n)), (Ty.pr (Ty.bool (decide (n < (1 : Int))))), (Ty.pr (Ty.bool (decide (n < (1 : Int))))), (Ty.pr (Ty.grd ((decide (n < (1 : Int))) = false) (Ty.int n))), (Ty.pr (Ty.grd ((decide (n < (1 : Int))) = false) (Ty.bool (decide ((4 : Int) < n))))), (Ty.pr (Ty.bool ((decide (n < (1 : Int))) || (decide ((4 : Int) < n))))), (Ty.pr (Ty.bool ((decide (n < (1 : Int))) || (decide ((4 : Int) < n))))), (Ty.pr (Ty.grd (((decide (n < (1 : Int))) || (decide ((4 : Int) < n))) = false) (Ty.lst Ty.ints cs))), (Ty.pr (Ty.grd (((decide (n < (1 : Int))) || (decide ((4 : Int) < n))) = false) (Ty.nat (List.length cs)))), (Ty.pr (Ty.grd (((decide (n < (1 : Int))) || (decide ((4 : Int) < n))) = false) (Ty.bool (decide ((8 : Int) < (((List.length cs) : Nat) : Int)))))), (Ty.pr (Ty.bool (((decide (n < (1 : Int))) || (decide ((4 : Int) < n))) || (decide ((8 : Int) < (((List.length cs) : Nat) : Int))))))] i_ Pr.any) ok5 rfl ⟨?_, ?_, ?_, ?_, ?_, ?_, ?_, ?_, ?_, ?_, ?_, trivial⟩ ?_
  · intro ax tx hs okx sm
    exact run_plain rfl (y_move (kp (sm 0 rfl) hs q12))
  · intro ax tx hs okx sm d0
    have e0 : At (Ty.int n) tx ax (.tmp 33) := d0 rfl
    exact run_plain rfl (y_lss e0 rfl)
  · intro ax tx hs okx sm d0
    have e1 : At (Ty.bool (decide (n < (1 : Int)))) tx ax (.tmp 34) := d0 rfl
    exact run_plain rfl (y_move e1)
  · intro ax tx hs okx sm d0
    have e2 : At (Ty.bool (decide (n < (1 : Int)))) tx ax (.tmp 35) := d0 rfl
    refine run_guard (T := (Ty.int n)) okx rfl rfl (by decide) e2 (fun hg => ?_)
    have hp := of_decide_eq_false hg
    exact y_move (kp (sm 0 rfl) hs q12)
  · intro ax tx hs okx sm d0 d1
    have e3 : At (Ty.grd ((decide (n < (1 : Int))) = false) (Ty.int n)) tx ax (.tmp 36) := d0 rfl
    have e2 : At (Ty.bool (decide (n < (1 : Int)))) tx ax (.tmp 35) := d1 rfl
    refine run_guard (T := (Ty.bool (decide ((4 : Int) < n)))) okx rfl rfl (by decide) e2 (fun hg => ?_)
    have hp := of_decide_eq_false hg
    exact y_gtr (e3.1 hg) rfl
  · intro ax tx hs okx sm d0 d1
    have e2 : At (Ty.bool (decide (n < (1 : Int)))) tx ax (.tmp 35) := d0 rfl
    have e4 : At (Ty.grd ((decide (n < (1 : Int))) = false) (Ty.bool (decide ((4 : Int) < n)))) tx ax (.tmp 37) := d1 rfl
    exact run_plain rfl (y_pick_or e2 rfl e4)
  · intro ax tx hs okx sm d0 d1
    have e5 : At (Ty.bool ((decide (n < (1 : Int))) || (decide ((4 : Int) < n)))) tx ax (.tmp 38) := d0 rfl
    have e2 : At (Ty.bool (decide (n < (1 : Int)))) tx ax (.tmp 35) := d1 rfl
    exact run_plain rfl (y_move e5)
  · intro ax tx hs okx sm d0
    have e6 : At (Ty.bool ((decide (n < (1 : Int))) || (decide ((4 : Int) < n)))) tx ax (.tmp 39) := d0 rfl
    refine run_guard (T := (Ty.lst Ty.ints cs)) okx rfl rfl (by decide) e6 (fun hg => ?_)
    obtain ⟨d11, d12⟩ := Bool.or_eq_false_iff.mp hg
    have d11 := of_decide_eq_false d11
    have d12 := of_decide_eq_false d12
    exact y_move (kp (sm 1 rfl) hs q13)
  · intro ax tx hs okx sm d0 d1
    have e7 : At (Ty.grd (((decide (n < (1 : Int))) || (decide ((4 : Int) < n))) = false) (Ty.lst Ty.ints cs)) tx ax (.tmp 40) := d0 rfl
    have e6 : At (Ty.bool ((decide (n < (1 : Int))) || (decide ((4 : Int) < n)))) tx ax (.tmp 39) := d1 rfl
    refine run_guard (T := (Ty.nat (List.length cs))) okx rfl rfl (by decide) e6 (fun hg => ?_)
    obtain ⟨d13, d14⟩ := Bool.or_eq_false_iff.mp hg
    have d13 := of_decide_eq_false d13
    have d14 := of_decide_eq_false d14
    exact y_len Try.underlying33 (e7.1 hg)
  · intro ax tx hs okx sm d0 d1
    have e8 : At (Ty.grd (((decide (n < (1 : Int))) || (decide ((4 : Int) < n))) = false) (Ty.nat (List.length cs))) tx ax (.tmp 41) := d0 rfl
    have e6 : At (Ty.bool ((decide (n < (1 : Int))) || (decide ((4 : Int) < n)))) tx ax (.tmp 39) := d1 rfl
    refine run_guard (T := (Ty.bool (decide ((8 : Int) < (((List.length cs) : Nat) : Int))))) okx rfl rfl (by decide) e6 (fun hg => ?_)
    obtain ⟨d15, d16⟩ := Bool.or_eq_false_iff.mp hg
    have d15 := of_decide_eq_false d15
    have d16 := of_decide_eq_false d16
    exact y_gtr (e8.1 hg) rfl
  · intro ax tx hs okx sm d0 d1
    have e6 : At (Ty.bool ((decide (n < (1 : Int))) || (decide ((4 : Int) < n)))) tx ax (.tmp 39) := d0 rfl
    have e9 : At (Ty.grd (((decide (n < (1 : Int))) || (decide ((4 : Int) < n))) = false) (Ty.bool (decide ((8 : Int) < (((List.length cs) : Nat) : Int))))) tx ax (.tmp 42) := d1 rfl
    exact run_plain rfl (y_pick_or e6 rfl e9)
  intro a6 s6 D6
  have ok6 := D6.ok
  have F6 := F5.step0 D6.stp
  have q18 : At (Ty.int n) s6 a6 (.tmp 0) := D6.kt q12 rfl
  have q19 : At (Ty.lst Ty.ints cs) s6 a6 (.tmp 1) := D6.kt q13 rfl
  have q20 : At (Ty.lst Ty.int ((cirO n cs).getD [])) s6 a6 (.tmp 5) := D6.kt q14 rfl
  have q21 : At (Ty.bool (cirO n cs).isSome) s6 a6 (.tmp 6) := D6.kt q15 rfl
  have q22 : At (Ty.int (cirMay n cs)) s6 a6 (.tmp 7) := D6.kt q16 rfl
  have q23 : At (Ty.int (0 : Int)) s6 a6 (.tmp 8) := D6.kt q17 rfl
  have q24 : At (Ty.bool (((decide (n < (1 : Int))) || (decide ((4 : Int) < n))) || (decide ((8 : Int) < (((List.length cs) : Nat) : Int))))) s6 a6 (.tmp 43) := D6.done 10
  clear D6
  refine tn ?_
  refine cond_t q24 (fun c2 => ?_) (fun c2 => ?_)
  ·
   simp only [Bool.or_eq_true, decide_eq_true_eq] at c2; have hm1 := cirMay_cnt (n := n) (cs := cs) (by omega); have ho1 := cirO_no (n := n) (cs := cs) (by rw [hm1]; decide)
   refine reg (a := a6) (σ := s6) rfl (fun i_ => List.getD [(Ty.pr (Ty.int (1 : Int)))] i_ Pr.any) ok6 rfl ⟨?_, trivial⟩ ?_
   · intro ax tx hs okx sm
     exact run_plain rfl (y_assign rfl)
   intro a7 s7 D7
   have ok7 := D7.ok
   have F7 := F6.step0 D7.stp
   have q25 : At (Ty.int n) s7 a7 (.tmp 0) := D7.kt q18 rfl
   have q26 : At (Ty.lst Ty.ints cs) s7 a7 (.tmp 1) := D7.kt q19 rfl
   have q27 : At (Ty.lst Ty.int ((cirO n cs).getD [])) s7 a7 (.tmp 5) := D7.kt q20 rfl
   have q28 : At (Ty.bool (cirO n cs).isSome) s7 a7 (.tmp 6) := D7.kt q21 rfl
   have q29 : At (Ty.int (cirMay n cs)) s7 a7 (.tmp 7) := D7.kt q22 rfl
   have q30 : At (Ty.int (1 : Int)) s7 a7 (.tmp 8) := D7.done 0
   clear D7
   refine tn ?_
   refine wp_seq ?_
   refine wp_seq ?_
   refine reg (a := a7) (σ := s7) rfl (fun i_ => List.getD [(Ty.pr (Ty.int (1 : Int))), (Ty.pr (Ty.bool false))] i_ Pr.any) ok7 rfl ⟨?_, ?_, trivial⟩ ?_
   · intro ax tx hs okx sm
     exact run_plain rfl (y_move (kp (sm 8 rfl) hs q30))
   · intro ax tx hs okx sm d0
     have e0 : At (Ty.int (1 : Int)) tx ax (.tmp 44) := d0 rfl
     exact run_plain rfl ((y_eql e0 rfl).mono (fun τ _ h => cvb (σ := τ) (by decide) h))
   intro a8 s8 D8
   have ok8 := D8.ok
   have F8 := F7.step0 D8.stp
   have q31 : At (Ty.int n) s8 a8 (.tmp 0) := D8.kt q25 rfl
   have q32 : At (Ty.lst Ty.ints cs) s8 a8 (.tmp 1) := D8.kt q26 rfl
   have q33 : At (Ty.lst Ty.int ((cirO n cs).getD [])) s8 a8 (.tmp 5) := D8.kt q27 rfl
   have q34 : At (Ty.bool (cirO n cs).isSome) s8 a8 (.tmp 6) := D8.kt q28 rfl
   have q35 : At (Ty.int (cirMay n cs)) s8 a8 (.tmp 7) := D8.kt q29 rfl
   have q36 : At (Ty.int (1 : Int)) s8 a8 (.tmp 8) := D8.kt q30 rfl
   have q37 : At (Ty.bool false) s8 a8 (.tmp 45) := D8.done 1
   clear D8
   refine tn ?_
   refine cond_t q37 (fun c3 => (by cases c3)) (fun _ => ?_)
   refine wp_skip ?_
   refine tn ?_
   refine wp_seq ?_
   refine wp_seq ?_
   refine reg (a := a8) (σ := s8) rfl (fun i_ => List.getD [(Ty.pr (Ty.int (0 : Int)))] i_ Pr.any) ok8 rfl ⟨?_, trivial⟩ ?_
   · intro ax tx hs okx sm
     exact run_plain rfl (y_assign rfl)
   intro a9 s9 D9
   have ok9 := D9.ok
   have F9 := F8.step0 D9.stp
   have q38 : At (Ty.int n) s9 a9 (.tmp 0) := D9.kt q31 rfl
   have q39 : At (Ty.lst Ty.ints cs) s9 a9 (.tmp 1) := D9.kt q32 rfl
   have q40 : At (Ty.lst Ty.int ((cirO n cs).getD [])) s9 a9 (.tmp 5) := D9.kt q33 rfl
   have q41 : At (Ty.bool (cirO n cs).isSome) s9 a9 (.tmp 6) := D9.kt q34 rfl
   have q42 : At (Ty.int (cirMay n cs)) s9 a9 (.tmp 7) := D9.kt q35 rfl
   have q43 : At (Ty.int (1 : Int)) s9 a9 (.tmp 8) := D9.kt q36 rfl
   have q44 : At (Ty.int (0 : Int)) s9 a9 (.tmp 9) := D9.done 0
   clear D9
   refine tn ?_
   refine wp_block ?_
   refine loop (fun n1 a10 w1 => ∃ (t1 : GW) (k : Nat), t1.w = w1 ∧ FromL [] s0 t1 ∧ Ok 104 a10 ∧ At (Ty.nat k) t1 a10 (.tmp 9) ∧ At (Ty.int (1 : Int)) t1 a10 (.tmp 8) ∧ At (Ty.int n) t1 a10 (.tmp 0) ∧ At (Ty.lst Ty.ints cs) t1 a10 (.tmp 1) ∧ At (Ty.lst Ty.int ((cirO n cs).getD [])) t1 a10 (.tmp 5) ∧ At (Ty.bool (cirO n cs).isSome) t1 a10 (.tmp 6) ∧ At (Ty.int (cirMay n cs)) t1 a10 (.tmp 7) ∧ (k ≤ cs.length) ∧ n1 = cs.length - k) (cs.length - (0)) ?_ ?_
   ·
    exact ⟨s9, 0, rfl, F9, ok9, (cvi (by (first | rfl | omega | (simp_all; done) | (simp_all; omega))) q44), q43, q38, q39, q40, q41, q42, by omega, rfl⟩
   ·
    rintro n2 a11 w2 ⟨t2, k, rfl, F10, ok10, q45, q46, q47, q48, q49, q50, q51, hk, rfl⟩
    refine wp_seq ?_
    refine wp_seq ?_
    refine reg (a := a11) (σ := t2) rfl (fun i_ => List.getD [(Ty.pr (Ty.nat k)), (Ty.pr (Ty.lst Ty.ints cs)), (Ty.pr (Ty.nat (List.length cs))), (Ty.pr (Ty.bool (decide (((k : Nat) : Int) < (((List.length cs) : Nat) : Int))))), (Ty.pr (Ty.bool (decide (((k : Nat) : Int) < (((List.length cs) : Nat) : Int))))), (Ty.pr (Ty.grd ((decide (((k : Nat) : Int) < (((List.length cs) : Nat) : Int))) = true) (Ty.int (1 : Int)))), (Ty.pr (Ty.grd ((decide (((k : Nat) : Int) < (((List.length cs) : Nat) : Int))) = true) (Ty.bool false))), (Ty.pr (Ty.bool ((decide (((k : Nat) : Int) < (((List.length cs) : Nat) : Int))) && false)))] i_ Pr.any) ok10 rfl ⟨?_, ?_, ?_, ?_, ?_, ?_, ?_, ?_, trivial⟩ ?_
    · intro ax tx hs okx sm
      exact run_plain rfl (y_move (kp (sm 9 rfl) hs q45))
    · intro ax tx hs okx sm
      exact run_plain rfl (y_move (kp (sm 1 rfl) hs q48))
    · intro ax tx hs okx sm d0
      have e1 : At (Ty.lst Ty.ints cs) tx ax (.tmp 50) := d0 rfl
      exact run_plain rfl (y_len Try.underlying33 e1)
    · intro ax tx hs okx sm d0 d1
      have e0 : At (Ty.nat k) tx ax (.tmp 49) := d0 rfl
      have e2 : At (Ty.nat (List.length cs)) tx ax (.tmp 51) := d1 rfl
      exact run_plain rfl (y_lss e0 e2)
    · intro ax tx hs okx sm d0
      have e3 : At (Ty.bool (decide (((k : Nat) : Int) < (((List.length cs) : Nat) : Int)))) tx ax (.tmp 52) := d0 rfl
      exact run_plain rfl (y_move e3)
    · intro ax tx hs okx sm d0
      have e4 : At (Ty.bool (decide (((k : Nat) : Int) < (((List.length cs) : Nat) : Int)))) tx ax (.tmp 53) := d0 rfl
      refine run_guard (T := (Ty.int (1 : Int))) okx rfl rfl (by decide) e4 (fun hg => ?_)
      have hp := of_decide_eq_true hg
      exact y_move (kp (sm 8 rfl) hs q46)
    · intro ax tx hs okx sm d0 d1
      have e5 : At (Ty.grd ((decide (((k : Nat) : Int) < (((List.length cs) : Nat) : Int))) = true) (Ty.int (1 : Int))) tx ax (.tmp 54) := d0 rfl
      have e4 : At (Ty.bool (decide (((k : Nat) : Int) < (((List.length cs) : Nat) : Int)))) tx ax (.tmp 53) := d1 rfl
      refine run_guard (T := (Ty.bool false)) okx rfl rfl (by decide) e4 (fun hg => ?_)
      have hp := of_decide_eq_true hg
      exact (y_eql (e5.1 hg) rfl).mono (fun τ _ h => cvb (σ := τ) (by decide) h)
    · intro ax tx hs okx sm d0 d1
      have e4 : At (Ty.bool (decide (((k : Nat) : Int) < (((List.length cs) : Nat) : Int)))) tx ax (.tmp 53) := d0 rfl
      have e6 : At (Ty.grd ((decide (((k : Nat) : Int) < (((List.length cs) : Nat) : Int))) = true) (Ty.bool false)) tx ax (.tmp 55) := d1 rfl
      exact run_plain rfl (y_pick_and e4 e6 rfl)
    intro a12 s10 D10
    have ok11 := D10.ok
    have F11 := F10.step0 D10.stp
    have q52 : At (Ty.nat k) s10 a12 (.tmp 9) := D10.kt q45 rfl
    have q53 : At (Ty.int (1 : Int)) s10 a12 (.tmp 8) := D10.kt q46 rfl
    have q54 : At (Ty.int n) s10 a12 (.tmp 0) := D10.kt q47 rfl
    have q55 : At (Ty.lst Ty.ints cs) s10 a12 (.tmp 1) := D10.kt q48 rfl
    have q56 : At (Ty.lst Ty.int ((cirO n cs).getD [])) s10 a12 (.tmp 5) := D10.kt q49 rfl
    have q57 : At (Ty.bool (cirO n cs).isSome) s10 a12 (.tmp 6) := D10.kt q50 rfl
    have q58 : At (Ty.int (cirMay n cs)) s10 a12 (.tmp 7) := D10.kt q51 rfl
    have q59 : At (Ty.bool ((decide (((k : Nat) : Int) < (((List.length cs) : Nat) : Int))) && false)) s10 a12 (.tmp 56) := D10.done 7
    clear D10
    refine tn ?_
    refine cond_t q59 (fun c4 => ?_) (fun c4 => ?_)
    ·
     exfalso
     simp at c4
    ·
     refine wp_exit ?_
     refine tx ?_
     refine tx ?_
     refine bx ?_
     refine tn ?_
     refine wp_seq ?_
     refine wp_seq ?_
     refine reg (a := a12) (σ := s10) rfl (fun i_ => List.getD [(Ty.pr (Ty.int (1 : Int))), (Ty.pr (Ty.bool true))] i_ Pr.any) ok11 rfl ⟨?_, ?_, trivial⟩ ?_
     · intro ax tx hs okx sm
       exact run_plain rfl (y_move (kp (sm 8 rfl) hs q53))
     · intro ax tx hs okx sm d0
       have e0 : At (Ty.int (1 : Int)) tx ax (.tmp 69) := d0 rfl
       exact run_plain rfl ((y_neq e0 rfl).mono (fun τ _ h => cvb (σ := τ) (by decide) h))
     intro a13 s11 D11
     have ok12 := D11.ok
     have F12 := F11.step0 D11.stp
     have q60 : At (Ty.int (1 : Int)) s11 a13 (.tmp 8) := D11.kt q53 rfl
     have q61 : At (Ty.int n) s11 a13 (.tmp 0) := D11.kt q54 rfl
     have q62 : At (Ty.lst Ty.ints cs) s11 a13 (.tmp 1) := D11.kt q55 rfl
     have q63 : At (Ty.lst Ty.int ((cirO n cs).getD [])) s11 a13 (.tmp 5) := D11.kt q56 rfl
     have q64 : At (Ty.bool (cirO n cs).isSome) s11 a13 (.tmp 6) := D11.kt q57 rfl
     have q65 : At (Ty.int (cirMay n cs)) s11 a13 (.tmp 7) := D11.kt q58 rfl
     have q66 : At (Ty.bool true) s11 a13 (.tmp 70) := D11.done 1
     clear D11
     refine tn ?_
     refine cond_t q66 (fun _ => ?_) (fun c5 => (by cases c5))
     refine wp_seq ?_
     refine reg (a := a13) (σ := s11) rfl (fun i_ => List.getD [(Ty.pr (Ty.int (cirMay n cs))), (Ty.pr (Ty.int (1 : Int))), (Ty.pr (Ty.bool (decide ((cirMay n cs) = (1 : Int))))), (Ty.pr (Ty.bool (decide ((cirMay n cs) = (1 : Int))))), (Ty.pr (Ty.grd ((decide ((cirMay n cs) = (1 : Int))) = true) (Ty.bool (cirO n cs).isSome))), (Ty.pr (Ty.grd ((decide ((cirMay n cs) = (1 : Int))) = true) (Ty.bool (!(cirO n cs).isSome)))), (Ty.pr (Ty.bool ((decide ((cirMay n cs) = (1 : Int))) && (!(cirO n cs).isSome)))), (Ty.pr (Ty.bool ((decide ((cirMay n cs) = (1 : Int))) && (!(cirO n cs).isSome)))), (Ty.pr (Ty.grd (((decide ((cirMay n cs) = (1 : Int))) && (!(cirO n cs).isSome)) = true) (Ty.lst Ty.int ((cirO n cs).getD [])))), (Ty.pr (Ty.grd (((decide ((cirMay n cs) = (1 : Int))) && (!(cirO n cs).isSome)) = true) (Ty.nat (List.length ((cirO n cs).getD []))))), (Ty.pr (Ty.grd (((decide ((cirMay n cs) = (1 : Int))) && (!(cirO n cs).isSome)) = true) (Ty.bool (decide ((((List.length ((cirO n cs).getD [])) : Nat) : Int) = (0 : Int)))))), (Ty.pr (Ty.bool (((decide ((cirMay n cs) = (1 : Int))) && (!(cirO n cs).isSome)) && (decide ((((List.length ((cirO n cs).getD [])) : Nat) : Int) = (0 : Int)))))), (Ty.pr (Ty.bool (((decide ((cirMay n cs) = (1 : Int))) && (!(cirO n cs).isSome)) && (decide ((((List.length ((cirO n cs).getD [])) : Nat) : Int) = (0 : Int))))))] i_ Pr.any) ok12 rfl ⟨?_, ?_, ?_, ?_, ?_, ?_, ?_, ?_, ?_, ?_, ?_, ?_, ?_, trivial⟩ ?_
     · intro ax tx hs okx sm
       exact run_plain rfl (y_move (kp (sm 7 rfl) hs q65))
     · intro ax tx hs okx sm
       exact run_plain rfl (y_move (kp (sm 8 rfl) hs q60))
     · intro ax tx hs okx sm d0 d1
       have e0 : At (Ty.int (cirMay n cs)) tx ax (.tmp 71) := d0 rfl
       have e1 : At (Ty.int (1 : Int)) tx ax (.tmp 72) := d1 rfl
       exact run_plain rfl (y_eql e0 e1)
     · intro ax tx hs okx sm d0
       have e2 : At (Ty.bool (decide ((cirMay n cs) = (1 : Int)))) tx ax (.tmp 73) := d0 rfl
       exact run_plain rfl (y_move e2)
     · intro ax tx hs okx sm d0
       have e3 : At (Ty.bool (decide ((cirMay n cs) = (1 : Int)))) tx ax (.tmp 74) := d0 rfl
       refine run_guard (T := (Ty.bool (cirO n cs).isSome)) okx rfl rfl (by decide) e3 (fun hg => ?_)
       have hp := of_decide_eq_true hg
       exact y_move (kp (sm 6 rfl) hs q64)
     · intro ax tx hs okx sm d0 d1
       have e4 : At (Ty.grd ((decide ((cirMay n cs) = (1 : Int))) = true) (Ty.bool (cirO n cs).isSome)) tx ax (.tmp 75) := d0 rfl
       have e3 : At (Ty.bool (decide ((cirMay n cs) = (1 : Int)))) tx ax (.tmp 74) := d1 rfl
       refine run_guard (T := (Ty.bool (!(cirO n cs).isSome))) okx rfl rfl (by decide) e3 (fun hg => ?_)
       have hp := of_decide_eq_true hg
       exact y_not (e4.1 hg)
     · intro ax tx hs okx sm d0 d1
       have e3 : At (Ty.bool (decide ((cirMay n cs) = (1 : Int)))) tx ax (.tmp 74) := d0 rfl
       have e5 : At (Ty.grd ((decide ((cirMay n cs) = (1 : Int))) = true) (Ty.bool (!(cirO n cs).isSome))) tx ax (.tmp 76) := d1 rfl
       exact run_plain rfl (y_pick_and e3 e5 rfl)
     · intro ax tx hs okx sm d0 d1
       have e6 : At (Ty.bool ((decide ((cirMay n cs) = (1 : Int))) && (!(cirO n cs).isSome))) tx ax (.tmp 77) := d0 rfl
       have e3 : At (Ty.bool (decide ((cirMay n cs) = (1 : Int)))) tx ax (.tmp 74) := d1 rfl
       exact run_plain rfl (y_move e6)
     · intro ax tx hs okx sm d0
       have e7 : At (Ty.bool ((decide ((cirMay n cs) = (1 : Int))) && (!(cirO n cs).isSome))) tx ax (.tmp 78) := d0 rfl
       refine run_guard (T := (Ty.lst Ty.int ((cirO n cs).getD []))) okx rfl rfl (by decide) e7 (fun hg => ?_)
       obtain ⟨d17, d18⟩ := Bool.and_eq_true_iff.mp hg
       have d17 := of_decide_eq_true d17
       exact y_move (kp (sm 5 rfl) hs q63)
     · intro ax tx hs okx sm d0 d1
       have e8 : At (Ty.grd (((decide ((cirMay n cs) = (1 : Int))) && (!(cirO n cs).isSome)) = true) (Ty.lst Ty.int ((cirO n cs).getD []))) tx ax (.tmp 79) := d0 rfl
       have e7 : At (Ty.bool ((decide ((cirMay n cs) = (1 : Int))) && (!(cirO n cs).isSome))) tx ax (.tmp 78) := d1 rfl
       refine run_guard (T := (Ty.nat (List.length ((cirO n cs).getD [])))) okx rfl rfl (by decide) e7 (fun hg => ?_)
       obtain ⟨d19, d20⟩ := Bool.and_eq_true_iff.mp hg
       have d19 := of_decide_eq_true d19
       exact y_len Try.underlying34 (e8.1 hg)
     · intro ax tx hs okx sm d0 d1
       have e9 : At (Ty.grd (((decide ((cirMay n cs) = (1 : Int))) && (!(cirO n cs).isSome)) = true) (Ty.nat (List.length ((cirO n cs).getD [])))) tx ax (.tmp 80) := d0 rfl
       have e7 : At (Ty.bool ((decide ((cirMay n cs) = (1 : Int))) && (!(cirO n cs).isSome))) tx ax (.tmp 78) := d1 rfl
       refine run_guard (T := (Ty.bool (decide ((((List.length ((cirO n cs).getD [])) : Nat) : Int) = (0 : Int))))) okx rfl rfl (by decide) e7 (fun hg => ?_)
       obtain ⟨d21, d22⟩ := Bool.and_eq_true_iff.mp hg
       have d21 := of_decide_eq_true d21
       exact y_eql (e9.1 hg) rfl
     · intro ax tx hs okx sm d0 d1
       have e7 : At (Ty.bool ((decide ((cirMay n cs) = (1 : Int))) && (!(cirO n cs).isSome))) tx ax (.tmp 78) := d0 rfl
       have e10 : At (Ty.grd (((decide ((cirMay n cs) = (1 : Int))) && (!(cirO n cs).isSome)) = true) (Ty.bool (decide ((((List.length ((cirO n cs).getD [])) : Nat) : Int) = (0 : Int))))) tx ax (.tmp 81) := d1 rfl
       exact run_plain rfl (y_pick_and e7 e10 rfl)
     · intro ax tx hs okx sm d0 d1 d2 d3 d4 d5 d6 d7 d8 d9 d10 d11 d12 d13
       have e11 : At (Ty.bool (((decide ((cirMay n cs) = (1 : Int))) && (!(cirO n cs).isSome)) && (decide ((((List.length ((cirO n cs).getD [])) : Nat) : Int) = (0 : Int))))) tx ax (.tmp 82) := d0 rfl
       have e7 : At (Ty.bool ((decide ((cirMay n cs) = (1 : Int))) && (!(cirO n cs).isSome))) tx ax (.tmp 78) := d1 rfl
       have e0 : At (Ty.int (cirMay n cs)) tx ax (.tmp 71) := d2 rfl
       have e1 : At (Ty.int (1 : Int)) tx ax (.tmp 72) := d3 rfl
       have e2 : At (Ty.bool (decide ((cirMay n cs) = (1 : Int)))) tx ax (.tmp 73) := d4 rfl
       have e3 : At (Ty.bool (decide ((cirMay n cs) = (1 : Int)))) tx ax (.tmp 74) := d5 rfl
       have e4 : At (Ty.grd ((decide ((cirMay n cs) = (1 : Int))) = true) (Ty.bool (cirO n cs).isSome)) tx ax (.tmp 75) := d6 rfl
       have e5 : At (Ty.grd ((decide ((cirMay n cs) = (1 : Int))) = true) (Ty.bool (!(cirO n cs).isSome))) tx ax (.tmp 76) := d7 rfl
       have e6 : At (Ty.bool ((decide ((cirMay n cs) = (1 : Int))) && (!(cirO n cs).isSome))) tx ax (.tmp 77) := d8 rfl
       have e8 : At (Ty.grd (((decide ((cirMay n cs) = (1 : Int))) && (!(cirO n cs).isSome)) = true) (Ty.lst Ty.int ((cirO n cs).getD []))) tx ax (.tmp 79) := d10 rfl
       have e9 : At (Ty.grd (((decide ((cirMay n cs) = (1 : Int))) && (!(cirO n cs).isSome)) = true) (Ty.nat (List.length ((cirO n cs).getD [])))) tx ax (.tmp 80) := d11 rfl
       have e10 : At (Ty.grd (((decide ((cirMay n cs) = (1 : Int))) && (!(cirO n cs).isSome)) = true) (Ty.bool (decide ((((List.length ((cirO n cs).getD [])) : Nat) : Int) = (0 : Int))))) tx ax (.tmp 81) := d12 rfl
       exact run_plain rfl (y_assign e11)
     intro a14 s12 D12
     have ok13 := D12.ok
     have F13 := F12.step0 D12.stp
     have q67 : At (Ty.bool (((decide ((cirMay n cs) = (1 : Int))) && (!(cirO n cs).isSome)) && (decide ((((List.length ((cirO n cs).getD [])) : Nat) : Int) = (0 : Int))))) s12 a14 (.tmp 4) := D12.done 12
     clear D12
     refine tn ?_
     refine wp_ret ?_
     refine tr ?_
     exact retL1 rfl ok13 F13 (cvb (by (rw [hm1, ho1]; rfl)) q67)
  ·
   obtain ⟨d23, d24⟩ := Bool.or_eq_false_iff.mp c2
   obtain ⟨d25, d26⟩ := Bool.or_eq_false_iff.mp d23
   replace d25 := of_decide_eq_false d25
   replace d26 := of_decide_eq_false d26
   replace d24 := of_decide_eq_false d24
   have hc2 : ¬ (n < 1 ∨ 4 < n ∨ 8 < cs.length) := by omega
   refine wp_skip ?_
   refine tn ?_
   refine wp_seq ?_
   refine wp_seq ?_
   refine reg (a := a6) (σ := s6) rfl (fun i_ => List.getD [(Ty.pr (Ty.int (0 : Int))), (Ty.pr (Ty.bool true))] i_ Pr.any) ok6 rfl ⟨?_, ?_, trivial⟩ ?_
   · intro ax tx hs okx sm
     exact run_plain rfl (y_move (kp (sm 8 rfl) hs q23))
   · intro ax tx hs okx sm d0
     have e0 : At (Ty.int (0 : Int)) tx ax (.tmp 44) := d0 rfl
     exact run_plain rfl ((y_eql e0 rfl).mono (fun τ _ h => cvb (σ := τ) (by decide) h))
   intro a15 s13 D13
   have ok14 := D13.ok
   have F14 := F6.step0 D13.stp
   have q68 : At (Ty.int n) s13 a15 (.tmp 0) := D13.kt q18 rfl
   have q69 : At (Ty.lst Ty.ints cs) s13 a15 (.tmp 1) := D13.kt q19 rfl
   have q70 : At (Ty.lst Ty.int ((cirO n cs).getD [])) s13 a15 (.tmp 5) := D13.kt q20 rfl
   have q71 : At (Ty.bool (cirO n cs).isSome) s13 a15 (.tmp 6) := D13.kt q21 rfl
   have q72 : At (Ty.int (cirMay n cs)) s13 a15 (.tmp 7) := D13.kt q22 rfl
   have q73 : At (Ty.int (0 : Int)) s13 a15 (.tmp 8) := D13.kt q23 rfl
   have q74 : At (Ty.bool true) s13 a15 (.tmp 45) := D13.done 1
   clear D13
   refine tn ?_
   refine cond_t q74 (fun _ => ?_) (fun c6 => (by cases c6))
   refine reg (a := a15) (σ := s13) rfl (fun i_ => List.getD [(Ty.pr (Ty.int n)), (Ty.pr (Ty.lst Ty.ints cs)), (Ty.pr (Ty.int (gensMay n (cs)))), (Ty.pr (Ty.int (gensMay n (cs))))] i_ Pr.any) ok14 rfl ⟨?_, ?_, ?_, ?_, trivial⟩ ?_
   · intro ax tx hs okx sm
     exact run_plain rfl (y_move (kp (sm 0 rfl) hs q68))
   · intro ax tx hs okx sm
     exact run_plain rfl (y_move (kp (sm 1 rfl) hs q69))
   · intro ax tx hs okx sm d0 d1
     have e0 : At (Ty.int n) tx ax (.tmp 46) := d0 rfl
     have e1 : At (Ty.lst Ty.ints cs) tx ax (.tmp 47) := d1 rfl
     exact run_plain rfl (y_call #[ax.eval (.tmp 46), ax.eval (.tmp 47)] Try.func21 rfl rfl (by simp only [List.map_toArray, List.map_cons, List.map_nil]) (rGensMay_fn (n) (cs) _ _ _ e0 e1 ))
   · intro ax tx hs okx sm d0 d1 d2 d3 d4
     have e2 : At (Ty.int (gensMay n (cs))) tx ax (.tmp 48) := d0 rfl
     have e0 : At (Ty.int n) tx ax (.tmp 46) := d2 rfl
     have e1 : At (Ty.lst Ty.ints cs) tx ax (.tmp 47) := d3 rfl
     exact run_plain rfl (y_assign e2)
   intro a16 s14 D14
   have ok15 := D14.ok
   have F15 := F14.step0 D14.stp
   have q75 : At (Ty.int n) s14 a16 (.tmp 0) := D14.kt q68 rfl
   have q76 : At (Ty.lst Ty.ints cs) s14 a16 (.tmp 1) := D14.kt q69 rfl
   have q77 : At (Ty.lst Ty.int ((cirO n cs).getD [])) s14 a16 (.tmp 5) := D14.kt q70 rfl
   have q78 : At (Ty.bool (cirO n cs).isSome) s14 a16 (.tmp 6) := D14.kt q71 rfl
   have q79 : At (Ty.int (cirMay n cs)) s14 a16 (.tmp 7) := D14.kt q72 rfl
   have q80 : At (Ty.int (gensMay n (cs))) s14 a16 (.tmp 8) := D14.done 3
   clear D14
   refine tn ?_
   refine wp_seq ?_
   refine wp_seq ?_
   refine reg (a := a16) (σ := s14) rfl (fun i_ => List.getD [(Ty.pr (Ty.int (0 : Int)))] i_ Pr.any) ok15 rfl ⟨?_, trivial⟩ ?_
   · intro ax tx hs okx sm
     exact run_plain rfl (y_assign rfl)
   intro a17 s15 D15
   have ok16 := D15.ok
   have F16 := F15.step0 D15.stp
   have q81 : At (Ty.int n) s15 a17 (.tmp 0) := D15.kt q75 rfl
   have q82 : At (Ty.lst Ty.ints cs) s15 a17 (.tmp 1) := D15.kt q76 rfl
   have q83 : At (Ty.lst Ty.int ((cirO n cs).getD [])) s15 a17 (.tmp 5) := D15.kt q77 rfl
   have q84 : At (Ty.bool (cirO n cs).isSome) s15 a17 (.tmp 6) := D15.kt q78 rfl
   have q85 : At (Ty.int (cirMay n cs)) s15 a17 (.tmp 7) := D15.kt q79 rfl
   have q86 : At (Ty.int (gensMay n (cs))) s15 a17 (.tmp 8) := D15.kt q80 rfl
   have q87 : At (Ty.int (0 : Int)) s15 a17 (.tmp 9) := D15.done 0
   clear D15
   refine tn ?_
   refine wp_block ?_
   refine loop (fun n3 a18 w3 => ∃ (t3 : GW) (k : Nat), t3.w = w3 ∧ FromL [] s0 t3 ∧ Ok 104 a18 ∧ At (Ty.nat k) t3 a18 (.tmp 9) ∧ At (Ty.int (cirTo n cs k)) t3 a18 (.tmp 8) ∧ At (Ty.int n) t3 a18 (.tmp 0) ∧ At (Ty.lst Ty.ints cs) t3 a18 (.tmp 1) ∧ At (Ty.lst Ty.int ((cirO n cs).getD [])) t3 a18 (.tmp 5) ∧ At (Ty.bool (cirO n cs).isSome) t3 a18 (.tmp 6) ∧ At (Ty.int (cirMay n cs)) t3 a18 (.tmp 7) ∧ (k ≤ cs.length) ∧ n3 = cs.length - k) (cs.length - (0)) ?_ ?_
   ·
    exact ⟨s15, 0, rfl, F16, ok16, (cvi (by (first | rfl | omega | (simp_all; done) | (simp_all; omega))) q87), (cvi (by (exact (cirTo_zero n cs).symm)) q86), q81, q82, q83, q84, q85, by omega, rfl⟩
   ·
    rintro n4 a19 w4 ⟨t4, k, rfl, F17, ok17, q88, q89, q90, q91, q92, q93, q94, hk, rfl⟩
    refine wp_seq ?_
    refine wp_seq ?_
    refine reg (a := a19) (σ := t4) rfl (fun i_ => List.getD [(Ty.pr (Ty.nat k)), (Ty.pr (Ty.lst Ty.ints cs)), (Ty.pr (Ty.nat (List.length cs))), (Ty.pr (Ty.bool (decide (((k : Nat) : Int) < (((List.length cs) : Nat) : Int))))), (Ty.pr (Ty.bool (decide (((k : Nat) : Int) < (((List.length cs) : Nat) : Int))))), (Ty.pr (Ty.grd ((decide (((k : Nat) : Int) < (((List.length cs) : Nat) : Int))) = true) (Ty.int (cirTo n cs k)))), (Ty.pr (Ty.grd ((decide (((k : Nat) : Int) < (((List.length cs) : Nat) : Int))) = true) (Ty.bool (decide ((cirTo n cs k) = (0 : Int)))))), (Ty.pr (Ty.bool ((decide (((k : Nat) : Int) < (((List.length cs) : Nat) : Int))) && (decide ((cirTo n cs k) = (0 : Int))))))] i_ Pr.any) ok17 rfl ⟨?_, ?_, ?_, ?_, ?_, ?_, ?_, ?_, trivial⟩ ?_
    · intro ax tx hs okx sm
      exact run_plain rfl (y_move (kp (sm 9 rfl) hs q88))
    · intro ax tx hs okx sm
      exact run_plain rfl (y_move (kp (sm 1 rfl) hs q91))
    · intro ax tx hs okx sm d0
      have e1 : At (Ty.lst Ty.ints cs) tx ax (.tmp 50) := d0 rfl
      exact run_plain rfl (y_len Try.underlying33 e1)
    · intro ax tx hs okx sm d0 d1
      have e0 : At (Ty.nat k) tx ax (.tmp 49) := d0 rfl
      have e2 : At (Ty.nat (List.length cs)) tx ax (.tmp 51) := d1 rfl
      exact run_plain rfl (y_lss e0 e2)
    · intro ax tx hs okx sm d0
      have e3 : At (Ty.bool (decide (((k : Nat) : Int) < (((List.length cs) : Nat) : Int)))) tx ax (.tmp 52) := d0 rfl
      exact run_plain rfl (y_move e3)
    · intro ax tx hs okx sm d0
      have e4 : At (Ty.bool (decide (((k : Nat) : Int) < (((List.length cs) : Nat) : Int)))) tx ax (.tmp 53) := d0 rfl
      refine run_guard (T := (Ty.int (cirTo n cs k))) okx rfl rfl (by decide) e4 (fun hg => ?_)
      have hp := of_decide_eq_true hg
      exact y_move (kp (sm 8 rfl) hs q89)
    · intro ax tx hs okx sm d0 d1
      have e5 : At (Ty.grd ((decide (((k : Nat) : Int) < (((List.length cs) : Nat) : Int))) = true) (Ty.int (cirTo n cs k))) tx ax (.tmp 54) := d0 rfl
      have e4 : At (Ty.bool (decide (((k : Nat) : Int) < (((List.length cs) : Nat) : Int)))) tx ax (.tmp 53) := d1 rfl
      refine run_guard (T := (Ty.bool (decide ((cirTo n cs k) = (0 : Int))))) okx rfl rfl (by decide) e4 (fun hg => ?_)
      have hp := of_decide_eq_true hg
      exact y_eql (e5.1 hg) rfl
    · intro ax tx hs okx sm d0 d1
      have e4 : At (Ty.bool (decide (((k : Nat) : Int) < (((List.length cs) : Nat) : Int)))) tx ax (.tmp 53) := d0 rfl
      have e6 : At (Ty.grd ((decide (((k : Nat) : Int) < (((List.length cs) : Nat) : Int))) = true) (Ty.bool (decide ((cirTo n cs k) = (0 : Int))))) tx ax (.tmp 55) := d1 rfl
      exact run_plain rfl (y_pick_and e4 e6 rfl)
    intro a20 s16 D16
    have ok18 := D16.ok
    have F18 := F17.step0 D16.stp
    have q95 : At (Ty.nat k) s16 a20 (.tmp 9) := D16.kt q88 rfl
    have q96 : At (Ty.int (cirTo n cs k)) s16 a20 (.tmp 8) := D16.kt q89 rfl
    have q97 : At (Ty.int n) s16 a20 (.tmp 0) := D16.kt q90 rfl
    have q98 : At (Ty.lst Ty.ints cs) s16 a20 (.tmp 1) := D16.kt q91 rfl
    have q99 : At (Ty.lst Ty.int ((cirO n cs).getD [])) s16 a20 (.tmp 5) := D16.kt q92 rfl
    have q100 : At (Ty.bool (cirO n cs).isSome) s16 a20 (.tmp 6) := D16.kt q93 rfl
    have q101 : At (Ty.int (cirMay n cs)) s16 a20 (.tmp 7) := D16.kt q94 rfl
    have q102 : At (Ty.bool ((decide (((k : Nat) : Int) < (((List.length cs) : Nat) : Int))) && (decide ((cirTo n cs k) = (0 : Int))))) s16 a20 (.tmp 56) := D16.done 7
    clear D16
    refine tn ?_
    refine cond_t q102 (fun c7 => ?_) (fun c7 => ?_)
    ·
     obtain ⟨d27, d28⟩ := Bool.and_eq_true_iff.mp c7
     replace d27 := of_decide_eq_true d27
     replace d28 := of_decide_eq_true d28
     simp only [Bool.and_eq_true, decide_eq_true_eq] at c7; have hf0 := c7.2; have hg2 := (gensMay_ok (cirTo_iff.1 hf0).1).2 k (by omega); have hgr := hg2.1
     refine wp_skip ?_
     refine tn ?_
     refine wp_seq ?_
     refine wp_block ?_
     refine wp_seq ?_
     refine reg (a := a20) (σ := s16) rfl (fun i_ => List.getD [(Ty.pr (Ty.lst Ty.ints cs)), (Ty.pr (Ty.nat k)), (Ty.pr (Ty.ref [(Ty.lst Ty.int (cs.getD k []))])), (Ty.pr (Ty.lst Ty.int (cs.getD k []))), (Ty.pr (Ty.tup2 (Ty.nat (ordL ((cs.getD k [])))) (Ty.bool (oddL ((cs.getD k [])))))), (Ty.pr (Ty.tup2 (Ty.nat (ordL ((cs.getD k [])))) (Ty.bool (oddL ((cs.getD k [])))))), (Ty.pr (Ty.nat (ordL ((cs.getD k []))))), (Ty.pr (Ty.bool (oddL ((cs.getD k []))))), (Ty.pr (Ty.nat (ordL ((cs.getD k []))))), (Ty.pr (Ty.bool (oddL ((cs.getD k [])))))] i_ Pr.any) ok18 rfl ⟨?_, ?_, ?_, ?_, ?_, ?_, ?_, ?_, ?_, ?_, trivial⟩ ?_
     · intro ax tx hs okx sm
       exact run_plain rfl (y_move (kp (sm 1 rfl) hs q98))
     · intro ax tx hs okx sm
       exact run_plain rfl (y_move (kp (sm 9 rfl) hs q95))
     · intro ax tx hs okx sm d0 d1
       have e0 : At (Ty.lst Ty.ints cs) tx ax (.tmp 60) := d0 rfl
       have e1 : At (Ty.nat k) tx ax (.tmp 61) := d1 rfl
       exact run_plain rfl (y_index1 Try.underlying33 Try.inf34 e0 e1 (by omega) (lst_get Ty.ints cs [] k (by omega)))
     · intro ax tx hs okx sm d0
       have e2 : At (Ty.ref [(Ty.lst Ty.int (cs.getD k []))]) tx ax (.tmp 62) := d0 rfl
       exact run_plain rfl (y_load Try.underlying34 rfl e2 rfl)
     · intro ax tx hs okx sm d0
       have e3 : At (Ty.lst Ty.int (cs.getD k [])) tx ax (.tmp 63) := d0 rfl
       exact run_plain rfl (y_call #[ax.eval (.tmp 63)] Try.func22 rfl rfl (by simp only [List.map_toArray, List.map_cons, List.map_nil]) (rOrder_fn ((cs.getD k [])) _ _ e3 (by first | omega | assumption)))
     · intro ax tx hs okx sm d0
       have e4 : At (Ty.tup2 (Ty.nat (ordL ((cs.getD k [])))) (Ty.bool (oddL ((cs.getD k []))))) tx ax (.tmp 64) := d0 rfl
       exact run_plain rfl (y_move e4)
     · intro ax tx hs okx sm d0
       have e5 : At (Ty.tup2 (Ty.nat (ordL ((cs.getD k [])))) (Ty.bool (oddL ((cs.getD k []))))) tx ax (.tmp 59) := d0 rfl
       exact run_plain rfl (y_ext2_0 e5)
     · intro ax tx hs okx sm d0 d1
       have e5 : At (Ty.tup2 (Ty.nat (ordL ((cs.getD k [])))) (Ty.bool (oddL ((cs.getD k []))))) tx ax (.tmp 59) := d0 rfl
       exact run_plain rfl (y_ext2_1 e5)
     · intro ax tx hs okx sm d0 d1 d2 d3 d4 d5 d6 d7 d8 d9
       have e6 : At (Ty.nat (ordL ((cs.getD k [])))) tx ax (.tmp 65) := d0 rfl
       have e4 : At (Ty.tup2 (Ty.nat (ordL ((cs.getD k [])))) (Ty.bool (oddL ((cs.getD k []))))) tx ax (.tmp 64) := d1 rfl
       have e0 : At (Ty.lst Ty.ints cs) tx ax (.tmp 60) := d2 rfl
       have e1 : At (Ty.nat k) tx ax (.tmp 61) := d3 rfl
       have e2 : At (Ty.ref [(Ty.lst Ty.int (cs.getD k []))]) tx ax (.tmp 62) := d4 rfl
       have e3 : At (Ty.lst Ty.int (cs.getD k [])) tx ax (.tmp 63) := d5 rfl
       have e5 : At (Ty.tup2 (Ty.nat (ordL ((cs.getD k [])))) (Ty.bool (oddL ((cs.getD k []))))) tx ax (.tmp 59) := d7 rfl
       exact run_plain rfl (y_assign e6)
     · intro ax tx hs okx sm d0 d1 d2 d3 d4 d5 d6 d7 d8 d9 d10
       have e7 : At (Ty.bool (oddL ((cs.getD k [])))) tx ax (.tmp 66) := d0 rfl
       have e8 : At (Ty.nat (ordL ((cs.getD k [])))) tx ax (.tmp 10) := d1 rfl
       have e0 : At (Ty.lst Ty.ints cs) tx ax (.tmp 60) := d2 rfl
       have e1 : At (Ty.nat k) tx ax (.tmp 61) := d3 rfl
       have e2 : At (Ty.ref [(Ty.lst Ty.int (cs.getD k []))]) tx ax (.tmp 62) := d4 rfl
       have e3 : At (Ty.lst Ty.int (cs.getD k [])) tx ax (.tmp 63) := d5 rfl
       have e4 : At (Ty.tup2 (Ty.nat (ordL ((cs.getD k [])))) (Ty.bool (oddL ((cs.getD k []))))) tx ax (.tmp 64) := d6 rfl
       have e5 : At (Ty.tup2 (Ty.nat (ordL ((cs.getD k [])))) (Ty.bool (oddL ((cs.getD k []))))) tx ax (.tmp 59) := d7 rfl
       have e6 : At (Ty.nat (ordL ((cs.getD k [])))) tx ax (.tmp 65) := d8 rfl
       exact run_plain rfl (y_assign e7)
     intro a21 s17 D17
     have ok19 := D17.ok
     have F19 := F18.step0 D17.stp
     have q103 : At (Ty.nat k) s17 a21 (.tmp 9) := D17.kt q95 rfl
     have q104 : At (Ty.int (cirTo n cs k)) s17 a21 (.tmp 8) := D17.kt q96 rfl
     have q105 : At (Ty.int n) s17 a21 (.tmp 0) := D17.kt q97 rfl
     have q106 : At (Ty.lst Ty.ints cs) s17 a21 (.tmp 1) := D17.kt q98 rfl
     have q107 : At (Ty.lst Ty.int ((cirO n cs).getD [])) s17 a21 (.tmp 5) := D17.kt q99 rfl
     have q108 : At (Ty.bool (cirO n cs).isSome) s17 a21 (.tmp 6) := D17.kt q100 rfl
     have q109 : At (Ty.int (cirMay n cs)) s17 a21 (.tmp 7) := D17.kt q101 rfl
     have q110 : At (Ty.nat (ordL ((cs.getD k [])))) s17 a21 (.tmp 10) := D17.done 8
     clear D17
     refine tn ?_
     refine wp_seq ?_
     refine reg (a := a21) (σ := s17) rfl (fun i_ => List.getD [(Ty.pr (Ty.nat (ordL ((cs.getD k []))))), (Ty.pr (Ty.bool (decide ((2 : Int) < (((ordL ((cs.getD k []))) : Nat) : Int)))))] i_ Pr.any) ok19 rfl ⟨?_, ?_, trivial⟩ ?_
     · intro ax tx hs okx sm
       exact run_plain rfl (y_move (kp (sm 10 rfl) hs q110))
     · intro ax tx hs okx sm d0
       have e0 : At (Ty.nat (ordL ((cs.getD k [])))) tx ax (.tmp 67) := d0 rfl
       exact run_plain rfl (y_gtr e0 rfl)
     intro a22 s18 D18
     have ok20 := D18.ok
     have F20 := F19.step0 D18.stp
     have q111 : At (Ty.nat k) s18 a22 (.tmp 9) := D18.kt q103 rfl
     have q112 : At (Ty.int (cirTo n cs k)) s18 a22 (.tmp 8) := D18.kt q104 rfl
     have q113 : At (Ty.int n) s18 a22 (.tmp 0) := D18.kt q105 rfl
     have q114 : At (Ty.lst Ty.ints cs) s18 a22 (.tmp 1) := D18.kt q106 rfl
     have q115 : At (Ty.lst Ty.int ((cirO n cs).getD [])) s18 a22 (.tmp 5) := D18.kt q107 rfl
     have q116 : At (Ty.bool (cirO n cs).isSome) s18 a22 (.tmp 6) := D18.kt q108 rfl
     have q117 : At (Ty.int (cirMay n cs)) s18 a22 (.tmp 7) := D18.kt q109 rfl
     have q118 : At (Ty.bool (decide ((2 : Int) < (((ordL ((cs.getD k []))) : Nat) : Int)))) s18 a22 (.tmp 68) := D18.done 1
     clear D18
     refine tn ?_
     refine cond_p (p := ((2 : Int) < (((ordL ((cs.getD k []))) : Nat) : Int))) q118 (fun c8 => ?_) (fun c8 => ?_)
     ·
      refine reg (a := a22) (σ := s18) rfl (fun i_ => List.getD [(Ty.pr (Ty.int (6 : Int)))] i_ Pr.any) ok20 rfl ⟨?_, trivial⟩ ?_
      · intro ax tx hs okx sm
        exact run_plain rfl (y_assign rfl)
      intro a23 s19 D19
      have ok21 := D19.ok
      have F21 := F20.step0 D19.stp
      have q119 : At (Ty.nat k) s19 a23 (.tmp 9) := D19.kt q111 rfl
      have q120 : At (Ty.int n) s19 a23 (.tmp 0) := D19.kt q113 rfl
      have q121 : At (Ty.lst Ty.ints cs) s19 a23 (.tmp 1) := D19.kt q114 rfl
      have q122 : At (Ty.lst Ty.int ((cirO n cs).getD [])) s19 a23 (.tmp 5) := D19.kt q115 rfl
      have q123 : At (Ty.bool (cirO n cs).isSome) s19 a23 (.tmp 6) := D19.kt q116 rfl
      have q124 : At (Ty.int (cirMay n cs)) s19 a23 (.tmp 7) := D19.kt q117 rfl
      have q125 : At (Ty.int (6 : Int)) s19 a23 (.tmp 8) := D19.done 0
      clear D19
      refine bn ?_
      refine tn ?_
      refine reg (a := a23) (σ := s19) rfl (fun i_ => List.getD [(Ty.pr (Ty.nat k)), (Ty.pr (Ty.nat (k + 1))), (Ty.pr (Ty.nat (k + 1)))] i_ Pr.any) ok21 rfl ⟨?_, ?_, ?_, trivial⟩ ?_
      · intro ax tx hs okx sm
        exact run_plain rfl (y_move (kp (sm 9 rfl) hs q119))
      · intro ax tx hs okx sm d0
        have e0 : At (Ty.nat k) tx ax (.tmp 57) := d0 rfl
        exact run_plain rfl ((y_add e0 rfl (w64 (by omega) (by omega))).mono (fun τ _ h => cvi (σ := τ) (by first | omega | exact (Int.natCast_mul _ _).symm) h))
      · intro ax tx hs okx sm d0 d1 d2
        have e1 : At (Ty.nat (k + 1)) tx ax (.tmp 58) := d0 rfl
        have e0 : At (Ty.nat k) tx ax (.tmp 57) := d1 rfl
        exact run_plain rfl (y_assign e1)
      intro a24 s20 D20
      have ok22 := D20.ok
      have F22 := F21.step0 D20.stp
      have q126 : At (Ty.int n) s20 a24 (.tmp 0) := D20.kt q120 rfl
      have q127 : At (Ty.lst Ty.ints cs) s20 a24 (.tmp 1) := D20.kt q121 rfl
      have q128 : At (Ty.lst Ty.int ((cirO n cs).getD [])) s20 a24 (.tmp 5) := D20.kt q122 rfl
      have q129 : At (Ty.bool (cirO n cs).isSome) s20 a24 (.tmp 6) := D20.kt q123 rfl
      have q130 : At (Ty.int (cirMay n cs)) s20 a24 (.tmp 7) := D20.kt q124 rfl
      have q131 : At (Ty.int (6 : Int)) s20 a24 (.tmp 8) := D20.kt q125 rfl
      have q132 : At (Ty.nat (k + 1)) s20 a24 (.tmp 9) := D20.done 2
      clear D20
      exact tn ⟨cs.length - ((k+1)), by omega, s20, (k+1), rfl, F22, ok22, (cvi (by (first | rfl | omega | (simp_all; done) | (simp_all; omega))) q132), (cvi (by (exact cirTo_bad hf0 (by omega))) q131), q126, q127, q128, q129, q130, by omega, rfl⟩
     ·
      refine wp_skip ?_
      refine bn ?_
      refine tn ?_
      refine reg (a := a22) (σ := s18) rfl (fun i_ => List.getD [(Ty.pr (Ty.nat k)), (Ty.pr (Ty.nat (k + 1))), (Ty.pr (Ty.nat (k + 1)))] i_ Pr.any) ok20 rfl ⟨?_, ?_, ?_, trivial⟩ ?_
      · intro ax tx hs okx sm
        exact run_plain rfl (y_move (kp (sm 9 rfl) hs q111))
      · intro ax tx hs okx sm d0
        have e0 : At (Ty.nat k) tx ax (.tmp 57) := d0 rfl
        exact run_plain rfl ((y_add e0 rfl (w64 (by omega) (by omega))).mono (fun τ _ h => cvi (σ := τ) (by first | omega | exact (Int.natCast_mul _ _).symm) h))
      · intro ax tx hs okx sm d0 d1 d2
        have e1 : At (Ty.nat (k + 1)) tx ax (.tmp 58) := d0 rfl
        have e0 : At (Ty.nat k) tx ax (.tmp 57) := d1 rfl
        exact run_plain rfl (y_assign e1)
      intro a25 s21 D21
      have ok23 := D21.ok
      have F23 := F20.step0 D21.stp
      have q133 : At (Ty.int (cirTo n cs k)) s21 a25 (.tmp 8) := D21.kt q112 rfl
      have q134 : At (Ty.int n) s21 a25 (.tmp 0) := D21.kt q113 rfl
      have q135 : At (Ty.lst Ty.ints cs) s21 a25 (.tmp 1) := D21.kt q114 rfl
      have q136 : At (Ty.lst Ty.int ((cirO n cs).getD [])) s21 a25 (.tmp 5) := D21.kt q115 rfl
      have q137 : At (Ty.bool (cirO n cs).isSome) s21 a25 (.tmp 6) := D21.kt q116 rfl
      have q138 : At (Ty.int (cirMay n cs)) s21 a25 (.tmp 7) := D21.kt q117 rfl
      have q139 : At (Ty.nat (k + 1)) s21 a25 (.tmp 9) := D21.done 2
      clear D21
      exact tn ⟨cs.length - ((k+1)), by omega, s21, (k+1), rfl, F23, ok23, (cvi (by (first | rfl | omega | (simp_all; done) | (simp_all; omega))) q139), (cvi (by (exact cirTo_good hf0 (by omega))) q133), q134, q135, q136, q137, q138, by omega, rfl⟩
    ·
     have hme : cirTo n cs k = cirMay n cs := cirTo_end hc2 hk (fun hlt h0 => by simp [h0] at c7; omega)
     refine wp_exit ?_
     refine tx ?_
     refine tx ?_
     refine bx ?_
     refine tn ?_
     refine wp_seq ?_
     refine wp_seq ?_
     refine reg (a := a20) (σ := s16) rfl (fun i_ => List.getD [(Ty.pr (Ty.int (cirTo n cs k))), (Ty.pr (Ty.bool (decide ((cirTo n cs k) ≠ (0 : Int)))))] i_ Pr.any) ok18 rfl ⟨?_, ?_, trivial⟩ ?_
     · intro ax tx hs okx sm
       exact run_plain rfl (y_move (kp (sm 8 rfl) hs q96))
     · intro ax tx hs okx sm d0
       have e0 : At (Ty.int (cirTo n cs k)) tx ax (.tmp 69) := d0 rfl
       exact run_plain rfl (y_neq e0 rfl)
     intro a26 s22 D22
     have ok24 := D22.ok
     have F24 := F18.step0 D22.stp
     have q140 : At (Ty.int (cirTo n cs k)) s22 a26 (.tmp 8) := D22.kt q96 rfl
     have q141 : At (Ty.int n) s22 a26 (.tmp 0) := D22.kt q97 rfl
     have q142 : At (Ty.lst Ty.ints cs) s22 a26 (.tmp 1) := D22.kt q98 rfl
     have q143 : At (Ty.lst Ty.int ((cirO n cs).getD [])) s22 a26 (.tmp 5) := D22.kt q99 rfl
     have q144 : At (Ty.bool (cirO n cs).isSome) s22 a26 (.tmp 6) := D22.kt q100 rfl
     have q145 : At (Ty.int (cirMay n cs)) s22 a26 (.tmp 7) := D22.kt q101 rfl
     have q146 : At (Ty.bool (decide ((cirTo n cs k) ≠ (0 : Int)))) s22 a26 (.tmp 70) := D22.done 1
     clear D22
     refine tn ?_
     refine cond_p (p := ((cirTo n cs k) ≠ (0 : Int))) q146 (fun c9 => ?_) (fun c9 => ?_)
     ·
      rw [hme] at c9; have ho1 := cirO_no c9
      refine wp_seq ?_
      refine reg (a := a26) (σ := s22) rfl (fun i_ => List.getD [(Ty.pr (Ty.int (cirMay n cs))), (Ty.pr (Ty.int (cirTo n cs k))), (Ty.pr (Ty.bool (decide ((cirMay n cs) = (cirTo n cs k))))), (Ty.pr (Ty.bool (decide ((cirMay n cs) = (cirTo n cs k))))), (Ty.pr (Ty.grd ((decide ((cirMay n cs) = (cirTo n cs k))) = true) (Ty.bool (cirO n cs).isSome))), (Ty.pr (Ty.grd ((decide ((cirMay n cs) = (cirTo n cs k))) = true) (Ty.bool (!(cirO n cs).isSome)))), (Ty.pr (Ty.bool ((decide ((cirMay n cs) = (cirTo n cs k))) && (!(cirO n cs).isSome)))), (Ty.pr (Ty.bool ((decide ((cirMay n cs) = (cirTo n cs k))) && (!(cirO n cs).isSome)))), (Ty.pr (Ty.grd (((decide ((cirMay n cs) = (cirTo n cs k))) && (!(cirO n cs).isSome)) = true) (Ty.lst Ty.int ((cirO n cs).getD [])))), (Ty.pr (Ty.grd (((decide ((cirMay n cs) = (cirTo n cs k))) && (!(cirO n cs).isSome)) = true) (Ty.nat (List.length ((cirO n cs).getD []))))), (Ty.pr (Ty.grd (((decide ((cirMay n cs) = (cirTo n cs k))) && (!(cirO n cs).isSome)) = true) (Ty.bool (decide ((((List.length ((cirO n cs).getD [])) : Nat) : Int) = (0 : Int)))))), (Ty.pr (Ty.bool (((decide ((cirMay n cs) = (cirTo n cs k))) && (!(cirO n cs).isSome)) && (decide ((((List.length ((cirO n cs).getD [])) : Nat) : Int) = (0 : Int)))))), (Ty.pr (Ty.bool (((decide ((cirMay n cs) = (cirTo n cs k))) && (!(cirO n cs).isSome)) && (decide ((((List.length ((cirO n cs).getD [])) : Nat) : Int) = (0 : Int))))))] i_ Pr.any) ok24 rfl ⟨?_, ?_, ?_, ?_, ?_, ?_, ?_, ?_, ?_, ?_, ?_, ?_, ?_, trivial⟩ ?_
      · intro ax tx hs okx sm
        exact run_plain rfl (y_move (kp (sm 7 rfl) hs q145))
      · intro ax tx hs okx sm
        exact run_plain rfl (y_move (kp (sm 8 rfl) hs q140))
      · intro ax tx hs okx sm d0 d1
        have e0 : At (Ty.int (cirMay n cs)) tx ax (.tmp 71) := d0 rfl
        have e1 : At (Ty.int (cirTo n cs k)) tx ax (.tmp 72) := d1 rfl
        exact run_plain rfl (y_eql e0 e1)
      · intro ax tx hs okx sm d0
        have e2 : At (Ty.bool (decide ((cirMay n cs) = (cirTo n cs k)))) tx ax (.tmp 73) := d0 rfl
        exact run_plain rfl (y_move e2)
      · intro ax tx hs okx sm d0
        have e3 : At (Ty.bool (decide ((cirMay n cs) = (cirTo n cs k)))) tx ax (.tmp 74) := d0 rfl
        refine run_guard (T := (Ty.bool (cirO n cs).isSome)) okx rfl rfl (by decide) e3 (fun hg => ?_)
        have hp := of_decide_eq_true hg
        exact y_move (kp (sm 6 rfl) hs q144)
      · intro ax tx hs okx sm d0 d1
        have e4 : At (Ty.grd ((decide ((cirMay n cs) = (cirTo n cs k))) = true) (Ty.bool (cirO n cs).isSome)) tx ax (.tmp 75) := d0 rfl
        have e3 : At (Ty.bool (decide ((cirMay n cs) = (cirTo n cs k)))) tx ax (.tmp 74) := d1 rfl
        refine run_guard (T := (Ty.bool (!(cirO n cs).isSome))) okx rfl rfl (by decide) e3 (fun hg => ?_)
        have hp := of_decide_eq_true hg
        exact y_not (e4.1 hg)
      · intro ax tx hs okx sm d0 d1
        have e3 : At (Ty.bool (decide ((cirMay n cs) = (cirTo n cs k)))) tx ax (.tmp 74) := d0 rfl
        have e5 : At (Ty.grd ((decide ((cirMay n cs) = (cirTo n cs k))) = true) (Ty.bool (!(cirO n cs).isSome))) tx ax (.tmp 76) := d1 rfl
        exact run_plain rfl (y_pick_and e3 e5 rfl)
      · intro ax tx hs okx sm d0 d1
        have e6 : At (Ty.bool ((decide ((cirMay n cs) = (cirTo n cs k))) && (!(cirO n cs).isSome))) tx ax (.tmp 77) := d0 rfl
        have e3 : At (Ty.bool (decide ((cirMay n cs) = (cirTo n cs k)))) tx ax (.tmp 74) := d1 rfl
        exact run_plain rfl (y_move e6)
      · intro ax tx hs okx sm d0
        have e7 : At (Ty.bool ((decide ((cirMay n cs) = (cirTo n cs k))) && (!(cirO n cs).isSome))) tx ax (.tmp 78) := d0 rfl
        refine run_guard (T := (Ty.lst Ty.int ((cirO n cs).getD []))) okx rfl rfl (by decide) e7 (fun hg => ?_)
        obtain ⟨d29, d30⟩ := Bool.and_eq_true_iff.mp hg
        have d29 := of_decide_eq_true d29
        exact y_move (kp (sm 5 rfl) hs q143)
      · intro ax tx hs okx sm d0 d1
        have e8 : At (Ty.grd (((decide ((cirMay n cs) = (cirTo n cs k))) && (!(cirO n cs).isSome)) = true) (Ty.lst Ty.int ((cirO n cs).getD []))) tx ax (.tmp 79) := d0 rfl
        have e7 : At (Ty.bool ((decide ((cirMay n cs) = (cirTo n cs k))) && (!(cirO n cs).isSome))) tx ax (.tmp 78) := d1 rfl
        refine run_guard (T := (Ty.nat (List.length ((cirO n cs).getD [])))) okx rfl rfl (by decide) e7 (fun hg => ?_)
        obtain ⟨d31, d32⟩ := Bool.and_eq_true_iff.mp hg
        have d31 := of_decide_eq_true d31
        exact y_len Try.underlying34 (e8.1 hg)
      · intro ax tx hs okx sm d0 d1
        have e9 : At (Ty.grd (((decide ((cirMay n cs) = (cirTo n cs k))) && (!(cirO n cs).isSome)) = true) (Ty.nat (List.length ((cirO n cs).getD [])))) tx ax (.tmp 80) := d0 rfl
        have e7 : At (Ty.bool ((decide ((cirMay n cs) = (cirTo n cs k))) && (!(cirO n cs).isSome))) tx ax (.tmp 78) := d1 rfl
        refine run_guard (T := (Ty.bool (decide ((((List.length ((cirO n cs).getD [])) : Nat) : Int) = (0 : Int))))) okx rfl rfl (by decide) e7 (fun hg => ?_)
        obtain ⟨d33, d34⟩ := Bool.and_eq_true_iff.mp hg
        have d33 := of_decide_eq_true d33
        exact y_eql (e9.1 hg) rfl
      · intro ax tx hs okx sm d0 d1
        have e7 : At (Ty.bool ((decide ((cirMay n cs) = (cirTo n cs k))) && (!(cirO n cs).isSome))) tx ax (.tmp 78) := d0 rfl
        have e10 : At (Ty.grd (((decide ((cirMay n cs) = (cirTo n cs k))) && (!(cirO n cs).isSome)) = true) (Ty.bool (decide ((((List.length ((cirO n cs).getD [])) : Nat) : Int) = (0 : Int))))) tx ax (.tmp 81) := d1 rfl
        exact run_plain rfl (y_pick_and e7 e10 rfl)
      · intro ax tx hs okx sm d0 d1 d2 d3 d4 d5 d6 d7 d8 d9 d10 d11 d12 d13
        have e11 : At (Ty.bool (((decide ((cirMay n cs) = (cirTo n cs k))) && (!(cirO n cs).isSome)) && (decide ((((List.length ((cirO n cs).getD [])) : Nat) : Int) = (0 : Int))))) tx ax (.tmp 82) := d0 rfl
        have e7 : At (Ty.bool ((decide ((cirMay n cs) = (cirTo n cs k))) && (!(cirO n cs).isSome))) tx ax (.tmp 78) := d1 rfl
        have e0 : At (Ty.int (cirMay n cs)) tx ax (.tmp 71) := d2 rfl
        have e1 : At (Ty.int (cirTo n cs k)) tx ax (.tmp 72) := d3 rfl
        have e2 : At (Ty.bool (decide ((cirMay n cs) = (cirTo n cs k)))) tx ax (.tmp 73) := d4 rfl
        have e3 : At (Ty.bool (decide ((cirMay n cs) = (cirTo n cs k)))) tx ax (.tmp 74) := d5 rfl
        have e4 : At (Ty.grd ((decide ((cirMay n cs) = (cirTo n cs k))) = true) (Ty.bool (cirO n cs).isSome)) tx ax (.tmp 75) := d6 rfl
        have e5 : At (Ty.grd ((decide ((cirMay n cs) = (cirTo n cs k))) = true) (Ty.bool (!(cirO n cs).isSome))) tx ax (.tmp 76) := d7 rfl
        have e6 : At (Ty.bool ((decide ((cirMay n cs) = (cirTo n cs k))) && (!(cirO n cs).isSome))) tx ax (.tmp 77) := d8 rfl
        have e8 : At (Ty.grd (((decide ((cirMay n cs) = (cirTo n cs k))) && (!(cirO n cs).isSome)) = true) (Ty.lst Ty.int ((cirO n cs).getD []))) tx ax (.tmp 79) := d10 rfl
        have e9 : At (Ty.grd (((decide ((cirMay n cs) = (cirTo n cs k))) && (!(cirO n cs).isSome)) = true) (Ty.nat (List.length ((cirO n cs).getD [])))) tx ax (.tmp 80) := d11 rfl
        have e10 : At (Ty.grd (((decide ((cirMay n cs) = (cirTo n cs k))) && (!(cirO n cs).isSome)) = true) (Ty.bool (decide ((((List.length ((cirO n cs).getD [])) : Nat) : Int) = (0 : Int))))) tx ax (.tmp 81) := d12 rfl
        exact run_plain rfl (y_assign e11)
      intro a27 s23 D23
      have ok25 := D23.ok
      have F25 := F24.step0 D23.stp
      have q147 : At (Ty.bool (((decide ((cirMay n cs) = (cirTo n cs k))) && (!(cirO n cs).isSome)) && (decide ((((List.length ((cirO n cs).getD [])) : Nat) : Int) = (0 : Int))))) s23 a27 (.tmp 4) := D23.done 12
      clear D23
      refine tn ?_
      refine wp_ret ?_
      refine tr ?_
      exact retL1 rfl ok25 F25 (cvb (by (rw [hme, ho1]; simp)) q147)
     ·
      rw [hme] at c9; have hm0 : cirMay n cs = 0 := Classical.not_not.1 c9; have hcf := cirMay_facts hm0; have hts := Tour.start hcf.1 hcf.2; have hoe := cirO_ok hm0
      refine wp_skip ?_
      refine tn ?_
      refine wp_seq ?_
      refine reg (a := a26) (σ := s22) rfl (fun i_ => List.getD [(Ty.pr (Ty.int n)), (Ty.pr (Ty.lst Ty.ints cs)), (Ty.pr (Ty.int n)), (Ty.pr (Ty.lst Ty.int (roundsL ((n).toNat)))), (Ty.pr (Ty.sl 1 1 [(Ty.lst Ty.int (roundsL ((n).toNat)))])), (Ty.pr (Ty.tup2 (Ty.lst Ty.int ((circF cs (fct ((n).toNat)) ((fct ((n).toNat) - (([] : List Int)).length)) ([(roundsL ((n).toNat))]) (([] : List Int))).getD [])) (Ty.bool (circF cs (fct ((n).toNat)) ((fct ((n).toNat) - (([] : List Int)).length)) ([(roundsL ((n).toNat))]) (([] : List Int))).isSome))), (Ty.pr (Ty.tup2 (Ty.lst Ty.int ((circF cs (fct ((n).toNat)) ((fct ((n).toNat) - (([] : List Int)).length)) ([(roundsL ((n).toNat))]) (([] : List Int))).getD [])) (Ty.bool (circF cs (fct ((n).toNat)) ((fct ((n).toNat) - (([] : List Int)).length)) ([(roundsL ((n).toNat))]) (([] : List Int))).isSome))), (Ty.pr (Ty.lst Ty.int ((circF cs (fct ((n).toNat)) ((fct ((n).toNat) - (([] : List Int)).length)) ([(roundsL ((n).toNat))]) (([] : List Int))).getD []))), (Ty.pr (Ty.bool (circF cs (fct ((n).toNat)) ((fct ((n).toNat) - (([] : List Int)).length)) ([(roundsL ((n).toNat))]) (([] : List Int))).isSome)), (Ty.pr (Ty.lst Ty.int ((circF cs (fct ((n).toNat)) ((fct ((n).toNat) - (([] : List Int)).length)) ([(roundsL ((n).toNat))]) (([] : List Int))).getD []))), (Ty.pr (Ty.bool (circF cs (fct ((n).toNat)) ((fct ((n).toNat) - (([] : List Int)).length)) ([(roundsL ((n).toNat))]) (([] : List Int))).isSome))] i_ Pr.any) ok24 rfl ⟨?_, ?_, ?_, ?_, ?_, ?_, ?_, ?_, ?_, ?_, ?_, trivial⟩ ?_
      · intro ax tx hs okx sm
        exact run_plain rfl (y_move (kp (sm 0 rfl) hs q141))
      · intro ax tx hs okx sm
        exact run_plain rfl (y_move (kp (sm 1 rfl) hs q142))
      · intro ax tx hs okx sm
        exact run_plain rfl (y_move (kp (sm 0 rfl) hs q141))
      · intro ax tx hs okx sm d0
        have e2 : At (Ty.int n) tx ax (.tmp 86) := d0 rfl
        exact run_plain rfl (y_call #[ax.eval (.tmp 86)] Try.func24 rfl rfl (by simp only [List.map_toArray, List.map_cons, List.map_nil]) (rRounds_fn ((n).toNat) _ _ (cvi (σ := tx) (by omega) e2) (by omega)))
      · intro ax tx hs okx sm d0
        have e3 : At (Ty.lst Ty.int (roundsL ((n).toNat))) tx ax (.tmp 87) := d0 rfl
        exact run_plain rfl (y_build1o Try.underlying33 Try.inf34 rfl (one_sl) e3)
      · intro ax tx hs okx sm d0 d1 d2 d3
        have e0 : At (Ty.int n) tx ax (.tmp 84) := d0 rfl
        have e1 : At (Ty.lst Ty.ints cs) tx ax (.tmp 85) := d1 rfl
        have e4 : At (Ty.sl 1 1 [(Ty.lst Ty.int (roundsL ((n).toNat)))]) tx ax (.tmp 88) := d2 rfl
        have e3 : At (Ty.lst Ty.int (roundsL ((n).toNat))) tx ax (.tmp 87) := d3 rfl
        exact run_plain rfl (y_call #[ax.eval (.tmp 84), ax.eval (.tmp 85), ax.eval (.tmp 88), ax.eval ((Operand.const (Value.slice none 0 0)))] Try.func23 rfl rfl (by simp only [List.map_toArray, List.map_cons, List.map_nil]) (rCircuit_fn ((fct ((n).toNat) - (([] : List Int)).length)) ((n).toNat) (cs) ([(roundsL ((n).toNat))]) (([] : List Int)) (_) _ _ _ _ _ (cvi (σ := tx) (by first | omega | assumption | (simp only [List.length_append, List.length_cons, List.length_nil]; omega)) e0) e1 e4 (nil_lst (σ := tx) rfl rfl) (by first | omega | assumption | (simp only [List.length_append, List.length_cons, List.length_nil]; omega)) (by first | omega | assumption | (simp only [List.length_append, List.length_cons, List.length_nil]; omega))))
      · intro ax tx hs okx sm d0
        have e5 : At (Ty.tup2 (Ty.lst Ty.int ((circF cs (fct ((n).toNat)) ((fct ((n).toNat) - (([] : List Int)).length)) ([(roundsL ((n).toNat))]) (([] : List Int))).getD [])) (Ty.bool (circF cs (fct ((n).toNat)) ((fct ((n).toNat) - (([] : List Int)).length)) ([(roundsL ((n).toNat))]) (([] : List Int))).isSome)) tx ax (.tmp 89) := d0 rfl
        exact run_plain rfl (y_move e5)
      · intro ax tx hs okx sm d0
        have e6 : At (Ty.tup2 (Ty.lst Ty.int ((circF cs (fct ((n).toNat)) ((fct ((n).toNat) - (([] : List Int)).length)) ([(roundsL ((n).toNat))]) (([] : List Int))).getD [])) (Ty.bool (circF cs (fct ((n).toNat)) ((fct ((n).toNat) - (([] : List Int)).length)) ([(roundsL ((n).toNat))]) (([] : List Int))).isSome)) tx ax (.tmp 83) := d0 rfl
        exact run_plain rfl (y_ext2_0 e6)
      · intro ax tx hs okx sm d0 d1
        have e6 : At (Ty.tup2 (Ty.lst Ty.int ((circF cs (fct ((n).toNat)) ((fct ((n).toNat) - (([] : List Int)).length)) ([(roundsL ((n).toNat))]) (([] : List Int))).getD [])) (Ty.bool (circF cs (fct ((n).toNat)) ((fct ((n).toNat) - (([] : List Int)).length)) ([(roundsL ((n).toNat))]) (([] : List Int))).isSome)) tx ax (.tmp 83) := d0 rfl
        exact run_plain rfl (y_ext2_1 e6)
      · intro ax tx hs okx sm d0 d1 d2 d3 d4 d5 d6 d7 d8 d9 d10
        have e7 : At (Ty.lst Ty.int ((circF cs (fct ((n).toNat)) ((fct ((n).toNat) - (([] : List Int)).length)) ([(roundsL ((n).toNat))]) (([] : List Int))).getD [])) tx ax (.tmp 90) := d0 rfl
        have e5 : At (Ty.tup2 (Ty.lst Ty.int ((circF cs (fct ((n).toNat)) ((fct ((n).toNat) - (([] : List Int)).length)) ([(roundsL ((n).toNat))]) (([] : List Int))).getD [])) (Ty.bool (circF cs (fct ((n).toNat)) ((fct ((n).toNat) - (([] : List Int)).length)) ([(roundsL ((n).toNat))]) (([] : List Int))).isSome)) tx ax (.tmp 89) := d1 rfl
        have e0 : At (Ty.int n) tx ax (.tmp 84) := d2 rfl
        have e1 : At (Ty.lst Ty.ints cs) tx ax (.tmp 85) := d3 rfl
        have e2 : At (Ty.int n) tx ax (.tmp 86) := d4 rfl
        have e3 : At (Ty.lst Ty.int (roundsL ((n).toNat))) tx ax (.tmp 87) := d5 rfl
        have e4 : At (Ty.sl 1 1 [(Ty.lst Ty.int (roundsL ((n).toNat)))]) tx ax (.tmp 88) := d6 rfl
        have e6 : At (Ty.tup2 (Ty.lst Ty.int ((circF cs (fct ((n).toNat)) ((fct ((n).toNat) - (([] : List Int)).length)) ([(roundsL ((n).toNat))]) (([] : List Int))).getD [])) (Ty.bool (circF cs (fct ((n).toNat)) ((fct ((n).toNat) - (([] : List Int)).length)) ([(roundsL ((n).toNat))]) (([] : List Int))).isSome)) tx ax (.tmp 83) := d8 rfl
        exact run_plain rfl (y_assign e7)
      · intro ax tx hs okx sm d0 d1 d2 d3 d4 d5 d6 d7 d8 d9 d10 d11
        have e8 : At (Ty.bool (circF cs (fct ((n).toNat)) ((fct ((n).toNat) - (([] : List Int)).length)) ([(roundsL ((n).toNat))]) (([] : List Int))).isSome) tx ax (.tmp 91) := d0 rfl
        have e9 : At (Ty.lst Ty.int ((circF cs (fct ((n).toNat)) ((fct ((n).toNat) - (([] : List Int)).length)) ([(roundsL ((n).toNat))]) (([] : List Int))).getD [])) tx ax (.tmp 12) := d1 rfl
        have e0 : At (Ty.int n) tx ax (.tmp 84) := d2 rfl
        have e1 : At (Ty.lst Ty.ints cs) tx ax (.tmp 85) := d3 rfl
        have e2 : At (Ty.int n) tx ax (.tmp 86) := d4 rfl
        have e3 : At (Ty.lst Ty.int (roundsL ((n).toNat))) tx ax (.tmp 87) := d5 rfl
        have e4 : At (Ty.sl 1 1 [(Ty.lst Ty.int (roundsL ((n).toNat)))]) tx ax (.tmp 88) := d6 rfl
        have e5 : At (Ty.tup2 (Ty.lst Ty.int ((circF cs (fct ((n).toNat)) ((fct ((n).toNat) - (([] : List Int)).length)) ([(roundsL ((n).toNat))]) (([] : List Int))).getD [])) (Ty.bool (circF cs (fct ((n).toNat)) ((fct ((n).toNat) - (([] : List Int)).length)) ([(roundsL ((n).toNat))]) (([] : List Int))).isSome)) tx ax (.tmp 89) := d7 rfl
        have e6 : At (Ty.tup2 (Ty.lst Ty.int ((circF cs (fct ((n).toNat)) ((fct ((n).toNat) - (([] : List Int)).length)) ([(roundsL ((n).toNat))]) (([] : List Int))).getD [])) (Ty.bool (circF cs (fct ((n).toNat)) ((fct ((n).toNat) - (([] : List Int)).length)) ([(roundsL ((n).toNat))]) (([] : List Int))).isSome)) tx ax (.tmp 83) := d8 rfl
        have e7 : At (Ty.lst Ty.int ((circF cs (fct ((n).toNat)) ((fct ((n).toNat) - (([] : List Int)).length)) ([(roundsL ((n).toNat))]) (([] : List Int))).getD [])) tx ax (.tmp 90) := d9 rfl
        exact run_plain rfl (y_assign e8)
      intro a28 s24 D24
      have ok26 := D24.ok
      have F26 := F24.step0 D24.stp
      have q148 : At (Ty.lst Ty.int ((cirO n cs).getD [])) s24 a28 (.tmp 5) := D24.kt q143 rfl
      have q149 : At (Ty.bool (cirO n cs).isSome) s24 a28 (.tmp 6) := D24.kt q144 rfl
      have q150 : At (Ty.int (cirMay n cs)) s24 a28 (.tmp 7) := D24.kt q145 rfl
      have q151 : At (Ty.lst Ty.int ((circF cs (fct ((n).toNat)) ((fct ((n).toNat) - (([] : List Int)).length)) ([(roundsL ((n).toNat))]) (([] : List Int))).getD [])) s24 a28 (.tmp 12) := D24.done 9
      have q152 : At (Ty.bool (circF cs (fct ((n).toNat)) ((fct ((n).toNat) - (([] : List Int)).length)) ([(roundsL ((n).toNat))]) (([] : List Int))).isSome) s24 a28 (.tmp 13) := D24.done 10
      clear D24
      refine tn ?_
      refine wp_seq ?_
      refine reg (a := a28) (σ := s24) rfl (fun i_ => List.getD [(Ty.pr (Ty.int (cirMay n cs))), (Ty.pr (Ty.bool (decide ((cirMay n cs) = (0 : Int))))), (Ty.pr (Ty.bool (decide ((cirMay n cs) = (0 : Int))))), (Ty.pr (Ty.grd ((decide ((cirMay n cs) = (0 : Int))) = true) (Ty.bool (cirO n cs).isSome))), (Ty.pr (Ty.grd ((decide ((cirMay n cs) = (0 : Int))) = true) (Ty.bool (circF cs (fct ((n).toNat)) ((fct ((n).toNat) - (([] : List Int)).length)) ([(roundsL ((n).toNat))]) (([] : List Int))).isSome))), (Ty.pr (Ty.grd ((decide ((cirMay n cs) = (0 : Int))) = true) (Ty.bool ((cirO n cs).isSome == (circF cs (fct ((n).toNat)) ((fct ((n).toNat) - (([] : List Int)).length)) ([(roundsL ((n).toNat))]) (([] : List Int))).isSome)))), (Ty.pr (Ty.bool ((decide ((cirMay n cs) = (0 : Int))) && ((cirO n cs).isSome == (circF cs (fct ((n).toNat)) ((fct ((n).toNat) - (([] : List Int)).length)) ([(roundsL ((n).toNat))]) (([] : List Int))).isSome)))), (Ty.pr (Ty.bool ((decide ((cirMay n cs) = (0 : Int))) && ((cirO n cs).isSome == (circF cs (fct ((n).toNat)) ((fct ((n).toNat) - (([] : List Int)).length)) ([(roundsL ((n).toNat))]) (([] : List Int))).isSome)))), (Ty.pr (Ty.grd (((decide ((cirMay n cs) = (0 : Int))) && ((cirO n cs).isSome == (circF cs (fct ((n).toNat)) ((fct ((n).toNat) - (([] : List Int)).length)) ([(roundsL ((n).toNat))]) (([] : List Int))).isSome)) = true) (Ty.lst Ty.int ((cirO n cs).getD [])))), (Ty.pr (Ty.grd (((decide ((cirMay n cs) = (0 : Int))) && ((cirO n cs).isSome == (circF cs (fct ((n).toNat)) ((fct ((n).toNat) - (([] : List Int)).length)) ([(roundsL ((n).toNat))]) (([] : List Int))).isSome)) = true) (Ty.lst Ty.int ((circF cs (fct ((n).toNat)) ((fct ((n).toNat) - (([] : List Int)).length)) ([(roundsL ((n).toNat))]) (([] : List Int))).getD [])))), (Ty.pr (Ty.grd (((decide ((cirMay n cs) = (0 : Int))) && ((cirO n cs).isSome == (circF cs (fct ((n).toNat)) ((fct ((n).toNat) - (([] : List Int)).length)) ([(roundsL ((n).toNat))]) (([] : List Int))).isSome)) = true) (Ty.bool (decide ((((cirO n cs).getD [])) = (((circF cs (fct ((n).toNat)) ((fct ((n).toNat) - (([] : List Int)).length)) ([(roundsL ((n).toNat))]) (([] : List Int))).getD []))))))), (Ty.pr (Ty.bool (((decide ((cirMay n cs) = (0 : Int))) && ((cirO n cs).isSome == (circF cs (fct ((n).toNat)) ((fct ((n).toNat) - (([] : List Int)).length)) ([(roundsL ((n).toNat))]) (([] : List Int))).isSome)) && (decide ((((cirO n cs).getD [])) = (((circF cs (fct ((n).toNat)) ((fct ((n).toNat) - (([] : List Int)).length)) ([(roundsL ((n).toNat))]) (([] : List Int))).getD []))))))), (Ty.pr (Ty.bool (((decide ((cirMay n cs) = (0 : Int))) && ((cirO n cs).isSome == (circF cs (fct ((n).toNat)) ((fct ((n).toNat) - (([] : List Int)).length)) ([(roundsL ((n).toNat))]) (([] : List Int))).isSome)) && (decide ((((cirO n cs).getD [])) = (((circF cs (fct ((n).toNat)) ((fct ((n).toNat) - (([] : List Int)).length)) ([(roundsL ((n).toNat))]) (([] : List Int))).getD [])))))))] i_ Pr.any) ok26 rfl ⟨?_, ?_, ?_, ?_, ?_, ?_, ?_, ?_, ?_, ?_, ?_, ?_, ?_, trivial⟩ ?_
      · intro ax tx hs okx sm
        exact run_plain rfl (y_move (kp (sm 7 rfl) hs q150))
      · intro ax tx hs okx sm d0
        have e0 : At (Ty.int (cirMay n cs)) tx ax (.tmp 92) := d0 rfl
        exact run_plain rfl (y_eql e0 rfl)
      · intro ax tx hs okx sm d0
        have e1 : At (Ty.bool (decide ((cirMay n cs) = (0 : Int)))) tx ax (.tmp 93) := d0 rfl
        exact run_plain rfl (y_move e1)
      · intro ax tx hs okx sm d0
        have e2 : At (Ty.bool (decide ((cirMay n cs) = (0 : Int)))) tx ax (.tmp 94) := d0 rfl
        refine run_guard (T := (Ty.bool (cirO n cs).isSome)) okx rfl rfl (by decide) e2 (fun hg => ?_)
        have hp := of_decide_eq_true hg
        exact y_move (kp (sm 6 rfl) hs q149)
      · intro ax tx hs okx sm d0
        have e2 : At (Ty.bool (decide ((cirMay n cs) = (0 : Int)))) tx ax (.tmp 94) := d0 rfl
        refine run_guard (T := (Ty.bool (circF cs (fct ((n).toNat)) ((fct ((n).toNat) - (([] : List Int)).length)) ([(roundsL ((n).toNat))]) (([] : List Int))).isSome)) okx rfl rfl (by decide) e2 (fun hg => ?_)
        have hp := of_decide_eq_true hg
        exact y_move (kp (sm 13 rfl) hs q152)
      · intro ax tx hs okx sm d0 d1 d2
        have e3 : At (Ty.grd ((decide ((cirMay n cs) = (0 : Int))) = true) (Ty.bool (cirO n cs).isSome)) tx ax (.tmp 95) := d0 rfl
        have e4 : At (Ty.grd ((decide ((cirMay n cs) = (0 : Int))) = true) (Ty.bool (circF cs (fct ((n).toNat)) ((fct ((n).toNat) - (([] : List Int)).length)) ([(roundsL ((n).toNat))]) (([] : List Int))).isSome)) tx ax (.tmp 96) := d1 rfl
        have e2 : At (Ty.bool (decide ((cirMay n cs) = (0 : Int)))) tx ax (.tmp 94) := d2 rfl
        refine run_guard (T := (Ty.bool ((cirO n cs).isSome == (circF cs (fct ((n).toNat)) ((fct ((n).toNat) - (([] : List Int)).length)) ([(roundsL ((n).toNat))]) (([] : List Int))).isSome))) okx rfl rfl (by decide) e2 (fun hg => ?_)
        have hp := of_decide_eq_true hg
        exact y_eqlB Try.underlying4 (e3.1 hg) (e4.1 hg)
      · intro ax tx hs okx sm d0 d1
        have e2 : At (Ty.bool (decide ((cirMay n cs) = (0 : Int)))) tx ax (.tmp 94) := d0 rfl
        have e5 : At (Ty.grd ((decide ((cirMay n cs) = (0 : Int))) = true) (Ty.bool ((cirO n cs).isSome == (circF cs (fct ((n).toNat)) ((fct ((n).toNat) - (([] : List Int)).length)) ([(roundsL ((n).toNat))]) (([] : List Int))).isSome))) tx ax (.tmp 97) := d1 rfl
        exact run_plain rfl (y_pick_and e2 e5 rfl)
      · intro ax tx hs okx sm d0 d1
        have e6 : At (Ty.bool ((decide ((cirMay n cs) = (0 : Int))) && ((cirO n cs).isSome == (circF cs (fct ((n).toNat)) ((fct ((n).toNat) - (([] : List Int)).length)) ([(roundsL ((n).toNat))]) (([] : List Int))).isSome))) tx ax (.tmp 98) := d0 rfl
        have e2 : At (Ty.bool (decide ((cirMay n cs) = (0 : Int)))) tx ax (.tmp 94) := d1 rfl
        exact run_plain rfl (y_move e6)
      · intro ax tx hs okx sm d0
        have e7 : At (Ty.bool ((decide ((cirMay n cs) = (0 : Int))) && ((cirO n cs).isSome == (circF cs (fct ((n).toNat)) ((fct ((n).toNat) - (([] : List Int)).length)) ([(roundsL ((n).toNat))]) (([] : List Int))).isSome))) tx ax (.tmp 99) := d0 rfl
        refine run_guard (T := (Ty.lst Ty.int ((cirO n cs).getD []))) okx rfl rfl (by decide) e7 (fun hg => ?_)
        obtain ⟨d35, d36⟩ := Bool.and_eq_true_iff.mp hg
        have d35 := of_decide_eq_true d35
        exact y_move (kp (sm 5 rfl) hs q148)
      · intro ax tx hs okx sm d0
        have e7 : At (Ty.bool ((decide ((cirMay n cs) = (0 : Int))) && ((cirO n cs).isSome == (circF cs (fct ((n).toNat)) ((fct ((n).toNat) - (([] : List Int)).length)) ([(roundsL ((n).toNat))]) (([] : List Int))).isSome))) tx ax (.tmp 99) := d0 rfl
        refine run_guard (T := (Ty.lst Ty.int ((circF cs (fct ((n).toNat)) ((fct ((n).toNat) - (([] : List Int)).length)) ([(roundsL ((n).toNat))]) (([] : List Int))).getD []))) okx rfl rfl (by decide) e7 (fun hg => ?_)
        obtain ⟨d37, d38⟩ := Bool.and_eq_true_iff.mp hg
        have d37 := of_decide_eq_true d37
        exact y_move (kp (sm 12 rfl) hs q151)
      · intro ax tx hs okx sm d0 d1 d2 d3
        have e8 : At (Ty.grd (((decide ((cirMay n cs) = (0 : Int))) && ((cirO n cs).isSome == (circF cs (fct ((n).toNat)) ((fct ((n).toNat) - (([] : List Int)).length)) ([(roundsL ((n).toNat))]) (([] : List Int))).isSome)) = true) (Ty.lst Ty.int ((cirO n cs).getD []))) tx ax (.tmp 100) := d0 rfl
        have e9 : At (Ty.grd (((decide ((cirMay n cs) = (0 : Int))) && ((cirO n cs).isSome == (circF cs (fct ((n).toNat)) ((fct ((n).toNat) - (([] : List Int)).length)) ([(roundsL ((n).toNat))]) (([] : List Int))).isSome)) = true) (Ty.lst Ty.int ((circF cs (fct ((n).toNat)) ((fct ((n).toNat) - (([] : List Int)).length)) ([(roundsL ((n).toNat))]) (([] : List Int))).getD []))) tx ax (.tmp 101) := d1 rfl
        have e7 : At (Ty.bool ((decide ((cirMay n cs) = (0 : Int))) && ((cirO n cs).isSome == (circF cs (fct ((n).toNat)) ((fct ((n).toNat) - (([] : List Int)).length)) ([(roundsL ((n).toNat))]) (([] : List Int))).isSome))) tx ax (.tmp 99) := d2 rfl
        refine run_guard (T := (Ty.bool (decide ((((cirO n cs).getD [])) = (((circF cs (fct ((n).toNat)) ((fct ((n).toNat) - (([] : List Int)).length)) ([(roundsL ((n).toNat))]) (([] : List Int))).getD [])))))) okx rfl rfl (by decide) e7 (fun hg => ?_)
        obtain ⟨d39, d40⟩ := Bool.and_eq_true_iff.mp hg
        have d39 := of_decide_eq_true d39
        exact y_call #[ax.eval (.tmp 100), ax.eval (.tmp 101)] Try.func25 rfl rfl (by simp only [List.map_toArray, List.map_cons, List.map_nil]) (rsame_fn (((cirO n cs).getD [])) (((circF cs (fct ((n).toNat)) ((fct ((n).toNat) - (([] : List Int)).length)) ([(roundsL ((n).toNat))]) (([] : List Int))).getD [])) _ _ _ (e8.1 hg) (e9.1 hg) )
      · intro ax tx hs okx sm d0 d1
        have e7 : At (Ty.bool ((decide ((cirMay n cs) = (0 : Int))) && ((cirO n cs).isSome == (circF cs (fct ((n).toNat)) ((fct ((n).toNat) - (([] : List Int)).length)) ([(roundsL ((n).toNat))]) (([] : List Int))).isSome))) tx ax (.tmp 99) := d0 rfl
        have e10 : At (Ty.grd (((decide ((cirMay n cs) = (0 : Int))) && ((cirO n cs).isSome == (circF cs (fct ((n).toNat)) ((fct ((n).toNat) - (([] : List Int)).length)) ([(roundsL ((n).toNat))]) (([] : List Int))).isSome)) = true) (Ty.bool (decide ((((cirO n cs).getD [])) = (((circF cs (fct ((n).toNat)) ((fct ((n).toNat) - (([] : List Int)).length)) ([(roundsL ((n).toNat))]) (([] : List Int))).getD [])))))) tx ax (.tmp 102) := d1 rfl
        exact run_plain rfl (y_pick_and e7 e10 rfl)
      · intro ax tx hs okx sm d0 d1 d2 d3 d4 d5 d6 d7 d8 d9 d10 d11 d12 d13
        have e11 : At (Ty.bool (((decide ((cirMay n cs) = (0 : Int))) && ((cirO n cs).isSome == (circF cs (fct ((n).toNat)) ((fct ((n).toNat) - (([] : List Int)).length)) ([(roundsL ((n).toNat))]) (([] : List Int))).isSome)) && (decide ((((cirO n cs).getD [])) = (((circF cs (fct ((n).toNat)) ((fct ((n).toNat) - (([] : List Int)).length)) ([(roundsL ((n).toNat))]) (([] : List Int))).getD [])))))) tx ax (.tmp 103) := d0 rfl
        have e10 : At (Ty.grd (((decide ((cirMay n cs) = (0 : Int))) && ((cirO n cs).isSome == (circF cs (fct ((n).toNat)) ((fct ((n).toNat) - (([] : List Int)).length)) ([(roundsL ((n).toNat))]) (([] : List Int))).isSome)) = true) (Ty.bool (decide ((((cirO n cs).getD [])) = (((circF cs (fct ((n).toNat)) ((fct ((n).toNat) - (([] : List Int)).length)) ([(roundsL ((n).toNat))]) (([] : List Int))).getD [])))))) tx ax (.tmp 102) := d1 rfl
        have e0 : At (Ty.int (cirMay n cs)) tx ax (.tmp 92) := d2 rfl
        have e1 : At (Ty.bool (decide ((cirMay n cs) = (0 : Int)))) tx ax (.tmp 93) := d3 rfl
        have e2 : At (Ty.bool (decide ((cirMay n cs) = (0 : Int)))) tx ax (.tmp 94) := d4 rfl
        have e3 : At (Ty.grd ((decide ((cirMay n cs) = (0 : Int))) = true) (Ty.bool (cirO n cs).isSome)) tx ax (.tmp 95) := d5 rfl
        have e4 : At (Ty.grd ((decide ((cirMay n cs) = (0 : Int))) = true) (Ty.bool (circF cs (fct ((n).toNat)) ((fct ((n).toNat) - (([] : List Int)).length)) ([(roundsL ((n).toNat))]) (([] : List Int))).isSome)) tx ax (.tmp 96) := d6 rfl
        have e5 : At (Ty.grd ((decide ((cirMay n cs) = (0 : Int))) = true) (Ty.bool ((cirO n cs).isSome == (circF cs (fct ((n).toNat)) ((fct ((n).toNat) - (([] : List Int)).length)) ([(roundsL ((n).toNat))]) (([] : List Int))).isSome))) tx ax (.tmp 97) := d7 rfl
        have e6 : At (Ty.bool ((decide ((cirMay n cs) = (0 : Int))) && ((cirO n cs).isSome == (circF cs (fct ((n).toNat)) ((fct ((n).toNat) - (([] : List Int)).length)) ([(roundsL ((n).toNat))]) (([] : List Int))).isSome))) tx ax (.tmp 98) := d8 rfl
        have e7 : At (Ty.bool ((decide ((cirMay n cs) = (0 : Int))) && ((cirO n cs).isSome == (circF cs (fct ((n).toNat)) ((fct ((n).toNat) - (([] : List Int)).length)) ([(roundsL ((n).toNat))]) (([] : List Int))).isSome))) tx ax (.tmp 99) := d9 rfl
        have e8 : At (Ty.grd (((decide ((cirMay n cs) = (0 : Int))) && ((cirO n cs).isSome == (circF cs (fct ((n).toNat)) ((fct ((n).toNat) - (([] : List Int)).length)) ([(roundsL ((n).toNat))]) (([] : List Int))).isSome)) = true) (Ty.lst Ty.int ((cirO n cs).getD []))) tx ax (.tmp 100) := d10 rfl
        have e9 : At (Ty.grd (((decide ((cirMay n cs) = (0 : Int))) && ((cirO n cs).isSome == (circF cs (fct ((n).toNat)) ((fct ((n).toNat) - (([] : List Int)).length)) ([(roundsL ((n).toNat))]) (([] : List Int))).isSome)) = true) (Ty.lst Ty.int ((circF cs (fct ((n).toNat)) ((fct ((n).toNat) - (([] : List Int)).length)) ([(roundsL ((n).toNat))]) (([] : List Int))).getD []))) tx ax (.tmp 101) := d11 rfl
        exact run_plain rfl (y_assign e11)
      intro a29 s25 D25
      have ok27 := D25.ok
      have F27 := F26.step0 D25.stp
      have q153 : At (Ty.bool (((decide ((cirMay n cs) = (0 : Int))) && ((cirO n cs).isSome == (circF cs (fct ((n).toNat)) ((fct ((n).toNat) - (([] : List Int)).length)) ([(roundsL ((n).toNat))]) (([] : List Int))).isSome)) && (decide ((((cirO n cs).getD [])) = (((circF cs (fct ((n).toNat)) ((fct ((n).toNat) - (([] : List Int)).length)) ([(roundsL ((n).toNat))]) (([] : List Int))).getD [])))))) s25 a29 (.tmp 4) := D25.done 12
      clear D25
      refine tn ?_
      refine wp_ret ?_
      exact retL1 rfl ok27 F27 (cvb (by (rw [hoe, hm0]; simp)) q153)


end Go.Proofs.Ytlhnpkaohfoicaa
