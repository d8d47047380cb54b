/- The functions that the law MusicSays reaches, each by its contract. Part 2. -/
import Derived.Test.YtlhnpkaohfoicaaMusicSaysW1
namespace Go.Proofs.Ytlhnpkaohfoicaa
open Go.KL

set_option maxHeartbeats 4000000 in
set_option maxRecDepth 100000 in
theorem fits_fn (f : List Int) (b : List Int) (st : Bool) (r : List Int) (σ : GW)  (v0 v1 : Value) (hv0 : Ty.has (Ty.agg [(Ty.lst Ty.int f), (Ty.lst Ty.int b), (Ty.bool st)]) σ v0) (hv1 : Ty.has (Ty.lst Ty.int r) σ v1)  (hl1 : f.length ≤ r.length) (hl2 : b.length ≤ r.length) :
    FnC Try.prog 89 #[v0, v1] σ (Ty.bool (likeB f b r)) := by
 refine fn_intro0 Try.func89 rfl Try.ntmps89 (Nat.le_of_ble_eq_true rfl) (fun s0 a0 hle F0 ok0 hargs => ?_)
 have p0 : At (Ty.agg [(Ty.lst Ty.int f), (Ty.lst Ty.int b), (Ty.bool st)]) s0 a0 (.tmp 0) := by have e := hargs 0 _ rfl; show Ty.has _ _ _; rw [e]; exact Ty.up _ hle hv0
 have p1 : At (Ty.lst Ty.int r) s0 a0 (.tmp 1) := by have e := hargs 1 _ rfl; show Ty.has _ _ _; rw [e]; exact Ty.up _ hle hv1
 have b1 := sl_le p1
 clear hargs
 refine wp_seq ?_
 refine reg (a := a0) (σ := s0) rfl (fun i_ => List.getD [(Ty.pr (Ty.ref [(Ty.lst Ty.int f), (Ty.lst Ty.int b), (Ty.bool st)])), (Ty.pr (Ty.bool false))] i_ Pr.any) ok0 rfl ⟨?_, ?_, trivial⟩ ?_
 · intro ax tx hs okx sm
   exact run_plain rfl (y_boxagg (kp (sm 0 rfl) hs p0))
 · intro ax tx hs okx sm
   exact run_plain rfl (y_assign rfl)
 intro a1 s1 D1
 have ok1 := D1.ok
 have F1 := F0.step0 D1.stp
 have q1 : At (Ty.lst Ty.int r) s1 a1 (.tmp 1) := D1.kt p1 rfl
 have q2 : At (Ty.ref [(Ty.lst Ty.int f), (Ty.lst Ty.int b), (Ty.bool st)]) s1 a1 (.tmp 2) := D1.done 0
 clear D1
 refine tn ?_
 refine wp_seq ?_
 refine wp_seq ?_
 refine reg (a := a1) (σ := s1) rfl (fun i_ => List.getD [(Ty.pr (Ty.ref [(Ty.lst Ty.int f), (Ty.lst Ty.int b), (Ty.bool st)])), (Ty.pr (Ty.lst Ty.int f)), (Ty.pr (Ty.nat (List.length f))), (Ty.pr (Ty.int (0 : Int)))] i_ Pr.any) ok1 rfl ⟨?_, ?_, ?_, ?_, trivial⟩ ?_
 · intro ax tx hs okx sm
   exact run_plain rfl (y_field Try.fld148_0 Try.inf34 (by decide) (kp (sm 2 rfl) hs q2) rfl)
 · intro ax tx hs okx sm d0
   have e0 : At (Ty.ref [(Ty.lst Ty.int f), (Ty.lst Ty.int b), (Ty.bool st)]) tx ax (.tmp 10) := d0 rfl
   exact run_plain rfl (y_load Try.underlying34 rfl e0 rfl)
 · intro ax tx hs okx sm d0
   have e1 : At (Ty.lst Ty.int f) tx ax (.tmp 11) := d0 rfl
   exact run_plain rfl (y_len Try.underlying34 e1)
 · intro ax tx hs okx sm
   exact run_plain rfl (y_move rfl)
 intro a2 s2 D2
 have ok2 := D2.ok
 have F2 := F1.step0 D2.stp
 have q3 : At (Ty.lst Ty.int r) s2 a2 (.tmp 1) := D2.kt q1 rfl
 have q4 : At (Ty.ref [(Ty.lst Ty.int f), (Ty.lst Ty.int b), (Ty.bool st)]) s2 a2 (.tmp 2) := D2.kt q2 rfl
 have q5 : At (Ty.lst Ty.int f) s2 a2 (.tmp 11) := D2.done 1
 have b2 := sl_le q5
 have q6 : At (Ty.nat (List.length f)) s2 a2 (.tmp 12) := D2.done 2
 have q7 : At (Ty.int (0 : Int)) s2 a2 (.tmp 13) := D2.done 3
 clear D2
 refine tn ?_
 refine wp_block ?_
 refine loop (fun n1 a3 w1 => ∃ (t1 : GW) (i : Nat), t1.w = w1 ∧ FromL [] s0 t1 ∧ Ok 56 a3 ∧ At (Ty.nat i) t1 a3 (.tmp 13) ∧ At (Ty.lst Ty.int r) t1 a3 (.tmp 1) ∧ At (Ty.ref [(Ty.lst Ty.int f), (Ty.lst Ty.int b), (Ty.bool st)]) t1 a3 (.tmp 2) ∧ At (Ty.lst Ty.int f) t1 a3 (.tmp 11) ∧ At (Ty.nat (List.length f)) t1 a3 (.tmp 12) ∧ (i ≤ f.length) ∧ (∀ j, j < i → f.getD j 0 < 0 ∨ r.getD j 0 = f.getD j 0) ∧ n1 = f.length - i) (f.length - (0)) ?_ ?_
 ·
  exact ⟨s2, 0, rfl, F2, ok2, (cvi (by (first | rfl | omega | (simp_all; done) | (simp_all; omega))) q7), q3, q4, q5, q6, by omega, fun j hj => absurd hj (Nat.not_lt_zero j), rfl⟩
 ·
  rintro n2 a4 w2 ⟨t2, i, rfl, F3, ok3, q8, q9, q10, q11, q12, hi, hq, rfl⟩
  refine wp_seq ?_
  refine reg (a := a4) (σ := t2) rfl (fun i_ => List.getD [(Ty.pr (Ty.bool (decide (((i : Nat) : Int) < (((List.length f) : Nat) : Int)))))] i_ Pr.any) ok3 rfl ⟨?_, trivial⟩ ?_
  · intro ax tx hs okx sm
    exact run_plain rfl (y_lss (kp (sm 13 rfl) hs q8) (kp (sm 12 rfl) hs q12))
  intro a5 s3 D3
  have ok4 := D3.ok
  have F4 := F3.step0 D3.stp
  have q13 : At (Ty.nat i) s3 a5 (.tmp 13) := D3.kt q8 rfl
  have q14 : At (Ty.lst Ty.int r) s3 a5 (.tmp 1) := D3.kt q9 rfl
  have q15 : At (Ty.ref [(Ty.lst Ty.int f), (Ty.lst Ty.int b), (Ty.bool st)]) s3 a5 (.tmp 2) := D3.kt q10 rfl
  have q16 : At (Ty.lst Ty.int f) s3 a5 (.tmp 11) := D3.kt q11 rfl
  have q17 : At (Ty.nat (List.length f)) s3 a5 (.tmp 12) := D3.kt q12 rfl
  have q18 : At (Ty.bool (decide (((i : Nat) : Int) < (((List.length f) : Nat) : Int)))) s3 a5 (.tmp 14) := D3.done 0
  clear D3
  refine tn ?_
  refine wp_seq ?_
  refine cond_p (p := (((i : Nat) : Int) < (((List.length f) : Nat) : Int))) q18 (fun c1 => ?_) (fun c1 => ?_)
  ·
   refine wp_skip ?_
   refine tn ?_
   refine wp_seq ?_
   refine wp_block ?_
   refine wp_seq ?_
   refine reg (a := a5) (σ := s3) rfl (fun i_ => List.getD [(Ty.pr (Ty.nat i)), (Ty.pr (Ty.ref [(Ty.int (f.getD i 0))])), (Ty.pr (Ty.int (f.getD i 0))), (Ty.pr (Ty.nat i)), (Ty.pr (Ty.int (f.getD i 0)))] i_ Pr.any) ok4 rfl ⟨?_, ?_, ?_, ?_, ?_, trivial⟩ ?_
   · intro ax tx hs okx sm
     exact run_plain rfl (y_move (kp (sm 13 rfl) hs q13))
   · intro ax tx hs okx sm
     exact run_plain rfl (y_index1 Try.underlying34 Try.inf3 (kp (sm 11 rfl) hs q16) (kp (sm 13 rfl) hs q13) (by omega) (lst_get Ty.int f 0 i (by omega)))
   · intro ax tx hs okx sm d0
     have e1 : At (Ty.ref [(Ty.int (f.getD i 0))]) tx ax (.tmp 16) := d0 rfl
     exact run_plain rfl (y_load Try.underlying3 rfl e1 rfl)
   · intro ax tx hs okx sm d0 d1 d2 d3
     have e0 : At (Ty.nat i) tx ax (.tmp 15) := d0 rfl
     have e1 : At (Ty.ref [(Ty.int (f.getD i 0))]) tx ax (.tmp 16) := d2 rfl
     have e2 : At (Ty.int (f.getD i 0)) tx ax (.tmp 17) := d3 rfl
     exact run_plain rfl (y_assign e0)
   · intro ax tx hs okx sm d0 d1 d2 d3 d4 d5
     have e2 : At (Ty.int (f.getD i 0)) tx ax (.tmp 17) := d0 rfl
     have e3 : At (Ty.nat i) tx ax (.tmp 5) := d1 rfl
     have e0 : At (Ty.nat i) tx ax (.tmp 15) := d2 rfl
     have e1 : At (Ty.ref [(Ty.int (f.getD i 0))]) tx ax (.tmp 16) := d3 rfl
     exact run_plain rfl (y_assign e2)
   intro a6 s4 D4
   have ok5 := D4.ok
   have F5 := F4.step0 D4.stp
   have q19 : At (Ty.nat i) s4 a6 (.tmp 13) := D4.kt q13 rfl
   have q20 : At (Ty.lst Ty.int r) s4 a6 (.tmp 1) := D4.kt q14 rfl
   have q21 : At (Ty.ref [(Ty.lst Ty.int f), (Ty.lst Ty.int b), (Ty.bool st)]) s4 a6 (.tmp 2) := D4.kt q15 rfl
   have q22 : At (Ty.lst Ty.int f) s4 a6 (.tmp 11) := D4.kt q16 rfl
   have q23 : At (Ty.nat (List.length f)) s4 a6 (.tmp 12) := D4.kt q17 rfl
   have q24 : At (Ty.nat i) s4 a6 (.tmp 5) := D4.done 3
   have q25 : At (Ty.int (f.getD i 0)) s4 a6 (.tmp 6) := D4.done 4
   clear D4
   refine tn ?_
   refine wp_seq ?_
   refine reg (a := a6) (σ := s4) rfl (fun i_ => List.getD [(Ty.pr (Ty.int (f.getD i 0))), (Ty.pr (Ty.bool (decide ((0 : Int) ≤ (f.getD i 0))))), (Ty.pr (Ty.bool (decide ((0 : Int) ≤ (f.getD i 0))))), (Ty.pr (Ty.grd ((decide ((0 : Int) ≤ (f.getD i 0))) = true) (Ty.lst Ty.int r))), (Ty.pr (Ty.grd ((decide ((0 : Int) ≤ (f.getD i 0))) = true) (Ty.nat i))), (Ty.pr (Ty.grd ((decide ((0 : Int) ≤ (f.getD i 0))) = true) (Ty.ref [(Ty.int (r.getD i 0))]))), (Ty.pr (Ty.grd ((decide ((0 : Int) ≤ (f.getD i 0))) = true) (Ty.int (r.getD i 0)))), (Ty.pr (Ty.grd ((decide ((0 : Int) ≤ (f.getD i 0))) = true) (Ty.int (f.getD i 0)))), (Ty.pr (Ty.grd ((decide ((0 : Int) ≤ (f.getD i 0))) = true) (Ty.bool (decide ((r.getD i 0) ≠ (f.getD i 0)))))), (Ty.pr (Ty.bool ((decide ((0 : Int) ≤ (f.getD i 0))) && (decide ((r.getD i 0) ≠ (f.getD i 0))))))] i_ Pr.any) ok5 rfl ⟨?_, ?_, ?_, ?_, ?_, ?_, ?_, ?_, ?_, ?_, trivial⟩ ?_
   · intro ax tx hs okx sm
     exact run_plain rfl (y_move (kp (sm 6 rfl) hs q25))
   · intro ax tx hs okx sm d0
     have e0 : At (Ty.int (f.getD i 0)) tx ax (.tmp 18) := d0 rfl
     exact run_plain rfl (y_geq e0 rfl)
   · intro ax tx hs okx sm d0
     have e1 : At (Ty.bool (decide ((0 : Int) ≤ (f.getD i 0)))) tx ax (.tmp 19) := d0 rfl
     exact run_plain rfl (y_move e1)
   · intro ax tx hs okx sm d0
     have e2 : At (Ty.bool (decide ((0 : Int) ≤ (f.getD i 0)))) tx ax (.tmp 20) := d0 rfl
     refine run_guard (T := (Ty.lst Ty.int r)) okx rfl rfl (by decide) e2 (fun hg => ?_)
     have hp := of_decide_eq_true hg
     exact y_move (kp (sm 1 rfl) hs q20)
   · intro ax tx hs okx sm d0
     have e2 : At (Ty.bool (decide ((0 : Int) ≤ (f.getD i 0)))) tx ax (.tmp 20) := d0 rfl
     refine run_guard (T := (Ty.nat i)) okx rfl rfl (by decide) e2 (fun hg => ?_)
     have hp := of_decide_eq_true hg
     exact y_move (kp (sm 5 rfl) hs q24)
   · intro ax tx hs okx sm d0 d1 d2
     have e3 : At (Ty.grd ((decide ((0 : Int) ≤ (f.getD i 0))) = true) (Ty.lst Ty.int r)) tx ax (.tmp 21) := d0 rfl
     have e4 : At (Ty.grd ((decide ((0 : Int) ≤ (f.getD i 0))) = true) (Ty.nat i)) tx ax (.tmp 22) := d1 rfl
     have e2 : At (Ty.bool (decide ((0 : Int) ≤ (f.getD i 0)))) tx ax (.tmp 20) := d2 rfl
     refine run_guard (T := (Ty.ref [(Ty.int (r.getD i 0))])) okx rfl rfl (by decide) e2 (fun hg => ?_)
     have hp := of_decide_eq_true hg
     exact y_index1 Try.underlying34 Try.inf3 (e3.1 hg) (e4.1 hg) (by omega) (lst_get Ty.int r 0 i (by omega))
   · intro ax tx hs okx sm d0 d1
     have e5 : At (Ty.grd ((decide ((0 : Int) ≤ (f.getD i 0))) = true) (Ty.ref [(Ty.int (r.getD i 0))])) tx ax (.tmp 23) := d0 rfl
     have e2 : At (Ty.bool (decide ((0 : Int) ≤ (f.getD i 0)))) tx ax (.tmp 20) := d1 rfl
     refine run_guard (T := (Ty.int (r.getD i 0))) okx rfl rfl (by decide) e2 (fun hg => ?_)
     have hp := of_decide_eq_true hg
     exact y_load Try.underlying3 rfl (e5.1 hg) rfl
   · intro ax tx hs okx sm d0
     have e2 : At (Ty.bool (decide ((0 : Int) ≤ (f.getD i 0)))) tx ax (.tmp 20) := d0 rfl
     refine run_guard (T := (Ty.int (f.getD i 0))) okx rfl rfl (by decide) e2 (fun hg => ?_)
     have hp := of_decide_eq_true hg
     exact y_move (kp (sm 6 rfl) hs q25)
   · intro ax tx hs okx sm d0 d1 d2
     have e6 : At (Ty.grd ((decide ((0 : Int) ≤ (f.getD i 0))) = true) (Ty.int (r.getD i 0))) tx ax (.tmp 24) := d0 rfl
     have e7 : At (Ty.grd ((decide ((0 : Int) ≤ (f.getD i 0))) = true) (Ty.int (f.getD i 0))) tx ax (.tmp 25) := d1 rfl
     have e2 : At (Ty.bool (decide ((0 : Int) ≤ (f.getD i 0)))) tx ax (.tmp 20) := d2 rfl
     refine run_guard (T := (Ty.bool (decide ((r.getD i 0) ≠ (f.getD i 0))))) okx rfl rfl (by decide) e2 (fun hg => ?_)
     have hp := of_decide_eq_true hg
     exact y_neq (e6.1 hg) (e7.1 hg)
   · intro ax tx hs okx sm d0 d1
     have e2 : At (Ty.bool (decide ((0 : Int) ≤ (f.getD i 0)))) tx ax (.tmp 20) := d0 rfl
     have e8 : At (Ty.grd ((decide ((0 : Int) ≤ (f.getD i 0))) = true) (Ty.bool (decide ((r.getD i 0) ≠ (f.getD i 0))))) tx ax (.tmp 26) := d1 rfl
     exact run_plain rfl (y_pick_and e2 e8 rfl)
   intro a7 s5 D5
   have ok6 := D5.ok
   have F6 := F5.step0 D5.stp
   have q26 : At (Ty.nat i) s5 a7 (.tmp 13) := D5.kt q19 rfl
   have q27 : At (Ty.lst Ty.int r) s5 a7 (.tmp 1) := D5.kt q20 rfl
   have q28 : At (Ty.ref [(Ty.lst Ty.int f), (Ty.lst Ty.int b), (Ty.bool st)]) s5 a7 (.tmp 2) := D5.kt q21 rfl
   have q29 : At (Ty.lst Ty.int f) s5 a7 (.tmp 11) := D5.kt q22 rfl
   have q30 : At (Ty.nat (List.length f)) s5 a7 (.tmp 12) := D5.kt q23 rfl
   have q31 : At (Ty.bool ((decide ((0 : Int) ≤ (f.getD i 0))) && (decide ((r.getD i 0) ≠ (f.getD i 0))))) s5 a7 (.tmp 27) := D5.done 9
   clear D5
   refine tn ?_
   refine cond_t q31 (fun c2 => ?_) (fun c2 => ?_)
   ·
    obtain ⟨d1, d2⟩ := Bool.and_eq_true_iff.mp c2
    replace d1 := of_decide_eq_true d1
    replace d2 := of_decide_eq_true d2
    simp only [Bool.and_eq_true, decide_eq_true_eq] at c2
    refine wp_seq ?_
    refine reg (a := a7) (σ := s5) rfl (fun i_ => List.getD [(Ty.pr (Ty.bool false))] i_ Pr.any) ok6 rfl ⟨?_, trivial⟩ ?_
    · intro ax tx hs okx sm
      exact run_plain rfl (y_assign rfl)
    intro a8 s6 D6
    have ok7 := D6.ok
    have F7 := F6.step0 D6.stp
    have q32 : At (Ty.bool false) s6 a8 (.tmp 4) := D6.done 0
    clear D6
    refine tn ?_
    refine wp_ret ?_
    refine br ?_
    refine tr ?_
    refine tr ?_
    refine br ?_
    refine tr ?_
    exact retL1 rfl ok7 F7 (cvb (by (exact (like_no1 (i := i) (by omega) (by omega) (by omega)).symm)) q32)
   ·
    simp only [Bool.and_eq_false_iff, decide_eq_false_iff_not] at c2
    refine wp_skip ?_
    refine bn ?_
    refine tn ?_
    refine reg (a := a7) (σ := s5) rfl (fun i_ => List.getD [(Ty.pr (Ty.nat (i + 1))), (Ty.pr (Ty.nat (i + 1)))] i_ Pr.any) ok6 rfl ⟨?_, ?_, trivial⟩ ?_
    · intro ax tx hs okx sm
      exact run_plain rfl ((y_add (kp (sm 13 rfl) hs q26) rfl (w64 (by omega) (by omega))).mono (fun τ _ h => cvi (σ := τ) (by first | omega | exact (Int.natCast_mul _ _).symm) h))
    · intro ax tx hs okx sm d0
      have e0 : At (Ty.nat (i + 1)) tx ax (.tmp 28) := d0 rfl
      exact run_plain rfl (y_move e0)
    intro a9 s7 D7
    have ok8 := D7.ok
    have F8 := F6.step0 D7.stp
    have q33 : At (Ty.lst Ty.int r) s7 a9 (.tmp 1) := D7.kt q27 rfl
    have q34 : At (Ty.ref [(Ty.lst Ty.int f), (Ty.lst Ty.int b), (Ty.bool st)]) s7 a9 (.tmp 2) := D7.kt q28 rfl
    have q35 : At (Ty.lst Ty.int f) s7 a9 (.tmp 11) := D7.kt q29 rfl
    have q36 : At (Ty.nat (List.length f)) s7 a9 (.tmp 12) := D7.kt q30 rfl
    have q37 : At (Ty.nat (i + 1)) s7 a9 (.tmp 13) := D7.done 1
    clear D7
    exact tn ⟨f.length - ((i+1)), by omega, s7, (i+1), rfl, F8, ok8, (cvi (by (first | rfl | omega | (simp_all; done) | (simp_all; omega))) q37), q33, q34, q35, q36, by omega, all_next hq (by omega), rfl⟩
  ·
   have hie : i = f.length := (by omega)
   refine wp_exit ?_
   refine tx ?_
   refine tx ?_
   refine bx ?_
   refine tn ?_
   refine wp_seq ?_
   refine reg (a := a5) (σ := s3) rfl (fun i_ => List.getD [(Ty.pr (Ty.lst Ty.int r)), (Ty.pr (Ty.nat (List.length r))), (Ty.pr (Ty.ref [(Ty.lst Ty.int b), (Ty.bool st)])), (Ty.pr (Ty.lst Ty.int b)), (Ty.pr (Ty.nat (List.length b))), (Ty.pr (Ty.int ((((List.length r) : Nat) : Int) - (((List.length b) : Nat) : Int)))), (Ty.pr (Ty.int ((((List.length r) : Nat) : Int) - (((List.length b) : Nat) : Int))))] i_ Pr.any) ok4 rfl ⟨?_, ?_, ?_, ?_, ?_, ?_, ?_, trivial⟩ ?_
   · intro ax tx hs okx sm
     exact run_plain rfl (y_move (kp (sm 1 rfl) hs q14))
   · intro ax tx hs okx sm d0
     have e0 : At (Ty.lst Ty.int r) tx ax (.tmp 29) := d0 rfl
     exact run_plain rfl (y_len Try.underlying34 e0)
   · intro ax tx hs okx sm
     exact run_plain rfl (y_field Try.fld148_1 Try.inf34 (by decide) (kp (sm 2 rfl) hs q15) rfl)
   · intro ax tx hs okx sm d0
     have e2 : At (Ty.ref [(Ty.lst Ty.int b), (Ty.bool st)]) tx ax (.tmp 31) := d0 rfl
     exact run_plain rfl (y_load Try.underlying34 rfl e2 rfl)
   · intro ax tx hs okx sm d0
     have e3 : At (Ty.lst Ty.int b) tx ax (.tmp 32) := d0 rfl
     exact run_plain rfl (y_len Try.underlying34 e3)
   · intro ax tx hs okx sm d0 d1
     have e1 : At (Ty.nat (List.length r)) tx ax (.tmp 30) := d0 rfl
     have e4 : At (Ty.nat (List.length b)) tx ax (.tmp 33) := d1 rfl
     exact run_plain rfl (y_sub e1 e4 (w64 (by omega) (by omega)))
   · intro ax tx hs okx sm d0 d1 d2 d3 d4 d5 d6
     have e5 : At (Ty.int ((((List.length r) : Nat) : Int) - (((List.length b) : Nat) : Int))) tx ax (.tmp 34) := d0 rfl
     have e0 : At (Ty.lst Ty.int r) tx ax (.tmp 29) := d1 rfl
     have e1 : At (Ty.nat (List.length r)) tx ax (.tmp 30) := d2 rfl
     have e2 : At (Ty.ref [(Ty.lst Ty.int b), (Ty.bool st)]) tx ax (.tmp 31) := d3 rfl
     have e3 : At (Ty.lst Ty.int b) tx ax (.tmp 32) := d4 rfl
     have e4 : At (Ty.nat (List.length b)) tx ax (.tmp 33) := d5 rfl
     exact run_plain rfl (y_assign e5)
   intro a10 s8 D8
   have ok9 := D8.ok
   have F9 := F4.step0 D8.stp
   have q38 : At (Ty.lst Ty.int r) s8 a10 (.tmp 1) := D8.kt q14 rfl
   have q39 : At (Ty.ref [(Ty.lst Ty.int f), (Ty.lst Ty.int b), (Ty.bool st)]) s8 a10 (.tmp 2) := D8.kt q15 rfl
   have q40 : At (Ty.int ((((List.length r) : Nat) : Int) - (((List.length b) : Nat) : Int))) s8 a10 (.tmp 7) := D8.done 6
   clear D8
   refine tn ?_
   refine wp_seq ?_
   refine wp_seq ?_
   refine reg (a := a10) (σ := s8) rfl (fun i_ => List.getD [(Ty.pr (Ty.ref [(Ty.lst Ty.int b), (Ty.bool st)])), (Ty.pr (Ty.lst Ty.int b)), (Ty.pr (Ty.nat (List.length b))), (Ty.pr (Ty.int (0 : Int)))] i_ Pr.any) ok9 rfl ⟨?_, ?_, ?_, ?_, trivial⟩ ?_
   · intro ax tx hs okx sm
     exact run_plain rfl (y_field Try.fld148_1 Try.inf34 (by decide) (kp (sm 2 rfl) hs q39) rfl)
   · intro ax tx hs okx sm d0
     have e0 : At (Ty.ref [(Ty.lst Ty.int b), (Ty.bool st)]) tx ax (.tmp 35) := d0 rfl
     exact run_plain rfl (y_load Try.underlying34 rfl e0 rfl)
   · intro ax tx hs okx sm d0
     have e1 : At (Ty.lst Ty.int b) tx ax (.tmp 36) := d0 rfl
     exact run_plain rfl (y_len Try.underlying34 e1)
   · intro ax tx hs okx sm
     exact run_plain rfl (y_move rfl)
   intro a11 s9 D9
   have ok10 := D9.ok
   have F10 := F9.step0 D9.stp
   have q41 : At (Ty.lst Ty.int r) s9 a11 (.tmp 1) := D9.kt q38 rfl
   have q42 : At (Ty.int ((((List.length r) : Nat) : Int) - (((List.length b) : Nat) : Int))) s9 a11 (.tmp 7) := D9.kt q40 rfl
   have q43 : At (Ty.lst Ty.int b) s9 a11 (.tmp 36) := D9.done 1
   have b3 := sl_le q43
   have q44 : At (Ty.nat (List.length b)) s9 a11 (.tmp 37) := D9.done 2
   have q45 : At (Ty.int (0 : Int)) s9 a11 (.tmp 38) := D9.done 3
   clear D9
   refine tn ?_
   refine wp_block ?_
   refine loop (fun n3 a12 w3 => ∃ (t3 : GW) (k : Nat), t3.w = w3 ∧ FromL [] s0 t3 ∧ Ok 56 a12 ∧ At (Ty.nat k) t3 a12 (.tmp 38) ∧ At (Ty.lst Ty.int r) t3 a12 (.tmp 1) ∧ At (Ty.int ((((List.length r) : Nat) : Int) - (((List.length b) : Nat) : Int))) t3 a12 (.tmp 7) ∧ At (Ty.lst Ty.int b) t3 a12 (.tmp 36) ∧ At (Ty.nat (List.length b)) t3 a12 (.tmp 37) ∧ (k ≤ b.length) ∧ (∀ j, j < k → b.getD j 0 < 0 ∨ r.getD (r.length - b.length + j) 0 = b.getD j 0) ∧ n3 = b.length - k) (b.length - (0)) ?_ ?_
   ·
    exact ⟨s9, 0, rfl, F10, ok10, (cvi (by (first | rfl | omega | (simp_all; done) | (simp_all; omega))) q45), q41, q42, q43, q44, by omega, fun j hj => absurd hj (Nat.not_lt_zero j), rfl⟩
   ·
    rintro n4 a13 w4 ⟨t4, k, rfl, F11, ok11, q46, q47, q48, q49, q50, hk, hq2, rfl⟩
    have hix : (((((r.length : Nat) : Int)) - (((b.length : Nat) : Int))) + ((k : Nat) : Int)).toNat = r.length - b.length + k := by omega
    refine wp_seq ?_
    refine reg (a := a13) (σ := t4) rfl (fun i_ => List.getD [(Ty.pr (Ty.bool (decide (((k : Nat) : Int) < (((List.length b) : Nat) : Int)))))] i_ Pr.any) ok11 rfl ⟨?_, trivial⟩ ?_
    · intro ax tx hs okx sm
      exact run_plain rfl (y_lss (kp (sm 38 rfl) hs q46) (kp (sm 37 rfl) hs q50))
    intro a14 s10 D10
    have ok12 := D10.ok
    have F12 := F11.step0 D10.stp
    have q51 : At (Ty.nat k) s10 a14 (.tmp 38) := D10.kt q46 rfl
    have q52 : At (Ty.lst Ty.int r) s10 a14 (.tmp 1) := D10.kt q47 rfl
    have q53 : At (Ty.int ((((List.length r) : Nat) : Int) - (((List.length b) : Nat) : Int))) s10 a14 (.tmp 7) := D10.kt q48 rfl
    have q54 : At (Ty.lst Ty.int b) s10 a14 (.tmp 36) := D10.kt q49 rfl
    have q55 : At (Ty.nat (List.length b)) s10 a14 (.tmp 37) := D10.kt q50 rfl
    have q56 : At (Ty.bool (decide (((k : Nat) : Int) < (((List.length b) : Nat) : Int)))) s10 a14 (.tmp 39) := D10.done 0
    clear D10
    refine tn ?_
    refine wp_seq ?_
    refine cond_p (p := (((k : Nat) : Int) < (((List.length b) : Nat) : Int))) q56 (fun c3 => ?_) (fun c3 => ?_)
    ·
     refine wp_skip ?_
     refine tn ?_
     refine wp_seq ?_
     refine wp_block ?_
     refine wp_seq ?_
     refine reg (a := a14) (σ := s10) rfl (fun i_ => List.getD [(Ty.pr (Ty.nat k)), (Ty.pr (Ty.ref [(Ty.int (b.getD k 0))])), (Ty.pr (Ty.int (b.getD k 0))), (Ty.pr (Ty.nat k)), (Ty.pr (Ty.int (b.getD k 0)))] i_ Pr.any) ok12 rfl ⟨?_, ?_, ?_, ?_, ?_, trivial⟩ ?_
     · intro ax tx hs okx sm
       exact run_plain rfl (y_move (kp (sm 38 rfl) hs q51))
     · intro ax tx hs okx sm
       exact run_plain rfl (y_index1 Try.underlying34 Try.inf3 (kp (sm 36 rfl) hs q54) (kp (sm 38 rfl) hs q51) (by omega) (lst_get Ty.int b 0 k (by omega)))
     · intro ax tx hs okx sm d0
       have e1 : At (Ty.ref [(Ty.int (b.getD k 0))]) tx ax (.tmp 41) := d0 rfl
       exact run_plain rfl (y_load Try.underlying3 rfl e1 rfl)
     · intro ax tx hs okx sm d0 d1 d2 d3
       have e0 : At (Ty.nat k) tx ax (.tmp 40) := d0 rfl
       have e1 : At (Ty.ref [(Ty.int (b.getD k 0))]) tx ax (.tmp 41) := d2 rfl
       have e2 : At (Ty.int (b.getD k 0)) tx ax (.tmp 42) := d3 rfl
       exact run_plain rfl (y_assign e0)
     · intro ax tx hs okx sm d0 d1 d2 d3 d4 d5
       have e2 : At (Ty.int (b.getD k 0)) tx ax (.tmp 42) := d0 rfl
       have e3 : At (Ty.nat k) tx ax (.tmp 8) := d1 rfl
       have e0 : At (Ty.nat k) tx ax (.tmp 40) := d2 rfl
       have e1 : At (Ty.ref [(Ty.int (b.getD k 0))]) tx ax (.tmp 41) := d3 rfl
       exact run_plain rfl (y_assign e2)
     intro a15 s11 D11
     have ok13 := D11.ok
     have F13 := F12.step0 D11.stp
     have q57 : At (Ty.nat k) s11 a15 (.tmp 38) := D11.kt q51 rfl
     have q58 : At (Ty.lst Ty.int r) s11 a15 (.tmp 1) := D11.kt q52 rfl
     have q59 : At (Ty.int ((((List.length r) : Nat) : Int) - (((List.length b) : Nat) : Int))) s11 a15 (.tmp 7) := D11.kt q53 rfl
     have q60 : At (Ty.lst Ty.int b) s11 a15 (.tmp 36) := D11.kt q54 rfl
     have q61 : At (Ty.nat (List.length b)) s11 a15 (.tmp 37) := D11.kt q55 rfl
     have q62 : At (Ty.nat k) s11 a15 (.tmp 8) := D11.done 3
     have q63 : At (Ty.int (b.getD k 0)) s11 a15 (.tmp 9) := D11.done 4
     clear D11
     refine tn ?_
     refine wp_seq ?_
     refine reg (a := a15) (σ := s11) rfl (fun i_ => List.getD [(Ty.pr (Ty.int (b.getD k 0))), (Ty.pr (Ty.bool (decide ((0 : Int) ≤ (b.getD k 0))))), (Ty.pr (Ty.bool (decide ((0 : Int) ≤ (b.getD k 0))))), (Ty.pr (Ty.grd ((decide ((0 : Int) ≤ (b.getD k 0))) = true) (Ty.lst Ty.int r))), (Ty.pr (Ty.grd ((decide ((0 : Int) ≤ (b.getD k 0))) = true) (Ty.int ((((List.length r) : Nat) : Int) - (((List.length b) : Nat) : Int))))), (Ty.pr (Ty.grd ((decide ((0 : Int) ≤ (b.getD k 0))) = true) (Ty.nat k))), (Ty.pr (Ty.grd ((decide ((0 : Int) ≤ (b.getD k 0))) = true) (Ty.int (((((List.length r) : Nat) : Int) - (((List.length b) : Nat) : Int)) + ((k : Nat) : Int))))), (Ty.pr (Ty.grd ((decide ((0 : Int) ≤ (b.getD k 0))) = true) (Ty.ref [(Ty.int (r.getD ((((((List.length r) : Nat) : Int) - (((List.length b) : Nat) : Int)) + ((k : Nat) : Int))).toNat 0))]))), (Ty.pr (Ty.grd ((decide ((0 : Int) ≤ (b.getD k 0))) = true) (Ty.int (r.getD ((((((List.length r) : Nat) : Int) - (((List.length b) : Nat) : Int)) + ((k : Nat) : Int))).toNat 0)))), (Ty.pr (Ty.grd ((decide ((0 : Int) ≤ (b.getD k 0))) = true) (Ty.int (b.getD k 0)))), (Ty.pr (Ty.grd ((decide ((0 : Int) ≤ (b.getD k 0))) = true) (Ty.bool (decide ((r.getD ((((((List.length r) : Nat) : Int) - (((List.length b) : Nat) : Int)) + ((k : Nat) : Int))).toNat 0) ≠ (b.getD k 0)))))), (Ty.pr (Ty.bool ((decide ((0 : Int) ≤ (b.getD k 0))) && (decide ((r.getD ((((((List.length r) : Nat) : Int) - (((List.length b) : Nat) : Int)) + ((k : Nat) : Int))).toNat 0) ≠ (b.getD k 0))))))] i_ Pr.any) ok13 rfl ⟨?_, ?_, ?_, ?_, ?_, ?_, ?_, ?_, ?_, ?_, ?_, ?_, trivial⟩ ?_
     · intro ax tx hs okx sm
       exact run_plain rfl (y_move (kp (sm 9 rfl) hs q63))
     · intro ax tx hs okx sm d0
       have e0 : At (Ty.int (b.getD k 0)) tx ax (.tmp 43) := d0 rfl
       exact run_plain rfl (y_geq e0 rfl)
     · intro ax tx hs okx sm d0
       have e1 : At (Ty.bool (decide ((0 : Int) ≤ (b.getD k 0)))) tx ax (.tmp 44) := d0 rfl
       exact run_plain rfl (y_move e1)
     · intro ax tx hs okx sm d0
       have e2 : At (Ty.bool (decide ((0 : Int) ≤ (b.getD k 0)))) tx ax (.tmp 45) := d0 rfl
       refine run_guard (T := (Ty.lst Ty.int r)) okx rfl rfl (by decide) e2 (fun hg => ?_)
       have hp := of_decide_eq_true hg
       exact y_move (kp (sm 1 rfl) hs q58)
     · intro ax tx hs okx sm d0
       have e2 : At (Ty.bool (decide ((0 : Int) ≤ (b.getD k 0)))) tx ax (.tmp 45) := d0 rfl
       refine run_guard (T := (Ty.int ((((List.length r) : Nat) : Int) - (((List.length b) : Nat) : Int)))) okx rfl rfl (by decide) e2 (fun hg => ?_)
       have hp := of_decide_eq_true hg
       exact y_move (kp (sm 7 rfl) hs q59)
     · intro ax tx hs okx sm d0
       have e2 : At (Ty.bool (decide ((0 : Int) ≤ (b.getD k 0)))) tx ax (.tmp 45) := d0 rfl
       refine run_guard (T := (Ty.nat k)) okx rfl rfl (by decide) e2 (fun hg => ?_)
       have hp := of_decide_eq_true hg
       exact y_move (kp (sm 8 rfl) hs q62)
     · intro ax tx hs okx sm d0 d1 d2
       have e4 : At (Ty.grd ((decide ((0 : Int) ≤ (b.getD k 0))) = true) (Ty.int ((((List.length r) : Nat) : Int) - (((List.length b) : Nat) : Int)))) tx ax (.tmp 47) := d0 rfl
       have e5 : At (Ty.grd ((decide ((0 : Int) ≤ (b.getD k 0))) = true) (Ty.nat k)) tx ax (.tmp 48) := d1 rfl
       have e2 : At (Ty.bool (decide ((0 : Int) ≤ (b.getD k 0)))) tx ax (.tmp 45) := d2 rfl
       refine run_guard (T := (Ty.int (((((List.length r) : Nat) : Int) - (((List.length b) : Nat) : Int)) + ((k : Nat) : Int)))) okx rfl rfl (by decide) e2 (fun hg => ?_)
       have hp := of_decide_eq_true hg
       exact y_add (e4.1 hg) (e5.1 hg) (w64 (by omega) (by omega))
     · intro ax tx hs okx sm d0 d1 d2
       have e3 : At (Ty.grd ((decide ((0 : Int) ≤ (b.getD k 0))) = true) (Ty.lst Ty.int r)) tx ax (.tmp 46) := d0 rfl
       have e6 : At (Ty.grd ((decide ((0 : Int) ≤ (b.getD k 0))) = true) (Ty.int (((((List.length r) : Nat) : Int) - (((List.length b) : Nat) : Int)) + ((k : Nat) : Int)))) tx ax (.tmp 49) := d1 rfl
       have e2 : At (Ty.bool (decide ((0 : Int) ≤ (b.getD k 0)))) tx ax (.tmp 45) := d2 rfl
       refine run_guard (T := (Ty.ref [(Ty.int (r.getD ((((((List.length r) : Nat) : Int) - (((List.length b) : Nat) : Int)) + ((k : Nat) : Int))).toNat 0))])) okx rfl rfl (by decide) e2 (fun hg => ?_)
       have hp := of_decide_eq_true hg
       exact y_index1 Try.underlying34 Try.inf3 (e3.1 hg) (e6.1 hg) (by omega) (lst_get Ty.int r 0 ((((((List.length r) : Nat) : Int) - (((List.length b) : Nat) : Int)) + ((k : Nat) : Int))).toNat (by omega))
     · intro ax tx hs okx sm d0 d1
       have e7 : At (Ty.grd ((decide ((0 : Int) ≤ (b.getD k 0))) = true) (Ty.ref [(Ty.int (r.getD ((((((List.length r) : Nat) : Int) - (((List.length b) : Nat) : Int)) + ((k : Nat) : Int))).toNat 0))])) tx ax (.tmp 50) := d0 rfl
       have e2 : At (Ty.bool (decide ((0 : Int) ≤ (b.getD k 0)))) tx ax (.tmp 45) := d1 rfl
       refine run_guard (T := (Ty.int (r.getD ((((((List.length r) : Nat) : Int) - (((List.length b) : Nat) : Int)) + ((k : Nat) : Int))).toNat 0))) okx rfl rfl (by decide) e2 (fun hg => ?_)
       have hp := of_decide_eq_true hg
       exact y_load Try.underlying3 rfl (e7.1 hg) rfl
     · intro ax tx hs okx sm d0
       have e2 : At (Ty.bool (decide ((0 : Int) ≤ (b.getD k 0)))) tx ax (.tmp 45) := d0 rfl
       refine run_guard (T := (Ty.int (b.getD k 0))) okx rfl rfl (by decide) e2 (fun hg => ?_)
       have hp := of_decide_eq_true hg
       exact y_move (kp (sm 9 rfl) hs q63)
     · intro ax tx hs okx sm d0 d1 d2
       have e8 : At (Ty.grd ((decide ((0 : Int) ≤ (b.getD k 0))) = true) (Ty.int (r.getD ((((((List.length r) : Nat) : Int) - (((List.length b) : Nat) : Int)) + ((k : Nat) : Int))).toNat 0))) tx ax (.tmp 51) := d0 rfl
       have e9 : At (Ty.grd ((decide ((0 : Int) ≤ (b.getD k 0))) = true) (Ty.int (b.getD k 0))) tx ax (.tmp 52) := d1 rfl
       have e2 : At (Ty.bool (decide ((0 : Int) ≤ (b.getD k 0)))) tx ax (.tmp 45) := d2 rfl
       refine run_guard (T := (Ty.bool (decide ((r.getD ((((((List.length r) : Nat) : Int) - (((List.length b) : Nat) : Int)) + ((k : Nat) : Int))).toNat 0) ≠ (b.getD k 0))))) okx rfl rfl (by decide) e2 (fun hg => ?_)
       have hp := of_decide_eq_true hg
       exact y_neq (e8.1 hg) (e9.1 hg)
     · intro ax tx hs okx sm d0 d1
       have e2 : At (Ty.bool (decide ((0 : Int) ≤ (b.getD k 0)))) tx ax (.tmp 45) := d0 rfl
       have e10 : At (Ty.grd ((decide ((0 : Int) ≤ (b.getD k 0))) = true) (Ty.bool (decide ((r.getD ((((((List.length r) : Nat) : Int) - (((List.length b) : Nat) : Int)) + ((k : Nat) : Int))).toNat 0) ≠ (b.getD k 0))))) tx ax (.tmp 53) := d1 rfl
       exact run_plain rfl (y_pick_and e2 e10 rfl)
     intro a16 s12 D12
     have ok14 := D12.ok
     have F14 := F13.step0 D12.stp
     have q64 : At (Ty.nat k) s12 a16 (.tmp 38) := D12.kt q57 rfl
     have q65 : At (Ty.lst Ty.int r) s12 a16 (.tmp 1) := D12.kt q58 rfl
     have q66 : At (Ty.int ((((List.length r) : Nat) : Int) - (((List.length b) : Nat) : Int))) s12 a16 (.tmp 7) := D12.kt q59 rfl
     have q67 : At (Ty.lst Ty.int b) s12 a16 (.tmp 36) := D12.kt q60 rfl
     have q68 : At (Ty.nat (List.length b)) s12 a16 (.tmp 37) := D12.kt q61 rfl
     have q69 : At (Ty.bool ((decide ((0 : Int) ≤ (b.getD k 0))) && (decide ((r.getD ((((((List.length r) : Nat) : Int) - (((List.length b) : Nat) : Int)) + ((k : Nat) : Int))).toNat 0) ≠ (b.getD k 0))))) s12 a16 (.tmp 54) := D12.done 11
     clear D12
     refine tn ?_
     refine cond_t q69 (fun c4 => ?_) (fun c4 => ?_)
     ·
      obtain ⟨d3, d4⟩ := Bool.and_eq_true_iff.mp c4
      replace d3 := of_decide_eq_true d3
      replace d4 := of_decide_eq_true d4
      simp only [Bool.and_eq_true, decide_eq_true_eq] at c4; rw [hix] at c4
      refine wp_seq ?_
      refine reg (a := a16) (σ := s12) rfl (fun i_ => List.getD [(Ty.pr (Ty.bool false))] i_ Pr.any) ok14 rfl ⟨?_, trivial⟩ ?_
      · intro ax tx hs okx sm
        exact run_plain rfl (y_assign rfl)
      intro a17 s13 D13
      have ok15 := D13.ok
      have F15 := F14.step0 D13.stp
      have q70 : At (Ty.bool false) s13 a17 (.tmp 4) := D13.done 0
      clear D13
      refine tn ?_
      refine wp_ret ?_
      refine br ?_
      refine tr ?_
      refine tr ?_
      refine br ?_
      refine tr ?_
      exact retL1 rfl ok15 F15 (cvb (by (exact (like_no2 (i := k) (by omega) (by omega) (by omega)).symm)) q70)
     ·
      simp only [Bool.and_eq_false_iff, decide_eq_false_iff_not] at c4
      refine wp_skip ?_
      refine bn ?_
      refine tn ?_
      refine reg (a := a16) (σ := s12) rfl (fun i_ => List.getD [(Ty.pr (Ty.nat (k + 1))), (Ty.pr (Ty.nat (k + 1)))] i_ Pr.any) ok14 rfl ⟨?_, ?_, trivial⟩ ?_
      · intro ax tx hs okx sm
        exact run_plain rfl ((y_add (kp (sm 38 rfl) hs q64) rfl (w64 (by omega) (by omega))).mono (fun τ _ h => cvi (σ := τ) (by first | omega | exact (Int.natCast_mul _ _).symm) h))
      · intro ax tx hs okx sm d0
        have e0 : At (Ty.nat (k + 1)) tx ax (.tmp 55) := d0 rfl
        exact run_plain rfl (y_move e0)
      intro a18 s14 D14
      have ok16 := D14.ok
      have F16 := F14.step0 D14.stp
      have q71 : At (Ty.lst Ty.int r) s14 a18 (.tmp 1) := D14.kt q65 rfl
      have q72 : At (Ty.int ((((List.length r) : Nat) : Int) - (((List.length b) : Nat) : Int))) s14 a18 (.tmp 7) := D14.kt q66 rfl
      have q73 : At (Ty.lst Ty.int b) s14 a18 (.tmp 36) := D14.kt q67 rfl
      have q74 : At (Ty.nat (List.length b)) s14 a18 (.tmp 37) := D14.kt q68 rfl
      have q75 : At (Ty.nat (k + 1)) s14 a18 (.tmp 38) := D14.done 1
      clear D14
      exact tn ⟨b.length - ((k+1)), by omega, s14, (k+1), rfl, F16, ok16, (cvi (by (first | rfl | omega | (simp_all; done) | (simp_all; omega))) q75), q71, q72, q73, q74, by omega, all_next hq2 (by rw [hix] at c4; omega), rfl⟩
    ·
     have hke : k = b.length := (by omega)
     refine wp_exit ?_
     refine tx ?_
     refine tx ?_
     refine bx ?_
     refine tn ?_
     refine wp_seq ?_
     refine reg (a := a14) (σ := s10) rfl (fun i_ => List.getD [(Ty.pr (Ty.bool true))] i_ Pr.any) ok12 rfl ⟨?_, trivial⟩ ?_
     · intro ax tx hs okx sm
       exact run_plain rfl (y_assign rfl)
     intro a19 s15 D15
     have ok17 := D15.ok
     have F17 := F12.step0 D15.stp
     have q76 : At (Ty.bool true) s15 a19 (.tmp 4) := D15.done 0
     clear D15
     refine tn ?_
     refine wp_ret ?_
     exact retL1 rfl ok17 F17 (cvb (by (exact (like_yes (fun j hj => hq j (by omega)) (fun j hj => hq2 j (by omega))).symm)) q76)

theorem Try.inf9 : Info Try.prog 9 (.string ByteArray.empty) 1 16 := by unfold Info; kernel_rfl
set_option maxHeartbeats 4000000 in
set_option maxRecDepth 100000 in
theorem mucount_fn (n : Int) (ts : List ByteArray) (rows : List (List Int)) (σ : GW)  (v0 v1 v2 : Value) (hv0 : Ty.has (Ty.int n) σ v0) (hv1 : Ty.has (Ty.lst Ty.str ts) σ v1) (hv2 : Ty.has (Ty.lst Ty.ints rows) σ v2)  (hn64 : -9223372036854775808 ≤ n ∧ n ≤ 9223372036854775807) (hts : ∀ t ∈ ts, t.size ≤ 17592186044416) :
    FnC Try.prog 30 #[v0, v1, v2] σ (Ty.tup2 (Ty.lst Ty.int (if musMay n ts rows = 0 then musL ts rows else [])) (Ty.int (musMay n ts rows))) := by
 refine fn_intro0 Try.func30 rfl Try.ntmps30 (Nat.le_of_ble_eq_true rfl) (fun s0 a0 hle F0 ok0 hargs => ?_)
 have p0 : At (Ty.int n) s0 a0 (.tmp 0) := by have e := hargs 0 _ rfl; show Ty.has _ _ _; rw [e]; exact Ty.up _ hle hv0
 have p1 : At (Ty.lst Ty.str ts) s0 a0 (.tmp 1) := by have e := hargs 1 _ rfl; show Ty.has _ _ _; rw [e]; exact Ty.up _ hle hv1
 have b1 := sl_le p1
 have p2 : At (Ty.lst Ty.ints rows) s0 a0 (.tmp 2) := by have e := hargs 2 _ rfl; show Ty.has _ _ _; rw [e]; exact Ty.up _ hle hv2
 have b2 := sl_le p2
 clear hargs
 refine wp_seq ?_
 refine reg (a := a0) (σ := s0) rfl (fun i_ => List.getD [(Ty.pr (Ty.val (Value.slice none 0 0))), (Ty.pr (Ty.int (0 : Int)))] i_ Pr.any) ok0 rfl ⟨?_, ?_, trivial⟩ ?_
 · intro ax tx hs okx sm
   exact run_plain rfl (y_assign rfl)
 · intro ax tx hs okx sm d0
   have e0 : At (Ty.val (Value.slice none 0 0)) tx ax (.tmp 6) := d0 rfl
   exact run_plain rfl (y_assign rfl)
 intro a1 s1 D1
 have ok1 := D1.ok
 have F1 := F0.step0 D1.stp
 have q1 : At (Ty.int n) s1 a1 (.tmp 0) := D1.kt p0 rfl
 have q2 : At (Ty.lst Ty.str ts) s1 a1 (.tmp 1) := D1.kt p1 rfl
 have q3 : At (Ty.lst Ty.ints rows) s1 a1 (.tmp 2) := D1.kt p2 rfl
 clear D1
 refine tn ?_
 refine wp_seq ?_
 refine wp_seq ?_
 refine reg (a := a1) (σ := s1) rfl (fun i_ => List.getD [(Ty.pr (Ty.lst Ty.str ts)), (Ty.pr (Ty.nat (List.length ts))), (Ty.pr (Ty.bool (decide ((50 : Int) < (((List.length ts) : Nat) : Int))))), (Ty.pr (Ty.bool (decide ((50 : Int) < (((List.length ts) : Nat) : Int))))), (Ty.pr (Ty.grd ((decide ((50 : Int) < (((List.length ts) : Nat) : Int))) = false) (Ty.lst Ty.ints rows))), (Ty.pr (Ty.grd ((decide ((50 : Int) < (((List.length ts) : Nat) : Int))) = false) (Ty.nat (List.length rows)))), (Ty.pr (Ty.grd ((decide ((50 : Int) < (((List.length ts) : Nat) : Int))) = false) (Ty.bool (decide ((20001 : Int) < (((List.length rows) : Nat) : Int)))))), (Ty.pr (Ty.bool ((decide ((50 : Int) < (((List.length ts) : Nat) : Int))) || (decide ((20001 : Int) < (((List.length rows) : Nat) : Int))))))] i_ Pr.any) ok1 rfl ⟨?_, ?_, ?_, ?_, ?_, ?_, ?_, ?_, trivial⟩ ?_
 · intro ax tx hs okx sm
   exact run_plain rfl (y_move (kp (sm 1 rfl) hs q2))
 · intro ax tx hs okx sm d0
   have e0 : At (Ty.lst Ty.str ts) tx ax (.tmp 19) := d0 rfl
   exact run_plain rfl (y_len Try.underlying55 e0)
 · intro ax tx hs okx sm d0
   have e1 : At (Ty.nat (List.length ts)) tx ax (.tmp 20) := d0 rfl
   exact run_plain rfl (y_gtr e1 rfl)
 · intro ax tx hs okx sm d0
   have e2 : At (Ty.bool (decide ((50 : Int) < (((List.length ts) : Nat) : Int)))) tx ax (.tmp 21) := d0 rfl
   exact run_plain rfl (y_move e2)
 · intro ax tx hs okx sm d0
   have e3 : At (Ty.bool (decide ((50 : Int) < (((List.length ts) : Nat) : Int)))) tx ax (.tmp 22) := d0 rfl
   refine run_guard (T := (Ty.lst Ty.ints rows)) okx rfl rfl (by decide) e3 (fun hg => ?_)
   have hp := of_decide_eq_false hg
   exact y_move (kp (sm 2 rfl) hs q3)
 · intro ax tx hs okx sm d0 d1
   have e4 : At (Ty.grd ((decide ((50 : Int) < (((List.length ts) : Nat) : Int))) = false) (Ty.lst Ty.ints rows)) tx ax (.tmp 23) := d0 rfl
   have e3 : At (Ty.bool (decide ((50 : Int) < (((List.length ts) : Nat) : Int)))) tx ax (.tmp 22) := d1 rfl
   refine run_guard (T := (Ty.nat (List.length rows))) okx rfl rfl (by decide) e3 (fun hg => ?_)
   have hp := of_decide_eq_false hg
   exact y_len Try.underlying33 (e4.1 hg)
 · intro ax tx hs okx sm d0 d1
   have e5 : At (Ty.grd ((decide ((50 : Int) < (((List.length ts) : Nat) : Int))) = false) (Ty.nat (List.length rows))) tx ax (.tmp 24) := d0 rfl
   have e3 : At (Ty.bool (decide ((50 : Int) < (((List.length ts) : Nat) : Int)))) tx ax (.tmp 22) := d1 rfl
   refine run_guard (T := (Ty.bool (decide ((20001 : Int) < (((List.length rows) : Nat) : Int))))) okx rfl rfl (by decide) e3 (fun hg => ?_)
   have hp := of_decide_eq_false hg
   exact y_gtr (e5.1 hg) rfl
 · intro ax tx hs okx sm d0 d1
   have e3 : At (Ty.bool (decide ((50 : Int) < (((List.length ts) : Nat) : Int)))) tx ax (.tmp 22) := d0 rfl
   have e6 : At (Ty.grd ((decide ((50 : Int) < (((List.length ts) : Nat) : Int))) = false) (Ty.bool (decide ((20001 : Int) < (((List.length rows) : Nat) : Int))))) tx ax (.tmp 25) := d1 rfl
   exact run_plain rfl (y_pick_or e3 rfl e6)
 intro a2 s2 D2
 have ok2 := D2.ok
 have F2 := F1.step0 D2.stp
 have q4 : At (Ty.int n) s2 a2 (.tmp 0) := D2.kt q1 rfl
 have q5 : At (Ty.lst Ty.str ts) s2 a2 (.tmp 1) := D2.kt q2 rfl
 have q6 : At (Ty.lst Ty.ints rows) s2 a2 (.tmp 2) := D2.kt q3 rfl
 have q7 : At (Ty.bool ((decide ((50 : Int) < (((List.length ts) : Nat) : Int))) || (decide ((20001 : Int) < (((List.length rows) : Nat) : Int))))) s2 a2 (.tmp 26) := D2.done 7
 clear D2
 refine tn ?_
 refine cond_t q7 (fun c1 => ?_) (fun c1 => ?_)
 ·
  simp only [Bool.or_eq_true, decide_eq_true_eq] at c1; have hm := mus_lim (n := n) (ts := ts) (rows := rows) (by omega)
  refine wp_seq ?_
  refine reg (a := a2) (σ := s2) rfl (fun i_ => List.getD [(Ty.pr (Ty.val (Value.slice none 0 0))), (Ty.pr (Ty.int (3 : Int)))] i_ Pr.any) ok2 rfl ⟨?_, ?_, trivial⟩ ?_
  · intro ax tx hs okx sm
    exact run_plain rfl (y_assign rfl)
  · intro ax tx hs okx sm d0 d1
    have e0 : At (Ty.val (Value.slice none 0 0)) tx ax (.tmp 6) := d0 rfl
    exact run_plain rfl (y_assign rfl)
  intro a3 s3 D3
  have ok3 := D3.ok
  have F3 := F2.step0 D3.stp
  have q8 : At (Ty.val (Value.slice none 0 0)) s3 a3 (.tmp 6) := D3.done 0
  have q9 : At (Ty.int (3 : Int)) s3 a3 (.tmp 7) := D3.done 1
  clear D3
  refine tn ?_
  refine wp_ret ?_
  refine tr ?_
  exact retL2 rfl ok3 F3 (hasT2 (nil_lst (by (rw [if_neg (by rw [hm]; decide)])) q8) (cvi (by (exact hm.symm)) q9))
 ·
  obtain ⟨d1, d2⟩ := Bool.or_eq_false_iff.mp c1
  replace d1 := of_decide_eq_false d1
  replace d2 := of_decide_eq_false d2
  simp only [Bool.or_eq_false_iff, decide_eq_false_iff_not] at c1; have hlim : ¬ (50 < ts.length ∨ 20001 < rows.length) := (by omega)
  refine wp_skip ?_
  refine tn ?_
  refine wp_seq ?_
  refine reg (a := a2) (σ := s2) rfl (fun i_ => List.getD [(Ty.pr (Ty.val (Value.slice none 0 0)))] i_ Pr.any) ok2 rfl ⟨?_, trivial⟩ ?_
  · intro ax tx hs okx sm
    exact run_plain rfl (y_assign rfl)
  intro a4 s4 D4
  have ok4 := D4.ok
  have F4 := F2.step0 D4.stp
  have q10 : At (Ty.int n) s4 a4 (.tmp 0) := D4.kt q4 rfl
  have q11 : At (Ty.lst Ty.str ts) s4 a4 (.tmp 1) := D4.kt q5 rfl
  have q12 : At (Ty.lst Ty.ints rows) s4 a4 (.tmp 2) := D4.kt q6 rfl
  have q13 : At (Ty.val (Value.slice none 0 0)) s4 a4 (.tmp 8) := D4.done 0
  clear D4
  refine tn ?_
  refine wp_seq ?_
  refine wp_seq ?_
  refine reg (a := a4) (σ := s4) rfl (fun i_ => List.getD [(Ty.pr (Ty.lst Ty.str ts)), (Ty.pr (Ty.nat (List.length ts))), (Ty.pr (Ty.int (0 : Int)))] i_ Pr.any) ok4 rfl ⟨?_, ?_, ?_, trivial⟩ ?_
  · intro ax tx hs okx sm
    exact run_plain rfl (y_move (kp (sm 1 rfl) hs q11))
  · intro ax tx hs okx sm d0
    have e0 : At (Ty.lst Ty.str ts) tx ax (.tmp 27) := d0 rfl
    exact run_plain rfl (y_len Try.underlying55 e0)
  · intro ax tx hs okx sm
    exact run_plain rfl (y_move rfl)
  intro a5 s5 D5
  have ok5 := D5.ok
  have F5 := F4.step0 D5.stp
  have q14 : At (Ty.int n) s5 a5 (.tmp 0) := D5.kt q10 rfl
  have q15 : At (Ty.lst Ty.ints rows) s5 a5 (.tmp 2) := D5.kt q12 rfl
  have q16 : At (Ty.val (Value.slice none 0 0)) s5 a5 (.tmp 8) := D5.kt q13 rfl
  have q17 : At (Ty.lst Ty.str ts) s5 a5 (.tmp 27) := D5.done 0
  have q18 : At (Ty.nat (List.length ts)) s5 a5 (.tmp 28) := D5.done 1
  have q19 : At (Ty.int (0 : Int)) s5 a5 (.tmp 29) := D5.done 2
  clear D5
  refine tn ?_
  refine wp_block ?_
  have o1 : Own s5 6 148 3 (Value.slice none 0 0) 0 (List.flatMap patC ([] : List (List Int × List Int × Bool))) := Own.nil _ _ _ _
  refine loop (fun n1 a6 w1 => ∃ (t1 : GW) (i : Nat) (ps : List (List Int × List Int × Bool)) (x8_0 : Value), t1.w = w1 ∧ FromL [] s0 t1 ∧ Ok 84 a6 ∧ At (Ty.nat i) t1 a6 (.tmp 29) ∧ At (Ty.val x8_0) t1 a6 (.tmp 8) ∧ At (Ty.int n) t1 a6 (.tmp 0) ∧ At (Ty.lst Ty.ints rows) t1 a6 (.tmp 2) ∧ At (Ty.lst Ty.str ts) t1 a6 (.tmp 27) ∧ At (Ty.nat (List.length ts)) t1 a6 (.tmp 28) ∧ Own t1 6 148 3 x8_0 (List.length ps) (List.flatMap patC ps) ∧ (i ≤ ts.length) ∧ (texMay n (ts.drop i) = texMay n ts) ∧ (PatsOk ts ps) ∧ (ps.length = i) ∧ n1 = ts.length - i) (ts.length - (0)) ?_ ?_
  ·
   exact ⟨s5, 0, ([] : List (List Int × List Int × Bool)), (Value.slice none 0 0), rfl, F5, ok5, (cvi (by (first | rfl | omega | (simp_all; done) | (simp_all; omega))) q19), q16, q14, q15, q17, q18, (cvo (by (simp)) (by (simp)) o1), by omega, rfl, pats_nil ts, rfl, rfl⟩
  ·
   rintro n2 a7 w2 ⟨t2, i, ps, x8_0, rfl, F6, ok6, q20, q21, q22, q23, q24, q25, o2, hi, ht, hps, hpl, rfl⟩
   refine wp_seq ?_
   refine reg (a := a7) (σ := t2) rfl (fun i_ => List.getD [(Ty.pr (Ty.bool (decide (((i : Nat) : Int) < (((List.length ts) : Nat) : Int)))))] i_ Pr.any) ok6 rfl ⟨?_, trivial⟩ ?_
   · intro ax tx hs okx sm
     exact run_plain rfl (y_lss (kp (sm 29 rfl) hs q20) (kp (sm 28 rfl) hs q25))
   intro a8 s6 D6
   have ok7 := D6.ok
   have F7 := F6.step0 D6.stp
   have q26 : At (Ty.nat i) s6 a8 (.tmp 29) := D6.kt q20 rfl
   have q27 : At (Ty.val x8_0) s6 a8 (.tmp 8) := D6.kt q21 rfl
   have q28 : At (Ty.int n) s6 a8 (.tmp 0) := D6.kt q22 rfl
   have q29 : At (Ty.lst Ty.ints rows) s6 a8 (.tmp 2) := D6.kt q23 rfl
   have q30 : At (Ty.lst Ty.str ts) s6 a8 (.tmp 27) := D6.kt q24 rfl
   have q31 : At (Ty.nat (List.length ts)) s6 a8 (.tmp 28) := D6.kt q25 rfl
   have o3 := Own.k0 o2 D6.stp
   have q32 : At (Ty.bool (decide (((i : Nat) : Int) < (((List.length ts) : Nat) : Int)))) s6 a8 (.tmp 30) := D6.done 0
   clear D6
   refine tn ?_
   refine wp_seq ?_
   refine cond_p (p := (((i : Nat) : Int) < (((List.length ts) : Nat) : Int))) q32 (fun c2 => ?_) (fun c2 => ?_)
   ·
    have htz := hts _ (mem_getD ByteArray.empty (show i < ts.length by omega)); rw [drop_cons ts ByteArray.empty (show i < ts.length by omega)] at ht
    refine wp_skip ?_
    refine tn ?_
    refine wp_seq ?_
    refine wp_block ?_
    refine wp_seq ?_
    refine reg (a := a8) (σ := s6) rfl (fun i_ => List.getD [(Ty.pr (Ty.ref [(Ty.val (Value.string (ts.getD i ByteArray.empty)))])), (Ty.pr (Ty.val (Value.string (ts.getD i ByteArray.empty)))), (Ty.pr (Ty.val (Value.string (ts.getD i ByteArray.empty))))] i_ Pr.any) ok7 rfl ⟨?_, ?_, ?_, trivial⟩ ?_
    · intro ax tx hs okx sm
      exact run_plain rfl (y_index1 Try.underlying55 Try.inf9 (kp (sm 27 rfl) hs q30) (kp (sm 29 rfl) hs q26) (by omega) (lst_get Ty.str ts ByteArray.empty i (by omega)))
    · intro ax tx hs okx sm d0
      have e0 : At (Ty.ref [(Ty.val (Value.string (ts.getD i ByteArray.empty)))]) tx ax (.tmp 31) := d0 rfl
      exact run_plain rfl (y_load Try.underlying9 rfl e0 rfl)
    · intro ax tx hs okx sm d0 d1 d2
      have e1 : At (Ty.val (Value.string (ts.getD i ByteArray.empty))) tx ax (.tmp 32) := d0 rfl
      have e0 : At (Ty.ref [(Ty.val (Value.string (ts.getD i ByteArray.empty)))]) tx ax (.tmp 31) := d1 rfl
      exact run_plain rfl (y_assign e1)
    intro a9 s7 D7
    have ok8 := D7.ok
    have F8 := F7.step0 D7.stp
    have q33 : At (Ty.nat i) s7 a9 (.tmp 29) := D7.kt q26 rfl
    have q34 : At (Ty.val x8_0) s7 a9 (.tmp 8) := D7.kt q27 rfl
    have q35 : At (Ty.int n) s7 a9 (.tmp 0) := D7.kt q28 rfl
    have q36 : At (Ty.lst Ty.ints rows) s7 a9 (.tmp 2) := D7.kt q29 rfl
    have q37 : At (Ty.lst Ty.str ts) s7 a9 (.tmp 27) := D7.kt q30 rfl
    have q38 : At (Ty.nat (List.length ts)) s7 a9 (.tmp 28) := D7.kt q31 rfl
    have o4 := Own.k0 o3 D7.stp
    have q39 : At (Ty.val (Value.string (ts.getD i ByteArray.empty))) s7 a9 (.tmp 10) := D7.done 2
    clear D7
    refine tn ?_
    refine wp_seq ?_
    refine reg2 (a := a9) (σ := s7) rfl 2 (fun i_ => List.getD [(Ty.pr (Ty.int n)), (Ty.pr (Ty.val (Value.string (ts.getD i ByteArray.empty))))] i_ Pr.any) ok8 rfl (by decide) rfl ⟨?_, ?_, trivial⟩ ?_
    · intro ax tx hs okx sm
      exact run_plain rfl (y_move (kp (sm 0 rfl) hs q35))
    · intro ax tx hs okx sm
      exact run_plain rfl (y_move (kp (sm 10 rfl) hs q39))
    intro a10 s8 D8
    have ok9 := D8.ok
    have F9 := F8.step0 D8.stp
    have q40 : At (Ty.nat i) s8 a10 (.tmp 29) := D8.kt q33 rfl
    have q41 : At (Ty.val x8_0) s8 a10 (.tmp 8) := D8.kt q34 rfl
    have q42 : At (Ty.int n) s8 a10 (.tmp 0) := D8.kt q35 rfl
    have q43 : At (Ty.lst Ty.ints rows) s8 a10 (.tmp 2) := D8.kt q36 rfl
    have q44 : At (Ty.lst Ty.str ts) s8 a10 (.tmp 27) := D8.kt q37 rfl
    have q45 : At (Ty.nat (List.length ts)) s8 a10 (.tmp 28) := D8.kt q38 rfl
    have o5 := Own.k0 o4 D8.stp
    have q46 : At (Ty.int n) s8 a10 (.tmp 34) := D8.done 0 (by decide)
    have q47 : At (Ty.val (Value.string (ts.getD i ByteArray.empty))) s8 a10 (.tmp 35) := D8.done 1 (by decide)
    clear D8
    refine tailL (L := []) (R := (fun v τ' => ∃ τ, (fun v τ => ∃ (fr : List Int), ∃ (bk : List Int), ∃ (st : Bool), (Ty.has (Ty.tup2 (Ty.agg [(Ty.lst Ty.int fr), (Ty.lst Ty.int bk), (Ty.bool st)]) (Ty.int (patMay n (runsL ((ts.getD i ByteArray.empty)))))) τ v) ∧ (patMay n (runsL ((ts.getD i ByteArray.empty))) = 0 → fr = List.map bellQ (frR (runsL ((ts.getD i ByteArray.empty)))) ∧ bk = List.map bellQ (bkR (runsL ((ts.getD i ByteArray.empty)))))) v τ ∧ Back [] τ τ')) rfl rfl (by decide) ok9 (y_callL (L := []) [] [] #[a10.eval (.tmp 34), a10.eval (.tmp 35)] rfl (by decide) Try.func88 rfl rfl (by simp only [List.map_toArray, List.map_cons, List.map_nil]) (mread_fn (n) ((ts.getD i ByteArray.empty)) _ (GW.low_lend _ (by decide)) _ _ (Ty.up _ (GW.le_lend _ _) q46) (Ty.up _ (GW.le_lend _ _) q47)  (by omega) (by omega))) (fun a11 s9 hs1 ok10 r1 sm1 => ?_)
    have F10 := F9.stepL hs1 (by decide)
    have q48 : At (Ty.nat i) s9 a11 (.tmp 29) := kpL hs1 (by decide) (sm1 29 (by decide)) q40
    have q49 : At (Ty.val x8_0) s9 a11 (.tmp 8) := kpL hs1 (by decide) (sm1 8 (by decide)) q41
    have q50 : At (Ty.int n) s9 a11 (.tmp 0) := kpL hs1 (by decide) (sm1 0 (by decide)) q42
    have q51 : At (Ty.lst Ty.ints rows) s9 a11 (.tmp 2) := kpL hs1 (by decide) (sm1 2 (by decide)) q43
    have q52 : At (Ty.lst Ty.str ts) s9 a11 (.tmp 27) := kpL hs1 (by decide) (sm1 27 (by decide)) q44
    have q53 : At (Ty.nat (List.length ts)) s9 a11 (.tmp 28) := kpL hs1 (by decide) (sm1 28 (by decide)) q45
    have o6 := Own.keepL o5 hs1 (by decide) (by decide)
    obtain ⟨t3, ⟨g1, g2, g3, hT1, hp1⟩, B1⟩ := r1
    have q54 : At (Ty.tup2 (Ty.agg [(Ty.lst Ty.int (g1)), (Ty.lst Ty.int (g2)), (Ty.bool (g3))]) (Ty.int (patMay n (runsL ((ts.getD i ByteArray.empty)))))) s9 a11 (.tmp 36) := Ty.up _ B1.le hT1
    refine tailL (L := []) (R := (fun v τ => Pr.has (Ty.pr (Ty.tup2 (Ty.agg [(Ty.lst Ty.int (g1)), (Ty.lst Ty.int (g2)), (Ty.bool (g3))]) (Ty.int (patMay n (runsL ((ts.getD i ByteArray.empty))))))) τ v)) rfl rfl (by decide) ok10 (Yld.toL (y_move q54)) (fun a12 s10 hs2 ok11 r2 sm2 => ?_)
    have F11 := F10.stepL hs2 (by decide)
    have q55 : At (Ty.nat i) s10 a12 (.tmp 29) := kpL hs2 (by decide) (sm2 29 (by decide)) q48
    have q56 : At (Ty.val x8_0) s10 a12 (.tmp 8) := kpL hs2 (by decide) (sm2 8 (by decide)) q49
    have q57 : At (Ty.int n) s10 a12 (.tmp 0) := kpL hs2 (by decide) (sm2 0 (by decide)) q50
    have q58 : At (Ty.lst Ty.ints rows) s10 a12 (.tmp 2) := kpL hs2 (by decide) (sm2 2 (by decide)) q51
    have q59 : At (Ty.lst Ty.str ts) s10 a12 (.tmp 27) := kpL hs2 (by decide) (sm2 27 (by decide)) q52
    have q60 : At (Ty.nat (List.length ts)) s10 a12 (.tmp 28) := kpL hs2 (by decide) (sm2 28 (by decide)) q53
    have o7 := Own.keepL o6 hs2 (by decide) (by decide)
    have q61 : At (Ty.tup2 (Ty.agg [(Ty.lst Ty.int (g1)), (Ty.lst Ty.int (g2)), (Ty.bool (g3))]) (Ty.int (patMay n (runsL ((ts.getD i ByteArray.empty)))))) s10 a12 (.tmp 33) := r2
    clear r2
    refine tailL (L := []) (R := (fun v τ => Pr.has (Ty.pr (Ty.agg [(Ty.lst Ty.int (g1)), (Ty.lst Ty.int (g2)), (Ty.bool (g3))])) τ v)) rfl rfl (by decide) ok11 (Yld.toL (y_ext2_0 q61)) (fun a13 s11 hs3 ok12 r3 sm3 => ?_)
    have F12 := F11.stepL hs3 (by decide)
    have q62 : At (Ty.nat i) s11 a13 (.tmp 29) := kpL hs3 (by decide) (sm3 29 (by decide)) q55
    have q63 : At (Ty.val x8_0) s11 a13 (.tmp 8) := kpL hs3 (by decide) (sm3 8 (by decide)) q56
    have q64 : At (Ty.int n) s11 a13 (.tmp 0) := kpL hs3 (by decide) (sm3 0 (by decide)) q57
    have q65 : At (Ty.lst Ty.ints rows) s11 a13 (.tmp 2) := kpL hs3 (by decide) (sm3 2 (by decide)) q58
    have q66 : At (Ty.lst Ty.str ts) s11 a13 (.tmp 27) := kpL hs3 (by decide) (sm3 27 (by decide)) q59
    have q67 : At (Ty.nat (List.length ts)) s11 a13 (.tmp 28) := kpL hs3 (by decide) (sm3 28 (by decide)) q60
    have q68 : At (Ty.tup2 (Ty.agg [(Ty.lst Ty.int (g1)), (Ty.lst Ty.int (g2)), (Ty.bool (g3))]) (Ty.int (patMay n (runsL ((ts.getD i ByteArray.empty)))))) s11 a13 (.tmp 33) := kpL hs3 (by decide) (sm3 33 (by decide)) q61
    have o8 := Own.keepL o7 hs3 (by decide) (by decide)
    have q69 : At (Ty.agg [(Ty.lst Ty.int (g1)), (Ty.lst Ty.int (g2)), (Ty.bool (g3))]) s11 a13 (.tmp 37) := r3
    clear r3
    refine tailL (L := []) (R := (fun v τ => Pr.has (Ty.pr (Ty.int (patMay n (runsL ((ts.getD i ByteArray.empty)))))) τ v)) rfl rfl (by decide) ok12 (Yld.toL (y_ext2_1 q68)) (fun a14 s12 hs4 ok13 r4 sm4 => ?_)
    have F13 := F12.stepL hs4 (by decide)
    have q70 : At (Ty.nat i) s12 a14 (.tmp 29) := kpL hs4 (by decide) (sm4 29 (by decide)) q62
    have q71 : At (Ty.val x8_0) s12 a14 (.tmp 8) := kpL hs4 (by decide) (sm4 8 (by decide)) q63
    have q72 : At (Ty.int n) s12 a14 (.tmp 0) := kpL hs4 (by decide) (sm4 0 (by decide)) q64
    have q73 : At (Ty.lst Ty.ints rows) s12 a14 (.tmp 2) := kpL hs4 (by decide) (sm4 2 (by decide)) q65
    have q74 : At (Ty.lst Ty.str ts) s12 a14 (.tmp 27) := kpL hs4 (by decide) (sm4 27 (by decide)) q66
    have q75 : At (Ty.nat (List.length ts)) s12 a14 (.tmp 28) := kpL hs4 (by decide) (sm4 28 (by decide)) q67
    have q76 : At (Ty.agg [(Ty.lst Ty.int (g1)), (Ty.lst Ty.int (g2)), (Ty.bool (g3))]) s12 a14 (.tmp 37) := kpL hs4 (by decide) (sm4 37 (by decide)) q69
    have o9 := Own.keepL o8 hs4 (by decide) (by decide)
    have q77 : At (Ty.int (patMay n (runsL ((ts.getD i ByteArray.empty))))) s12 a14 (.tmp 38) := r4
    clear r4
    refine tailL (L := []) (R := (fun v τ => Pr.has (Pr.ownp 20 [(Ty.val (Value.slice none 0 0)), (Ty.val (Value.slice none 0 0)), (Ty.bool false)]) τ v)) rfl rfl (by decide) ok13 (Yld.toL (y_alloc Try.inf148 rfl (alloc_vals (vs := [.slice none 0 0, .slice none 0 0, .bool false]) rfl))) (fun a15 s13 hs5 ok14 r5 sm5 => ?_)
    have F14 := F13.stepL hs5 (by decide)
    have q78 : At (Ty.nat i) s13 a15 (.tmp 29) := kpL hs5 (by decide) (sm5 29 (by decide)) q70
    have q79 : At (Ty.val x8_0) s13 a15 (.tmp 8) := kpL hs5 (by decide) (sm5 8 (by decide)) q71
    have q80 : At (Ty.int n) s13 a15 (.tmp 0) := kpL hs5 (by decide) (sm5 0 (by decide)) q72
    have q81 : At (Ty.lst Ty.ints rows) s13 a15 (.tmp 2) := kpL hs5 (by decide) (sm5 2 (by decide)) q73
    have q82 : At (Ty.lst Ty.str ts) s13 a15 (.tmp 27) := kpL hs5 (by decide) (sm5 27 (by decide)) q74
    have q83 : At (Ty.nat (List.length ts)) s13 a15 (.tmp 28) := kpL hs5 (by decide) (sm5 28 (by decide)) q75
    have q84 : At (Ty.agg [(Ty.lst Ty.int (g1)), (Ty.lst Ty.int (g2)), (Ty.bool (g3))]) s13 a15 (.tmp 37) := kpL hs5 (by decide) (sm5 37 (by decide)) q76
    have q85 : At (Ty.int (patMay n (runsL ((ts.getD i ByteArray.empty))))) s13 a15 (.tmp 38) := kpL hs5 (by decide) (sm5 38 (by decide)) q77
    have o11 := Own.keepL o9 hs5 (by decide) (by decide)
    obtain ⟨x1, hx1⟩ : ∃ x, a15.eval (.tmp 11) = x := ⟨_, rfl⟩
    have q86 : At (Ty.val x1) s13 a15 (.tmp 11) := hx1
    have o10 : OwnP s13 20 x1 [(Ty.val (Value.slice none 0 0)), (Ty.val (Value.slice none 0 0)), (Ty.bool false)] := al2 (R := (Pr.ownp 20 [(Ty.val (Value.slice none 0 0)), (Ty.val (Value.slice none 0 0)), (Ty.bool false)])) hx1 r5
    clear r5
    refine tailL0 (L := [20]) (R := (fun _ τ => OwnP τ 20 x1 [(Ty.lst Ty.int (g1)), (Ty.lst Ty.int (g2)), (Ty.bool (g3))])) rfl rfl (YldM.toL (m_storeagg Try.inf148 (by decide) o10 q86 rfl q84 (by intro U hU; simp only [List.mem_cons, List.not_mem_nil, or_false] at hU; rcases hU with rfl | rfl | rfl <;> first | exact one_val rfl | exact one_sl | exact one_ref))) (fun v1 s14 hs6 r6 => ?_)
    have F15 := F14.stepL hs6 (by decide)
    have q87 : At (Ty.nat i) s14 a15 (.tmp 29) := kpL hs6 (by decide) rfl q78
    have q88 : At (Ty.val x8_0) s14 a15 (.tmp 8) := kpL hs6 (by decide) rfl q79
    have q89 : At (Ty.int n) s14 a15 (.tmp 0) := kpL hs6 (by decide) rfl q80
    have q90 : At (Ty.lst Ty.ints rows) s14 a15 (.tmp 2) := kpL hs6 (by decide) rfl q81
    have q91 : At (Ty.lst Ty.str ts) s14 a15 (.tmp 27) := kpL hs6 (by decide) rfl q82
    have q92 : At (Ty.nat (List.length ts)) s14 a15 (.tmp 28) := kpL hs6 (by decide) rfl q83
    have q93 : At (Ty.int (patMay n (runsL ((ts.getD i ByteArray.empty))))) s14 a15 (.tmp 38) := kpL hs6 (by decide) rfl q85
    have q94 : At (Ty.val x1) s14 a15 (.tmp 11) := kpL hs6 (by decide) rfl q86
    have o13 := Own.keepL o11 hs6 (by decide) (by decide)
    have o12 : OwnP s14 20 x1 [(Ty.lst Ty.int (g1)), (Ty.lst Ty.int (g2)), (Ty.bool (g3))] := r6
    clear r6
    refine tailL (L := []) (R := (fun v τ => Pr.has (Ty.pr (Ty.int (patMay n (runsL ((ts.getD i ByteArray.empty)))))) τ v)) rfl rfl (by decide) ok14 (Yld.toL (y_assign q93)) (fun a16 s15 hs7 ok15 r7 sm6 => ?_)
    have F16 := F15.stepL hs7 (by decide)
    have q96 : At (Ty.nat i) s15 a16 (.tmp 29) := kpL hs7 (by decide) (sm6 29 (by decide)) q87
    have q97 : At (Ty.val x8_0) s15 a16 (.tmp 8) := kpL hs7 (by decide) (sm6 8 (by decide)) q88
    have q98 : At (Ty.int n) s15 a16 (.tmp 0) := kpL hs7 (by decide) (sm6 0 (by decide)) q89
    have q99 : At (Ty.lst Ty.ints rows) s15 a16 (.tmp 2) := kpL hs7 (by decide) (sm6 2 (by decide)) q90
    have q100 : At (Ty.lst Ty.str ts) s15 a16 (.tmp 27) := kpL hs7 (by decide) (sm6 27 (by decide)) q91
    have q101 : At (Ty.nat (List.length ts)) s15 a16 (.tmp 28) := kpL hs7 (by decide) (sm6 28 (by decide)) q92
    have q102 : At (Ty.val x1) s15 a16 (.tmp 11) := kpL hs7 (by decide) (sm6 11 (by decide)) q94
    have o14 := Own.keepL o13 hs7 (by decide) (by decide)
    have o15 := OwnP.keepL o12 hs7 (by decide) (by decide)
    have q103 : At (Ty.int (patMay n (runsL ((ts.getD i ByteArray.empty))))) s15 a16 (.tmp 12) := r7
    clear r7
    refine wpList_nil ?_
    refine tn ?_
    refine wp_seq ?_
    refine wp_seq ?_
    refine reg (a := a16) (σ := s15) rfl (fun i_ => List.getD [(Ty.pr (Ty.int (patMay n (runsL ((ts.getD i ByteArray.empty)))))), (Ty.pr (Ty.bool (decide ((patMay n (runsL ((ts.getD i ByteArray.empty)))) ≠ (0 : Int)))))] i_ Pr.any) ok15 rfl ⟨?_, ?_, trivial⟩ ?_
    · intro ax tx hs okx sm
      exact run_plain rfl (y_move (kp (sm 12 rfl) hs q103))
    · intro ax tx hs okx sm d0
      have e0 : At (Ty.int (patMay n (runsL ((ts.getD i ByteArray.empty))))) tx ax (.tmp 39) := d0 rfl
      exact run_plain rfl (y_neq e0 rfl)
    intro a17 s16 D9
    have ok16 := D9.ok
    have F17 := F16.step0 D9.stp
    have q104 : At (Ty.nat i) s16 a17 (.tmp 29) := D9.kt q96 rfl
    have q105 : At (Ty.val x8_0) s16 a17 (.tmp 8) := D9.kt q97 rfl
    have q106 : At (Ty.int n) s16 a17 (.tmp 0) := D9.kt q98 rfl
    have q107 : At (Ty.lst Ty.ints rows) s16 a17 (.tmp 2) := D9.kt q99 rfl
    have q108 : At (Ty.lst Ty.str ts) s16 a17 (.tmp 27) := D9.kt q100 rfl
    have q109 : At (Ty.nat (List.length ts)) s16 a17 (.tmp 28) := D9.kt q101 rfl
    have q110 : At (Ty.val x1) s16 a17 (.tmp 11) := D9.kt q102 rfl
    have q111 : At (Ty.int (patMay n (runsL ((ts.getD i ByteArray.empty))))) s16 a17 (.tmp 12) := D9.kt q103 rfl
    have o16 := Own.k0 o14 D9.stp
    have o17 := OwnP.k0 o15 D9.stp
    have q112 : At (Ty.bool (decide ((patMay n (runsL ((ts.getD i ByteArray.empty)))) ≠ (0 : Int)))) s16 a17 (.tmp 40) := D9.done 1
    clear D9
    refine tn ?_
    refine cond_p (p := ((patMay n (runsL ((ts.getD i ByteArray.empty)))) ≠ (0 : Int))) q112 (fun c3 => ?_) (fun c3 => ?_)
    ·
     have he := tex_stop ht c3; have hm : musMay n ts rows = patMay n (runsL (ts.getD i ByteArray.empty)) := (by rw [mus_tex hlim (by rw [he]; exact c3), he])
     refine wp_seq ?_
     refine reg (a := a17) (σ := s16) rfl (fun i_ => List.getD [(Ty.pr (Ty.int (patMay n (runsL ((ts.getD i ByteArray.empty)))))), (Ty.pr (Ty.val (Value.slice none 0 0))), (Ty.pr (Ty.int (patMay n (runsL ((ts.getD i ByteArray.empty))))))] i_ Pr.any) ok16 rfl ⟨?_, ?_, ?_, trivial⟩ ?_
     · intro ax tx hs okx sm d0
       exact run_plain rfl (y_move (kp (sm 12 rfl) hs q111))
     · intro ax tx hs okx sm d0
       exact run_plain rfl (y_assign rfl)
     · intro ax tx hs okx sm d0 d1 d2 d3
       have e0 : At (Ty.int (patMay n (runsL ((ts.getD i ByteArray.empty))))) tx ax (.tmp 41) := d0 rfl
       have e1 : At (Ty.val (Value.slice none 0 0)) tx ax (.tmp 6) := d1 rfl
       exact run_plain rfl (y_assign e0)
     intro a18 s17 D10
     have ok17 := D10.ok
     have F18 := F17.step0 D10.stp
     have o18 := Own.k0 o16 D10.stp
     have o19 := OwnP.k0 o17 D10.stp
     have q113 : At (Ty.val (Value.slice none 0 0)) s17 a18 (.tmp 6) := D10.done 1
     have q114 : At (Ty.int (patMay n (runsL ((ts.getD i ByteArray.empty))))) s17 a18 (.tmp 7) := D10.done 2
     clear D10
     refine tn ?_
     refine wp_ret ?_
     refine tr ?_
     refine br ?_
     refine tr ?_
     refine tr ?_
     refine br ?_
     refine tr ?_
     exact retL2 rfl ok17 F18 (hasT2 (nil_lst (by (rw [if_neg (by rw [hm]; exact c3)])) q113) (cvi (by (exact hm.symm)) q114))
    ·
     have hz := Classical.not_not.1 c3; obtain ⟨hg1, hg2⟩ := hp1 hz; have hl1 : List.length [(g1, g2, g3)] = 1 := rfl
     refine wp_skip ?_
     refine tn ?_
     refine reg2 (a := a17) (σ := s16) rfl 3 (fun i_ => List.getD [(Ty.pr (Ty.val x8_0)), (Ty.pr (Ty.agg [(Ty.lst Ty.int (g1)), (Ty.lst Ty.int (g2)), (Ty.bool (g3))])), (Ty.pr (Ty.lstc 3 patC [((g1), (g2), (g3))]))] i_ Pr.any) ok16 rfl (by decide) rfl ⟨?_, ?_, ?_, trivial⟩ ?_
     · intro ax tx hs okx sm
       exact run_plain rfl (y_move (kp (sm 8 rfl) hs q105))
     · intro ax tx hs okx sm
       exact run_plain rfl (ownp_loadagg Try.underlying148 Try.inf148 (OwnP.k0 o17 hs) (kp (sm 11 rfl) hs q110))
     · intro ax tx hs okx sm d0
       have e1 : At (Ty.agg [(Ty.lst Ty.int (g1)), (Ty.lst Ty.int (g2)), (Ty.bool (g3))]) tx ax (.tmp 43) := d0 rfl
       exact run_plain rfl (y_build1c (c := 3) Try.underlying146 Try.inf148 rfl (by decide) (by decide) rfl e1)
     intro a19 s18 D11
     have ok18 := D11.ok
     have F19 := F17.step0 D11.stp
     have q115 : At (Ty.nat i) s18 a19 (.tmp 29) := D11.kt q104 rfl
     have q116 : At (Ty.val x8_0) s18 a19 (.tmp 8) := D11.kt q105 rfl
     have q117 : At (Ty.int n) s18 a19 (.tmp 0) := D11.kt q106 rfl
     have q118 : At (Ty.lst Ty.ints rows) s18 a19 (.tmp 2) := D11.kt q107 rfl
     have q119 : At (Ty.lst Ty.str ts) s18 a19 (.tmp 27) := D11.kt q108 rfl
     have q120 : At (Ty.nat (List.length ts)) s18 a19 (.tmp 28) := D11.kt q109 rfl
     have o20 := Own.k0 o16 D11.stp
     have o21 := OwnP.k0 o17 D11.stp
     have q121 : At (Ty.val x8_0) s18 a19 (.tmp 42) := D11.done 0 (by decide)
     have q122 : At (Ty.lstc 3 patC [((g1), (g2), (g3))]) s18 a19 (.tmp 44) := D11.done 2 (by decide)
     have b3 := sl_le q122
     clear D11
     refine tailL (L := [6]) (R := (fun v τ => Own τ 6 148 3 v ((List.length ps) + (List.length [((g1), (g2), (g3))])) ((List.flatMap patC ps) ++ (List.flatMap patC [((g1), (g2), (g3))])))) rfl rfl (by decide) ok18 (YldM.toL (m_append Try.underlying146 Try.inf148 (by decide) rfl (by decide) (al (R := (Pr.own 6 148 3 (List.length ps) (List.flatMap patC ps))) q121 o20) q122 (one_flat patOne) (by omega) (by omega))) (fun a20 s19 hs8 ok19 r8 sm7 => ?_)
     have F20 := F19.stepL hs8 (by decide)
     have q123 : At (Ty.nat i) s19 a20 (.tmp 29) := kpL hs8 (by decide) (sm7 29 (by decide)) q115
     have q124 : At (Ty.val x8_0) s19 a20 (.tmp 8) := kpL hs8 (by decide) (sm7 8 (by decide)) q116
     have q125 : At (Ty.int n) s19 a20 (.tmp 0) := kpL hs8 (by decide) (sm7 0 (by decide)) q117
     have q126 : At (Ty.lst Ty.ints rows) s19 a20 (.tmp 2) := kpL hs8 (by decide) (sm7 2 (by decide)) q118
     have q127 : At (Ty.lst Ty.str ts) s19 a20 (.tmp 27) := kpL hs8 (by decide) (sm7 27 (by decide)) q119
     have q128 : At (Ty.nat (List.length ts)) s19 a20 (.tmp 28) := kpL hs8 (by decide) (sm7 28 (by decide)) q120
     have o23 := OwnP.keepL o21 hs8 (by decide) (by decide)
     obtain ⟨x2, hx2⟩ : ∃ x, a20.eval (.tmp 45) = x := ⟨_, rfl⟩
     have q129 : At (Ty.val x2) s19 a20 (.tmp 45) := hx2
     have o22 : Own s19 6 148 3 x2 (List.length (ps ++ [((g1), (g2), (g3))])) (List.flatMap patC (ps ++ [((g1), (g2), (g3))])) := al2 (R := (Pr.own 6 148 3 (List.length (ps ++ [((g1), (g2), (g3))])) (List.flatMap patC (ps ++ [((g1), (g2), (g3))])))) hx2 (cvo (by simp) (by first | (rw [List.map_append]; rfl) | simp) r8)
     clear r8
     refine tailL (L := []) (R := (fun v τ => Pr.has (Ty.pr (Ty.val x2)) τ v)) rfl rfl (by decide) ok19 (Yld.toL (y_assign q129)) (fun a21 s20 hs9 ok20 r9 sm8 => ?_)
     have F21 := F20.stepL hs9 (by decide)
     have q130 : At (Ty.nat i) s20 a21 (.tmp 29) := kpL hs9 (by decide) (sm8 29 (by decide)) q123
     have q131 : At (Ty.int n) s20 a21 (.tmp 0) := kpL hs9 (by decide) (sm8 0 (by decide)) q125
     have q132 : At (Ty.lst Ty.ints rows) s20 a21 (.tmp 2) := kpL hs9 (by decide) (sm8 2 (by decide)) q126
     have q133 : At (Ty.lst Ty.str ts) s20 a21 (.tmp 27) := kpL hs9 (by decide) (sm8 27 (by decide)) q127
     have q134 : At (Ty.nat (List.length ts)) s20 a21 (.tmp 28) := kpL hs9 (by decide) (sm8 28 (by decide)) q128
     have o24 := OwnP.keepL o23 hs9 (by decide) (by decide)
     have o25 := Own.keepL o22 hs9 (by decide) (by decide)
     have q135 : At (Ty.val x2) s20 a21 (.tmp 8) := r9
     clear r9
     refine wpList_nil ?_
     refine bn ?_
     refine tn ?_
     refine reg (a := a21) (σ := s20) rfl (fun i_ => List.getD [(Ty.pr (Ty.nat (i + 1))), (Ty.pr (Ty.nat (i + 1)))] i_ Pr.any) ok20 rfl ⟨?_, ?_, trivial⟩ ?_
     · intro ax tx hs okx sm
       exact run_plain rfl ((y_add (kp (sm 29 rfl) hs q130) rfl (w64 (by omega) (by omega))).mono (fun τ _ h => cvi (σ := τ) (by first | omega | exact (Int.natCast_mul _ _).symm) h))
     · intro ax tx hs okx sm d0
       have e0 : At (Ty.nat (i + 1)) tx ax (.tmp 46) := d0 rfl
       exact run_plain rfl (y_move e0)
     intro a22 s21 D12
     have ok21 := D12.ok
     have F22 := F21.step0 D12.stp
     have q136 : At (Ty.int n) s21 a22 (.tmp 0) := D12.kt q131 rfl
     have q137 : At (Ty.lst Ty.ints rows) s21 a22 (.tmp 2) := D12.kt q132 rfl
     have q138 : At (Ty.lst Ty.str ts) s21 a22 (.tmp 27) := D12.kt q133 rfl
     have q139 : At (Ty.nat (List.length ts)) s21 a22 (.tmp 28) := D12.kt q134 rfl
     have q140 : At (Ty.val x2) s21 a22 (.tmp 8) := D12.kt q135 rfl
     have o26 := Own.k0 o25 D12.stp
     have q141 : At (Ty.nat (i + 1)) s21 a22 (.tmp 29) := D12.done 1
     clear D12
     exact tn ⟨ts.length - ((i+1)), by omega, s21, (i+1), (ps ++ [(g1, g2, g3)]), x2, rfl, F22, ok21, (cvi (by (first | rfl | omega | (simp_all; done) | (simp_all; omega))) q141), q140, q136, q137, q138, q139, (cvo (by (simp)) (by (simp)) o26), by omega, tex_go ht c3, pats_snoc hps (by rw [hpl]; exact hg1) (by rw [hpl]; exact hg2), by rw [List.length_append, List.length_singleton, hpl], rfl⟩
   ·
    rw [List.drop_eq_nil_of_le (by omega)] at ht; have ht0 : texMay n ts = 0 := ht.symm; have hta := tex_all ht0; have hpt : ps.length = ts.length := (by omega)
    refine wp_exit ?_
    refine tx ?_
    refine tx ?_
    refine bx ?_
    refine tn ?_
    refine wp_seq ?_
    obtain ⟨t4, e1, h1, q142⟩ := Own.seal o3 (by decide)
    rw [← e1]
    have F23 := F7.step h1 (by decide)
    have q143 := Ty.up (Ty.nat i) (h1.le (by decide)) q26
    have q144 : At (Ty.lstc 3 patC ps) t4 a8 (.tmp 8) := by have e : a8.eval (.tmp 8) = x8_0 := q27; show Ty.has _ _ _; rw [e]; exact q142
    have q145 := Ty.up (Ty.int n) (h1.le (by decide)) q28
    have q146 := Ty.up (Ty.lst Ty.ints rows) (h1.le (by decide)) q29
    have q147 := Ty.up (Ty.lst Ty.str ts) (h1.le (by decide)) q30
    have q148 := Ty.up (Ty.nat (List.length ts)) (h1.le (by decide)) q31
    have q149 := Ty.up (Ty.bool (decide (((i : Nat) : Int) < (((List.length ts) : Nat) : Int)))) (h1.le (by decide)) q32
    refine reg2 (a := a8) (σ := t4) rfl 3 (fun i_ => List.getD [(Ty.pr (Ty.lstc 3 patC ps)), (Ty.pr (Ty.nat (List.length ps))), (Pr.own 11 3 1 (List.length ps) (List.map Ty.int (List.replicate (List.length ps) 0)))] i_ Pr.any) ok7 rfl (by decide) rfl ⟨?_, ?_, ?_, trivial⟩ ?_
    · intro ax tx hs okx sm
      exact run_plain rfl (y_move (kp (sm 8 rfl) hs q144))
    · intro ax tx hs okx sm d0
      have e0 : At (Ty.lstc 3 patC ps) tx ax (.tmp 47) := d0 rfl
      exact run_plain rfl (y_len Try.underlying146 e0)
    · intro ax tx hs okx sm d0 d1
      have e1 : At (Ty.nat (List.length ps)) tx ax (.tmp 48) := d0 rfl
      exact run_plain rfl ((y_make (k := 11) (T := Ty.int 0) (n := (List.length ps)) Try.underlying34 Try.inf3 rfl (fun _ => rfl) e1 e1 (by omega) (by omega)).mono (fun _ _ h => cvo (by simp) (by simp) h))
    intro a23 s22 D13
    have ok22 := D13.ok
    have F24 := F23.step0 D13.stp
    have q150 : At (Ty.lstc 3 patC ps) s22 a23 (.tmp 8) := D13.kt q144 rfl
    have q151 : At (Ty.int n) s22 a23 (.tmp 0) := D13.kt q145 rfl
    have q152 : At (Ty.lst Ty.ints rows) s22 a23 (.tmp 2) := D13.kt q146 rfl
    obtain ⟨x3, hx3⟩ : ∃ x, a23.eval (.tmp 49) = x := ⟨_, rfl⟩
    have q153 : At (Ty.val x3) s22 a23 (.tmp 49) := hx3
    have o27 : Own s22 11 3 1 x3 (List.length ps) (List.map Ty.int (List.replicate (List.length ps) 0)) := al2 (R := (Pr.own 11 3 1 (List.length ps) (List.map Ty.int (List.replicate (List.length ps) 0)))) hx3 (D13.done 2 (by decide))
    clear D13
    refine tailL (L := []) (R := (fun v τ => Pr.has (Ty.pr (Ty.val x3)) τ v)) rfl rfl (by decide) ok22 (Yld.toL (y_assign q153)) (fun a24 s23 hs10 ok23 r10 sm9 => ?_)
    have F25 := F24.stepL hs10 (by decide)
    have q154 : At (Ty.lstc 3 patC ps) s23 a24 (.tmp 8) := kpL hs10 (by decide) (sm9 8 (by decide)) q150
    have q155 : At (Ty.int n) s23 a24 (.tmp 0) := kpL hs10 (by decide) (sm9 0 (by decide)) q151
    have q156 : At (Ty.lst Ty.ints rows) s23 a24 (.tmp 2) := kpL hs10 (by decide) (sm9 2 (by decide)) q152
    have o28 := Own.keepL o27 hs10 (by decide) (by decide)
    have q157 : At (Ty.val x3) s23 a24 (.tmp 13) := r10
    clear r10
    refine wpList_nil ?_
    refine tn ?_
    refine wp_seq ?_
    refine wp_seq ?_
    refine reg (a := a24) (σ := s23) rfl (fun i_ => List.getD [(Ty.pr (Ty.lst Ty.ints rows)), (Ty.pr (Ty.nat (List.length rows))), (Ty.pr (Ty.int (0 : Int)))] i_ Pr.any) ok23 rfl ⟨?_, ?_, ?_, trivial⟩ ?_
    · intro ax tx hs okx sm
      exact run_plain rfl (y_move (kp (sm 2 rfl) hs q156))
    · intro ax tx hs okx sm d0
      have e0 : At (Ty.lst Ty.ints rows) tx ax (.tmp 50) := d0 rfl
      exact run_plain rfl (y_len Try.underlying33 e0)
    · intro ax tx hs okx sm
      exact run_plain rfl (y_move rfl)
    intro a25 s24 D14
    have ok24 := D14.ok
    have F26 := F25.step0 D14.stp
    have q158 : At (Ty.lstc 3 patC ps) s24 a25 (.tmp 8) := D14.kt q154 rfl
    have q159 : At (Ty.int n) s24 a25 (.tmp 0) := D14.kt q155 rfl
    have q160 : At (Ty.val x3) s24 a25 (.tmp 13) := D14.kt q157 rfl
    have o29 := Own.k0 o28 D14.stp
    have q161 : At (Ty.lst Ty.ints rows) s24 a25 (.tmp 50) := D14.done 0
    have q162 : At (Ty.nat (List.length rows)) s24 a25 (.tmp 51) := D14.done 1
    have q163 : At (Ty.int (0 : Int)) s24 a25 (.tmp 52) := D14.done 2
    clear D14
    refine tn ?_
    refine wp_block ?_
    refine loop (fun n3 a26 w3 => ∃ (t5 : GW) (j : Nat) (x13_1 : Value), t5.w = w3 ∧ FromL [] s0 t5 ∧ Ok 84 a26 ∧ At (Ty.nat j) t5 a26 (.tmp 52) ∧ At (Ty.val x13_1) t5 a26 (.tmp 13) ∧ At (Ty.lstc 3 patC ps) t5 a26 (.tmp 8) ∧ At (Ty.int n) t5 a26 (.tmp 0) ∧ At (Ty.lst Ty.ints rows) t5 a26 (.tmp 50) ∧ At (Ty.nat (List.length rows)) t5 a26 (.tmp 51) ∧ Own t5 11 3 1 x13_1 (List.length (musT ts rows j 0)) (List.map Ty.int (musT ts rows j 0)) ∧ (j ≤ rows.length) ∧ (rowsMay n (rows.drop j) = rowsMay n rows) ∧ n3 = rows.length - j) (rows.length - (0)) ?_ ?_
    ·
     exact ⟨s24, 0, x3, rfl, F26, ok24, (cvi (by (first | rfl | omega | (simp_all; done) | (simp_all; omega))) q163), q160, q158, q159, q161, q162, (cvo (by (rw [musT_zero]; simp [hpt])) (by (rw [musT_zero]; simp [hpt])) o29), by omega, rfl, rfl⟩
    ·
     rintro n4 a27 w4 ⟨t6, j, x13_1, rfl, F27, ok25, q164, q165, q166, q167, q168, q169, o30, hj, hr, rfl⟩
     refine wp_seq ?_
     refine reg (a := a27) (σ := t6) rfl (fun i_ => List.getD [(Ty.pr (Ty.bool (decide (((j : Nat) : Int) < (((List.length rows) : Nat) : Int)))))] i_ Pr.any) ok25 rfl ⟨?_, trivial⟩ ?_
     · intro ax tx hs okx sm
       exact run_plain rfl (y_lss (kp (sm 52 rfl) hs q164) (kp (sm 51 rfl) hs q169))
     intro a28 s25 D15
     have ok26 := D15.ok
     have F28 := F27.step0 D15.stp
     have q170 : At (Ty.nat j) s25 a28 (.tmp 52) := D15.kt q164 rfl
     have q171 : At (Ty.val x13_1) s25 a28 (.tmp 13) := D15.kt q165 rfl
     have q172 : At (Ty.lstc 3 patC ps) s25 a28 (.tmp 8) := D15.kt q166 rfl
     have q173 : At (Ty.int n) s25 a28 (.tmp 0) := D15.kt q167 rfl
     have q174 : At (Ty.lst Ty.ints rows) s25 a28 (.tmp 50) := D15.kt q168 rfl
     have q175 : At (Ty.nat (List.length rows)) s25 a28 (.tmp 51) := D15.kt q169 rfl
     have o31 := Own.k0 o30 D15.stp
     have q176 : At (Ty.bool (decide (((j : Nat) : Int) < (((List.length rows) : Nat) : Int)))) s25 a28 (.tmp 53) := D15.done 0
     clear D15
     refine tn ?_
     refine wp_seq ?_
     refine cond_p (p := (((j : Nat) : Int) < (((List.length rows) : Nat) : Int))) q176 (fun c4 => ?_) (fun c4 => ?_)
     ·
      rw [drop_cons rows [] (show j < rows.length by omega)] at hr; have hjr : j < rows.length := (by omega)
      refine wp_skip ?_
      refine tn ?_
      refine wp_seq ?_
      refine wp_block ?_
      refine wp_seq ?_
      refine reg (a := a28) (σ := s25) rfl (fun i_ => List.getD [(Ty.pr (Ty.ref [(Ty.lst Ty.int (rows.getD j []))])), (Ty.pr (Ty.lst Ty.int (rows.getD j []))), (Ty.pr (Ty.lst Ty.int (rows.getD j [])))] i_ Pr.any) ok26 rfl ⟨?_, ?_, ?_, trivial⟩ ?_
      · intro ax tx hs okx sm
        exact run_plain rfl (y_index1 Try.underlying33 Try.inf34 (kp (sm 50 rfl) hs q174) (kp (sm 52 rfl) hs q170) (by omega) (lst_get Ty.ints rows [] j (by omega)))
      · intro ax tx hs okx sm d0
        have e0 : At (Ty.ref [(Ty.lst Ty.int (rows.getD j []))]) tx ax (.tmp 54) := d0 rfl
        exact run_plain rfl (y_load Try.underlying34 rfl e0 rfl)
      · intro ax tx hs okx sm d0 d1 d2
        have e1 : At (Ty.lst Ty.int (rows.getD j [])) tx ax (.tmp 55) := d0 rfl
        have e0 : At (Ty.ref [(Ty.lst Ty.int (rows.getD j []))]) tx ax (.tmp 54) := d1 rfl
        exact run_plain rfl (y_assign e1)
      intro a29 s26 D16
      have ok27 := D16.ok
      have F29 := F28.step0 D16.stp
      have q177 : At (Ty.nat j) s26 a29 (.tmp 52) := D16.kt q170 rfl
      have q178 : At (Ty.val x13_1) s26 a29 (.tmp 13) := D16.kt q171 rfl
      have q179 : At (Ty.lstc 3 patC ps) s26 a29 (.tmp 8) := D16.kt q172 rfl
      have q180 : At (Ty.int n) s26 a29 (.tmp 0) := D16.kt q173 rfl
      have q181 : At (Ty.lst Ty.ints rows) s26 a29 (.tmp 50) := D16.kt q174 rfl
      have q182 : At (Ty.nat (List.length rows)) s26 a29 (.tmp 51) := D16.kt q175 rfl
      have o32 := Own.k0 o31 D16.stp
      have q183 : At (Ty.lst Ty.int (rows.getD j [])) s26 a29 (.tmp 15) := D16.done 2
      clear D16
      refine tn ?_
      refine wp_seq ?_
      refine wp_seq ?_
      refine reg (a := a29) (σ := s26) rfl (fun i_ => List.getD [(Ty.pr (Ty.lst Ty.int (rows.getD j []))), (Ty.pr (Ty.int (rowMay ((rows.getD j []))))), (Ty.pr (Ty.int (rowMay ((rows.getD j [])))))] i_ Pr.any) ok27 rfl ⟨?_, ?_, ?_, trivial⟩ ?_
      · intro ax tx hs okx sm
        exact run_plain rfl (y_move (kp (sm 15 rfl) hs q183))
      · intro ax tx hs okx sm d0
        have e0 : At (Ty.lst Ty.int (rows.getD j [])) tx ax (.tmp 56) := d0 rfl
        exact run_plain rfl (y_call #[ax.eval (.tmp 56)] Try.func44 rfl rfl (by simp only [List.map_toArray, List.map_cons, List.map_nil]) (rowCheck_fn ((rows.getD j [])) _ _ e0 ))
      · intro ax tx hs okx sm d0 d1 d2 d3
        have e1 : At (Ty.int (rowMay ((rows.getD j [])))) tx ax (.tmp 57) := d0 rfl
        have e0 : At (Ty.lst Ty.int (rows.getD j [])) tx ax (.tmp 56) := d2 rfl
        exact run_plain rfl (y_assign e1)
      intro a30 s27 D17
      have ok28 := D17.ok
      have F30 := F29.step0 D17.stp
      have q184 : At (Ty.nat j) s27 a30 (.tmp 52) := D17.kt q177 rfl
      have q185 : At (Ty.val x13_1) s27 a30 (.tmp 13) := D17.kt q178 rfl
      have q186 : At (Ty.lstc 3 patC ps) s27 a30 (.tmp 8) := D17.kt q179 rfl
      have q187 : At (Ty.int n) s27 a30 (.tmp 0) := D17.kt q180 rfl
      have q188 : At (Ty.lst Ty.ints rows) s27 a30 (.tmp 50) := D17.kt q181 rfl
      have q189 : At (Ty.nat (List.length rows)) s27 a30 (.tmp 51) := D17.kt q182 rfl
      have q190 : At (Ty.lst Ty.int (rows.getD j [])) s27 a30 (.tmp 15) := D17.kt q183 rfl
      have o33 := Own.k0 o32 D17.stp
      have q191 : At (Ty.int (rowMay ((rows.getD j [])))) s27 a30 (.tmp 16) := D17.done 2
      clear D17
      refine tn ?_
      refine wp_seq ?_
      refine reg (a := a30) (σ := s27) rfl (fun i_ => List.getD [(Ty.pr (Ty.int (rowMay ((rows.getD j []))))), (Ty.pr (Ty.bool (decide ((rowMay ((rows.getD j []))) ≠ (0 : Int)))))] i_ Pr.any) ok28 rfl ⟨?_, ?_, trivial⟩ ?_
      · intro ax tx hs okx sm
        exact run_plain rfl (y_move (kp (sm 16 rfl) hs q191))
      · intro ax tx hs okx sm d0
        have e0 : At (Ty.int (rowMay ((rows.getD j [])))) tx ax (.tmp 58) := d0 rfl
        exact run_plain rfl (y_neq e0 rfl)
      intro a31 s28 D18
      have ok29 := D18.ok
      have F31 := F30.step0 D18.stp
      have q192 : At (Ty.nat j) s28 a31 (.tmp 52) := D18.kt q184 rfl
      have q193 : At (Ty.val x13_1) s28 a31 (.tmp 13) := D18.kt q185 rfl
      have q194 : At (Ty.lstc 3 patC ps) s28 a31 (.tmp 8) := D18.kt q186 rfl
      have q195 : At (Ty.int n) s28 a31 (.tmp 0) := D18.kt q187 rfl
      have q196 : At (Ty.lst Ty.ints rows) s28 a31 (.tmp 50) := D18.kt q188 rfl
      have q197 : At (Ty.nat (List.length rows)) s28 a31 (.tmp 51) := D18.kt q189 rfl
      have q198 : At (Ty.lst Ty.int (rows.getD j [])) s28 a31 (.tmp 15) := D18.kt q190 rfl
      have q199 : At (Ty.int (rowMay ((rows.getD j [])))) s28 a31 (.tmp 16) := D18.kt q191 rfl
      have o34 := Own.k0 o33 D18.stp
      have q200 : At (Ty.bool (decide ((rowMay ((rows.getD j []))) ≠ (0 : Int)))) s28 a31 (.tmp 59) := D18.done 1
      clear D18
      refine tn ?_
      refine cond_p (p := ((rowMay ((rows.getD j []))) ≠ (0 : Int))) q200 (fun c5 => ?_) (fun c5 => ?_)
      ·
       have hm : musMay n ts rows = rowMay (rows.getD j []) := (by rw [mus_rows hlim ht0]; exact rows_stop hr c5)
       refine wp_seq ?_
       refine reg (a := a31) (σ := s28) rfl (fun i_ => List.getD [(Ty.pr (Ty.int (rowMay ((rows.getD j []))))), (Ty.pr (Ty.val (Value.slice none 0 0))), (Ty.pr (Ty.int (rowMay ((rows.getD j [])))))] i_ Pr.any) ok29 rfl ⟨?_, ?_, ?_, trivial⟩ ?_
       · intro ax tx hs okx sm d0
         exact run_plain rfl (y_move (kp (sm 16 rfl) hs q199))
       · intro ax tx hs okx sm d0
         exact run_plain rfl (y_assign rfl)
       · intro ax tx hs okx sm d0 d1 d2 d3
         have e0 : At (Ty.int (rowMay ((rows.getD j [])))) tx ax (.tmp 60) := d0 rfl
         have e1 : At (Ty.val (Value.slice none 0 0)) tx ax (.tmp 6) := d1 rfl
         exact run_plain rfl (y_assign e0)
       intro a32 s29 D19
       have ok30 := D19.ok
       have F32 := F31.step0 D19.stp
       have o35 := Own.k0 o34 D19.stp
       have q201 : At (Ty.val (Value.slice none 0 0)) s29 a32 (.tmp 6) := D19.done 1
       have q202 : At (Ty.int (rowMay ((rows.getD j [])))) s29 a32 (.tmp 7) := D19.done 2
       clear D19
       refine tn ?_
       refine wp_ret ?_
       refine tr ?_
       refine br ?_
       refine tr ?_
       refine tr ?_
       refine br ?_
       refine tr ?_
       exact retL2 rfl ok30 F32 (hasT2 (nil_lst (by (rw [if_neg (by rw [hm]; exact c5)])) q201) (cvi (by (exact hm.symm)) q202))
      ·
       refine wp_skip ?_
       refine tn ?_
       refine wp_seq ?_
       refine wp_seq ?_
       refine reg (a := a31) (σ := s28) rfl (fun i_ => List.getD [(Ty.pr (Ty.lst Ty.int (rows.getD j []))), (Ty.pr (Ty.nat (List.length (rows.getD j [])))), (Ty.pr (Ty.int n)), (Ty.pr (Ty.bool (decide ((((List.length (rows.getD j [])) : Nat) : Int) ≠ n))))] i_ Pr.any) ok29 rfl ⟨?_, ?_, ?_, ?_, trivial⟩ ?_
       · intro ax tx hs okx sm
         exact run_plain rfl (y_move (kp (sm 15 rfl) hs q198))
       · intro ax tx hs okx sm d0
         have e0 : At (Ty.lst Ty.int (rows.getD j [])) tx ax (.tmp 61) := d0 rfl
         exact run_plain rfl (y_len Try.underlying34 e0)
       · intro ax tx hs okx sm
         exact run_plain rfl (y_move (kp (sm 0 rfl) hs q195))
       · intro ax tx hs okx sm d0 d1
         have e1 : At (Ty.nat (List.length (rows.getD j []))) tx ax (.tmp 62) := d0 rfl
         have e2 : At (Ty.int n) tx ax (.tmp 63) := d1 rfl
         exact run_plain rfl (y_neq e1 e2)
       intro a33 s30 D20
       have ok31 := D20.ok
       have F33 := F31.step0 D20.stp
       have q203 : At (Ty.nat j) s30 a33 (.tmp 52) := D20.kt q192 rfl
       have q204 : At (Ty.val x13_1) s30 a33 (.tmp 13) := D20.kt q193 rfl
       have q205 : At (Ty.lstc 3 patC ps) s30 a33 (.tmp 8) := D20.kt q194 rfl
       have q206 : At (Ty.int n) s30 a33 (.tmp 0) := D20.kt q195 rfl
       have q207 : At (Ty.lst Ty.ints rows) s30 a33 (.tmp 50) := D20.kt q196 rfl
       have q208 : At (Ty.nat (List.length rows)) s30 a33 (.tmp 51) := D20.kt q197 rfl
       have q209 : At (Ty.lst Ty.int (rows.getD j [])) s30 a33 (.tmp 15) := D20.kt q198 rfl
       have o36 := Own.k0 o34 D20.stp
       have q210 : At (Ty.bool (decide ((((List.length (rows.getD j [])) : Nat) : Int) ≠ n))) s30 a33 (.tmp 64) := D20.done 3
       clear D20
       refine tn ?_
       refine cond_p (p := ((((List.length (rows.getD j [])) : Nat) : Int) ≠ n)) q210 (fun c6 => ?_) (fun c6 => ?_)
       ·
        have hm : musMay n ts rows = 1 := (by rw [mus_rows hlim ht0]; exact rows_len hr c5 c6)
        refine wp_seq ?_
        refine reg (a := a33) (σ := s30) rfl (fun i_ => List.getD [(Ty.pr (Ty.val (Value.slice none 0 0))), (Ty.pr (Ty.int (1 : Int)))] i_ Pr.any) ok31 rfl ⟨?_, ?_, trivial⟩ ?_
        · intro ax tx hs okx sm
          exact run_plain rfl (y_assign rfl)
        · intro ax tx hs okx sm d0 d1
          have e0 : At (Ty.val (Value.slice none 0 0)) tx ax (.tmp 6) := d0 rfl
          exact run_plain rfl (y_assign rfl)
        intro a34 s31 D21
        have ok32 := D21.ok
        have F34 := F33.step0 D21.stp
        have o37 := Own.k0 o36 D21.stp
        have q211 : At (Ty.val (Value.slice none 0 0)) s31 a34 (.tmp 6) := D21.done 0
        have q212 : At (Ty.int (1 : Int)) s31 a34 (.tmp 7) := D21.done 1
        clear D21
        refine tn ?_
        refine wp_ret ?_
        refine tr ?_
        refine br ?_
        refine tr ?_
        refine tr ?_
        refine br ?_
        refine tr ?_
        exact retL2 rfl ok32 F34 (hasT2 (nil_lst (by (rw [if_neg (by rw [hm]; decide)])) q211) (cvi (by (exact hm.symm)) q212))
       ·
        have hln := Classical.not_not.1 c6
        refine wp_skip ?_
        refine tn ?_
        refine wp_seq ?_
        refine reg (a := a33) (σ := s30) rfl (fun i_ => List.getD [(Ty.pr (Ty.lstc 3 patC ps)), (Ty.pr (Ty.nat (List.length ps))), (Ty.pr (Ty.int (0 : Int)))] i_ Pr.any) ok31 rfl ⟨?_, ?_, ?_, trivial⟩ ?_
        · intro ax tx hs okx sm
          exact run_plain rfl (y_move (kp (sm 8 rfl) hs q205))
        · intro ax tx hs okx sm d0
          have e0 : At (Ty.lstc 3 patC ps) tx ax (.tmp 65) := d0 rfl
          exact run_plain rfl (y_len Try.underlying146 e0)
        · intro ax tx hs okx sm
          exact run_plain rfl (y_move rfl)
        intro a35 s32 D22
        have ok33 := D22.ok
        have F35 := F33.step0 D22.stp
        have q213 : At (Ty.nat j) s32 a35 (.tmp 52) := D22.kt q203 rfl
        have q214 : At (Ty.val x13_1) s32 a35 (.tmp 13) := D22.kt q204 rfl
        have q215 : At (Ty.lstc 3 patC ps) s32 a35 (.tmp 8) := D22.kt q205 rfl
        have q216 : At (Ty.int n) s32 a35 (.tmp 0) := D22.kt q206 rfl
        have q217 : At (Ty.lst Ty.ints rows) s32 a35 (.tmp 50) := D22.kt q207 rfl
        have q218 : At (Ty.nat (List.length rows)) s32 a35 (.tmp 51) := D22.kt q208 rfl
        have q219 : At (Ty.lst Ty.int (rows.getD j [])) s32 a35 (.tmp 15) := D22.kt q209 rfl
        have o38 := Own.k0 o36 D22.stp
        have q220 : At (Ty.lstc 3 patC ps) s32 a35 (.tmp 65) := D22.done 0
        have q221 : At (Ty.nat (List.length ps)) s32 a35 (.tmp 66) := D22.done 1
        have q222 : At (Ty.int (0 : Int)) s32 a35 (.tmp 67) := D22.done 2
        clear D22
        refine tn ?_
        refine wp_block ?_
        refine loop (fun n5 a36 w5 => ∃ (t7 : GW) (k : Nat) (x13_2 : Value), t7.w = w5 ∧ FromL [] s0 t7 ∧ Ok 84 a36 ∧ At (Ty.nat k) t7 a36 (.tmp 67) ∧ At (Ty.val x13_2) t7 a36 (.tmp 13) ∧ At (Ty.nat j) t7 a36 (.tmp 52) ∧ At (Ty.lstc 3 patC ps) t7 a36 (.tmp 8) ∧ At (Ty.int n) t7 a36 (.tmp 0) ∧ At (Ty.lst Ty.ints rows) t7 a36 (.tmp 50) ∧ At (Ty.nat (List.length rows)) t7 a36 (.tmp 51) ∧ At (Ty.lst Ty.int (rows.getD j [])) t7 a36 (.tmp 15) ∧ At (Ty.lstc 3 patC ps) t7 a36 (.tmp 65) ∧ At (Ty.nat (List.length ps)) t7 a36 (.tmp 66) ∧ Own t7 11 3 1 x13_2 (List.length (musT ts rows j k)) (List.map Ty.int (musT ts rows j k)) ∧ (k ≤ ps.length) ∧ n5 = ps.length - k) (ps.length - (0)) ?_ ?_
        ·
         exact ⟨s32, 0, x13_1, rfl, F35, ok33, (cvi (by (first | rfl | omega | (simp_all; done) | (simp_all; omega))) q222), q214, q213, q215, q216, q217, q218, q219, q220, q221, (cvo (by (simp)) (by (simp)) o38), by omega, rfl⟩
        ·
         rintro n6 a37 w6 ⟨t8, k, x13_2, rfl, F36, ok34, q223, q224, q225, q226, q227, q228, q229, q230, q231, q232, o39, hk, rfl⟩
         have hml := musT_len ts rows j k
         refine wp_seq ?_
         refine reg (a := a37) (σ := t8) rfl (fun i_ => List.getD [(Ty.pr (Ty.bool (decide (((k : Nat) : Int) < (((List.length ps) : Nat) : Int)))))] i_ Pr.any) ok34 rfl ⟨?_, trivial⟩ ?_
         · intro ax tx hs okx sm
           exact run_plain rfl (y_lss (kp (sm 67 rfl) hs q223) (kp (sm 66 rfl) hs q232))
         intro a38 s33 D23
         have ok35 := D23.ok
         have F37 := F36.step0 D23.stp
         have q233 : At (Ty.nat k) s33 a38 (.tmp 67) := D23.kt q223 rfl
         have q234 : At (Ty.val x13_2) s33 a38 (.tmp 13) := D23.kt q224 rfl
         have q235 : At (Ty.nat j) s33 a38 (.tmp 52) := D23.kt q225 rfl
         have q236 : At (Ty.lstc 3 patC ps) s33 a38 (.tmp 8) := D23.kt q226 rfl
         have q237 : At (Ty.int n) s33 a38 (.tmp 0) := D23.kt q227 rfl
         have q238 : At (Ty.lst Ty.ints rows) s33 a38 (.tmp 50) := D23.kt q228 rfl
         have q239 : At (Ty.nat (List.length rows)) s33 a38 (.tmp 51) := D23.kt q229 rfl
         have q240 : At (Ty.lst Ty.int (rows.getD j [])) s33 a38 (.tmp 15) := D23.kt q230 rfl
         have q241 : At (Ty.lstc 3 patC ps) s33 a38 (.tmp 65) := D23.kt q231 rfl
         have q242 : At (Ty.nat (List.length ps)) s33 a38 (.tmp 66) := D23.kt q232 rfl
         have o40 := Own.k0 o39 D23.stp
         have q243 : At (Ty.bool (decide (((k : Nat) : Int) < (((List.length ps) : Nat) : Int)))) s33 a38 (.tmp 68) := D23.done 0
         clear D23
         refine tn ?_
         refine wp_seq ?_
         refine cond_p (p := (((k : Nat) : Int) < (((List.length ps) : Nat) : Int))) q243 (fun c7 => ?_) (fun c7 => ?_)
         ·
          have hkt : k < ts.length := (by omega); have hmg := musT_get (ts := ts) (rows := rows) (j := j) (i := k) (k := k) hkt; have hmc := cntL_le (ts.getD k ByteArray.empty) (rows.take (if k < k then j + 1 else j)); have hrl : (rows.take (if k < k then j + 1 else j)).length ≤ rows.length := (by rw [List.length_take]; exact Nat.min_le_right _ _); have htp := hta _ (mem_getD ByteArray.empty hkt); have hlw := like_wants htp hln; obtain ⟨hk1, hk2⟩ := hps k (by omega); have hw1 : (ps.getD k ([], [], false)).1.length ≤ (rows.getD j []).length := (by rw [hk1, List.length_map]; exact hlw.1); have hw2 : (ps.getD k ([], [], false)).2.1.length ≤ (rows.getD j []).length := (by rw [hk2, List.length_map]; exact hlw.2)
          refine wp_skip ?_
          refine tn ?_
          refine wp_seq ?_
          refine wp_block ?_
          refine wp_seq ?_
          refine reg2 (a := a38) (σ := s33) rfl 5 (fun i_ => List.getD [(Ty.pr (Ty.nat k)), (Ty.pr (Ty.ref [(Ty.lst Ty.int ((ps.getD k ([], [], false))).1), (Ty.lst Ty.int ((ps.getD k ([], [], false))).2.1), (Ty.bool ((ps.getD k ([], [], false))).2.2)])), (Ty.pr (Ty.agg [(Ty.lst Ty.int ((ps.getD k ([], [], false))).1), (Ty.lst Ty.int ((ps.getD k ([], [], false))).2.1), (Ty.bool ((ps.getD k ([], [], false))).2.2)])), (Pr.ownp 21 [(Ty.val (Value.slice none 0 0)), (Ty.val (Value.slice none 0 0)), (Ty.bool false)]), (Ty.pr (Ty.nat k))] i_ Pr.any) ok35 rfl (by decide) rfl ⟨?_, ?_, ?_, ?_, ?_, trivial⟩ ?_
          · intro ax tx hs okx sm
            exact run_plain rfl (y_move (kp (sm 67 rfl) hs q233))
          · intro ax tx hs okx sm
            exact run_plain rfl (y_indexc (i := ((k : Nat) : Int)) ([], [], false) Try.underlying146 Try.inf148 (kp (sm 65 rfl) hs q241) (kp (sm 67 rfl) hs q233) (by omega) (by omega) (by decide) (fun _ => rfl))
          · intro ax tx hs okx sm d0
            have e1 : At (Ty.ref [(Ty.lst Ty.int ((ps.getD k ([], [], false))).1), (Ty.lst Ty.int ((ps.getD k ([], [], false))).2.1), (Ty.bool ((ps.getD k ([], [], false))).2.2)]) tx ax (.tmp 70) := d0 rfl
            exact run_plain rfl (y_loadagg Try.underlying148 Try.inf148 e1)
          · intro ax tx hs okx sm
            exact run_plain rfl (y_alloc Try.inf148 rfl (alloc_vals (vs := [.slice none 0 0, .slice none 0 0, .bool false]) rfl))
          · intro ax tx hs okx sm d0 d1 d2 d3 d4
            have e0 : At (Ty.nat k) tx ax (.tmp 69) := d0 rfl
            have e1 : At (Ty.ref [(Ty.lst Ty.int ((ps.getD k ([], [], false))).1), (Ty.lst Ty.int ((ps.getD k ([], [], false))).2.1), (Ty.bool ((ps.getD k ([], [], false))).2.2)]) tx ax (.tmp 70) := d2 rfl
            have e2 : At (Ty.agg [(Ty.lst Ty.int ((ps.getD k ([], [], false))).1), (Ty.lst Ty.int ((ps.getD k ([], [], false))).2.1), (Ty.bool ((ps.getD k ([], [], false))).2.2)]) tx ax (.tmp 71) := d3 rfl
            exact run_plain rfl (y_assign e0)
          intro a39 s34 D24
          have ok36 := D24.ok
          have F38 := F37.step0 D24.stp
          have q244 : At (Ty.nat k) s34 a39 (.tmp 67) := D24.kt q233 rfl
          have q245 : At (Ty.val x13_2) s34 a39 (.tmp 13) := D24.kt q234 rfl
          have q246 : At (Ty.nat j) s34 a39 (.tmp 52) := D24.kt q235 rfl
          have q247 : At (Ty.lstc 3 patC ps) s34 a39 (.tmp 8) := D24.kt q236 rfl
          have q248 : At (Ty.int n) s34 a39 (.tmp 0) := D24.kt q237 rfl
          have q249 : At (Ty.lst Ty.ints rows) s34 a39 (.tmp 50) := D24.kt q238 rfl
          have q250 : At (Ty.nat (List.length rows)) s34 a39 (.tmp 51) := D24.kt q239 rfl
          have q251 : At (Ty.lst Ty.int (rows.getD j [])) s34 a39 (.tmp 15) := D24.kt q240 rfl
          have q252 : At (Ty.lstc 3 patC ps) s34 a39 (.tmp 65) := D24.kt q241 rfl
          have q253 : At (Ty.nat (List.length ps)) s34 a39 (.tmp 66) := D24.kt q242 rfl
          have o41 := Own.k0 o40 D24.stp
          have q254 : At (Ty.agg [(Ty.lst Ty.int ((ps.getD k ([], [], false))).1), (Ty.lst Ty.int ((ps.getD k ([], [], false))).2.1), (Ty.bool ((ps.getD k ([], [], false))).2.2)]) s34 a39 (.tmp 71) := D24.done 2 (by decide)
          obtain ⟨x4, hx4⟩ : ∃ x, a39.eval (.tmp 18) = x := ⟨_, rfl⟩
          have q255 : At (Ty.val x4) s34 a39 (.tmp 18) := hx4
          have o42 : OwnP s34 21 x4 [(Ty.val (Value.slice none 0 0)), (Ty.val (Value.slice none 0 0)), (Ty.bool false)] := al2 (R := (Pr.ownp 21 [(Ty.val (Value.slice none 0 0)), (Ty.val (Value.slice none 0 0)), (Ty.bool false)])) hx4 (D24.done 3 (by decide))
          have q256 : At (Ty.nat k) s34 a39 (.tmp 17) := D24.done 4 (by decide)
          clear D24
          refine tailL0 (L := [21]) (R := (fun _ τ => OwnP τ 21 x4 [(Ty.lst Ty.int ((ps.getD k ([], [], false))).1), (Ty.lst Ty.int ((ps.getD k ([], [], false))).2.1), (Ty.bool ((ps.getD k ([], [], false))).2.2)])) rfl rfl (YldM.toL (m_storeagg Try.inf148 (by decide) o42 q255 rfl q254 (by intro U hU; simp only [List.mem_cons, List.not_mem_nil, or_false] at hU; rcases hU with rfl | rfl | rfl <;> first | exact one_val rfl | exact one_sl | exact one_ref))) (fun v2 s35 hs11 r11 => ?_)
          have F39 := F38.stepL hs11 (by decide)
          have q257 : At (Ty.nat k) s35 a39 (.tmp 67) := kpL hs11 (by decide) rfl q244
          have q258 : At (Ty.val x13_2) s35 a39 (.tmp 13) := kpL hs11 (by decide) rfl q245
          have q259 : At (Ty.nat j) s35 a39 (.tmp 52) := kpL hs11 (by decide) rfl q246
          have q260 : At (Ty.lstc 3 patC ps) s35 a39 (.tmp 8) := kpL hs11 (by decide) rfl q247
          have q261 : At (Ty.int n) s35 a39 (.tmp 0) := kpL hs11 (by decide) rfl q248
          have q262 : At (Ty.lst Ty.ints rows) s35 a39 (.tmp 50) := kpL hs11 (by decide) rfl q249
          have q263 : At (Ty.nat (List.length rows)) s35 a39 (.tmp 51) := kpL hs11 (by decide) rfl q250
          have q264 : At (Ty.lst Ty.int (rows.getD j [])) s35 a39 (.tmp 15) := kpL hs11 (by decide) rfl q251
          have q265 : At (Ty.lstc 3 patC ps) s35 a39 (.tmp 65) := kpL hs11 (by decide) rfl q252
          have q266 : At (Ty.nat (List.length ps)) s35 a39 (.tmp 66) := kpL hs11 (by decide) rfl q253
          have q267 : At (Ty.val x4) s35 a39 (.tmp 18) := kpL hs11 (by decide) rfl q255
          have q268 : At (Ty.nat k) s35 a39 (.tmp 17) := kpL hs11 (by decide) rfl q256
          have o44 := Own.keepL o41 hs11 (by decide) (by decide)
          have o43 : OwnP s35 21 x4 [(Ty.lst Ty.int ((ps.getD k ([], [], false))).1), (Ty.lst Ty.int ((ps.getD k ([], [], false))).2.1), (Ty.bool ((ps.getD k ([], [], false))).2.2)] := r11
          clear r11
          refine wpList_nil ?_
          refine tn ?_
          refine wp_seq ?_
          refine reg (a := a39) (σ := s35) rfl (fun i_ => List.getD [(Ty.pr (Ty.agg [(Ty.lst Ty.int ((ps.getD k ([], [], false))).1), (Ty.lst Ty.int ((ps.getD k ([], [], false))).2.1), (Ty.bool ((ps.getD k ([], [], false))).2.2)])), (Ty.pr (Ty.lst Ty.int (rows.getD j []))), (Ty.pr (Ty.bool (likeB (((ps.getD k ([], [], false))).1) (((ps.getD k ([], [], false))).2.1) ((rows.getD j [])))))] i_ Pr.any) ok36 rfl ⟨?_, ?_, ?_, trivial⟩ ?_
          · intro ax tx hs okx sm
            exact run_plain rfl (ownp_loadagg Try.underlying148 Try.inf148 (OwnP.k0 o43 hs) (kp (sm 18 rfl) hs q267))
          · intro ax tx hs okx sm
            exact run_plain rfl (y_move (kp (sm 15 rfl) hs q264))
          · intro ax tx hs okx sm d0 d1
            have e0 : At (Ty.agg [(Ty.lst Ty.int ((ps.getD k ([], [], false))).1), (Ty.lst Ty.int ((ps.getD k ([], [], false))).2.1), (Ty.bool ((ps.getD k ([], [], false))).2.2)]) tx ax (.tmp 72) := d0 rfl
            have e1 : At (Ty.lst Ty.int (rows.getD j [])) tx ax (.tmp 73) := d1 rfl
            exact run_plain rfl (y_call #[ax.eval (.tmp 72), ax.eval (.tmp 73)] Try.func89 rfl rfl (by simp only [List.map_toArray, List.map_cons, List.map_nil]) (fits_fn (((ps.getD k ([], [], false))).1) (((ps.getD k ([], [], false))).2.1) (((ps.getD k ([], [], false))).2.2) ((rows.getD j [])) _ _ _ e0 e1 (by omega) (by omega)))
          intro a40 s36 D25
          have ok37 := D25.ok
          have F40 := F39.step0 D25.stp
          have q270 : At (Ty.nat k) s36 a40 (.tmp 67) := D25.kt q257 rfl
          have q271 : At (Ty.val x13_2) s36 a40 (.tmp 13) := D25.kt q258 rfl
          have q272 : At (Ty.nat j) s36 a40 (.tmp 52) := D25.kt q259 rfl
          have q273 : At (Ty.lstc 3 patC ps) s36 a40 (.tmp 8) := D25.kt q260 rfl
          have q274 : At (Ty.int n) s36 a40 (.tmp 0) := D25.kt q261 rfl
          have q275 : At (Ty.lst Ty.ints rows) s36 a40 (.tmp 50) := D25.kt q262 rfl
          have q276 : At (Ty.nat (List.length rows)) s36 a40 (.tmp 51) := D25.kt q263 rfl
          have q277 : At (Ty.lst Ty.int (rows.getD j [])) s36 a40 (.tmp 15) := D25.kt q264 rfl
          have q278 : At (Ty.lstc 3 patC ps) s36 a40 (.tmp 65) := D25.kt q265 rfl
          have q279 : At (Ty.nat (List.length ps)) s36 a40 (.tmp 66) := D25.kt q266 rfl
          have q280 : At (Ty.nat k) s36 a40 (.tmp 17) := D25.kt q268 rfl
          have o45 := Own.k0 o44 D25.stp
          have o46 := OwnP.k0 o43 D25.stp
          have q281 : At (Ty.bool (likeB (((ps.getD k ([], [], false))).1) (((ps.getD k ([], [], false))).2.1) ((rows.getD j [])))) s36 a40 (.tmp 74) := D25.done 2
          clear D25
          refine tn ?_
          refine cond_t q281 (fun c8 => ?_) (fun c8 => ?_)
          ·
           have hlt : likeT (ts.getD k ByteArray.empty) (rows.getD j []) = true := (by unfold likeT; rw [← hk1, ← hk2]; exact c8)
           refine reg2 (a := a40) (σ := s36) rfl 6 (fun i_ => List.getD [(Ty.pr (Ty.val x13_2)), (Ty.pr (Ty.nat k)), (Ty.pr (Ty.val (cellPtr x13_2 k))), (Ty.pr (Ty.int ((musT ts rows j k).getD k 0))), (Ty.pr (Ty.int (((musT ts rows j k).getD k 0) + (1 : Int)))), (Ty.pr (Ty.val (cellPtr x13_2 k)))] i_ Pr.any) ok37 rfl (by decide) rfl ⟨?_, ?_, ?_, ?_, ?_, ?_, trivial⟩ ?_
           · intro ax tx hs okx sm
             exact run_plain rfl (y_move (kp (sm 13 rfl) hs q271))
           · intro ax tx hs okx sm
             exact run_plain rfl (y_move (kp (sm 17 rfl) hs q280))
           · intro ax tx hs okx sm d0 d1
             have e0 : At (Ty.val x13_2) tx ax (.tmp 75) := d0 rfl
             have e1 : At (Ty.nat k) tx ax (.tmp 76) := d1 rfl
             exact run_plain rfl (own_index1 (i := ((k : Nat) : Int)) Try.underlying34 Try.inf3 (Own.k0 o45 hs) e0 e1 (by omega) (by omega))
           · intro ax tx hs okx sm d0
             have e2 : At (Ty.val (cellPtr x13_2 k)) tx ax (.tmp 77) := d0 rfl
             exact run_plain rfl (own_load Try.underlying3 rfl (Own.k0 o45 hs) e2 (lst_get Ty.int (musT ts rows j k) 0 k (by omega)))
           · intro ax tx hs okx sm d0
             have e3 : At (Ty.int ((musT ts rows j k).getD k 0)) tx ax (.tmp 78) := d0 rfl
             exact run_plain rfl (y_add e3 rfl (w64 (by omega) (by omega)))
           · intro ax tx hs okx sm d0 d1 d2 d3 d4 d5 d6
             have e0 : At (Ty.val x13_2) tx ax (.tmp 75) := d0 rfl
             have e1 : At (Ty.nat k) tx ax (.tmp 76) := d1 rfl
             have e2 : At (Ty.val (cellPtr x13_2 k)) tx ax (.tmp 77) := d4 rfl
             have e3 : At (Ty.int ((musT ts rows j k).getD k 0)) tx ax (.tmp 78) := d5 rfl
             have e4 : At (Ty.int (((musT ts rows j k).getD k 0) + (1 : Int))) tx ax (.tmp 79) := d6 rfl
             exact run_plain rfl (own_index1 (i := ((k : Nat) : Int)) Try.underlying34 Try.inf3 (Own.k0 o45 hs) e0 e1 (by omega) (by omega))
           intro a41 s37 D26
           have ok38 := D26.ok
           have F41 := F40.step0 D26.stp
           have q282 : At (Ty.nat k) s37 a41 (.tmp 67) := D26.kt q270 rfl
           have q283 : At (Ty.val x13_2) s37 a41 (.tmp 13) := D26.kt q271 rfl
           have q284 : At (Ty.nat j) s37 a41 (.tmp 52) := D26.kt q272 rfl
           have q285 : At (Ty.lstc 3 patC ps) s37 a41 (.tmp 8) := D26.kt q273 rfl
           have q286 : At (Ty.int n) s37 a41 (.tmp 0) := D26.kt q274 rfl
           have q287 : At (Ty.lst Ty.ints rows) s37 a41 (.tmp 50) := D26.kt q275 rfl
           have q288 : At (Ty.nat (List.length rows)) s37 a41 (.tmp 51) := D26.kt q276 rfl
           have q289 : At (Ty.lst Ty.int (rows.getD j [])) s37 a41 (.tmp 15) := D26.kt q277 rfl
           have q290 : At (Ty.lstc 3 patC ps) s37 a41 (.tmp 65) := D26.kt q278 rfl
           have q291 : At (Ty.nat (List.length ps)) s37 a41 (.tmp 66) := D26.kt q279 rfl
           have o47 := Own.k0 o45 D26.stp
           have q292 : At (Ty.int (((musT ts rows j k).getD k 0) + (1 : Int))) s37 a41 (.tmp 79) := D26.done 4 (by decide)
           have q293 : At (Ty.val (cellPtr x13_2 k)) s37 a41 (.tmp 80) := D26.done 5 (by decide)
           clear D26
           refine tailL0 (L := [11]) (R := (fun _ τ => Own τ 11 3 1 x13_2 (List.length (musT ts rows j k)) ((List.map Ty.int (musT ts rows j k)).set k (Ty.int (((musT ts rows j k).getD k 0) + (1 : Int)))))) rfl rfl (YldM.toL (m_store Try.inf3 (by decide) o47 q293 (by simp only [List.length_map, List.length_set]; omega) q292 (one_val rfl))) (fun v3 s38 hs12 r12 => ?_)
           have F42 := F41.stepL hs12 (by decide)
           have q294 : At (Ty.nat k) s38 a41 (.tmp 67) := kpL hs12 (by decide) rfl q282
           have q295 : At (Ty.val x13_2) s38 a41 (.tmp 13) := kpL hs12 (by decide) rfl q283
           have q296 : At (Ty.nat j) s38 a41 (.tmp 52) := kpL hs12 (by decide) rfl q284
           have q297 : At (Ty.lstc 3 patC ps) s38 a41 (.tmp 8) := kpL hs12 (by decide) rfl q285
           have q298 : At (Ty.int n) s38 a41 (.tmp 0) := kpL hs12 (by decide) rfl q286
           have q299 : At (Ty.lst Ty.ints rows) s38 a41 (.tmp 50) := kpL hs12 (by decide) rfl q287
           have q300 : At (Ty.nat (List.length rows)) s38 a41 (.tmp 51) := kpL hs12 (by decide) rfl q288
           have q301 : At (Ty.lst Ty.int (rows.getD j [])) s38 a41 (.tmp 15) := kpL hs12 (by decide) rfl q289
           have q302 : At (Ty.lstc 3 patC ps) s38 a41 (.tmp 65) := kpL hs12 (by decide) rfl q290
           have q303 : At (Ty.nat (List.length ps)) s38 a41 (.tmp 66) := kpL hs12 (by decide) rfl q291
           have o48 : Own s38 11 3 1 x13_2 (List.length ((musT ts rows j k).set k (((musT ts rows j k).getD k 0) + (1 : Int)))) (List.map Ty.int ((musT ts rows j k).set k (((musT ts rows j k).getD k 0) + (1 : Int)))) := (cvo (by simp) (by simp) r12)
           clear r12
           refine wpList_nil ?_
           refine bn ?_
           refine tn ?_
           refine reg (a := a41) (σ := s38) rfl (fun i_ => List.getD [(Ty.pr (Ty.nat (k + 1))), (Ty.pr (Ty.nat (k + 1)))] i_ Pr.any) ok38 rfl ⟨?_, ?_, trivial⟩ ?_
           · intro ax tx hs okx sm
             exact run_plain rfl ((y_add (kp (sm 67 rfl) hs q294) rfl (w64 (by omega) (by omega))).mono (fun τ _ h => cvi (σ := τ) (by first | omega | exact (Int.natCast_mul _ _).symm) h))
           · intro ax tx hs okx sm d0
             have e0 : At (Ty.nat (k + 1)) tx ax (.tmp 81) := d0 rfl
             exact run_plain rfl (y_move e0)
           intro a42 s39 D27
           have ok39 := D27.ok
           have F43 := F42.step0 D27.stp
           have q305 : At (Ty.val x13_2) s39 a42 (.tmp 13) := D27.kt q295 rfl
           have q306 : At (Ty.nat j) s39 a42 (.tmp 52) := D27.kt q296 rfl
           have q307 : At (Ty.lstc 3 patC ps) s39 a42 (.tmp 8) := D27.kt q297 rfl
           have q308 : At (Ty.int n) s39 a42 (.tmp 0) := D27.kt q298 rfl
           have q309 : At (Ty.lst Ty.ints rows) s39 a42 (.tmp 50) := D27.kt q299 rfl
           have q310 : At (Ty.nat (List.length rows)) s39 a42 (.tmp 51) := D27.kt q300 rfl
           have q311 : At (Ty.lst Ty.int (rows.getD j [])) s39 a42 (.tmp 15) := D27.kt q301 rfl
           have q312 : At (Ty.lstc 3 patC ps) s39 a42 (.tmp 65) := D27.kt q302 rfl
           have q313 : At (Ty.nat (List.length ps)) s39 a42 (.tmp 66) := D27.kt q303 rfl
           have o49 := Own.k0 o48 D27.stp
           have q314 : At (Ty.nat (k + 1)) s39 a42 (.tmp 67) := D27.done 1
           clear D27
           exact tn ⟨ps.length - ((k+1)), by omega, s39, (k+1), x13_2, rfl, F43, ok39, (cvi (by (first | rfl | omega | (simp_all; done) | (simp_all; omega))) q314), q305, q306, q307, q308, q309, q310, q311, q312, q313, (cvo (by (first | rw [← musT_yes hkt hjr hlt] | (rw [← musT_yes hkt hjr hlt]; simp))) (by (first | rw [← musT_yes hkt hjr hlt] | (rw [← musT_yes hkt hjr hlt]; simp))) o49), by omega, rfl⟩
          ·
           have hlt : likeT (ts.getD k ByteArray.empty) (rows.getD j []) = false := (by unfold likeT; rw [← hk1, ← hk2]; exact c8)
           refine wp_skip ?_
           refine bn ?_
           refine tn ?_
           refine reg (a := a40) (σ := s36) rfl (fun i_ => List.getD [(Ty.pr (Ty.nat (k + 1))), (Ty.pr (Ty.nat (k + 1)))] i_ Pr.any) ok37 rfl ⟨?_, ?_, trivial⟩ ?_
           · intro ax tx hs okx sm
             exact run_plain rfl ((y_add (kp (sm 67 rfl) hs q270) rfl (w64 (by omega) (by omega))).mono (fun τ _ h => cvi (σ := τ) (by first | omega | exact (Int.natCast_mul _ _).symm) h))
           · intro ax tx hs okx sm d0
             have e0 : At (Ty.nat (k + 1)) tx ax (.tmp 81) := d0 rfl
             exact run_plain rfl (y_move e0)
           intro a43 s40 D28
           have ok40 := D28.ok
           have F44 := F40.step0 D28.stp
           have q315 : At (Ty.val x13_2) s40 a43 (.tmp 13) := D28.kt q271 rfl
           have q316 : At (Ty.nat j) s40 a43 (.tmp 52) := D28.kt q272 rfl
           have q317 : At (Ty.lstc 3 patC ps) s40 a43 (.tmp 8) := D28.kt q273 rfl
           have q318 : At (Ty.int n) s40 a43 (.tmp 0) := D28.kt q274 rfl
           have q319 : At (Ty.lst Ty.ints rows) s40 a43 (.tmp 50) := D28.kt q275 rfl
           have q320 : At (Ty.nat (List.length rows)) s40 a43 (.tmp 51) := D28.kt q276 rfl
           have q321 : At (Ty.lst Ty.int (rows.getD j [])) s40 a43 (.tmp 15) := D28.kt q277 rfl
           have q322 : At (Ty.lstc 3 patC ps) s40 a43 (.tmp 65) := D28.kt q278 rfl
           have q323 : At (Ty.nat (List.length ps)) s40 a43 (.tmp 66) := D28.kt q279 rfl
           have o50 := Own.k0 o45 D28.stp
           have q324 : At (Ty.nat (k + 1)) s40 a43 (.tmp 67) := D28.done 1
           clear D28
           exact tn ⟨ps.length - ((k+1)), by omega, s40, (k+1), x13_2, rfl, F44, ok40, (cvi (by (first | rfl | omega | (simp_all; done) | (simp_all; omega))) q324), q315, q316, q317, q318, q319, q320, q321, q322, q323, (cvo (by (rw [← musT_no hkt hjr hlt])) (by (rw [← musT_no hkt hjr hlt])) o50), by omega, rfl⟩
         ·
          have hie : k = ts.length := (by omega)
          refine wp_exit ?_
          refine tx ?_
          refine tx ?_
          refine bx ?_
          refine bn ?_
          refine tn ?_
          refine reg (a := a38) (σ := s33) rfl (fun i_ => List.getD [(Ty.pr (Ty.nat (j + 1))), (Ty.pr (Ty.nat (j + 1)))] i_ Pr.any) ok35 rfl ⟨?_, ?_, trivial⟩ ?_
          · intro ax tx hs okx sm
            exact run_plain rfl ((y_add (kp (sm 52 rfl) hs q235) rfl (w64 (by omega) (by omega))).mono (fun τ _ h => cvi (σ := τ) (by first | omega | exact (Int.natCast_mul _ _).symm) h))
          · intro ax tx hs okx sm d0
            have e0 : At (Ty.nat (j + 1)) tx ax (.tmp 82) := d0 rfl
            exact run_plain rfl (y_move e0)
          intro a44 s41 D29
          have ok41 := D29.ok
          have F45 := F37.step0 D29.stp
          have q325 : At (Ty.val x13_2) s41 a44 (.tmp 13) := D29.kt q234 rfl
          have q326 : At (Ty.lstc 3 patC ps) s41 a44 (.tmp 8) := D29.kt q236 rfl
          have q327 : At (Ty.int n) s41 a44 (.tmp 0) := D29.kt q237 rfl
          have q328 : At (Ty.lst Ty.ints rows) s41 a44 (.tmp 50) := D29.kt q238 rfl
          have q329 : At (Ty.nat (List.length rows)) s41 a44 (.tmp 51) := D29.kt q239 rfl
          have o51 := Own.k0 o40 D29.stp
          have q330 : At (Ty.nat (j + 1)) s41 a44 (.tmp 52) := D29.done 1
          clear D29
          exact tn ⟨rows.length - ((j+1)), by omega, s41, (j+1), x13_2, rfl, F45, ok41, (cvi (by (first | rfl | omega | (simp_all; done) | (simp_all; omega))) q330), q325, q326, q327, q328, q329, (cvo (by (rw [← musT_next, ← hie])) (by (rw [← musT_next, ← hie])) o51), by omega, rows_go hr c5 c6, rfl⟩
     ·
      rw [List.drop_eq_nil_of_le (by omega)] at hr; have hr0 : rowsMay n rows = 0 := hr.symm; have hm : musMay n ts rows = 0 := (by rw [mus_rows hlim ht0, hr0]); have hje : j = rows.length := (by omega)
      refine wp_exit ?_
      refine tx ?_
      refine tx ?_
      refine bx ?_
      refine tn ?_
      refine wp_seq ?_
      refine reg (a := a28) (σ := s25) rfl (fun i_ => List.getD [(Ty.pr (Ty.val x13_1)), (Ty.pr (Ty.val x13_1)), (Ty.pr (Ty.int (0 : Int)))] i_ Pr.any) ok26 rfl ⟨?_, ?_, ?_, trivial⟩ ?_
      · intro ax tx hs okx sm
        exact run_plain rfl (y_move (kp (sm 13 rfl) hs q171))
      · intro ax tx hs okx sm d0 d1
        have e0 : At (Ty.val x13_1) tx ax (.tmp 83) := d0 rfl
        exact run_plain rfl (y_assign e0)
      · intro ax tx hs okx sm d0 d1 d2
        have e1 : At (Ty.val x13_1) tx ax (.tmp 6) := d0 rfl
        have e0 : At (Ty.val x13_1) tx ax (.tmp 83) := d1 rfl
        exact run_plain rfl (y_assign rfl)
      intro a45 s42 D30
      have ok42 := D30.ok
      have F46 := F28.step0 D30.stp
      have o52 := Own.k0 o31 D30.stp
      have q331 : At (Ty.val x13_1) s42 a45 (.tmp 6) := D30.done 1
      have q332 : At (Ty.int (0 : Int)) s42 a45 (.tmp 7) := D30.done 2
      clear D30
      refine tn ?_
      refine wp_ret ?_
      obtain ⟨t9, e2, h2, q333⟩ := Own.seal o52 (by decide)
      rw [← e2]
      have F47 := F46.step h2 (by decide)
      have q334 : At (Ty.lst Ty.int (musT ts rows j 0)) t9 a45 (.tmp 6) := by have e : a45.eval (.tmp 6) = x13_1 := q331; show Ty.has _ _ _; rw [e]; exact q333
      have q335 := Ty.up (Ty.int (0 : Int)) (h2.le (by decide)) q332
      exact retL2 rfl ok42 F47 (hasT2 (cvt (by (rw [if_pos hm, hje, musT_all])) q334) (cvi (by (exact hm.symm)) q335))


set_option maxHeartbeats 4000000 in
set_option maxRecDepth 100000 in
theorem rRuneAt_fn (s : ByteArray) (σ : GW)  (v0 : Value) (hv0 : Ty.has (Ty.val (Value.string s)) σ v0)  (hs : 1 ≤ s.size) :
    FnC Try.prog 116 #[v0] σ (Ty.tup2 (Ty.int (runM s 0)) (Ty.nat (wid s 0))) := by
 have hb256 := UInt8.toNat_lt (s.get! 0)
 have hb257 := UInt8.toNat_lt (s.get! ((0 : Int)).toNat)
 have hnb := nb_bd ((s.get! 0).toNat)
 refine fn_intro0 Try.func116 rfl Try.ntmps116 (Nat.le_of_ble_eq_true rfl) (fun s0 a0 hle F0 ok0 hargs => ?_)
 have p0 : At (Ty.val (Value.string s)) s0 a0 (.tmp 0) := by have e := hargs 0 _ rfl; show Ty.has _ _ _; rw [e]; exact Ty.up _ hle hv0
 clear hargs
 refine wp_seq ?_
 refine reg (a := a0) (σ := s0) rfl (fun i_ => List.getD [(Ty.pr (Ty.int (0 : Int))), (Ty.pr (Ty.int (0 : Int)))] i_ Pr.any) ok0 rfl ⟨?_, ?_, trivial⟩ ?_
 · intro ax tx hs okx sm
   exact run_plain rfl (y_assign rfl)
 · intro ax tx hs okx sm d0
   have e0 : At (Ty.int (0 : Int)) tx ax (.tmp 2) := d0 rfl
   exact run_plain rfl (y_assign rfl)
 intro a1 s1 D1
 have ok1 := D1.ok
 have F1 := F0.step0 D1.stp
 have q1 : At (Ty.val (Value.string s)) s1 a1 (.tmp 0) := D1.kt p0 rfl
 clear D1
 refine tn ?_
 refine wp_seq ?_
 refine reg (a := a1) (σ := s1) rfl (fun i_ => List.getD [(Ty.pr (Ty.val (Value.string s))), (Ty.pr (Ty.val (Value.int .u8 (((s.get! ((0 : Int)).toNat).toNat : Nat) : Int)))), (Ty.pr (Ty.nat (s.get! ((0 : Int)).toNat).toNat)), (Ty.pr (Ty.nat (s.get! ((0 : Int)).toNat).toNat))] i_ Pr.any) ok1 rfl ⟨?_, ?_, ?_, ?_, trivial⟩ ?_
 · intro ax tx hs okx sm
   exact run_plain rfl (y_move (kp (sm 0 rfl) hs q1))
 · intro ax tx hs okx sm d0
   have e0 : At (Ty.val (Value.string s)) tx ax (.tmp 8) := d0 rfl
   exact run_plain rfl (y_sindex Try.underlying9 e0 rfl (by omega) (by omega))
 · intro ax tx hs okx sm d0
   have e1 : At (Ty.val (Value.int .u8 (((s.get! ((0 : Int)).toNat).toNat : Nat) : Int))) tx ax (.tmp 9) := d0 rfl
   exact run_plain rfl (y_conv Try.underlying3 e1 (by exact w64 (by omega) (by omega)) (by rw [Try.underlying5]; rfl))
 · intro ax tx hs okx sm d0 d1 d2 d3
   have e2 : At (Ty.nat (s.get! ((0 : Int)).toNat).toNat) tx ax (.tmp 10) := d0 rfl
   have e0 : At (Ty.val (Value.string s)) tx ax (.tmp 8) := d1 rfl
   have e1 : At (Ty.val (Value.int .u8 (((s.get! ((0 : Int)).toNat).toNat : Nat) : Int))) tx ax (.tmp 9) := d2 rfl
   exact run_plain rfl (y_assign e2)
 intro a2 s2 D2
 have ok2 := D2.ok
 have F2 := F1.step0 D2.stp
 have q2 : At (Ty.val (Value.string s)) s2 a2 (.tmp 0) := D2.kt q1 rfl
 have q3 : At (Ty.nat (s.get! ((0 : Int)).toNat).toNat) s2 a2 (.tmp 4) := D2.done 3
 clear D2
 have q4 : At (Ty.nat ((s.get! 0).toNat)) s2 a2 (.tmp 4) := (cvi (by (rfl)) q3)
 refine tn ?_
 refine wp_seq ?_
 refine wp_seq ?_
 refine reg (a := a2) (σ := s2) rfl (fun i_ => List.getD [(Ty.pr (Ty.nat ((s.get! 0).toNat))), (Ty.pr (Ty.bool (decide (((((s.get! 0).toNat) : Nat) : Int) < (128 : Int)))))] i_ Pr.any) ok2 rfl ⟨?_, ?_, trivial⟩ ?_
 · intro ax tx hs okx sm
   exact run_plain rfl (y_move (kp (sm 4 rfl) hs q4))
 · intro ax tx hs okx sm d0
   have e0 : At (Ty.nat ((s.get! 0).toNat)) tx ax (.tmp 11) := d0 rfl
   exact run_plain rfl (y_lss e0 rfl)
 intro a3 s3 D3
 have ok3 := D3.ok
 have F3 := F2.step0 D3.stp
 have q5 : At (Ty.val (Value.string s)) s3 a3 (.tmp 0) := D3.kt q2 rfl
 have q6 : At (Ty.nat ((s.get! 0).toNat)) s3 a3 (.tmp 4) := D3.kt q4 rfl
 have q7 : At (Ty.bool (decide (((((s.get! 0).toNat) : Nat) : Int) < (128 : Int)))) s3 a3 (.tmp 12) := D3.done 1
 clear D3
 refine tn ?_
 refine cond_p (p := (((((s.get! 0).toNat) : Nat) : Int) < (128 : Int))) q7 (fun c1 => ?_) (fun c1 => ?_)
 ·
  refine wp_seq ?_
  refine reg (a := a3) (σ := s3) rfl (fun i_ => List.getD [(Ty.pr (Ty.nat ((s.get! 0).toNat))), (Ty.pr (Ty.nat ((s.get! 0).toNat))), (Ty.pr (Ty.int (1 : Int)))] i_ Pr.any) ok3 rfl ⟨?_, ?_, ?_, trivial⟩ ?_
  · intro ax tx hs okx sm
    exact run_plain rfl (y_move (kp (sm 4 rfl) hs q6))
  · intro ax tx hs okx sm d0 d1
    have e0 : At (Ty.nat ((s.get! 0).toNat)) tx ax (.tmp 13) := d0 rfl
    exact run_plain rfl (y_assign e0)
  · intro ax tx hs okx sm d0 d1 d2
    have e1 : At (Ty.nat ((s.get! 0).toNat)) tx ax (.tmp 2) := d0 rfl
    have e0 : At (Ty.nat ((s.get! 0).toNat)) tx ax (.tmp 13) := d1 rfl
    exact run_plain rfl (y_assign rfl)
  intro a4 s4 D4
  have ok4 := D4.ok
  have F4 := F3.step0 D4.stp
  have q8 : At (Ty.nat ((s.get! 0).toNat)) s4 a4 (.tmp 2) := D4.done 1
  have q9 : At (Ty.int (1 : Int)) s4 a4 (.tmp 3) := D4.done 2
  clear D4
  refine tn ?_
  refine wp_ret ?_
  refine tr ?_
  exact retL2 rfl ok4 F4 (hasT2 (cvi (by (exact (rn_low (by omega)).1.symm)) q8) (cvi (by (have := (rn_low (s := s) (by omega)).2; omega)) q9))
 ·
  refine wp_skip ?_
  refine tn ?_
  refine wp_seq ?_
  refine reg (a := a3) (σ := s3) rfl (fun i_ => List.getD [(Ty.pr (Ty.int (0 : Int)))] i_ Pr.any) ok3 rfl ⟨?_, trivial⟩ ?_
  · intro ax tx hs okx sm
    exact run_plain rfl (y_assign rfl)
  intro a5 s5 D5
  have ok5 := D5.ok
  have F5 := F3.step0 D5.stp
  have q10 : At (Ty.val (Value.string s)) s5 a5 (.tmp 0) := D5.kt q5 rfl
  have q11 : At (Ty.nat ((s.get! 0).toNat)) s5 a5 (.tmp 4) := D5.kt q6 rfl
  have q12 : At (Ty.int (0 : Int)) s5 a5 (.tmp 5) := D5.done 0
  clear D5
  refine tn ?_
  refine wp_seq ?_
  refine reg (a := a5) (σ := s5) rfl (fun i_ => List.getD [(Ty.pr (Ty.int (0 : Int)))] i_ Pr.any) ok5 rfl ⟨?_, trivial⟩ ?_
  · intro ax tx hs okx sm
    exact run_plain rfl (y_assign rfl)
  intro a6 s6 D6
  have ok6 := D6.ok
  have F6 := F5.step0 D6.stp
  have q13 : At (Ty.val (Value.string s)) s6 a6 (.tmp 0) := D6.kt q10 rfl
  have q14 : At (Ty.nat ((s.get! 0).toNat)) s6 a6 (.tmp 4) := D6.kt q11 rfl
  have q15 : At (Ty.int (0 : Int)) s6 a6 (.tmp 5) := D6.kt q12 rfl
  have q16 : At (Ty.int (0 : Int)) s6 a6 (.tmp 6) := D6.done 0
  clear D6
  refine tn ?_
  refine wp_seq ?_
  refine wp_seq ?_
  refine reg (a := a6) (σ := s6) rfl (fun i_ => List.getD [(Ty.pr (Ty.nat ((s.get! 0).toNat))), (Ty.pr (Ty.bool (decide ((194 : Int) ≤ ((((s.get! 0).toNat) : Nat) : Int))))), (Ty.pr (Ty.bool (decide ((194 : Int) ≤ ((((s.get! 0).toNat) : Nat) : Int))))), (Ty.pr (Ty.grd ((decide ((194 : Int) ≤ ((((s.get! 0).toNat) : Nat) : Int))) = true) (Ty.nat ((s.get! 0).toNat)))), (Ty.pr (Ty.grd ((decide ((194 : Int) ≤ ((((s.get! 0).toNat) : Nat) : Int))) = true) (Ty.bool (decide (((((s.get! 0).toNat) : Nat) : Int) < (224 : Int)))))), (Ty.pr (Ty.bool ((decide ((194 : Int) ≤ ((((s.get! 0).toNat) : Nat) : Int))) && (decide (((((s.get! 0).toNat) : Nat) : Int) < (224 : Int))))))] i_ Pr.any) ok6 rfl ⟨?_, ?_, ?_, ?_, ?_, ?_, trivial⟩ ?_
  · intro ax tx hs okx sm
    exact run_plain rfl (y_move (kp (sm 4 rfl) hs q14))
  · intro ax tx hs okx sm d0
    have e0 : At (Ty.nat ((s.get! 0).toNat)) tx ax (.tmp 14) := d0 rfl
    exact run_plain rfl (y_geq e0 rfl)
  · intro ax tx hs okx sm d0
    have e1 : At (Ty.bool (decide ((194 : Int) ≤ ((((s.get! 0).toNat) : Nat) : Int)))) tx ax (.tmp 15) := d0 rfl
    exact run_plain rfl (y_move e1)
  · intro ax tx hs okx sm d0
    have e2 : At (Ty.bool (decide ((194 : Int) ≤ ((((s.get! 0).toNat) : Nat) : Int)))) tx ax (.tmp 16) := d0 rfl
    refine run_guard (T := (Ty.nat ((s.get! 0).toNat))) okx rfl rfl (by decide) e2 (fun hg => ?_)
    have hp := of_decide_eq_true hg
    exact y_move (kp (sm 4 rfl) hs q14)
  · intro ax tx hs okx sm d0 d1
    have e3 : At (Ty.grd ((decide ((194 : Int) ≤ ((((s.get! 0).toNat) : Nat) : Int))) = true) (Ty.nat ((s.get! 0).toNat))) tx ax (.tmp 17) := d0 rfl
    have e2 : At (Ty.bool (decide ((194 : Int) ≤ ((((s.get! 0).toNat) : Nat) : Int)))) tx ax (.tmp 16) := d1 rfl
    refine run_guard (T := (Ty.bool (decide (((((s.get! 0).toNat) : Nat) : Int) < (224 : Int))))) okx rfl rfl (by decide) e2 (fun hg => ?_)
    have hp := of_decide_eq_true hg
    exact y_lss (e3.1 hg) rfl
  · intro ax tx hs okx sm d0 d1
    have e2 : At (Ty.bool (decide ((194 : Int) ≤ ((((s.get! 0).toNat) : Nat) : Int)))) tx ax (.tmp 16) := d0 rfl
    have e4 : At (Ty.grd ((decide ((194 : Int) ≤ ((((s.get! 0).toNat) : Nat) : Int))) = true) (Ty.bool (decide (((((s.get! 0).toNat) : Nat) : Int) < (224 : Int))))) tx ax (.tmp 18) := d1 rfl
    exact run_plain rfl (y_pick_and e2 e4 rfl)
  intro a7 s7 D7
  have ok7 := D7.ok
  have F7 := F6.step0 D7.stp
  have q17 : At (Ty.val (Value.string s)) s7 a7 (.tmp 0) := D7.kt q13 rfl
  have q18 : At (Ty.nat ((s.get! 0).toNat)) s7 a7 (.tmp 4) := D7.kt q14 rfl
  have q19 : At (Ty.int (0 : Int)) s7 a7 (.tmp 5) := D7.kt q15 rfl
  have q20 : At (Ty.int (0 : Int)) s7 a7 (.tmp 6) := D7.kt q16 rfl
  have q21 : At (Ty.bool ((decide ((194 : Int) ≤ ((((s.get! 0).toNat) : Nat) : Int))) && (decide (((((s.get! 0).toNat) : Nat) : Int) < (224 : Int))))) s7 a7 (.tmp 19) := D7.done 5
  clear D7
  refine tn ?_
  refine Go.KL.join_then (Q' := fun a8 w1 => ∃ (t1 : GW), t1.w = w1 ∧ FromL [] s0 t1 ∧ Ok 86 a8 ∧ At (Ty.nat (nB ((s.get! 0).toNat))) t1 a8 (.tmp 5) ∧ At (Ty.nat (cB ((s.get! 0).toNat))) t1 a8 (.tmp 4) ∧ At (Ty.nat (lowB ((s.get! 0).toNat))) t1 a8 (.tmp 6) ∧ At (Ty.val (Value.string s)) t1 a8 (.tmp 0) ∧ True) ?_ ?_
  ·
   refine cond_t q21 (fun c2 => ?_) (fun c2 => ?_)
   ·
    obtain ⟨d1, d2⟩ := Bool.and_eq_true_iff.mp c2
    replace d1 := of_decide_eq_true d1
    replace d2 := of_decide_eq_true d2
    simp only [Bool.and_eq_true, decide_eq_true_eq] at c2; obtain ⟨n1, n2, n3⟩ := nb2 (b := ((s.get! 0).toNat)) (by omega)
    refine wp_seq ?_
    refine reg (a := a7) (σ := s7) rfl (fun i_ => List.getD [(Ty.pr (Ty.int (2 : Int)))] i_ Pr.any) ok7 rfl ⟨?_, trivial⟩ ?_
    · intro ax tx hs okx sm
      exact run_plain rfl (y_assign rfl)
    intro a9 s8 D8
    have ok8 := D8.ok
    have F8 := F7.step0 D8.stp
    have q22 : At (Ty.val (Value.string s)) s8 a9 (.tmp 0) := D8.kt q17 rfl
    have q23 : At (Ty.nat ((s.get! 0).toNat)) s8 a9 (.tmp 4) := D8.kt q18 rfl
    have q24 : At (Ty.int (2 : Int)) s8 a9 (.tmp 5) := D8.done 0
    clear D8
    refine tn ?_
    refine wp_seq ?_
    refine reg (a := a9) (σ := s8) rfl (fun i_ => List.getD [(Ty.pr (Ty.nat ((s.get! 0).toNat))), (Ty.pr (Ty.int (((((s.get! 0).toNat) : Nat) : Int) - (192 : Int)))), (Ty.pr (Ty.int (((((s.get! 0).toNat) : Nat) : Int) - (192 : Int))))] i_ Pr.any) ok8 rfl ⟨?_, ?_, ?_, trivial⟩ ?_
    · intro ax tx hs okx sm
      exact run_plain rfl (y_move (kp (sm 4 rfl) hs q23))
    · intro ax tx hs okx sm d0
      have e0 : At (Ty.nat ((s.get! 0).toNat)) tx ax (.tmp 20) := d0 rfl
      exact run_plain rfl (y_sub e0 rfl (w64 (by omega) (by omega)))
    · intro ax tx hs okx sm d0 d1 d2
      have e1 : At (Ty.int (((((s.get! 0).toNat) : Nat) : Int) - (192 : Int))) tx ax (.tmp 21) := d0 rfl
      have e0 : At (Ty.nat ((s.get! 0).toNat)) tx ax (.tmp 20) := d1 rfl
      exact run_plain rfl (y_assign e1)
    intro a10 s9 D9
    have ok9 := D9.ok
    have F9 := F8.step0 D9.stp
    have q25 : At (Ty.val (Value.string s)) s9 a10 (.tmp 0) := D9.kt q22 rfl
    have q26 : At (Ty.int (2 : Int)) s9 a10 (.tmp 5) := D9.kt q24 rfl
    have q27 : At (Ty.int (((((s.get! 0).toNat) : Nat) : Int) - (192 : Int))) s9 a10 (.tmp 4) := D9.done 2
    clear D9
    refine tn ?_
    refine reg (a := a10) (σ := s9) rfl (fun i_ => List.getD [(Ty.pr (Ty.int (128 : Int)))] i_ Pr.any) ok9 rfl ⟨?_, trivial⟩ ?_
    · intro ax tx hs okx sm
      exact run_plain rfl (y_assign rfl)
    intro a11 s10 D10
    have ok10 := D10.ok
    have F10 := F9.step0 D10.stp
    have q28 : At (Ty.val (Value.string s)) s10 a11 (.tmp 0) := D10.kt q25 rfl
    have q29 : At (Ty.int (2 : Int)) s10 a11 (.tmp 5) := D10.kt q26 rfl
    have q30 : At (Ty.int (((((s.get! 0).toNat) : Nat) : Int) - (192 : Int))) s10 a11 (.tmp 4) := D10.kt q27 rfl
    have q31 : At (Ty.int (128 : Int)) s10 a11 (.tmp 6) := D10.done 0
    clear D10
    exact tn ⟨s10, rfl, F10, ok10, (cvi (by (first | rfl | omega | (simp_all; done) | (simp_all; omega))) q29), (cvi (by (first | rfl | omega | (simp_all; done) | (simp_all; omega))) q30), (cvi (by (first | rfl | omega | (simp_all; done) | (simp_all; omega))) q31), q28, trivial⟩
   ·
    simp only [Bool.and_eq_false_iff, decide_eq_false_iff_not] at c2; have k1 : ¬ (194 ≤ ((s.get! 0).toNat) ∧ ((s.get! 0).toNat) < 224) := (by omega)
    refine wp_seq ?_
    refine reg (a := a7) (σ := s7) rfl (fun i_ => List.getD [(Ty.pr (Ty.nat ((s.get! 0).toNat))), (Ty.pr (Ty.bool (decide ((224 : Int) ≤ ((((s.get! 0).toNat) : Nat) : Int))))), (Ty.pr (Ty.bool (decide ((224 : Int) ≤ ((((s.get! 0).toNat) : Nat) : Int))))), (Ty.pr (Ty.grd ((decide ((224 : Int) ≤ ((((s.get! 0).toNat) : Nat) : Int))) = true) (Ty.nat ((s.get! 0).toNat)))), (Ty.pr (Ty.grd ((decide ((224 : Int) ≤ ((((s.get! 0).toNat) : Nat) : Int))) = true) (Ty.bool (decide (((((s.get! 0).toNat) : Nat) : Int) < (240 : Int)))))), (Ty.pr (Ty.bool ((decide ((224 : Int) ≤ ((((s.get! 0).toNat) : Nat) : Int))) && (decide (((((s.get! 0).toNat) : Nat) : Int) < (240 : Int))))))] i_ Pr.any) ok7 rfl ⟨?_, ?_, ?_, ?_, ?_, ?_, trivial⟩ ?_
    · intro ax tx hs okx sm
      exact run_plain rfl (y_move (kp (sm 4 rfl) hs q18))
    · intro ax tx hs okx sm d0
      have e0 : At (Ty.nat ((s.get! 0).toNat)) tx ax (.tmp 22) := d0 rfl
      exact run_plain rfl (y_geq e0 rfl)
    · intro ax tx hs okx sm d0
      have e1 : At (Ty.bool (decide ((224 : Int) ≤ ((((s.get! 0).toNat) : Nat) : Int)))) tx ax (.tmp 23) := d0 rfl
      exact run_plain rfl (y_move e1)
    · intro ax tx hs okx sm d0
      have e2 : At (Ty.bool (decide ((224 : Int) ≤ ((((s.get! 0).toNat) : Nat) : Int)))) tx ax (.tmp 24) := d0 rfl
      refine run_guard (T := (Ty.nat ((s.get! 0).toNat))) okx rfl rfl (by decide) e2 (fun hg => ?_)
      have hp := of_decide_eq_true hg
      exact y_move (kp (sm 4 rfl) hs q18)
    · intro ax tx hs okx sm d0 d1
      have e3 : At (Ty.grd ((decide ((224 : Int) ≤ ((((s.get! 0).toNat) : Nat) : Int))) = true) (Ty.nat ((s.get! 0).toNat))) tx ax (.tmp 25) := d0 rfl
      have e2 : At (Ty.bool (decide ((224 : Int) ≤ ((((s.get! 0).toNat) : Nat) : Int)))) tx ax (.tmp 24) := d1 rfl
      refine run_guard (T := (Ty.bool (decide (((((s.get! 0).toNat) : Nat) : Int) < (240 : Int))))) okx rfl rfl (by decide) e2 (fun hg => ?_)
      have hp := of_decide_eq_true hg
      exact y_lss (e3.1 hg) rfl
    · intro ax tx hs okx sm d0 d1
      have e2 : At (Ty.bool (decide ((224 : Int) ≤ ((((s.get! 0).toNat) : Nat) : Int)))) tx ax (.tmp 24) := d0 rfl
      have e4 : At (Ty.grd ((decide ((224 : Int) ≤ ((((s.get! 0).toNat) : Nat) : Int))) = true) (Ty.bool (decide (((((s.get! 0).toNat) : Nat) : Int) < (240 : Int))))) tx ax (.tmp 26) := d1 rfl
      exact run_plain rfl (y_pick_and e2 e4 rfl)
    intro a12 s11 D11
    have ok11 := D11.ok
    have F11 := F7.step0 D11.stp
    have q32 : At (Ty.val (Value.string s)) s11 a12 (.tmp 0) := D11.kt q17 rfl
    have q33 : At (Ty.nat ((s.get! 0).toNat)) s11 a12 (.tmp 4) := D11.kt q18 rfl
    have q34 : At (Ty.int (0 : Int)) s11 a12 (.tmp 5) := D11.kt q19 rfl
    have q35 : At (Ty.int (0 : Int)) s11 a12 (.tmp 6) := D11.kt q20 rfl
    have q36 : At (Ty.bool ((decide ((224 : Int) ≤ ((((s.get! 0).toNat) : Nat) : Int))) && (decide (((((s.get! 0).toNat) : Nat) : Int) < (240 : Int))))) s11 a12 (.tmp 27) := D11.done 5
    clear D11
    refine tn ?_
    refine cond_t q36 (fun c3 => ?_) (fun c3 => ?_)
    ·
     obtain ⟨d3, d4⟩ := Bool.and_eq_true_iff.mp c3
     replace d3 := of_decide_eq_true d3
     replace d4 := of_decide_eq_true d4
     simp only [Bool.and_eq_true, decide_eq_true_eq] at c3; obtain ⟨n1, n2, n3⟩ := nb3 (b := ((s.get! 0).toNat)) (by omega)
     refine wp_seq ?_
     refine reg (a := a12) (σ := s11) rfl (fun i_ => List.getD [(Ty.pr (Ty.int (3 : Int)))] i_ Pr.any) ok11 rfl ⟨?_, trivial⟩ ?_
     · intro ax tx hs okx sm
       exact run_plain rfl (y_assign rfl)
     intro a13 s12 D12
     have ok12 := D12.ok
     have F12 := F11.step0 D12.stp
     have q37 : At (Ty.val (Value.string s)) s12 a13 (.tmp 0) := D12.kt q32 rfl
     have q38 : At (Ty.nat ((s.get! 0).toNat)) s12 a13 (.tmp 4) := D12.kt q33 rfl
     have q39 : At (Ty.int (3 : Int)) s12 a13 (.tmp 5) := D12.done 0
     clear D12
     refine tn ?_
     refine wp_seq ?_
     refine reg (a := a13) (σ := s12) rfl (fun i_ => List.getD [(Ty.pr (Ty.nat ((s.get! 0).toNat))), (Ty.pr (Ty.int (((((s.get! 0).toNat) : Nat) : Int) - (224 : Int)))), (Ty.pr (Ty.int (((((s.get! 0).toNat) : Nat) : Int) - (224 : Int))))] i_ Pr.any) ok12 rfl ⟨?_, ?_, ?_, trivial⟩ ?_
     · intro ax tx hs okx sm
       exact run_plain rfl (y_move (kp (sm 4 rfl) hs q38))
     · intro ax tx hs okx sm d0
       have e0 : At (Ty.nat ((s.get! 0).toNat)) tx ax (.tmp 28) := d0 rfl
       exact run_plain rfl (y_sub e0 rfl (w64 (by omega) (by omega)))
     · intro ax tx hs okx sm d0 d1 d2
       have e1 : At (Ty.int (((((s.get! 0).toNat) : Nat) : Int) - (224 : Int))) tx ax (.tmp 29) := d0 rfl
       have e0 : At (Ty.nat ((s.get! 0).toNat)) tx ax (.tmp 28) := d1 rfl
       exact run_plain rfl (y_assign e1)
     intro a14 s13 D13
     have ok13 := D13.ok
     have F13 := F12.step0 D13.stp
     have q40 : At (Ty.val (Value.string s)) s13 a14 (.tmp 0) := D13.kt q37 rfl
     have q41 : At (Ty.int (3 : Int)) s13 a14 (.tmp 5) := D13.kt q39 rfl
     have q42 : At (Ty.int (((((s.get! 0).toNat) : Nat) : Int) - (224 : Int))) s13 a14 (.tmp 4) := D13.done 2
     clear D13
     refine tn ?_
     refine reg (a := a14) (σ := s13) rfl (fun i_ => List.getD [(Ty.pr (Ty.int (2048 : Int)))] i_ Pr.any) ok13 rfl ⟨?_, trivial⟩ ?_
     · intro ax tx hs okx sm
       exact run_plain rfl (y_assign rfl)
     intro a15 s14 D14
     have ok14 := D14.ok
     have F14 := F13.step0 D14.stp
     have q43 : At (Ty.val (Value.string s)) s14 a15 (.tmp 0) := D14.kt q40 rfl
     have q44 : At (Ty.int (3 : Int)) s14 a15 (.tmp 5) := D14.kt q41 rfl
     have q45 : At (Ty.int (((((s.get! 0).toNat) : Nat) : Int) - (224 : Int))) s14 a15 (.tmp 4) := D14.kt q42 rfl
     have q46 : At (Ty.int (2048 : Int)) s14 a15 (.tmp 6) := D14.done 0
     clear D14
     exact tn ⟨s14, rfl, F14, ok14, (cvi (by (first | rfl | omega | (simp_all; done) | (simp_all; omega))) q44), (cvi (by (first | rfl | omega | (simp_all; done) | (simp_all; omega))) q45), (cvi (by (first | rfl | omega | (simp_all; done) | (simp_all; omega))) q46), q43, trivial⟩
    ·
     simp only [Bool.and_eq_false_iff, decide_eq_false_iff_not] at c3; have k2 : ¬ (224 ≤ ((s.get! 0).toNat) ∧ ((s.get! 0).toNat) < 240) := (by omega)
     refine wp_seq ?_
     refine reg (a := a12) (σ := s11) rfl (fun i_ => List.getD [(Ty.pr (Ty.nat ((s.get! 0).toNat))), (Ty.pr (Ty.bool (decide ((240 : Int) ≤ ((((s.get! 0).toNat) : Nat) : Int))))), (Ty.pr (Ty.bool (decide ((240 : Int) ≤ ((((s.get! 0).toNat) : Nat) : Int))))), (Ty.pr (Ty.grd ((decide ((240 : Int) ≤ ((((s.get! 0).toNat) : Nat) : Int))) = true) (Ty.nat ((s.get! 0).toNat)))), (Ty.pr (Ty.grd ((decide ((240 : Int) ≤ ((((s.get! 0).toNat) : Nat) : Int))) = true) (Ty.bool (decide (((((s.get! 0).toNat) : Nat) : Int) < (245 : Int)))))), (Ty.pr (Ty.bool ((decide ((240 : Int) ≤ ((((s.get! 0).toNat) : Nat) : Int))) && (decide (((((s.get! 0).toNat) : Nat) : Int) < (245 : Int))))))] i_ Pr.any) ok11 rfl ⟨?_, ?_, ?_, ?_, ?_, ?_, trivial⟩ ?_
     · intro ax tx hs okx sm
       exact run_plain rfl (y_move (kp (sm 4 rfl) hs q33))
     · intro ax tx hs okx sm d0
       have e0 : At (Ty.nat ((s.get! 0).toNat)) tx ax (.tmp 30) := d0 rfl
       exact run_plain rfl (y_geq e0 rfl)
     · intro ax tx hs okx sm d0
       have e1 : At (Ty.bool (decide ((240 : Int) ≤ ((((s.get! 0).toNat) : Nat) : Int)))) tx ax (.tmp 31) := d0 rfl
       exact run_plain rfl (y_move e1)
     · intro ax tx hs okx sm d0
       have e2 : At (Ty.bool (decide ((240 : Int) ≤ ((((s.get! 0).toNat) : Nat) : Int)))) tx ax (.tmp 32) := d0 rfl
       refine run_guard (T := (Ty.nat ((s.get! 0).toNat))) okx rfl rfl (by decide) e2 (fun hg => ?_)
       have hp := of_decide_eq_true hg
       exact y_move (kp (sm 4 rfl) hs q33)
     · intro ax tx hs okx sm d0 d1
       have e3 : At (Ty.grd ((decide ((240 : Int) ≤ ((((s.get! 0).toNat) : Nat) : Int))) = true) (Ty.nat ((s.get! 0).toNat))) tx ax (.tmp 33) := d0 rfl
       have e2 : At (Ty.bool (decide ((240 : Int) ≤ ((((s.get! 0).toNat) : Nat) : Int)))) tx ax (.tmp 32) := d1 rfl
       refine run_guard (T := (Ty.bool (decide (((((s.get! 0).toNat) : Nat) : Int) < (245 : Int))))) okx rfl rfl (by decide) e2 (fun hg => ?_)
       have hp := of_decide_eq_true hg
       exact y_lss (e3.1 hg) rfl
     · intro ax tx hs okx sm d0 d1
       have e2 : At (Ty.bool (decide ((240 : Int) ≤ ((((s.get! 0).toNat) : Nat) : Int)))) tx ax (.tmp 32) := d0 rfl
       have e4 : At (Ty.grd ((decide ((240 : Int) ≤ ((((s.get! 0).toNat) : Nat) : Int))) = true) (Ty.bool (decide (((((s.get! 0).toNat) : Nat) : Int) < (245 : Int))))) tx ax (.tmp 34) := d1 rfl
       exact run_plain rfl (y_pick_and e2 e4 rfl)
     intro a16 s15 D15
     have ok15 := D15.ok
     have F15 := F11.step0 D15.stp
     have q47 : At (Ty.val (Value.string s)) s15 a16 (.tmp 0) := D15.kt q32 rfl
     have q48 : At (Ty.nat ((s.get! 0).toNat)) s15 a16 (.tmp 4) := D15.kt q33 rfl
     have q49 : At (Ty.int (0 : Int)) s15 a16 (.tmp 5) := D15.kt q34 rfl
     have q50 : At (Ty.int (0 : Int)) s15 a16 (.tmp 6) := D15.kt q35 rfl
     have q51 : At (Ty.bool ((decide ((240 : Int) ≤ ((((s.get! 0).toNat) : Nat) : Int))) && (decide (((((s.get! 0).toNat) : Nat) : Int) < (245 : Int))))) s15 a16 (.tmp 35) := D15.done 5
     clear D15
     refine tn ?_
     refine cond_t q51 (fun c4 => ?_) (fun c4 => ?_)
     ·
      obtain ⟨d5, d6⟩ := Bool.and_eq_true_iff.mp c4
      replace d5 := of_decide_eq_true d5
      replace d6 := of_decide_eq_true d6
      simp only [Bool.and_eq_true, decide_eq_true_eq] at c4; obtain ⟨n1, n2, n3⟩ := nb4 (b := ((s.get! 0).toNat)) (by omega)
      refine wp_seq ?_
      refine reg (a := a16) (σ := s15) rfl (fun i_ => List.getD [(Ty.pr (Ty.int (4 : Int)))] i_ Pr.any) ok15 rfl ⟨?_, trivial⟩ ?_
      · intro ax tx hs okx sm
        exact run_plain rfl (y_assign rfl)
      intro a17 s16 D16
      have ok16 := D16.ok
      have F16 := F15.step0 D16.stp
      have q52 : At (Ty.val (Value.string s)) s16 a17 (.tmp 0) := D16.kt q47 rfl
      have q53 : At (Ty.nat ((s.get! 0).toNat)) s16 a17 (.tmp 4) := D16.kt q48 rfl
      have q54 : At (Ty.int (4 : Int)) s16 a17 (.tmp 5) := D16.done 0
      clear D16
      refine tn ?_
      refine wp_seq ?_
      refine reg (a := a17) (σ := s16) rfl (fun i_ => List.getD [(Ty.pr (Ty.nat ((s.get! 0).toNat))), (Ty.pr (Ty.int (((((s.get! 0).toNat) : Nat) : Int) - (240 : Int)))), (Ty.pr (Ty.int (((((s.get! 0).toNat) : Nat) : Int) - (240 : Int))))] i_ Pr.any) ok16 rfl ⟨?_, ?_, ?_, trivial⟩ ?_
      · intro ax tx hs okx sm
        exact run_plain rfl (y_move (kp (sm 4 rfl) hs q53))
      · intro ax tx hs okx sm d0
        have e0 : At (Ty.nat ((s.get! 0).toNat)) tx ax (.tmp 36) := d0 rfl
        exact run_plain rfl (y_sub e0 rfl (w64 (by omega) (by omega)))
      · intro ax tx hs okx sm d0 d1 d2
        have e1 : At (Ty.int (((((s.get! 0).toNat) : Nat) : Int) - (240 : Int))) tx ax (.tmp 37) := d0 rfl
        have e0 : At (Ty.nat ((s.get! 0).toNat)) tx ax (.tmp 36) := d1 rfl
        exact run_plain rfl (y_assign e1)
      intro a18 s17 D17
      have ok17 := D17.ok
      have F17 := F16.step0 D17.stp
      have q55 : At (Ty.val (Value.string s)) s17 a18 (.tmp 0) := D17.kt q52 rfl
      have q56 : At (Ty.int (4 : Int)) s17 a18 (.tmp 5) := D17.kt q54 rfl
      have q57 : At (Ty.int (((((s.get! 0).toNat) : Nat) : Int) - (240 : Int))) s17 a18 (.tmp 4) := D17.done 2
      clear D17
      refine tn ?_
      refine reg (a := a18) (σ := s17) rfl (fun i_ => List.getD [(Ty.pr (Ty.int (65536 : Int)))] i_ Pr.any) ok17 rfl ⟨?_, trivial⟩ ?_
      · intro ax tx hs okx sm
        exact run_plain rfl (y_assign rfl)
      intro a19 s18 D18
      have ok18 := D18.ok
      have F18 := F17.step0 D18.stp
      have q58 : At (Ty.val (Value.string s)) s18 a19 (.tmp 0) := D18.kt q55 rfl
      have q59 : At (Ty.int (4 : Int)) s18 a19 (.tmp 5) := D18.kt q56 rfl
      have q60 : At (Ty.int (((((s.get! 0).toNat) : Nat) : Int) - (240 : Int))) s18 a19 (.tmp 4) := D18.kt q57 rfl
      have q61 : At (Ty.int (65536 : Int)) s18 a19 (.tmp 6) := D18.done 0
      clear D18
      exact tn ⟨s18, rfl, F18, ok18, (cvi (by (first | rfl | omega | (simp_all; done) | (simp_all; omega))) q59), (cvi (by (first | rfl | omega | (simp_all; done) | (simp_all; omega))) q60), (cvi (by (first | rfl | omega | (simp_all; done) | (simp_all; omega))) q61), q58, trivial⟩
     ·
      simp only [Bool.and_eq_false_iff, decide_eq_false_iff_not] at c4; have k3 : ¬ (240 ≤ ((s.get! 0).toNat) ∧ ((s.get! 0).toNat) < 245) := (by omega); obtain ⟨n1, n2, n3⟩ := nb0 k1 k2 k3
      refine wp_skip ?_
      exact tn ⟨s15, rfl, F15, ok15, (cvi (by (first | rfl | omega | (simp_all; done) | (simp_all; omega))) q49), (cvi (by (first | rfl | omega | (simp_all; done) | (simp_all; omega))) q48), (cvi (by (first | rfl | omega | (simp_all; done) | (simp_all; omega))) q50), q47, trivial⟩
  ·
   rintro a20 w2 ⟨t2, rfl, F19, ok19, q62, q63, q64, q65, -⟩
   refine wp_seq ?_
   refine wp_seq ?_
   refine reg (a := a20) (σ := t2) rfl (fun i_ => List.getD [(Ty.pr (Ty.nat (nB ((s.get! 0).toNat)))), (Ty.pr (Ty.bool (decide ((((nB ((s.get! 0).toNat)) : Nat) : Int) = (0 : Int))))), (Ty.pr (Ty.bool (decide ((((nB ((s.get! 0).toNat)) : Nat) : Int) = (0 : Int))))), (Ty.pr (Ty.grd ((decide ((((nB ((s.get! 0).toNat)) : Nat) : Int) = (0 : Int))) = false) (Ty.val (Value.string s)))), (Ty.pr (Ty.grd ((decide ((((nB ((s.get! 0).toNat)) : Nat) : Int) = (0 : Int))) = false) (Ty.nat (ByteArray.size s)))), (Ty.pr (Ty.grd ((decide ((((nB ((s.get! 0).toNat)) : Nat) : Int) = (0 : Int))) = false) (Ty.nat (nB ((s.get! 0).toNat))))), (Ty.pr (Ty.grd ((decide ((((nB ((s.get! 0).toNat)) : Nat) : Int) = (0 : Int))) = false) (Ty.bool (decide ((((ByteArray.size s) : Nat) : Int) < (((nB ((s.get! 0).toNat)) : Nat) : Int)))))), (Ty.pr (Ty.bool ((decide ((((nB ((s.get! 0).toNat)) : Nat) : Int) = (0 : Int))) || (decide ((((ByteArray.size s) : Nat) : Int) < (((nB ((s.get! 0).toNat)) : Nat) : Int))))))] i_ Pr.any) ok19 rfl ⟨?_, ?_, ?_, ?_, ?_, ?_, ?_, ?_, trivial⟩ ?_
   · intro ax tx hs okx sm
     exact run_plain rfl (y_move (kp (sm 5 rfl) hs q62))
   · intro ax tx hs okx sm d0
     have e0 : At (Ty.nat (nB ((s.get! 0).toNat))) tx ax (.tmp 38) := d0 rfl
     exact run_plain rfl (y_eql e0 rfl)
   · intro ax tx hs okx sm d0
     have e1 : At (Ty.bool (decide ((((nB ((s.get! 0).toNat)) : Nat) : Int) = (0 : Int)))) tx ax (.tmp 39) := d0 rfl
     exact run_plain rfl (y_move e1)
   · intro ax tx hs okx sm d0
     have e2 : At (Ty.bool (decide ((((nB ((s.get! 0).toNat)) : Nat) : Int) = (0 : Int)))) tx ax (.tmp 40) := d0 rfl
     refine run_guard (T := (Ty.val (Value.string s))) okx rfl rfl (by decide) e2 (fun hg => ?_)
     have hp := of_decide_eq_false hg
     exact y_move (kp (sm 0 rfl) hs q65)
   · intro ax tx hs okx sm d0 d1
     have e3 : At (Ty.grd ((decide ((((nB ((s.get! 0).toNat)) : Nat) : Int) = (0 : Int))) = false) (Ty.val (Value.string s))) tx ax (.tmp 41) := d0 rfl
     have e2 : At (Ty.bool (decide ((((nB ((s.get! 0).toNat)) : Nat) : Int) = (0 : Int)))) tx ax (.tmp 40) := d1 rfl
     refine run_guard (T := (Ty.nat (ByteArray.size s))) okx rfl rfl (by decide) e2 (fun hg => ?_)
     have hp := of_decide_eq_false hg
     exact y_len_str Try.underlying9 (e3.1 hg)
   · intro ax tx hs okx sm d0
     have e2 : At (Ty.bool (decide ((((nB ((s.get! 0).toNat)) : Nat) : Int) = (0 : Int)))) tx ax (.tmp 40) := d0 rfl
     refine run_guard (T := (Ty.nat (nB ((s.get! 0).toNat)))) okx rfl rfl (by decide) e2 (fun hg => ?_)
     have hp := of_decide_eq_false hg
     exact y_move (kp (sm 5 rfl) hs q62)
   · intro ax tx hs okx sm d0 d1 d2
     have e4 : At (Ty.grd ((decide ((((nB ((s.get! 0).toNat)) : Nat) : Int) = (0 : Int))) = false) (Ty.nat (ByteArray.size s))) tx ax (.tmp 42) := d0 rfl
     have e5 : At (Ty.grd ((decide ((((nB ((s.get! 0).toNat)) : Nat) : Int) = (0 : Int))) = false) (Ty.nat (nB ((s.get! 0).toNat)))) tx ax (.tmp 43) := d1 rfl
     have e2 : At (Ty.bool (decide ((((nB ((s.get! 0).toNat)) : Nat) : Int) = (0 : Int)))) tx ax (.tmp 40) := d2 rfl
     refine run_guard (T := (Ty.bool (decide ((((ByteArray.size s) : Nat) : Int) < (((nB ((s.get! 0).toNat)) : Nat) : Int))))) okx rfl rfl (by decide) e2 (fun hg => ?_)
     have hp := of_decide_eq_false hg
     exact y_lss (e4.1 hg) (e5.1 hg)
   · intro ax tx hs okx sm d0 d1
     have e2 : At (Ty.bool (decide ((((nB ((s.get! 0).toNat)) : Nat) : Int) = (0 : Int)))) tx ax (.tmp 40) := d0 rfl
     have e6 : At (Ty.grd ((decide ((((nB ((s.get! 0).toNat)) : Nat) : Int) = (0 : Int))) = false) (Ty.bool (decide ((((ByteArray.size s) : Nat) : Int) < (((nB ((s.get! 0).toNat)) : Nat) : Int))))) tx ax (.tmp 44) := d1 rfl
     exact run_plain rfl (y_pick_or e2 rfl e6)
   intro a21 s19 D19
   have ok20 := D19.ok
   have F20 := F19.step0 D19.stp
   have q66 : At (Ty.nat (nB ((s.get! 0).toNat))) s19 a21 (.tmp 5) := D19.kt q62 rfl
   have q67 : At (Ty.nat (cB ((s.get! 0).toNat))) s19 a21 (.tmp 4) := D19.kt q63 rfl
   have q68 : At (Ty.nat (lowB ((s.get! 0).toNat))) s19 a21 (.tmp 6) := D19.kt q64 rfl
   have q69 : At (Ty.val (Value.string s)) s19 a21 (.tmp 0) := D19.kt q65 rfl
   have q70 : At (Ty.bool ((decide ((((nB ((s.get! 0).toNat)) : Nat) : Int) = (0 : Int))) || (decide ((((ByteArray.size s) : Nat) : Int) < (((nB ((s.get! 0).toNat)) : Nat) : Int))))) s19 a21 (.tmp 45) := D19.done 7
   clear D19
   refine tn ?_
   refine cond_t q70 (fun c5 => ?_) (fun c5 => ?_)
   ·
    simp only [Bool.or_eq_true, decide_eq_true_eq] at c5
    refine wp_seq ?_
    refine reg (a := a21) (σ := s19) rfl (fun i_ => List.getD [(Ty.pr (Ty.int (-1 : Int))), (Ty.pr (Ty.int (1 : Int)))] i_ Pr.any) ok20 rfl ⟨?_, ?_, trivial⟩ ?_
    · intro ax tx hs okx sm
      exact run_plain rfl (y_assign rfl)
    · intro ax tx hs okx sm d0 d1
      have e0 : At (Ty.int (-1 : Int)) tx ax (.tmp 2) := d0 rfl
      exact run_plain rfl (y_assign rfl)
    intro a22 s20 D20
    have ok21 := D20.ok
    have F21 := F20.step0 D20.stp
    have q71 : At (Ty.int (-1 : Int)) s20 a22 (.tmp 2) := D20.done 0
    have q72 : At (Ty.int (1 : Int)) s20 a22 (.tmp 3) := D20.done 1
    clear D20
    refine tn ?_
    refine wp_ret ?_
    refine tr ?_
    exact retL2 rfl ok21 F21 (hasT2 (cvi (by (exact (rn_short (by omega) (by omega) hs).1.symm)) q71) (cvi (by (have := (rn_short (s := s) (by omega) (by omega) hs).2; omega)) q72))
   ·
    obtain ⟨d7, d8⟩ := Bool.or_eq_false_iff.mp c5
    replace d7 := of_decide_eq_false d7
    replace d8 := of_decide_eq_false d8
    simp only [Bool.or_eq_false_iff, decide_eq_false_iff_not] at c5; have h0 : nB ((s.get! 0).toNat) ≠ 0 := (by omega); have hsz : nB ((s.get! 0).toNat) ≤ s.size := (by omega); have hcb := hnb.2 h0
    refine wp_skip ?_
    refine tn ?_
    refine wp_seq ?_
    refine wp_seq ?_
    refine reg (a := a21) (σ := s19) rfl (fun i_ => List.getD [(Ty.pr (Ty.int (1 : Int)))] i_ Pr.any) ok20 rfl ⟨?_, trivial⟩ ?_
    · intro ax tx hs okx sm
      exact run_plain rfl (y_assign rfl)
    intro a23 s21 D21
    have ok22 := D21.ok
    have F22 := F20.step0 D21.stp
    have q73 : At (Ty.nat (nB ((s.get! 0).toNat))) s21 a23 (.tmp 5) := D21.kt q66 rfl
    have q74 : At (Ty.nat (cB ((s.get! 0).toNat))) s21 a23 (.tmp 4) := D21.kt q67 rfl
    have q75 : At (Ty.nat (lowB ((s.get! 0).toNat))) s21 a23 (.tmp 6) := D21.kt q68 rfl
    have q76 : At (Ty.val (Value.string s)) s21 a23 (.tmp 0) := D21.kt q69 rfl
    have q77 : At (Ty.int (1 : Int)) s21 a23 (.tmp 7) := D21.done 0
    clear D21
    refine tn ?_
    refine wp_block ?_
    refine loop (fun n1 a24 w3 => ∃ (t3 : GW) (j : Nat), t3.w = w3 ∧ FromL [] s0 t3 ∧ Ok 86 a24 ∧ At (Ty.nat (j + 1)) t3 a24 (.tmp 7) ∧ At (Ty.nat (accR s (cB ((s.get! 0).toNat)) j)) t3 a24 (.tmp 4) ∧ At (Ty.nat (nB ((s.get! 0).toNat))) t3 a24 (.tmp 5) ∧ At (Ty.nat (lowB ((s.get! 0).toNat))) t3 a24 (.tmp 6) ∧ At (Ty.val (Value.string s)) t3 a24 (.tmp 0) ∧ (j + 1 ≤ nB ((s.get! 0).toNat)) ∧ (∀ i, i < j → 128 ≤ (s.get! (i + 1)).toNat ∧ (s.get! (i + 1)).toNat < 192) ∧ n1 = nB ((s.get! 0).toNat) - j) (nB ((s.get! 0).toNat) - (0)) ?_ ?_
    ·
     exact ⟨s21, 0, rfl, F22, ok22, (cvi (by (rfl)) q77), (cvi (by (rfl)) q74), q73, q75, q76, by omega, fun j hj => absurd hj (Nat.not_lt_zero j), rfl⟩
    ·
     rintro n2 a25 w4 ⟨t4, j, rfl, F23, ok23, q78, q79, q80, q81, q82, hj, hc, rfl⟩
     have hab := acc_bd (s := s) (c := cB ((s.get! 0).toNat)) (by omega) hc (by omega)
     have hbk := UInt8.toNat_lt (s.get! (j + 1))
     refine wp_seq ?_
     refine wp_seq ?_
     refine reg (a := a25) (σ := t4) rfl (fun i_ => List.getD [(Ty.pr (Ty.nat (j + 1))), (Ty.pr (Ty.nat (nB ((s.get! 0).toNat)))), (Ty.pr (Ty.bool (decide ((((j + 1) : Nat) : Int) < (((nB ((s.get! 0).toNat)) : Nat) : Int)))))] i_ Pr.any) ok23 rfl ⟨?_, ?_, ?_, trivial⟩ ?_
     · intro ax tx hs okx sm
       exact run_plain rfl (y_move (kp (sm 7 rfl) hs q78))
     · intro ax tx hs okx sm
       exact run_plain rfl (y_move (kp (sm 5 rfl) hs q80))
     · intro ax tx hs okx sm d0 d1
       have e0 : At (Ty.nat (j + 1)) tx ax (.tmp 46) := d0 rfl
       have e1 : At (Ty.nat (nB ((s.get! 0).toNat))) tx ax (.tmp 47) := d1 rfl
       exact run_plain rfl (y_lss e0 e1)
     intro a26 s22 D22
     have ok24 := D22.ok
     have F24 := F23.step0 D22.stp
     have q83 : At (Ty.nat (j + 1)) s22 a26 (.tmp 7) := D22.kt q78 rfl
     have q84 : At (Ty.nat (accR s (cB ((s.get! 0).toNat)) j)) s22 a26 (.tmp 4) := D22.kt q79 rfl
     have q85 : At (Ty.nat (nB ((s.get! 0).toNat))) s22 a26 (.tmp 5) := D22.kt q80 rfl
     have q86 : At (Ty.nat (lowB ((s.get! 0).toNat))) s22 a26 (.tmp 6) := D22.kt q81 rfl
     have q87 : At (Ty.val (Value.string s)) s22 a26 (.tmp 0) := D22.kt q82 rfl
     have q88 : At (Ty.bool (decide ((((j + 1) : Nat) : Int) < (((nB ((s.get! 0).toNat)) : Nat) : Int)))) s22 a26 (.tmp 48) := D22.done 2
     clear D22
     refine tn ?_
     refine cond_p (p := ((((j + 1) : Nat) : Int) < (((nB ((s.get! 0).toNat)) : Nat) : Int))) q88 (fun c6 => ?_) (fun c6 => ?_)
     ·
      refine wp_skip ?_
      refine tn ?_
      refine wp_seq ?_
      refine wp_block ?_
      refine wp_seq ?_
      refine wp_seq ?_
      refine reg (a := a26) (σ := s22) rfl (fun i_ => List.getD [(Ty.pr (Ty.val (Value.string s))), (Ty.pr (Ty.nat (j + 1))), (Ty.pr (Ty.val (Value.int .u8 (((s.get! (j + 1)).toNat : Nat) : Int)))), (Ty.pr (Ty.bool (decide ((((s.get! (j + 1)).toNat : Nat) : Int) < (128 : Int))))), (Ty.pr (Ty.bool (decide ((((s.get! (j + 1)).toNat : Nat) : Int) < (128 : Int))))), (Ty.pr (Ty.grd ((decide ((((s.get! (j + 1)).toNat : Nat) : Int) < (128 : Int))) = false) (Ty.val (Value.string s)))), (Ty.pr (Ty.grd ((decide ((((s.get! (j + 1)).toNat : Nat) : Int) < (128 : Int))) = false) (Ty.nat (j + 1)))), (Ty.pr (Ty.grd ((decide ((((s.get! (j + 1)).toNat : Nat) : Int) < (128 : Int))) = false) (Ty.val (Value.int .u8 (((s.get! (j + 1)).toNat : Nat) : Int))))), (Ty.pr (Ty.grd ((decide ((((s.get! (j + 1)).toNat : Nat) : Int) < (128 : Int))) = false) (Ty.bool (decide ((192 : Int) ≤ (((s.get! (j + 1)).toNat : Nat) : Int)))))), (Ty.pr (Ty.bool ((decide ((((s.get! (j + 1)).toNat : Nat) : Int) < (128 : Int))) || (decide ((192 : Int) ≤ (((s.get! (j + 1)).toNat : Nat) : Int))))))] i_ Pr.any) ok24 rfl ⟨?_, ?_, ?_, ?_, ?_, ?_, ?_, ?_, ?_, ?_, trivial⟩ ?_
      · intro ax tx hs okx sm
        exact run_plain rfl (y_move (kp (sm 0 rfl) hs q87))
      · intro ax tx hs okx sm
        exact run_plain rfl (y_move (kp (sm 7 rfl) hs q83))
      · intro ax tx hs okx sm d0 d1
        have e0 : At (Ty.val (Value.string s)) tx ax (.tmp 51) := d0 rfl
        have e1 : At (Ty.nat (j + 1)) tx ax (.tmp 52) := d1 rfl
        exact run_plain rfl (y_sindex Try.underlying9 e0 e1 (by omega) (by omega))
      · intro ax tx hs okx sm d0
        have e2 : At (Ty.val (Value.int .u8 (((s.get! (j + 1)).toNat : Nat) : Int))) tx ax (.tmp 53) := d0 rfl
        exact run_plain rfl (y_lss e2 rfl)
      · intro ax tx hs okx sm d0
        have e3 : At (Ty.bool (decide ((((s.get! (j + 1)).toNat : Nat) : Int) < (128 : Int)))) tx ax (.tmp 54) := d0 rfl
        exact run_plain rfl (y_move e3)
      · intro ax tx hs okx sm d0
        have e4 : At (Ty.bool (decide ((((s.get! (j + 1)).toNat : Nat) : Int) < (128 : Int)))) tx ax (.tmp 55) := d0 rfl
        refine run_guard (T := (Ty.val (Value.string s))) okx rfl rfl (by decide) e4 (fun hg => ?_)
        have hp := of_decide_eq_false hg
        exact y_move (kp (sm 0 rfl) hs q87)
      · intro ax tx hs okx sm d0
        have e4 : At (Ty.bool (decide ((((s.get! (j + 1)).toNat : Nat) : Int) < (128 : Int)))) tx ax (.tmp 55) := d0 rfl
        refine run_guard (T := (Ty.nat (j + 1))) okx rfl rfl (by decide) e4 (fun hg => ?_)
        have hp := of_decide_eq_false hg
        exact y_move (kp (sm 7 rfl) hs q83)
      · intro ax tx hs okx sm d0 d1 d2
        have e5 : At (Ty.grd ((decide ((((s.get! (j + 1)).toNat : Nat) : Int) < (128 : Int))) = false) (Ty.val (Value.string s))) tx ax (.tmp 56) := d0 rfl
        have e6 : At (Ty.grd ((decide ((((s.get! (j + 1)).toNat : Nat) : Int) < (128 : Int))) = false) (Ty.nat (j + 1))) tx ax (.tmp 57) := d1 rfl
        have e4 : At (Ty.bool (decide ((((s.get! (j + 1)).toNat : Nat) : Int) < (128 : Int)))) tx ax (.tmp 55) := d2 rfl
        refine run_guard (T := (Ty.val (Value.int .u8 (((s.get! (j + 1)).toNat : Nat) : Int)))) okx rfl rfl (by decide) e4 (fun hg => ?_)
        have hp := of_decide_eq_false hg
        exact y_sindex Try.underlying9 (e5.1 hg) (e6.1 hg) (by omega) (by omega)
      · intro ax tx hs okx sm d0 d1
        have e7 : At (Ty.grd ((decide ((((s.get! (j + 1)).toNat : Nat) : Int) < (128 : Int))) = false) (Ty.val (Value.int .u8 (((s.get! (j + 1)).toNat : Nat) : Int)))) tx ax (.tmp 58) := d0 rfl
        have e4 : At (Ty.bool (decide ((((s.get! (j + 1)).toNat : Nat) : Int) < (128 : Int)))) tx ax (.tmp 55) := d1 rfl
        refine run_guard (T := (Ty.bool (decide ((192 : Int) ≤ (((s.get! (j + 1)).toNat : Nat) : Int))))) okx rfl rfl (by decide) e4 (fun hg => ?_)
        have hp := of_decide_eq_false hg
        exact y_geq (e7.1 hg) rfl
      · intro ax tx hs okx sm d0 d1
        have e4 : At (Ty.bool (decide ((((s.get! (j + 1)).toNat : Nat) : Int) < (128 : Int)))) tx ax (.tmp 55) := d0 rfl
        have e8 : At (Ty.grd ((decide ((((s.get! (j + 1)).toNat : Nat) : Int) < (128 : Int))) = false) (Ty.bool (decide ((192 : Int) ≤ (((s.get! (j + 1)).toNat : Nat) : Int))))) tx ax (.tmp 59) := d1 rfl
        exact run_plain rfl (y_pick_or e4 rfl e8)
      intro a27 s23 D23
      have ok25 := D23.ok
      have F25 := F24.step0 D23.stp
      have q89 : At (Ty.nat (j + 1)) s23 a27 (.tmp 7) := D23.kt q83 rfl
      have q90 : At (Ty.nat (accR s (cB ((s.get! 0).toNat)) j)) s23 a27 (.tmp 4) := D23.kt q84 rfl
      have q91 : At (Ty.nat (nB ((s.get! 0).toNat))) s23 a27 (.tmp 5) := D23.kt q85 rfl
      have q92 : At (Ty.nat (lowB ((s.get! 0).toNat))) s23 a27 (.tmp 6) := D23.kt q86 rfl
      have q93 : At (Ty.val (Value.string s)) s23 a27 (.tmp 0) := D23.kt q87 rfl
      have q94 : At (Ty.bool ((decide ((((s.get! (j + 1)).toNat : Nat) : Int) < (128 : Int))) || (decide ((192 : Int) ≤ (((s.get! (j + 1)).toNat : Nat) : Int))))) s23 a27 (.tmp 60) := D23.done 9
      clear D23
      refine tn ?_
      refine cond_t q94 (fun c7 => ?_) (fun c7 => ?_)
      ·
       simp only [Bool.or_eq_true, decide_eq_true_eq] at c7
       refine wp_seq ?_
       refine reg (a := a27) (σ := s23) rfl (fun i_ => List.getD [(Ty.pr (Ty.int (-1 : Int))), (Ty.pr (Ty.int (1 : Int)))] i_ Pr.any) ok25 rfl ⟨?_, ?_, trivial⟩ ?_
       · intro ax tx hs okx sm
         exact run_plain rfl (y_assign rfl)
       · intro ax tx hs okx sm d0 d1
         have e0 : At (Ty.int (-1 : Int)) tx ax (.tmp 2) := d0 rfl
         exact run_plain rfl (y_assign rfl)
       intro a28 s24 D24
       have ok26 := D24.ok
       have F26 := F25.step0 D24.stp
       have q95 : At (Ty.int (-1 : Int)) s24 a28 (.tmp 2) := D24.done 0
       have q96 : At (Ty.int (1 : Int)) s24 a28 (.tmp 3) := D24.done 1
       clear D24
       refine tn ?_
       refine wp_ret ?_
       refine tr ?_
       refine br ?_
       refine tr ?_
       refine tr ?_
       refine br ?_
       refine tr ?_
       exact retL2 rfl ok26 F26 (hasT2 (cvi (by (exact (rn_cont (j := j) (by omega) (by omega)).1.symm)) q95) (cvi (by (have := (rn_cont (s := s) (j := j) (by omega) (by omega)).2; omega)) q96))
      ·
       obtain ⟨d9, d10⟩ := Bool.or_eq_false_iff.mp c7
       replace d9 := of_decide_eq_false d9
       replace d10 := of_decide_eq_false d10
       simp only [Bool.or_eq_false_iff, decide_eq_false_iff_not] at c7
       refine wp_skip ?_
       refine tn ?_
       refine reg (a := a27) (σ := s23) rfl (fun i_ => List.getD [(Ty.pr (Ty.nat (accR s (cB ((s.get! 0).toNat)) j))), (Ty.pr (Ty.nat ((accR s (cB ((s.get! 0).toNat)) j) * 64))), (Ty.pr (Ty.val (Value.string s))), (Ty.pr (Ty.nat (j + 1))), (Ty.pr (Ty.val (Value.int .u8 (((s.get! (j + 1)).toNat : Nat) : Int)))), (Ty.pr (Ty.nat (s.get! (j + 1)).toNat)), (Ty.pr (Ty.nat (((accR s (cB ((s.get! 0).toNat)) j) * 64) + (s.get! (j + 1)).toNat))), (Ty.pr (Ty.int ((((((accR s (cB ((s.get! 0).toNat)) j) * 64) + (s.get! (j + 1)).toNat) : Nat) : Int) - (128 : Int)))), (Ty.pr (Ty.int ((((((accR s (cB ((s.get! 0).toNat)) j) * 64) + (s.get! (j + 1)).toNat) : Nat) : Int) - (128 : Int))))] i_ Pr.any) ok25 rfl ⟨?_, ?_, ?_, ?_, ?_, ?_, ?_, ?_, ?_, trivial⟩ ?_
       · intro ax tx hs okx sm
         exact run_plain rfl (y_move (kp (sm 4 rfl) hs q90))
       · intro ax tx hs okx sm d0
         have e0 : At (Ty.nat (accR s (cB ((s.get! 0).toNat)) j)) tx ax (.tmp 61) := d0 rfl
         exact run_plain rfl ((y_mul e0 rfl (w64 (by omega) (by omega))).mono (fun τ _ h => cvi (σ := τ) (by first | omega | exact (Int.natCast_mul _ _).symm) h))
       · intro ax tx hs okx sm
         exact run_plain rfl (y_move (kp (sm 0 rfl) hs q93))
       · intro ax tx hs okx sm
         exact run_plain rfl (y_move (kp (sm 7 rfl) hs q89))
       · intro ax tx hs okx sm d0 d1
         have e2 : At (Ty.val (Value.string s)) tx ax (.tmp 63) := d0 rfl
         have e3 : At (Ty.nat (j + 1)) tx ax (.tmp 64) := d1 rfl
         exact run_plain rfl (y_sindex Try.underlying9 e2 e3 (by omega) (by omega))
       · intro ax tx hs okx sm d0
         have e4 : At (Ty.val (Value.int .u8 (((s.get! (j + 1)).toNat : Nat) : Int))) tx ax (.tmp 65) := d0 rfl
         exact run_plain rfl (y_conv Try.underlying3 e4 (by exact w64 (by omega) (by omega)) (by rw [Try.underlying5]; rfl))
       · intro ax tx hs okx sm d0 d1
         have e1 : At (Ty.nat ((accR s (cB ((s.get! 0).toNat)) j) * 64)) tx ax (.tmp 62) := d0 rfl
         have e5 : At (Ty.nat (s.get! (j + 1)).toNat) tx ax (.tmp 66) := d1 rfl
         exact run_plain rfl ((y_add e1 e5 (w64 (by omega) (by omega))).mono (fun τ _ h => cvi (σ := τ) (by first | omega | exact (Int.natCast_mul _ _).symm) h))
       · intro ax tx hs okx sm d0
         have e6 : At (Ty.nat (((accR s (cB ((s.get! 0).toNat)) j) * 64) + (s.get! (j + 1)).toNat)) tx ax (.tmp 67) := d0 rfl
         exact run_plain rfl (y_sub e6 rfl (w64 (by omega) (by omega)))
       · intro ax tx hs okx sm d0 d1 d2 d3 d4 d5 d6 d7 d8
         have e7 : At (Ty.int ((((((accR s (cB ((s.get! 0).toNat)) j) * 64) + (s.get! (j + 1)).toNat) : Nat) : Int) - (128 : Int))) tx ax (.tmp 68) := d0 rfl
         have e0 : At (Ty.nat (accR s (cB ((s.get! 0).toNat)) j)) tx ax (.tmp 61) := d1 rfl
         have e1 : At (Ty.nat ((accR s (cB ((s.get! 0).toNat)) j) * 64)) tx ax (.tmp 62) := d2 rfl
         have e2 : At (Ty.val (Value.string s)) tx ax (.tmp 63) := d3 rfl
         have e3 : At (Ty.nat (j + 1)) tx ax (.tmp 64) := d4 rfl
         have e4 : At (Ty.val (Value.int .u8 (((s.get! (j + 1)).toNat : Nat) : Int))) tx ax (.tmp 65) := d5 rfl
         have e5 : At (Ty.nat (s.get! (j + 1)).toNat) tx ax (.tmp 66) := d6 rfl
         have e6 : At (Ty.nat (((accR s (cB ((s.get! 0).toNat)) j) * 64) + (s.get! (j + 1)).toNat)) tx ax (.tmp 67) := d7 rfl
         exact run_plain rfl (y_assign e7)
       intro a29 s25 D25
       have ok27 := D25.ok
       have F27 := F25.step0 D25.stp
       have q97 : At (Ty.nat (j + 1)) s25 a29 (.tmp 7) := D25.kt q89 rfl
       have q98 : At (Ty.nat (nB ((s.get! 0).toNat))) s25 a29 (.tmp 5) := D25.kt q91 rfl
       have q99 : At (Ty.nat (lowB ((s.get! 0).toNat))) s25 a29 (.tmp 6) := D25.kt q92 rfl
       have q100 : At (Ty.val (Value.string s)) s25 a29 (.tmp 0) := D25.kt q93 rfl
       have q101 : At (Ty.int ((((((accR s (cB ((s.get! 0).toNat)) j) * 64) + (s.get! (j + 1)).toNat) : Nat) : Int) - (128 : Int))) s25 a29 (.tmp 4) := D25.done 8
       clear D25
       refine bn ?_
       refine tn ?_
       refine reg (a := a29) (σ := s25) rfl (fun i_ => List.getD [(Ty.pr (Ty.nat (j + 1))), (Ty.pr (Ty.nat ((j + 1) + 1))), (Ty.pr (Ty.nat ((j + 1) + 1)))] i_ Pr.any) ok27 rfl ⟨?_, ?_, ?_, trivial⟩ ?_
       · intro ax tx hs okx sm
         exact run_plain rfl (y_move (kp (sm 7 rfl) hs q97))
       · intro ax tx hs okx sm d0
         have e0 : At (Ty.nat (j + 1)) tx ax (.tmp 49) := d0 rfl
         exact run_plain rfl ((y_add e0 rfl (w64 (by omega) (by omega))).mono (fun τ _ h => cvi (σ := τ) (by first | omega | exact (Int.natCast_mul _ _).symm) h))
       · intro ax tx hs okx sm d0 d1 d2
         have e1 : At (Ty.nat ((j + 1) + 1)) tx ax (.tmp 50) := d0 rfl
         have e0 : At (Ty.nat (j + 1)) tx ax (.tmp 49) := d1 rfl
         exact run_plain rfl (y_assign e1)
       intro a30 s26 D26
       have ok28 := D26.ok
       have F28 := F27.step0 D26.stp
       have q102 : At (Ty.nat (nB ((s.get! 0).toNat))) s26 a30 (.tmp 5) := D26.kt q98 rfl
       have q103 : At (Ty.nat (lowB ((s.get! 0).toNat))) s26 a30 (.tmp 6) := D26.kt q99 rfl
       have q104 : At (Ty.val (Value.string s)) s26 a30 (.tmp 0) := D26.kt q100 rfl
       have q105 : At (Ty.int ((((((accR s (cB ((s.get! 0).toNat)) j) * 64) + (s.get! (j + 1)).toNat) : Nat) : Int) - (128 : Int))) s26 a30 (.tmp 4) := D26.kt q101 rfl
       have q106 : At (Ty.nat ((j + 1) + 1)) s26 a30 (.tmp 7) := D26.done 2
       clear D26
       have hac : accR s (cB ((s.get! 0).toNat)) (j + 1) = accR s (cB ((s.get! 0).toNat)) j * 64 + ((s.get! (j + 1)).toNat - 128) := rfl
       exact tn ⟨nB ((s.get! 0).toNat) - ((j + 1)), by omega, s26, (j + 1), rfl, F28, ok28, (cvi (by (first | rfl | omega | (simp_all; done) | (simp_all; omega))) q106), (cvi (by (first | rfl | omega | (simp_all; done) | (simp_all; omega))) q105), q102, q103, q104, by omega, acc_snoc hc (by omega) (by omega), rfl⟩
     ·
      have hje : j + 1 = nB ((s.get! 0).toNat) := (by omega)
      refine wp_exit ?_
      refine tx ?_
      refine tx ?_
      refine bx ?_
      refine tn ?_
      refine wp_seq ?_
      refine wp_seq ?_
      refine reg (a := a26) (σ := s22) rfl (fun i_ => List.getD [(Ty.pr (Ty.nat (accR s (cB ((s.get! 0).toNat)) j))), (Ty.pr (Ty.nat (lowB ((s.get! 0).toNat)))), (Ty.pr (Ty.bool (decide ((((accR s (cB ((s.get! 0).toNat)) j) : Nat) : Int) < (((lowB ((s.get! 0).toNat)) : Nat) : Int))))), (Ty.pr (Ty.bool (decide ((((accR s (cB ((s.get! 0).toNat)) j) : Nat) : Int) < (((lowB ((s.get! 0).toNat)) : Nat) : Int))))), (Ty.pr (Ty.grd ((decide ((((accR s (cB ((s.get! 0).toNat)) j) : Nat) : Int) < (((lowB ((s.get! 0).toNat)) : Nat) : Int))) = false) (Ty.nat (accR s (cB ((s.get! 0).toNat)) j)))), (Ty.pr (Ty.grd ((decide ((((accR s (cB ((s.get! 0).toNat)) j) : Nat) : Int) < (((lowB ((s.get! 0).toNat)) : Nat) : Int))) = false) (Ty.bool (decide ((1114111 : Int) < (((accR s (cB ((s.get! 0).toNat)) j) : Nat) : Int)))))), (Ty.pr (Ty.bool ((decide ((((accR s (cB ((s.get! 0).toNat)) j) : Nat) : Int) < (((lowB ((s.get! 0).toNat)) : Nat) : Int))) || (decide ((1114111 : Int) < (((accR s (cB ((s.get! 0).toNat)) j) : Nat) : Int)))))), (Ty.pr (Ty.bool ((decide ((((accR s (cB ((s.get! 0).toNat)) j) : Nat) : Int) < (((lowB ((s.get! 0).toNat)) : Nat) : Int))) || (decide ((1114111 : Int) < (((accR s (cB ((s.get! 0).toNat)) j) : Nat) : Int)))))), (Ty.pr (Ty.grd (((decide ((((accR s (cB ((s.get! 0).toNat)) j) : Nat) : Int) < (((lowB ((s.get! 0).toNat)) : Nat) : Int))) || (decide ((1114111 : Int) < (((accR s (cB ((s.get! 0).toNat)) j) : Nat) : Int)))) = false) (Ty.nat (accR s (cB ((s.get! 0).toNat)) j)))), (Ty.pr (Ty.grd (((decide ((((accR s (cB ((s.get! 0).toNat)) j) : Nat) : Int) < (((lowB ((s.get! 0).toNat)) : Nat) : Int))) || (decide ((1114111 : Int) < (((accR s (cB ((s.get! 0).toNat)) j) : Nat) : Int)))) = false) (Ty.bool (decide ((55296 : Int) ≤ (((accR s (cB ((s.get! 0).toNat)) j) : Nat) : Int)))))), (Ty.pr (Ty.grd (((decide ((((accR s (cB ((s.get! 0).toNat)) j) : Nat) : Int) < (((lowB ((s.get! 0).toNat)) : Nat) : Int))) || (decide ((1114111 : Int) < (((accR s (cB ((s.get! 0).toNat)) j) : Nat) : Int)))) = false) (Ty.bool (decide ((55296 : Int) ≤ (((accR s (cB ((s.get! 0).toNat)) j) : Nat) : Int)))))), (Ty.pr (Ty.grd ((((decide ((((accR s (cB ((s.get! 0).toNat)) j) : Nat) : Int) < (((lowB ((s.get! 0).toNat)) : Nat) : Int))) || (decide ((1114111 : Int) < (((accR s (cB ((s.get! 0).toNat)) j) : Nat) : Int)))) = false) ∧ (decide ((55296 : Int) ≤ (((accR s (cB ((s.get! 0).toNat)) j) : Nat) : Int))) = true) (Ty.nat (accR s (cB ((s.get! 0).toNat)) j)))), (Ty.pr (Ty.grd ((((decide ((((accR s (cB ((s.get! 0).toNat)) j) : Nat) : Int) < (((lowB ((s.get! 0).toNat)) : Nat) : Int))) || (decide ((1114111 : Int) < (((accR s (cB ((s.get! 0).toNat)) j) : Nat) : Int)))) = false) ∧ (decide ((55296 : Int) ≤ (((accR s (cB ((s.get! 0).toNat)) j) : Nat) : Int))) = true) (Ty.bool (decide ((((accR s (cB ((s.get! 0).toNat)) j) : Nat) : Int) < (57344 : Int)))))), (Ty.pr (Ty.grd (((decide ((((accR s (cB ((s.get! 0).toNat)) j) : Nat) : Int) < (((lowB ((s.get! 0).toNat)) : Nat) : Int))) || (decide ((1114111 : Int) < (((accR s (cB ((s.get! 0).toNat)) j) : Nat) : Int)))) = false) (Ty.bool ((decide ((55296 : Int) ≤ (((accR s (cB ((s.get! 0).toNat)) j) : Nat) : Int))) && (decide ((((accR s (cB ((s.get! 0).toNat)) j) : Nat) : Int) < (57344 : Int))))))), (Ty.pr (Ty.bool (((decide ((((accR s (cB ((s.get! 0).toNat)) j) : Nat) : Int) < (((lowB ((s.get! 0).toNat)) : Nat) : Int))) || (decide ((1114111 : Int) < (((accR s (cB ((s.get! 0).toNat)) j) : Nat) : Int)))) || ((decide ((55296 : Int) ≤ (((accR s (cB ((s.get! 0).toNat)) j) : Nat) : Int))) && (decide ((((accR s (cB ((s.get! 0).toNat)) j) : Nat) : Int) < (57344 : Int)))))))] i_ Pr.any) ok24 rfl ⟨?_, ?_, ?_, ?_, ?_, ?_, ?_, ?_, ?_, ?_, ?_, ?_, ?_, ?_, ?_, trivial⟩ ?_
      · intro ax tx hs okx sm
        exact run_plain rfl (y_move (kp (sm 4 rfl) hs q84))
      · intro ax tx hs okx sm
        exact run_plain rfl (y_move (kp (sm 6 rfl) hs q86))
      · intro ax tx hs okx sm d0 d1
        have e0 : At (Ty.nat (accR s (cB ((s.get! 0).toNat)) j)) tx ax (.tmp 69) := d0 rfl
        have e1 : At (Ty.nat (lowB ((s.get! 0).toNat))) tx ax (.tmp 70) := d1 rfl
        exact run_plain rfl (y_lss e0 e1)
      · intro ax tx hs okx sm d0
        have e2 : At (Ty.bool (decide ((((accR s (cB ((s.get! 0).toNat)) j) : Nat) : Int) < (((lowB ((s.get! 0).toNat)) : Nat) : Int)))) tx ax (.tmp 71) := d0 rfl
        exact run_plain rfl (y_move e2)
      · intro ax tx hs okx sm d0
        have e3 : At (Ty.bool (decide ((((accR s (cB ((s.get! 0).toNat)) j) : Nat) : Int) < (((lowB ((s.get! 0).toNat)) : Nat) : Int)))) tx ax (.tmp 72) := d0 rfl
        refine run_guard (T := (Ty.nat (accR s (cB ((s.get! 0).toNat)) j))) okx rfl rfl (by decide) e3 (fun hg => ?_)
        have hp := of_decide_eq_false hg
        exact y_move (kp (sm 4 rfl) hs q84)
      · intro ax tx hs okx sm d0 d1
        have e4 : At (Ty.grd ((decide ((((accR s (cB ((s.get! 0).toNat)) j) : Nat) : Int) < (((lowB ((s.get! 0).toNat)) : Nat) : Int))) = false) (Ty.nat (accR s (cB ((s.get! 0).toNat)) j))) tx ax (.tmp 73) := d0 rfl
        have e3 : At (Ty.bool (decide ((((accR s (cB ((s.get! 0).toNat)) j) : Nat) : Int) < (((lowB ((s.get! 0).toNat)) : Nat) : Int)))) tx ax (.tmp 72) := d1 rfl
        refine run_guard (T := (Ty.bool (decide ((1114111 : Int) < (((accR s (cB ((s.get! 0).toNat)) j) : Nat) : Int))))) okx rfl rfl (by decide) e3 (fun hg => ?_)
        have hp := of_decide_eq_false hg
        exact y_gtr (e4.1 hg) rfl
      · intro ax tx hs okx sm d0 d1
        have e3 : At (Ty.bool (decide ((((accR s (cB ((s.get! 0).toNat)) j) : Nat) : Int) < (((lowB ((s.get! 0).toNat)) : Nat) : Int)))) tx ax (.tmp 72) := d0 rfl
        have e5 : At (Ty.grd ((decide ((((accR s (cB ((s.get! 0).toNat)) j) : Nat) : Int) < (((lowB ((s.get! 0).toNat)) : Nat) : Int))) = false) (Ty.bool (decide ((1114111 : Int) < (((accR s (cB ((s.get! 0).toNat)) j) : Nat) : Int))))) tx ax (.tmp 74) := d1 rfl
        exact run_plain rfl (y_pick_or e3 rfl e5)
      · intro ax tx hs okx sm d0 d1
        have e6 : At (Ty.bool ((decide ((((accR s (cB ((s.get! 0).toNat)) j) : Nat) : Int) < (((lowB ((s.get! 0).toNat)) : Nat) : Int))) || (decide ((1114111 : Int) < (((accR s (cB ((s.get! 0).toNat)) j) : Nat) : Int))))) tx ax (.tmp 75) := d0 rfl
        have e3 : At (Ty.bool (decide ((((accR s (cB ((s.get! 0).toNat)) j) : Nat) : Int) < (((lowB ((s.get! 0).toNat)) : Nat) : Int)))) tx ax (.tmp 72) := d1 rfl
        exact run_plain rfl (y_move e6)
      · intro ax tx hs okx sm d0
        have e7 : At (Ty.bool ((decide ((((accR s (cB ((s.get! 0).toNat)) j) : Nat) : Int) < (((lowB ((s.get! 0).toNat)) : Nat) : Int))) || (decide ((1114111 : Int) < (((accR s (cB ((s.get! 0).toNat)) j) : Nat) : Int))))) tx ax (.tmp 76) := d0 rfl
        refine run_guard (T := (Ty.nat (accR s (cB ((s.get! 0).toNat)) j))) okx rfl rfl (by decide) e7 (fun hg => ?_)
        obtain ⟨d11, d12⟩ := Bool.or_eq_false_iff.mp hg
        have d11 := of_decide_eq_false d11
        have d12 := of_decide_eq_false d12
        exact y_move (kp (sm 4 rfl) hs q84)
      · intro ax tx hs okx sm d0 d1
        have e8 : At (Ty.grd (((decide ((((accR s (cB ((s.get! 0).toNat)) j) : Nat) : Int) < (((lowB ((s.get! 0).toNat)) : Nat) : Int))) || (decide ((1114111 : Int) < (((accR s (cB ((s.get! 0).toNat)) j) : Nat) : Int)))) = false) (Ty.nat (accR s (cB ((s.get! 0).toNat)) j))) tx ax (.tmp 77) := d0 rfl
        have e7 : At (Ty.bool ((decide ((((accR s (cB ((s.get! 0).toNat)) j) : Nat) : Int) < (((lowB ((s.get! 0).toNat)) : Nat) : Int))) || (decide ((1114111 : Int) < (((accR s (cB ((s.get! 0).toNat)) j) : Nat) : Int))))) tx ax (.tmp 76) := d1 rfl
        refine run_guard (T := (Ty.bool (decide ((55296 : Int) ≤ (((accR s (cB ((s.get! 0).toNat)) j) : Nat) : Int))))) okx rfl rfl (by decide) e7 (fun hg => ?_)
        obtain ⟨d13, d14⟩ := Bool.or_eq_false_iff.mp hg
        have d13 := of_decide_eq_false d13
        have d14 := of_decide_eq_false d14
        exact y_geq (e8.1 hg) rfl
      · intro ax tx hs okx sm d0 d1 d2
        have e9 : At (Ty.grd (((decide ((((accR s (cB ((s.get! 0).toNat)) j) : Nat) : Int) < (((lowB ((s.get! 0).toNat)) : Nat) : Int))) || (decide ((1114111 : Int) < (((accR s (cB ((s.get! 0).toNat)) j) : Nat) : Int)))) = false) (Ty.bool (decide ((55296 : Int) ≤ (((accR s (cB ((s.get! 0).toNat)) j) : Nat) : Int))))) tx ax (.tmp 78) := d0 rfl
        have e7 : At (Ty.bool ((decide ((((accR s (cB ((s.get! 0).toNat)) j) : Nat) : Int) < (((lowB ((s.get! 0).toNat)) : Nat) : Int))) || (decide ((1114111 : Int) < (((accR s (cB ((s.get! 0).toNat)) j) : Nat) : Int))))) tx ax (.tmp 76) := d1 rfl
        refine run_guard (T := (Ty.bool (decide ((55296 : Int) ≤ (((accR s (cB ((s.get! 0).toNat)) j) : Nat) : Int))))) okx rfl rfl (by decide) e7 (fun hg => ?_)
        obtain ⟨d15, d16⟩ := Bool.or_eq_false_iff.mp hg
        have d15 := of_decide_eq_false d15
        have d16 := of_decide_eq_false d16
        exact y_move (e9.1 hg)
      · intro ax tx hs okx sm d0
        have e10 : At (Ty.grd (((decide ((((accR s (cB ((s.get! 0).toNat)) j) : Nat) : Int) < (((lowB ((s.get! 0).toNat)) : Nat) : Int))) || (decide ((1114111 : Int) < (((accR s (cB ((s.get! 0).toNat)) j) : Nat) : Int)))) = false) (Ty.bool (decide ((55296 : Int) ≤ (((accR s (cB ((s.get! 0).toNat)) j) : Nat) : Int))))) tx ax (.tmp 79) := d0 rfl
        refine run_guard2 (T := (Ty.nat (accR s (cB ((s.get! 0).toNat)) j))) okx rfl rfl (by decide) e10 (fun hg => ?_)
        have hp := of_decide_eq_true hg.2
        exact y_move (kp (sm 4 rfl) hs q84)
      · intro ax tx hs okx sm d0 d1
        have e11 : At (Ty.grd ((((decide ((((accR s (cB ((s.get! 0).toNat)) j) : Nat) : Int) < (((lowB ((s.get! 0).toNat)) : Nat) : Int))) || (decide ((1114111 : Int) < (((accR s (cB ((s.get! 0).toNat)) j) : Nat) : Int)))) = false) ∧ (decide ((55296 : Int) ≤ (((accR s (cB ((s.get! 0).toNat)) j) : Nat) : Int))) = true) (Ty.nat (accR s (cB ((s.get! 0).toNat)) j))) tx ax (.tmp 80) := d0 rfl
        have e10 : At (Ty.grd (((decide ((((accR s (cB ((s.get! 0).toNat)) j) : Nat) : Int) < (((lowB ((s.get! 0).toNat)) : Nat) : Int))) || (decide ((1114111 : Int) < (((accR s (cB ((s.get! 0).toNat)) j) : Nat) : Int)))) = false) (Ty.bool (decide ((55296 : Int) ≤ (((accR s (cB ((s.get! 0).toNat)) j) : Nat) : Int))))) tx ax (.tmp 79) := d1 rfl
        refine run_guard2 (T := (Ty.bool (decide ((((accR s (cB ((s.get! 0).toNat)) j) : Nat) : Int) < (57344 : Int))))) okx rfl rfl (by decide) e10 (fun hg => ?_)
        have hp := of_decide_eq_true hg.2
        exact y_lss (e11.1 hg) rfl
      · intro ax tx hs okx sm d0 d1 d2
        have e10 : At (Ty.grd (((decide ((((accR s (cB ((s.get! 0).toNat)) j) : Nat) : Int) < (((lowB ((s.get! 0).toNat)) : Nat) : Int))) || (decide ((1114111 : Int) < (((accR s (cB ((s.get! 0).toNat)) j) : Nat) : Int)))) = false) (Ty.bool (decide ((55296 : Int) ≤ (((accR s (cB ((s.get! 0).toNat)) j) : Nat) : Int))))) tx ax (.tmp 79) := d0 rfl
        have e12 : At (Ty.grd ((((decide ((((accR s (cB ((s.get! 0).toNat)) j) : Nat) : Int) < (((lowB ((s.get! 0).toNat)) : Nat) : Int))) || (decide ((1114111 : Int) < (((accR s (cB ((s.get! 0).toNat)) j) : Nat) : Int)))) = false) ∧ (decide ((55296 : Int) ≤ (((accR s (cB ((s.get! 0).toNat)) j) : Nat) : Int))) = true) (Ty.bool (decide ((((accR s (cB ((s.get! 0).toNat)) j) : Nat) : Int) < (57344 : Int))))) tx ax (.tmp 81) := d1 rfl
        have e7 : At (Ty.bool ((decide ((((accR s (cB ((s.get! 0).toNat)) j) : Nat) : Int) < (((lowB ((s.get! 0).toNat)) : Nat) : Int))) || (decide ((1114111 : Int) < (((accR s (cB ((s.get! 0).toNat)) j) : Nat) : Int))))) tx ax (.tmp 76) := d2 rfl
        refine run_guard (T := (Ty.bool ((decide ((55296 : Int) ≤ (((accR s (cB ((s.get! 0).toNat)) j) : Nat) : Int))) && (decide ((((accR s (cB ((s.get! 0).toNat)) j) : Nat) : Int) < (57344 : Int)))))) okx rfl rfl (by decide) e7 (fun hg => ?_)
        obtain ⟨d17, d18⟩ := Bool.or_eq_false_iff.mp hg
        have d17 := of_decide_eq_false d17
        have d18 := of_decide_eq_false d18
        exact y_pick_and (e10.1 hg) (grd_part hg e12) rfl
      · intro ax tx hs okx sm d0 d1
        have e7 : At (Ty.bool ((decide ((((accR s (cB ((s.get! 0).toNat)) j) : Nat) : Int) < (((lowB ((s.get! 0).toNat)) : Nat) : Int))) || (decide ((1114111 : Int) < (((accR s (cB ((s.get! 0).toNat)) j) : Nat) : Int))))) tx ax (.tmp 76) := d0 rfl
        have e13 : At (Ty.grd (((decide ((((accR s (cB ((s.get! 0).toNat)) j) : Nat) : Int) < (((lowB ((s.get! 0).toNat)) : Nat) : Int))) || (decide ((1114111 : Int) < (((accR s (cB ((s.get! 0).toNat)) j) : Nat) : Int)))) = false) (Ty.bool ((decide ((55296 : Int) ≤ (((accR s (cB ((s.get! 0).toNat)) j) : Nat) : Int))) && (decide ((((accR s (cB ((s.get! 0).toNat)) j) : Nat) : Int) < (57344 : Int)))))) tx ax (.tmp 82) := d1 rfl
        exact run_plain rfl (y_pick_or e7 rfl e13)
      intro a31 s27 D27
      have ok29 := D27.ok
      have F29 := F24.step0 D27.stp
      have q107 : At (Ty.nat (accR s (cB ((s.get! 0).toNat)) j)) s27 a31 (.tmp 4) := D27.kt q84 rfl
      have q108 : At (Ty.nat (nB ((s.get! 0).toNat))) s27 a31 (.tmp 5) := D27.kt q85 rfl
      have q109 : At (Ty.bool (((decide ((((accR s (cB ((s.get! 0).toNat)) j) : Nat) : Int) < (((lowB ((s.get! 0).toNat)) : Nat) : Int))) || (decide ((1114111 : Int) < (((accR s (cB ((s.get! 0).toNat)) j) : Nat) : Int)))) || ((decide ((55296 : Int) ≤ (((accR s (cB ((s.get! 0).toNat)) j) : Nat) : Int))) && (decide ((((accR s (cB ((s.get! 0).toNat)) j) : Nat) : Int) < (57344 : Int)))))) s27 a31 (.tmp 83) := D27.done 14
      clear D27
      refine tn ?_
      refine cond_t q109 (fun c8 => ?_) (fun c8 => ?_)
      ·
       simp only [Bool.or_eq_true, Bool.and_eq_true, decide_eq_true_eq] at c8
       refine wp_seq ?_
       refine reg (a := a31) (σ := s27) rfl (fun i_ => List.getD [(Ty.pr (Ty.int (-1 : Int))), (Ty.pr (Ty.int (1 : Int)))] i_ Pr.any) ok29 rfl ⟨?_, ?_, trivial⟩ ?_
       · intro ax tx hs okx sm
         exact run_plain rfl (y_assign rfl)
       · intro ax tx hs okx sm d0 d1
         have e0 : At (Ty.int (-1 : Int)) tx ax (.tmp 2) := d0 rfl
         exact run_plain rfl (y_assign rfl)
       intro a32 s28 D28
       have ok30 := D28.ok
       have F30 := F29.step0 D28.stp
       have q110 : At (Ty.int (-1 : Int)) s28 a32 (.tmp 2) := D28.done 0
       have q111 : At (Ty.int (1 : Int)) s28 a32 (.tmp 3) := D28.done 1
       clear D28
       refine tn ?_
       refine wp_ret ?_
       refine tr ?_
       exact retL2 rfl ok30 F30 (hasT2 (cvi (by (exact (rn_bad h0 hsz hje hc (by omega)).1.symm)) q110) (cvi (by (have := (rn_bad h0 hsz hje hc (by omega)).2; omega)) q111))
      ·
       obtain ⟨d19, d20⟩ := Bool.or_eq_false_iff.mp c8
       obtain ⟨d21, d22⟩ := Bool.or_eq_false_iff.mp d19
       replace d21 := of_decide_eq_false d21
       replace d22 := of_decide_eq_false d22
       simp only [Bool.or_eq_false_iff, Bool.and_eq_false_iff, decide_eq_false_iff_not] at c8
       refine wp_skip ?_
       refine tn ?_
       refine wp_seq ?_
       refine reg (a := a31) (σ := s27) rfl (fun i_ => List.getD [(Ty.pr (Ty.nat (accR s (cB ((s.get! 0).toNat)) j))), (Ty.pr (Ty.nat (nB ((s.get! 0).toNat)))), (Ty.pr (Ty.nat (accR s (cB ((s.get! 0).toNat)) j))), (Ty.pr (Ty.nat (nB ((s.get! 0).toNat))))] i_ Pr.any) ok29 rfl ⟨?_, ?_, ?_, ?_, trivial⟩ ?_
       · intro ax tx hs okx sm
         exact run_plain rfl (y_move (kp (sm 4 rfl) hs q107))
       · intro ax tx hs okx sm d0
         exact run_plain rfl (y_move (kp (sm 5 rfl) hs q108))
       · intro ax tx hs okx sm d0 d1 d2
         have e0 : At (Ty.nat (accR s (cB ((s.get! 0).toNat)) j)) tx ax (.tmp 84) := d0 rfl
         exact run_plain rfl (y_assign e0)
       · intro ax tx hs okx sm d0 d1 d2 d3 d4
         have e1 : At (Ty.nat (nB ((s.get! 0).toNat))) tx ax (.tmp 85) := d0 rfl
         have e2 : At (Ty.nat (accR s (cB ((s.get! 0).toNat)) j)) tx ax (.tmp 2) := d1 rfl
         have e0 : At (Ty.nat (accR s (cB ((s.get! 0).toNat)) j)) tx ax (.tmp 84) := d2 rfl
         exact run_plain rfl (y_assign e1)
       intro a33 s29 D29
       have ok31 := D29.ok
       have F31 := F29.step0 D29.stp
       have q112 : At (Ty.nat (accR s (cB ((s.get! 0).toNat)) j)) s29 a33 (.tmp 2) := D29.done 2
       have q113 : At (Ty.nat (nB ((s.get! 0).toNat))) s29 a33 (.tmp 3) := D29.done 3
       clear D29
       refine tn ?_
       refine wp_ret ?_
       exact retL2 rfl ok31 F31 (hasT2 (cvi (by (exact (rn_ok h0 hsz hje hc (by omega)).1.symm)) q112) (cvi (by (have := (rn_ok h0 hsz hje hc (by omega)).2; omega)) q113))


set_option maxHeartbeats 4000000 in
set_option maxRecDepth 100000 in
theorem rRunes_fn (s : ByteArray) (σ : GW)  (v0 : Value) (hv0 : Ty.has (Ty.val (Value.string s)) σ v0)  (hs : s.size ≤ 17592186044416) :
    FnC Try.prog 90 #[v0] σ (Ty.lst Ty.int (runsL s)) := by
 refine fn_intro0 Try.func90 rfl Try.ntmps90 (Nat.le_of_ble_eq_true rfl) (fun s0 a0 hle F0 ok0 hargs => ?_)
 have p0 : At (Ty.val (Value.string s)) s0 a0 (.tmp 0) := by have e := hargs 0 _ rfl; show Ty.has _ _ _; rw [e]; exact Ty.up _ hle hv0
 clear hargs
 refine wp_seq ?_
 refine reg (a := a0) (σ := s0) rfl (fun i_ => List.getD [(Ty.pr (Ty.val (Value.slice none 0 0)))] i_ Pr.any) ok0 rfl ⟨?_, trivial⟩ ?_
 · intro ax tx hs okx sm
   exact run_plain rfl (y_assign rfl)
 intro a1 s1 D1
 have ok1 := D1.ok
 have F1 := F0.step0 D1.stp
 have q1 : At (Ty.val (Value.string s)) s1 a1 (.tmp 0) := D1.kt p0 rfl
 clear D1
 refine tn ?_
 refine wp_seq ?_
 refine reg (a := a1) (σ := s1) rfl (fun i_ => List.getD [(Ty.pr (Ty.val (Value.slice none 0 0)))] i_ Pr.any) ok1 rfl ⟨?_, trivial⟩ ?_
 · intro ax tx hs okx sm
   exact run_plain rfl (y_assign rfl)
 intro a2 s2 D2
 have ok2 := D2.ok
 have F2 := F1.step0 D2.stp
 have q2 : At (Ty.val (Value.string s)) s2 a2 (.tmp 0) := D2.kt q1 rfl
 have q3 : At (Ty.val (Value.slice none 0 0)) s2 a2 (.tmp 3) := D2.done 0
 clear D2
 refine tn ?_
 refine wp_seq ?_
 refine wp_block ?_
 have o1 : Own s2 5 3 1 (Value.slice none 0 0) 0 (List.map Ty.int ([] : List Int)) := Own.nil _ _ _ _
 refine loop (fun n1 a3 w1 => ∃ (t1 : GW) (p : Nat) (f : Nat) (xs : List Int) (x3_0 : Value), t1.w = w1 ∧ FromL [] s0 t1 ∧ Ok 22 a3 ∧ At (Ty.val (Value.string (ByteArray.extract s p (ByteArray.size s)))) t1 a3 (.tmp 0) ∧ At (Ty.val x3_0) t1 a3 (.tmp 3) ∧ Own t1 5 3 1 x3_0 (List.length xs) (List.map Ty.int xs) ∧ (xs ++ runsF s f p = runsL s) ∧ (s.size ≤ f + p) ∧ (p ≤ s.size) ∧ (xs.length ≤ p) ∧ n1 = s.size + 1 - p) (s.size + 1 - (0)) ?_ ?_
 ·
  exact ⟨s2, 0, s.size, ([] : List Int), (Value.slice none 0 0), rfl, F2, ok2, (cvt (by (rw [ByteArray.extract_zero_size])) q2), q3, (cvo (by (simp)) (by (simp)) o1), rfl, by omega, by omega, by simp, rfl⟩
 ·
  rintro n2 a4 w2 ⟨t2, p, f, xs, x3_0, rfl, F3, ok3, q4, q5, o2, heq, hf, hp, hx, rfl⟩
  have hez : (ByteArray.extract s p (ByteArray.size s)).size = s.size - p := by rw [ByteArray.size_extract]; omega
  have hw := wid_pos s p
  have her := ext_run s p
  refine wp_seq ?_
  refine wp_seq ?_
  refine reg (a := a4) (σ := t2) rfl (fun i_ => List.getD [(Ty.pr (Ty.val (Value.string (ByteArray.extract s p (ByteArray.size s))))), (Ty.pr (Ty.nat (ByteArray.size (ByteArray.extract s p (ByteArray.size s))))), (Ty.pr (Ty.bool (decide ((0 : Int) < (((ByteArray.size (ByteArray.extract s p (ByteArray.size s))) : Nat) : Int)))))] i_ Pr.any) ok3 rfl ⟨?_, ?_, ?_, trivial⟩ ?_
  · intro ax tx hs okx sm
    exact run_plain rfl (y_move (kp (sm 0 rfl) hs q4))
  · intro ax tx hs okx sm d0
    have e0 : At (Ty.val (Value.string (ByteArray.extract s p (ByteArray.size s)))) tx ax (.tmp 6) := d0 rfl
    exact run_plain rfl (y_len_str Try.underlying9 e0)
  · intro ax tx hs okx sm d0
    have e1 : At (Ty.nat (ByteArray.size (ByteArray.extract s p (ByteArray.size s)))) tx ax (.tmp 7) := d0 rfl
    exact run_plain rfl (y_gtr e1 rfl)
  intro a5 s3 D3
  have ok4 := D3.ok
  have F4 := F3.step0 D3.stp
  have q6 : At (Ty.val (Value.string (ByteArray.extract s p (ByteArray.size s)))) s3 a5 (.tmp 0) := D3.kt q4 rfl
  have q7 : At (Ty.val x3_0) s3 a5 (.tmp 3) := D3.kt q5 rfl
  have o3 := Own.k0 o2 D3.stp
  have q8 : At (Ty.bool (decide ((0 : Int) < (((ByteArray.size (ByteArray.extract s p (ByteArray.size s))) : Nat) : Int)))) s3 a5 (.tmp 8) := D3.done 2
  clear D3
  refine tn ?_
  refine cond_p (p := ((0 : Int) < (((ByteArray.size (ByteArray.extract s p (ByteArray.size s))) : Nat) : Int))) q8 (fun c1 => ?_) (fun c1 => ?_)
  ·
   have hwi := wid_in (s := s) (p := p) (by omega)
   refine wp_skip ?_
   refine tn ?_
   refine wp_block ?_
   refine wp_seq ?_
   refine reg (a := a5) (σ := s3) rfl (fun i_ => List.getD [(Ty.pr (Ty.val (Value.string (ByteArray.extract s p (ByteArray.size s))))), (Ty.pr (Ty.tup2 (Ty.int (runM s p)) (Ty.nat (wid s p)))), (Ty.pr (Ty.tup2 (Ty.int (runM s p)) (Ty.nat (wid s p)))), (Ty.pr (Ty.int (runM s p))), (Ty.pr (Ty.nat (wid s p))), (Ty.pr (Ty.int (runM s p))), (Ty.pr (Ty.nat (wid s p)))] i_ Pr.any) ok4 rfl ⟨?_, ?_, ?_, ?_, ?_, ?_, ?_, trivial⟩ ?_
   · intro ax tx hs okx sm
     exact run_plain rfl (y_move (kp (sm 0 rfl) hs q6))
   · intro ax tx hs okx sm d0
     have e0 : At (Ty.val (Value.string (ByteArray.extract s p (ByteArray.size s)))) tx ax (.tmp 10) := d0 rfl
     exact run_plain rfl ((y_call #[ax.eval (.tmp 10)] Try.func116 rfl rfl (by simp only [List.map_toArray, List.map_cons, List.map_nil]) (rRuneAt_fn ((ByteArray.extract s p (ByteArray.size s))) _ _ e0 (by omega))).mono (fun τ _ h => cvt (σ := τ) (T := (Ty.tup2 (Ty.int (runM ((ByteArray.extract s p (ByteArray.size s))) 0)) (Ty.nat (wid ((ByteArray.extract s p (ByteArray.size s))) 0)))) (U := (Ty.tup2 (Ty.int (runM s p)) (Ty.nat (wid s p)))) (by rw [her.1, her.2]) h))
   · intro ax tx hs okx sm d0
     have e1 : At (Ty.tup2 (Ty.int (runM s p)) (Ty.nat (wid s p))) tx ax (.tmp 11) := d0 rfl
     exact run_plain rfl (y_move e1)
   · intro ax tx hs okx sm d0
     have e2 : At (Ty.tup2 (Ty.int (runM s p)) (Ty.nat (wid s p))) tx ax (.tmp 9) := d0 rfl
     exact run_plain rfl (y_ext2_0 e2)
   · intro ax tx hs okx sm d0 d1
     have e2 : At (Ty.tup2 (Ty.int (runM s p)) (Ty.nat (wid s p))) tx ax (.tmp 9) := d0 rfl
     exact run_plain rfl (y_ext2_1 e2)
   · intro ax tx hs okx sm d0 d1 d2 d3 d4 d5 d6
     have e3 : At (Ty.int (runM s p)) tx ax (.tmp 12) := d0 rfl
     have e1 : At (Ty.tup2 (Ty.int (runM s p)) (Ty.nat (wid s p))) tx ax (.tmp 11) := d1 rfl
     have e0 : At (Ty.val (Value.string (ByteArray.extract s p (ByteArray.size s)))) tx ax (.tmp 10) := d2 rfl
     have e2 : At (Ty.tup2 (Ty.int (runM s p)) (Ty.nat (wid s p))) tx ax (.tmp 9) := d4 rfl
     exact run_plain rfl (y_assign e3)
   · intro ax tx hs okx sm d0 d1 d2 d3 d4 d5 d6 d7
     have e4 : At (Ty.nat (wid s p)) tx ax (.tmp 13) := d0 rfl
     have e5 : At (Ty.int (runM s p)) tx ax (.tmp 4) := d1 rfl
     have e0 : At (Ty.val (Value.string (ByteArray.extract s p (ByteArray.size s)))) tx ax (.tmp 10) := d2 rfl
     have e1 : At (Ty.tup2 (Ty.int (runM s p)) (Ty.nat (wid s p))) tx ax (.tmp 11) := d3 rfl
     have e2 : At (Ty.tup2 (Ty.int (runM s p)) (Ty.nat (wid s p))) tx ax (.tmp 9) := d4 rfl
     have e3 : At (Ty.int (runM s p)) tx ax (.tmp 12) := d5 rfl
     exact run_plain rfl (y_assign e4)
   intro a6 s4 D4
   have ok5 := D4.ok
   have F5 := F4.step0 D4.stp
   have q9 : At (Ty.val (Value.string (ByteArray.extract s p (ByteArray.size s)))) s4 a6 (.tmp 0) := D4.kt q6 rfl
   have q10 : At (Ty.val x3_0) s4 a6 (.tmp 3) := D4.kt q7 rfl
   have o4 := Own.k0 o3 D4.stp
   have q11 : At (Ty.int (runM s p)) s4 a6 (.tmp 4) := D4.done 5
   have q12 : At (Ty.nat (wid s p)) s4 a6 (.tmp 5) := D4.done 6
   clear D4
   refine tn ?_
   refine wp_seq ?_
   refine reg2 (a := a6) (σ := s4) rfl 3 (fun i_ => List.getD [(Ty.pr (Ty.val x3_0)), (Ty.pr (Ty.int (runM s p))), (Ty.pr (Ty.sl 1 1 [(Ty.int (runM s p))]))] i_ Pr.any) ok5 rfl (by decide) rfl ⟨?_, ?_, ?_, trivial⟩ ?_
   · intro ax tx hs okx sm
     exact run_plain rfl (y_move (kp (sm 3 rfl) hs q10))
   · intro ax tx hs okx sm
     exact run_plain rfl (y_move (kp (sm 4 rfl) hs q11))
   · intro ax tx hs okx sm d0
     have e1 : At (Ty.int (runM s p)) tx ax (.tmp 15) := d0 rfl
     exact run_plain rfl (y_build1o Try.underlying34 Try.inf3 rfl (one_val rfl) e1)
   intro a7 s5 D5
   have ok6 := D5.ok
   have F6 := F5.step0 D5.stp
   have q13 : At (Ty.val (Value.string (ByteArray.extract s p (ByteArray.size s)))) s5 a7 (.tmp 0) := D5.kt q9 rfl
   have q14 : At (Ty.val x3_0) s5 a7 (.tmp 3) := D5.kt q10 rfl
   have q15 : At (Ty.nat (wid s p)) s5 a7 (.tmp 5) := D5.kt q12 rfl
   have o5 := Own.k0 o4 D5.stp
   have q16 : At (Ty.val x3_0) s5 a7 (.tmp 14) := D5.done 0 (by decide)
   have q17 : At (Ty.sl 1 1 [(Ty.int (runM s p))]) s5 a7 (.tmp 16) := D5.done 2 (by decide)
   have b1 := sl_le q17
   clear D5
   refine tailL (L := [5]) (R := (fun v τ => Own τ 5 3 1 v ((List.length xs) + 1) ((List.map Ty.int xs) ++ [(Ty.int (runM s p))]))) rfl rfl (by decide) ok6 (YldM.toL (m_append Try.underlying34 Try.inf3 (by decide) rfl (by decide) (al (R := (Pr.own 5 3 1 (List.length xs) (List.map Ty.int xs))) q16 o5) q17 (by intro U hU; simp at hU; subst hU; exact one_val rfl) (by omega) (by omega))) (fun a8 s6 hs1 ok7 r1 sm1 => ?_)
   have F7 := F6.stepL hs1 (by decide)
   have q18 : At (Ty.val (Value.string (ByteArray.extract s p (ByteArray.size s)))) s6 a8 (.tmp 0) := kpL hs1 (by decide) (sm1 0 (by decide)) q13
   have q19 : At (Ty.val x3_0) s6 a8 (.tmp 3) := kpL hs1 (by decide) (sm1 3 (by decide)) q14
   have q20 : At (Ty.nat (wid s p)) s6 a8 (.tmp 5) := kpL hs1 (by decide) (sm1 5 (by decide)) q15
   obtain ⟨x1, hx1⟩ : ∃ x, a8.eval (.tmp 17) = x := ⟨_, rfl⟩
   have q21 : At (Ty.val x1) s6 a8 (.tmp 17) := hx1
   have o6 : Own s6 5 3 1 x1 (List.length (xs ++ [(runM s p)])) (List.map Ty.int (xs ++ [(runM s p)])) := al2 (R := (Pr.own 5 3 1 (List.length (xs ++ [(runM s p)])) (List.map Ty.int (xs ++ [(runM s p)])))) hx1 (cvo (by simp) (by first | (rw [List.map_append]; rfl) | simp) r1)
   clear r1
   refine tailL (L := []) (R := (fun v τ => Pr.has (Ty.pr (Ty.val x1)) τ v)) rfl rfl (by decide) ok7 (Yld.toL (y_assign q21)) (fun a9 s7 hs2 ok8 r2 sm2 => ?_)
   have F8 := F7.stepL hs2 (by decide)
   have q22 : At (Ty.val (Value.string (ByteArray.extract s p (ByteArray.size s)))) s7 a9 (.tmp 0) := kpL hs2 (by decide) (sm2 0 (by decide)) q18
   have q23 : At (Ty.nat (wid s p)) s7 a9 (.tmp 5) := kpL hs2 (by decide) (sm2 5 (by decide)) q20
   have o7 := Own.keepL o6 hs2 (by decide) (by decide)
   have q24 : At (Ty.val x1) s7 a9 (.tmp 3) := r2
   clear r2
   refine wpList_nil ?_
   refine tn ?_
   refine reg (a := a9) (σ := s7) rfl (fun i_ => List.getD [(Ty.pr (Ty.val (Value.string (ByteArray.extract s p (ByteArray.size s))))), (Ty.pr (Ty.nat (wid s p))), (Ty.pr (Ty.val (Value.string (ByteArray.extract (ByteArray.extract s p (ByteArray.size s)) (wid s p) (ByteArray.size (ByteArray.extract s p (ByteArray.size s))))))), (Ty.pr (Ty.val (Value.string (ByteArray.extract (ByteArray.extract s p (ByteArray.size s)) (wid s p) (ByteArray.size (ByteArray.extract s p (ByteArray.size s)))))))] i_ Pr.any) ok8 rfl ⟨?_, ?_, ?_, ?_, trivial⟩ ?_
   · intro ax tx hs okx sm
     exact run_plain rfl (y_move (kp (sm 0 rfl) hs q22))
   · intro ax tx hs okx sm
     exact run_plain rfl (y_move (kp (sm 5 rfl) hs q23))
   · intro ax tx hs okx sm d0 d1
     have e0 : At (Ty.val (Value.string (ByteArray.extract s p (ByteArray.size s)))) tx ax (.tmp 18) := d0 rfl
     have e1 : At (Ty.nat (wid s p)) tx ax (.tmp 19) := d1 rfl
     exact run_plain rfl (y_sfrom (l := (wid s p)) Try.underlying9 e0 e1 (by omega))
   · intro ax tx hs okx sm d0 d1 d2 d3
     have e2 : At (Ty.val (Value.string (ByteArray.extract (ByteArray.extract s p (ByteArray.size s)) (wid s p) (ByteArray.size (ByteArray.extract s p (ByteArray.size s)))))) tx ax (.tmp 20) := d0 rfl
     have e0 : At (Ty.val (Value.string (ByteArray.extract s p (ByteArray.size s)))) tx ax (.tmp 18) := d1 rfl
     have e1 : At (Ty.nat (wid s p)) tx ax (.tmp 19) := d2 rfl
     exact run_plain rfl (y_assign e2)
   intro a10 s8 D6
   have ok9 := D6.ok
   have F9 := F8.step0 D6.stp
   have q25 : At (Ty.val x1) s8 a10 (.tmp 3) := D6.kt q24 rfl
   have o8 := Own.k0 o7 D6.stp
   have q26 : At (Ty.val (Value.string (ByteArray.extract (ByteArray.extract s p (ByteArray.size s)) (wid s p) (ByteArray.size (ByteArray.extract s p (ByteArray.size s)))))) s8 a10 (.tmp 0) := D6.done 3
   clear D6
   refine bn ?_
   exact tn ⟨s.size + 1 - ((p + wid s p)), by omega, s8, (p + wid s p), (f - 1), (xs ++ [runM s p]), x1, rfl, F9, ok9, (cvt (by (rw [ext_ext hwi])) q26), q25, (cvo (by (simp)) (by (simp)) o8), runsF_step heq (by omega) (by omega), by omega, by omega, by simp; omega, rfl⟩
  ·
   refine wp_exit ?_
   refine tx ?_
   refine tx ?_
   refine bx ?_
   refine tn ?_
   refine wp_seq ?_
   refine reg (a := a5) (σ := s3) rfl (fun i_ => List.getD [(Ty.pr (Ty.val x3_0)), (Ty.pr (Ty.val x3_0))] i_ Pr.any) ok4 rfl ⟨?_, ?_, trivial⟩ ?_
   · intro ax tx hs okx sm
     exact run_plain rfl (y_move (kp (sm 3 rfl) hs q7))
   · intro ax tx hs okx sm d0 d1
     have e0 : At (Ty.val x3_0) tx ax (.tmp 21) := d0 rfl
     exact run_plain rfl (y_assign e0)
   intro a11 s9 D7
   have ok10 := D7.ok
   have F10 := F4.step0 D7.stp
   have o9 := Own.k0 o3 D7.stp
   have q27 : At (Ty.val x3_0) s9 a11 (.tmp 2) := D7.done 1
   clear D7
   refine tn ?_
   refine wp_ret ?_
   obtain ⟨t3, e1, h1, q28⟩ := Own.seal o9 (by decide)
   rw [← e1]
   have F11 := F10.step h1 (by decide)
   have q29 : At (Ty.lst Ty.int xs) t3 a11 (.tmp 2) := by have e : a11.eval (.tmp 2) = x3_0 := q27; show Ty.has _ _ _; rw [e]; exact q28
   exact retL1 rfl ok10 F11 (cvt (by (rw [runsF_end (by omega), List.append_nil] at heq; rw [heq])) q29)


set_option maxHeartbeats 4000000 in
set_option maxRecDepth 100000 in
theorem rBellOf_fn (c : Int) (σ : GW)  (v0 : Value) (hv0 : Ty.has (Ty.val (Value.int .u8 c)) σ v0)  (hc : 0 ≤ c ∧ c < 256) :
    FnC Try.prog 102 #[v0] σ (Ty.int (Lib.indexByte SIGNS.data.toList (c).toNat.toUInt8)) := by
 refine fn_intro0 Try.func102 rfl Try.ntmps102 (Nat.le_of_ble_eq_true rfl) (fun s0 a0 hle F0 ok0 hargs => ?_)
 have p0 : At (Ty.val (Value.int .u8 c)) s0 a0 (.tmp 0) := by have e := hargs 0 _ rfl; show Ty.has _ _ _; rw [e]; exact Ty.up _ hle hv0
 clear hargs
 refine wp_seq ?_
 refine reg (a := a0) (σ := s0) rfl (fun i_ => List.getD [(Ty.pr (Ty.int (0 : Int)))] i_ Pr.any) ok0 rfl ⟨?_, trivial⟩ ?_
 · intro ax tx hs okx sm
   exact run_plain rfl (y_assign rfl)
 intro a1 s1 D1
 have ok1 := D1.ok
 have F1 := F0.step0 D1.stp
 have q1 : At (Ty.val (Value.int .u8 c)) s1 a1 (.tmp 0) := D1.kt p0 rfl
 clear D1
 refine tn ?_
 refine wp_seq ?_
 refine reg (a := a1) (σ := s1) rfl (fun i_ => List.getD [(Ty.pr (Ty.val (Value.string SIGNS)))] i_ Pr.any) ok1 rfl ⟨?_, trivial⟩ ?_
 · intro ax tx hs okx sm
   exact run_plain rfl (y_assign rfl)
 intro a2 s2 D2
 have ok2 := D2.ok
 have F2 := F1.step0 D2.stp
 have q2 : At (Ty.val (Value.int .u8 c)) s2 a2 (.tmp 0) := D2.kt q1 rfl
 have q3 : At (Ty.val (Value.string SIGNS)) s2 a2 (.tmp 3) := D2.done 0
 clear D2
 refine tn ?_
 refine wp_seq ?_
 refine wp_seq ?_
 refine reg (a := a2) (σ := s2) rfl (fun i_ => List.getD [(Ty.pr (Ty.int (0 : Int)))] i_ Pr.any) ok2 rfl ⟨?_, trivial⟩ ?_
 · intro ax tx hs okx sm
   exact run_plain rfl (y_assign rfl)
 intro a3 s3 D3
 have ok3 := D3.ok
 have F3 := F2.step0 D3.stp
 have q4 : At (Ty.val (Value.int .u8 c)) s3 a3 (.tmp 0) := D3.kt q2 rfl
 have q5 : At (Ty.val (Value.string SIGNS)) s3 a3 (.tmp 3) := D3.kt q3 rfl
 have q6 : At (Ty.int (0 : Int)) s3 a3 (.tmp 4) := D3.done 0
 clear D3
 refine tn ?_
 refine wp_block ?_
 refine loop (fun n1 a4 w1 => ∃ (t1 : GW) (i : Nat), t1.w = w1 ∧ FromL [] s0 t1 ∧ Ok 17 a4 ∧ At (Ty.nat i) t1 a4 (.tmp 4) ∧ At (Ty.val (Value.int .u8 c)) t1 a4 (.tmp 0) ∧ At (Ty.val (Value.string SIGNS)) t1 a4 (.tmp 3) ∧ (i ≤ 12) ∧ (∀ j, j < i → (((SIGNS.get! j).toNat : Nat) : Int) ≠ c) ∧ n1 = 12 - i) (12 - (0)) ?_ ?_
 ·
  exact ⟨s3, 0, rfl, F3, ok3, (cvi (by (first | rfl | omega | (simp_all; done) | (simp_all; omega))) q6), q4, q5, by omega, fun j hj => absurd hj (Nat.not_lt_zero j), rfl⟩
 ·
  rintro n2 a5 w2 ⟨t2, i, rfl, F4, ok4, q7, q8, q9, hi, hno, rfl⟩
  have hsz := signs_size
  refine wp_seq ?_
  refine wp_seq ?_
  refine reg (a := a5) (σ := t2) rfl (fun i_ => List.getD [(Ty.pr (Ty.nat i)), (Ty.pr (Ty.val (Value.string SIGNS))), (Ty.pr (Ty.nat (ByteArray.size SIGNS))), (Ty.pr (Ty.bool (decide (((i : Nat) : Int) < (((ByteArray.size SIGNS) : Nat) : Int)))))] i_ Pr.any) ok4 rfl ⟨?_, ?_, ?_, ?_, trivial⟩ ?_
  · intro ax tx hs okx sm
    exact run_plain rfl (y_move (kp (sm 4 rfl) hs q7))
  · intro ax tx hs okx sm
    exact run_plain rfl (y_move (kp (sm 3 rfl) hs q9))
  · intro ax tx hs okx sm d0
    have e1 : At (Ty.val (Value.string SIGNS)) tx ax (.tmp 6) := d0 rfl
    exact run_plain rfl (y_len_str Try.underlying9 e1)
  · intro ax tx hs okx sm d0 d1
    have e0 : At (Ty.nat i) tx ax (.tmp 5) := d0 rfl
    have e2 : At (Ty.nat (ByteArray.size SIGNS)) tx ax (.tmp 7) := d1 rfl
    exact run_plain rfl (y_lss e0 e2)
  intro a6 s4 D4
  have ok5 := D4.ok
  have F5 := F4.step0 D4.stp
  have q10 : At (Ty.nat i) s4 a6 (.tmp 4) := D4.kt q7 rfl
  have q11 : At (Ty.val (Value.int .u8 c)) s4 a6 (.tmp 0) := D4.kt q8 rfl
  have q12 : At (Ty.val (Value.string SIGNS)) s4 a6 (.tmp 3) := D4.kt q9 rfl
  have q13 : At (Ty.bool (decide (((i : Nat) : Int) < (((ByteArray.size SIGNS) : Nat) : Int)))) s4 a6 (.tmp 8) := D4.done 3
  clear D4
  refine tn ?_
  refine cond_p (p := (((i : Nat) : Int) < (((ByteArray.size SIGNS) : Nat) : Int))) q13 (fun c1 => ?_) (fun c1 => ?_)
  ·
   refine wp_skip ?_
   refine tn ?_
   refine wp_seq ?_
   refine wp_block ?_
   refine wp_seq ?_
   refine reg (a := a6) (σ := s4) rfl (fun i_ => List.getD [(Ty.pr (Ty.val (Value.string SIGNS))), (Ty.pr (Ty.nat i)), (Ty.pr (Ty.val (Value.int .u8 (((SIGNS.get! i).toNat : Nat) : Int)))), (Ty.pr (Ty.val (Value.int .u8 c))), (Ty.pr (Ty.bool (decide ((((SIGNS.get! i).toNat : Nat) : Int) = c))))] i_ Pr.any) ok5 rfl ⟨?_, ?_, ?_, ?_, ?_, trivial⟩ ?_
   · intro ax tx hs okx sm
     exact run_plain rfl (y_move (kp (sm 3 rfl) hs q12))
   · intro ax tx hs okx sm
     exact run_plain rfl (y_move (kp (sm 4 rfl) hs q10))
   · intro ax tx hs okx sm d0 d1
     have e0 : At (Ty.val (Value.string SIGNS)) tx ax (.tmp 11) := d0 rfl
     have e1 : At (Ty.nat i) tx ax (.tmp 12) := d1 rfl
     exact run_plain rfl (y_sindex Try.underlying9 e0 e1 (by omega) (by omega))
   · intro ax tx hs okx sm
     exact run_plain rfl (y_move (kp (sm 0 rfl) hs q11))
   · intro ax tx hs okx sm d0 d1
     have e2 : At (Ty.val (Value.int .u8 (((SIGNS.get! i).toNat : Nat) : Int))) tx ax (.tmp 13) := d0 rfl
     have e3 : At (Ty.val (Value.int .u8 c)) tx ax (.tmp 14) := d1 rfl
     exact run_plain rfl (y_eql e2 e3)
   intro a7 s5 D5
   have ok6 := D5.ok
   have F6 := F5.step0 D5.stp
   have q14 : At (Ty.nat i) s5 a7 (.tmp 4) := D5.kt q10 rfl
   have q15 : At (Ty.val (Value.int .u8 c)) s5 a7 (.tmp 0) := D5.kt q11 rfl
   have q16 : At (Ty.val (Value.string SIGNS)) s5 a7 (.tmp 3) := D5.kt q12 rfl
   have q17 : At (Ty.bool (decide ((((SIGNS.get! i).toNat : Nat) : Int) = c))) s5 a7 (.tmp 15) := D5.done 4
   clear D5
   refine tn ?_
   refine cond_p (p := ((((SIGNS.get! i).toNat : Nat) : Int) = c)) q17 (fun c2 => ?_) (fun c2 => ?_)
   ·
    refine wp_seq ?_
    refine reg (a := a7) (σ := s5) rfl (fun i_ => List.getD [(Ty.pr (Ty.nat i)), (Ty.pr (Ty.nat i))] i_ Pr.any) ok6 rfl ⟨?_, ?_, trivial⟩ ?_
    · intro ax tx hs okx sm
      exact run_plain rfl (y_move (kp (sm 4 rfl) hs q14))
    · intro ax tx hs okx sm d0 d1
      have e0 : At (Ty.nat i) tx ax (.tmp 16) := d0 rfl
      exact run_plain rfl (y_assign e0)
    intro a8 s6 D6
    have ok7 := D6.ok
    have F7 := F6.step0 D6.stp
    have q18 : At (Ty.nat i) s6 a8 (.tmp 2) := D6.done 1
    clear D6
    refine tn ?_
    refine wp_ret ?_
    refine br ?_
    refine tr ?_
    refine tr ?_
    refine br ?_
    refine tr ?_
    exact retL1 rfl ok7 F7 (cvi (by (exact (ixs_yes hc.1 hc.2 (by omega) (by assumption) hno).symm)) q18)
   ·
    refine wp_skip ?_
    refine bn ?_
    refine tn ?_
    refine reg (a := a7) (σ := s5) rfl (fun i_ => List.getD [(Ty.pr (Ty.nat i)), (Ty.pr (Ty.int (((i : Nat) : Int) + (1 : Int)))), (Ty.pr (Ty.int (((i : Nat) : Int) + (1 : Int))))] i_ Pr.any) ok6 rfl ⟨?_, ?_, ?_, trivial⟩ ?_
    · intro ax tx hs okx sm
      exact run_plain rfl (y_move (kp (sm 4 rfl) hs q14))
    · intro ax tx hs okx sm d0
      have e0 : At (Ty.nat i) tx ax (.tmp 9) := d0 rfl
      exact run_plain rfl (y_add e0 rfl (w64 (by omega) (by omega)))
    · intro ax tx hs okx sm d0 d1 d2
      have e1 : At (Ty.int (((i : Nat) : Int) + (1 : Int))) tx ax (.tmp 10) := d0 rfl
      have e0 : At (Ty.nat i) tx ax (.tmp 9) := d1 rfl
      exact run_plain rfl (y_assign e1)
    intro a9 s7 D7
    have ok8 := D7.ok
    have F8 := F6.step0 D7.stp
    have q19 : At (Ty.val (Value.int .u8 c)) s7 a9 (.tmp 0) := D7.kt q15 rfl
    have q20 : At (Ty.val (Value.string SIGNS)) s7 a9 (.tmp 3) := D7.kt q16 rfl
    have q21 : At (Ty.int (((i : Nat) : Int) + (1 : Int))) s7 a9 (.tmp 4) := D7.done 2
    clear D7
    exact tn ⟨12 - ((i+1)), by omega, s7, (i+1), rfl, F8, ok8, (cvi (by (first | rfl | omega | (simp_all; done) | (simp_all; omega))) q21), q19, q20, by omega, fun j hj => by (by_cases e : j = i; subst e; assumption; exact hno j (by omega)), rfl⟩
  ·
   refine wp_exit ?_
   refine tx ?_
   refine tx ?_
   refine bx ?_
   refine tn ?_
   refine wp_seq ?_
   refine reg (a := a6) (σ := s4) rfl (fun i_ => List.getD [(Ty.pr (Ty.int (-1 : Int)))] i_ Pr.any) ok5 rfl ⟨?_, trivial⟩ ?_
   · intro ax tx hs okx sm
     exact run_plain rfl (y_assign rfl)
   intro a10 s8 D8
   have ok9 := D8.ok
   have F9 := F5.step0 D8.stp
   have q22 : At (Ty.int (-1 : Int)) s8 a10 (.tmp 2) := D8.done 0
   clear D8
   refine tn ?_
   refine wp_ret ?_
   exact retL1 rfl ok9 F9 (cvi (by (exact (ixs_no hc.1 hc.2 (fun j hj => hno j (by omega))).symm)) q22)


set_option maxHeartbeats 4000000 in
set_option maxRecDepth 100000 in
theorem rBell_fn (c : Int) (σ : GW)  (v0 : Value) (hv0 : Ty.has (Ty.int c) σ v0)   :
    FnC Try.prog 91 #[v0] σ (Ty.int (signIdx c)) := by
 refine fn_intro0 Try.func91 rfl Try.ntmps91 (Nat.le_of_ble_eq_true rfl) (fun s0 a0 hle F0 ok0 hargs => ?_)
 have p0 : At (Ty.int c) s0 a0 (.tmp 0) := by have e := hargs 0 _ rfl; show Ty.has _ _ _; rw [e]; exact Ty.up _ hle hv0
 clear hargs
 refine wp_seq ?_
 refine reg (a := a0) (σ := s0) rfl (fun i_ => List.getD [(Ty.pr (Ty.int (0 : Int)))] i_ Pr.any) ok0 rfl ⟨?_, trivial⟩ ?_
 · intro ax tx hs okx sm
   exact run_plain rfl (y_assign rfl)
 intro a1 s1 D1
 have ok1 := D1.ok
 have F1 := F0.step0 D1.stp
 have q1 : At (Ty.int c) s1 a1 (.tmp 0) := D1.kt p0 rfl
 clear D1
 refine tn ?_
 refine wp_seq ?_
 refine wp_seq ?_
 refine reg (a := a1) (σ := s1) rfl (fun i_ => List.getD [(Ty.pr (Ty.int c)), (Ty.pr (Ty.bool (decide (c < (0 : Int))))), (Ty.pr (Ty.bool (decide (c < (0 : Int))))), (Ty.pr (Ty.grd ((decide (c < (0 : Int))) = false) (Ty.int c))), (Ty.pr (Ty.grd ((decide (c < (0 : Int))) = false) (Ty.bool (decide ((127 : Int) < c))))), (Ty.pr (Ty.bool ((decide (c < (0 : Int))) || (decide ((127 : Int) < c)))))] i_ Pr.any) ok1 rfl ⟨?_, ?_, ?_, ?_, ?_, ?_, trivial⟩ ?_
 · intro ax tx hs okx sm
   exact run_plain rfl (y_move (kp (sm 0 rfl) hs q1))
 · intro ax tx hs okx sm d0
   have e0 : At (Ty.int c) tx ax (.tmp 3) := d0 rfl
   exact run_plain rfl (y_lss e0 rfl)
 · intro ax tx hs okx sm d0
   have e1 : At (Ty.bool (decide (c < (0 : Int)))) tx ax (.tmp 4) := d0 rfl
   exact run_plain rfl (y_move e1)
 · intro ax tx hs okx sm d0
   have e2 : At (Ty.bool (decide (c < (0 : Int)))) tx ax (.tmp 5) := d0 rfl
   refine run_guard (T := (Ty.int c)) okx rfl rfl (by decide) e2 (fun hg => ?_)
   have hp := of_decide_eq_false hg
   exact y_move (kp (sm 0 rfl) hs q1)
 · intro ax tx hs okx sm d0 d1
   have e3 : At (Ty.grd ((decide (c < (0 : Int))) = false) (Ty.int c)) tx ax (.tmp 6) := d0 rfl
   have e2 : At (Ty.bool (decide (c < (0 : Int)))) tx ax (.tmp 5) := d1 rfl
   refine run_guard (T := (Ty.bool (decide ((127 : Int) < c)))) okx rfl rfl (by decide) e2 (fun hg => ?_)
   have hp := of_decide_eq_false hg
   exact y_gtr (e3.1 hg) rfl
 · intro ax tx hs okx sm d0 d1
   have e2 : At (Ty.bool (decide (c < (0 : Int)))) tx ax (.tmp 5) := d0 rfl
   have e4 : At (Ty.grd ((decide (c < (0 : Int))) = false) (Ty.bool (decide ((127 : Int) < c)))) tx ax (.tmp 7) := d1 rfl
   exact run_plain rfl (y_pick_or e2 rfl e4)
 intro a2 s2 D2
 have ok2 := D2.ok
 have F2 := F1.step0 D2.stp
 have q2 : At (Ty.int c) s2 a2 (.tmp 0) := D2.kt q1 rfl
 have q3 : At (Ty.bool ((decide (c < (0 : Int))) || (decide ((127 : Int) < c)))) s2 a2 (.tmp 8) := D2.done 5
 clear D2
 refine tn ?_
 refine cond_t q3 (fun c1 => ?_) (fun c1 => ?_)
 ·
  simp only [Bool.or_eq_true, decide_eq_true_eq] at c1
  refine wp_seq ?_
  refine reg (a := a2) (σ := s2) rfl (fun i_ => List.getD [(Ty.pr (Ty.int (-1 : Int)))] i_ Pr.any) ok2 rfl ⟨?_, trivial⟩ ?_
  · intro ax tx hs okx sm
    exact run_plain rfl (y_assign rfl)
  intro a3 s3 D3
  have ok3 := D3.ok
  have F3 := F2.step0 D3.stp
  have q4 : At (Ty.int (-1 : Int)) s3 a3 (.tmp 2) := D3.done 0
  clear D3
  refine tn ?_
  refine wp_ret ?_
  refine tr ?_
  exact retL1 rfl ok3 F3 (cvi (by (exact (signIdx_hi (by omega)).symm)) q4)
 ·
  obtain ⟨d1, d2⟩ := Bool.or_eq_false_iff.mp c1
  replace d1 := of_decide_eq_false d1
  replace d2 := of_decide_eq_false d2
  refine wp_skip ?_
  refine tn ?_
  refine wp_seq ?_
  refine reg (a := a2) (σ := s2) rfl (fun i_ => List.getD [(Ty.pr (Ty.int c)), (Ty.pr (Ty.val (Value.int .u8 c))), (Ty.pr (Ty.int (Lib.indexByte SIGNS.data.toList (c).toNat.toUInt8))), (Ty.pr (Ty.int (Lib.indexByte SIGNS.data.toList (c).toNat.toUInt8)))] i_ Pr.any) ok2 rfl ⟨?_, ?_, ?_, ?_, trivial⟩ ?_
  · intro ax tx hs okx sm
    exact run_plain rfl (y_move (kp (sm 0 rfl) hs q2))
  · intro ax tx hs okx sm d0
    have e0 : At (Ty.int c) tx ax (.tmp 9) := d0 rfl
    exact run_plain rfl (y_conv Try.underlying5 e0 (by exact wrap_u8 (by omega) (by omega)) (by rw [Try.underlying3]; rfl))
  · intro ax tx hs okx sm d0
    have e1 : At (Ty.val (Value.int .u8 c)) tx ax (.tmp 10) := d0 rfl
    exact run_plain rfl (y_call #[ax.eval (.tmp 10)] Try.func102 rfl rfl (by simp only [List.map_toArray, List.map_cons, List.map_nil]) (rBellOf_fn (c) _ _ e1 (by omega)))
  · intro ax tx hs okx sm d0 d1 d2 d3 d4
    have e2 : At (Ty.int (Lib.indexByte SIGNS.data.toList (c).toNat.toUInt8)) tx ax (.tmp 11) := d0 rfl
    have e0 : At (Ty.int c) tx ax (.tmp 9) := d2 rfl
    have e1 : At (Ty.val (Value.int .u8 c)) tx ax (.tmp 10) := d3 rfl
    exact run_plain rfl (y_assign e2)
  intro a4 s4 D4
  have ok4 := D4.ok
  have F4 := F2.step0 D4.stp
  have q5 : At (Ty.int (Lib.indexByte SIGNS.data.toList (c).toNat.toUInt8)) s4 a4 (.tmp 2) := D4.done 3
  clear D4
  refine tn ?_
  refine wp_ret ?_
  exact retL1 rfl ok4 F4 (cvi (by (exact (signIdx_lo (by omega) (by omega)).symm)) q5)


end Go.Proofs.Ytlhnpkaohfoicaa
