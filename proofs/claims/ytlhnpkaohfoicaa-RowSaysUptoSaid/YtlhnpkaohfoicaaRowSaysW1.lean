/- The functions that the law RowSays reaches, each by its contract. Part 1. -/
import Derived.Test.YtlhnpkaohfoicaaKlRowLaw
import Derived.Test.YtlhnpkaohfoicaaKlFresh
import Derived.Test.YtlhnpkaohfoicaaKlShare
import Derived.Test.YtlhnpkaohfoicaaKlMirror
import Derived.Test.YtlhnpkaohfoicaaProg
namespace Go.Proofs.Ytlhnpkaohfoicaa
open Go.KL
theorem Try.inf3 : Info Try.prog 3 (.int .i64 0) 1 8 := by unfold Info; kernel_rfl
set_option maxRecDepth 100000 in
theorem rRowMay_fn (r : List Int) (σ : GW) (v0 : Value) (hv0 : Ty.has (Ty.lst Ty.int r) σ v0)  :
    FnC Try.prog 38 #[v0] σ (Ty.int (rowMay r)) := by
 refine fn_intro Try.func38 rfl Try.ntmps38 (Nat.le_of_ble_eq_true rfl) (fun s0 a0 hle F0 ok0 hargs => ?_)
 have p0 : At (Ty.lst Ty.int r) s0 a0 (.tmp 0) := by have e := hargs 0 _ rfl; show Ty.has _ _ _; rw [e]; exact Ty.up _ hle hv0
 have b1 := sl_le p0
 clear hargs
 refine wp_seq ?_
 refine reg (a := a0) (σ := s0) rfl (fun i_ => List.getD [(Ty.pr (Ty.int (0 : Int)))] i_ Pr.any) ok0 rfl ⟨?_, trivial⟩ ?_
 · intro ax tx hs okx sm
   exact run_plain rfl (y_assign rfl)
 intro a1 s1 D1
 have ok1 := D1.ok
 have F1 := F0.step0 D1.stp
 have q1 : At (Ty.lst Ty.int r) s1 a1 (.tmp 0) := D1.kt p0 rfl
 clear D1
 refine tn ?_
 refine wp_seq ?_
 refine wp_seq ?_
 refine reg (a := a1) (σ := s1) rfl (fun i_ => List.getD [(Ty.pr (Ty.lst Ty.int r)), (Ty.pr (Ty.nat (List.length r))), (Ty.pr (Ty.bool (decide ((((List.length r) : Nat) : Int) < (1 : Int))))), (Ty.pr (Ty.bool (decide ((((List.length r) : Nat) : Int) < (1 : Int))))), (Ty.pr (Ty.grd ((decide ((((List.length r) : Nat) : Int) < (1 : Int))) = false) (Ty.lst Ty.int r))), (Ty.pr (Ty.grd ((decide ((((List.length r) : Nat) : Int) < (1 : Int))) = false) (Ty.nat (List.length r)))), (Ty.pr (Ty.grd ((decide ((((List.length r) : Nat) : Int) < (1 : Int))) = false) (Ty.bool (decide ((12 : Int) < (((List.length r) : Nat) : Int)))))), (Ty.pr (Ty.bool ((decide ((((List.length r) : Nat) : Int) < (1 : Int))) || (decide ((12 : Int) < (((List.length r) : Nat) : Int))))))] i_ Pr.any) ok1 rfl ⟨?_, ?_, ?_, ?_, ?_, ?_, ?_, ?_, trivial⟩ ?_
 · intro ax tx hs okx sm
   exact run_plain rfl (y_move (kp (sm 0 rfl) hs q1))
 · intro ax tx hs okx sm d0
   have e0 : At (Ty.lst Ty.int r) tx ax (.tmp 6) := d0 rfl
   exact run_plain rfl (y_len Try.underlying34 e0)
 · intro ax tx hs okx sm d0
   have e1 : At (Ty.nat (List.length r)) tx ax (.tmp 7) := d0 rfl
   exact run_plain rfl (y_lss e1 rfl)
 · intro ax tx hs okx sm d0
   have e2 : At (Ty.bool (decide ((((List.length r) : Nat) : Int) < (1 : Int)))) tx ax (.tmp 8) := d0 rfl
   exact run_plain rfl (y_move e2)
 · intro ax tx hs okx sm d0
   have e3 : At (Ty.bool (decide ((((List.length r) : Nat) : Int) < (1 : Int)))) tx ax (.tmp 9) := d0 rfl
   refine run_guard (T := (Ty.lst Ty.int r)) okx rfl rfl (by decide) e3 (fun hg => ?_)
   have hp := of_decide_eq_false hg
   exact y_move (kp (sm 0 rfl) hs q1)
 · intro ax tx hs okx sm d0 d1
   have e4 : At (Ty.grd ((decide ((((List.length r) : Nat) : Int) < (1 : Int))) = false) (Ty.lst Ty.int r)) tx ax (.tmp 10) := d0 rfl
   have e3 : At (Ty.bool (decide ((((List.length r) : Nat) : Int) < (1 : Int)))) tx ax (.tmp 9) := d1 rfl
   refine run_guard (T := (Ty.nat (List.length r))) okx rfl rfl (by decide) e3 (fun hg => ?_)
   have hp := of_decide_eq_false hg
   exact y_len Try.underlying34 (e4.1 hg)
 · intro ax tx hs okx sm d0 d1
   have e5 : At (Ty.grd ((decide ((((List.length r) : Nat) : Int) < (1 : Int))) = false) (Ty.nat (List.length r))) tx ax (.tmp 11) := d0 rfl
   have e3 : At (Ty.bool (decide ((((List.length r) : Nat) : Int) < (1 : Int)))) tx ax (.tmp 9) := d1 rfl
   refine run_guard (T := (Ty.bool (decide ((12 : Int) < (((List.length r) : Nat) : Int))))) okx rfl rfl (by decide) e3 (fun hg => ?_)
   have hp := of_decide_eq_false hg
   exact y_gtr (e5.1 hg) rfl
 · intro ax tx hs okx sm d0 d1
   have e3 : At (Ty.bool (decide ((((List.length r) : Nat) : Int) < (1 : Int)))) tx ax (.tmp 9) := d0 rfl
   have e6 : At (Ty.grd ((decide ((((List.length r) : Nat) : Int) < (1 : Int))) = false) (Ty.bool (decide ((12 : Int) < (((List.length r) : Nat) : Int))))) tx ax (.tmp 12) := d1 rfl
   exact run_plain rfl (y_pick_or e3 rfl e6)
 intro a2 s2 D2
 have ok2 := D2.ok
 have F2 := F1.step0 D2.stp
 have q2 : At (Ty.lst Ty.int r) s2 a2 (.tmp 0) := D2.kt q1 rfl
 have q3 : At (Ty.bool ((decide ((((List.length r) : Nat) : Int) < (1 : Int))) || (decide ((12 : Int) < (((List.length r) : Nat) : Int))))) s2 a2 (.tmp 13) := D2.done 7
 clear D2
 refine tn ?_
 refine cond_t q3 (fun c1 => ?_) (fun c1 => ?_)
 ·
  simp only [Bool.or_eq_true, decide_eq_true_eq] at c1
  refine wp_seq ?_
  refine reg (a := a2) (σ := s2) rfl (fun i_ => List.getD [(Ty.pr (Ty.int (1 : Int)))] i_ Pr.any) ok2 rfl ⟨?_, trivial⟩ ?_
  · intro ax tx hs okx sm
    exact run_plain rfl (y_assign rfl)
  intro a3 s3 D3
  have ok3 := D3.ok
  have F3 := F2.step0 D3.stp
  have q4 : At (Ty.int (1 : Int)) s3 a3 (.tmp 2) := D3.done 0
  clear D3
  refine tn ?_
  refine wp_ret ?_
  refine tr ?_
  exact ret1 rfl ok3 F3 (cvi (by (exact (rowMay_cnt (by omega)).symm)) q4)
 ·
  obtain ⟨d1, d2⟩ := Bool.or_eq_false_iff.mp c1
  replace d1 := of_decide_eq_false d1
  replace d2 := of_decide_eq_false d2
  refine wp_skip ?_
  refine tn ?_
  refine wp_seq ?_
  refine wp_seq ?_
  refine reg (a := a2) (σ := s2) rfl (fun i_ => List.getD [(Ty.pr (Ty.int (0 : Int)))] i_ Pr.any) ok2 rfl ⟨?_, trivial⟩ ?_
  · intro ax tx hs okx sm
    exact run_plain rfl (y_assign rfl)
  intro a4 s4 D4
  have ok4 := D4.ok
  have F4 := F2.step0 D4.stp
  have q5 : At (Ty.lst Ty.int r) s4 a4 (.tmp 0) := D4.kt q2 rfl
  have q6 : At (Ty.int (0 : Int)) s4 a4 (.tmp 3) := D4.done 0
  clear D4
  refine tn ?_
  refine wp_block ?_
  refine loop (fun n1 a5 w1 => ∃ (t1 : GW) (b : Nat), t1.w = w1 ∧ From s0 t1 ∧ Ok 36 a5 ∧ At (Ty.nat b) t1 a5 (.tmp 3) ∧ At (Ty.lst Ty.int r) t1 a5 (.tmp 0) ∧ (b ≤ r.length) ∧ (∀ j, j < b → r.count (j : Int) = 1) ∧ n1 = r.length - b) (r.length - (0)) ?_ ?_
  ·
   exact ⟨s4, 0, rfl, F4, ok4, (cvi (by (first | rfl | omega | (simp_all; done) | (simp_all; omega))) q6), q5, by omega, fun j hj => absurd hj (Nat.not_lt_zero j), rfl⟩
  ·
   rintro n2 a6 w2 ⟨t2, b, rfl, F5, ok5, q7, q8, hb, ho, rfl⟩
   refine wp_seq ?_
   refine wp_seq ?_
   refine reg (a := a6) (σ := t2) rfl (fun i_ => List.getD [(Ty.pr (Ty.nat b)), (Ty.pr (Ty.lst Ty.int r)), (Ty.pr (Ty.nat (List.length r))), (Ty.pr (Ty.bool (decide (((b : Nat) : Int) < (((List.length r) : Nat) : Int)))))] i_ Pr.any) ok5 rfl ⟨?_, ?_, ?_, ?_, trivial⟩ ?_
   · intro ax tx hs okx sm
     exact run_plain rfl (y_move (kp (sm 3 rfl) hs q7))
   · intro ax tx hs okx sm
     exact run_plain rfl (y_move (kp (sm 0 rfl) hs q8))
   · intro ax tx hs okx sm d0
     have e1 : At (Ty.lst Ty.int r) tx ax (.tmp 15) := d0 rfl
     exact run_plain rfl (y_len Try.underlying34 e1)
   · intro ax tx hs okx sm d0 d1
     have e0 : At (Ty.nat b) tx ax (.tmp 14) := d0 rfl
     have e2 : At (Ty.nat (List.length r)) tx ax (.tmp 16) := d1 rfl
     exact run_plain rfl (y_lss e0 e2)
   intro a7 s5 D5
   have ok6 := D5.ok
   have F6 := F5.step0 D5.stp
   have q9 : At (Ty.nat b) s5 a7 (.tmp 3) := D5.kt q7 rfl
   have q10 : At (Ty.lst Ty.int r) s5 a7 (.tmp 0) := D5.kt q8 rfl
   have q11 : At (Ty.bool (decide (((b : Nat) : Int) < (((List.length r) : Nat) : Int)))) s5 a7 (.tmp 17) := D5.done 3
   clear D5
   refine tn ?_
   refine cond_p (p := (((b : Nat) : Int) < (((List.length r) : Nat) : Int))) q11 (fun c2 => ?_) (fun c2 => ?_)
   ·
    refine wp_skip ?_
    refine tn ?_
    refine wp_seq ?_
    refine wp_block ?_
    refine wp_seq ?_
    refine reg (a := a7) (σ := s5) rfl (fun i_ => List.getD [(Ty.pr (Ty.int (0 : Int)))] i_ Pr.any) ok6 rfl ⟨?_, trivial⟩ ?_
    · intro ax tx hs okx sm
      exact run_plain rfl (y_assign rfl)
    intro a8 s6 D6
    have ok7 := D6.ok
    have F7 := F6.step0 D6.stp
    have q12 : At (Ty.nat b) s6 a8 (.tmp 3) := D6.kt q9 rfl
    have q13 : At (Ty.lst Ty.int r) s6 a8 (.tmp 0) := D6.kt q10 rfl
    have q14 : At (Ty.int (0 : Int)) s6 a8 (.tmp 4) := D6.done 0
    clear D6
    refine tn ?_
    refine wp_seq ?_
    refine wp_seq ?_
    refine reg (a := a8) (σ := s6) rfl (fun i_ => List.getD [(Ty.pr (Ty.int (0 : Int)))] i_ Pr.any) ok7 rfl ⟨?_, trivial⟩ ?_
    · intro ax tx hs okx sm
      exact run_plain rfl (y_assign rfl)
    intro a9 s7 D7
    have ok8 := D7.ok
    have F8 := F7.step0 D7.stp
    have q15 : At (Ty.nat b) s7 a9 (.tmp 3) := D7.kt q12 rfl
    have q16 : At (Ty.lst Ty.int r) s7 a9 (.tmp 0) := D7.kt q13 rfl
    have q17 : At (Ty.int (0 : Int)) s7 a9 (.tmp 4) := D7.kt q14 rfl
    have q18 : At (Ty.int (0 : Int)) s7 a9 (.tmp 5) := D7.done 0
    clear D7
    refine tn ?_
    refine wp_block ?_
    refine loop (fun n3 a10 w3 => ∃ (t3 : GW) (i : Nat), t3.w = w3 ∧ From s0 t3 ∧ Ok 36 a10 ∧ At (Ty.nat i) t3 a10 (.tmp 5) ∧ At (Ty.nat ((r.take i).count (b : Int))) t3 a10 (.tmp 4) ∧ At (Ty.nat b) t3 a10 (.tmp 3) ∧ At (Ty.lst Ty.int r) t3 a10 (.tmp 0) ∧ (i ≤ r.length) ∧ n3 = r.length - i) (r.length - (0)) ?_ ?_
    ·
     exact ⟨s7, 0, rfl, F8, ok8, (cvi (by (first | rfl | omega | (simp_all; done) | (simp_all; omega))) q18), (cvi (by (first | rfl | omega | (simp_all; done) | (simp_all; omega))) q17), q15, q16, by omega, rfl⟩
    ·
     rintro n4 a11 w4 ⟨t4, i, rfl, F9, ok9, q19, q20, q21, q22, hi, rfl⟩
     have hcl := count_take_le r (b : Int) i
     refine wp_seq ?_
     refine wp_seq ?_
     refine reg (a := a11) (σ := t4) rfl (fun i_ => List.getD [(Ty.pr (Ty.nat i)), (Ty.pr (Ty.lst Ty.int r)), (Ty.pr (Ty.nat (List.length r))), (Ty.pr (Ty.bool (decide (((i : Nat) : Int) < (((List.length r) : Nat) : Int)))))] i_ Pr.any) ok9 rfl ⟨?_, ?_, ?_, ?_, trivial⟩ ?_
     · intro ax tx hs okx sm
       exact run_plain rfl (y_move (kp (sm 5 rfl) hs q19))
     · intro ax tx hs okx sm
       exact run_plain rfl (y_move (kp (sm 0 rfl) hs q22))
     · intro ax tx hs okx sm d0
       have e1 : At (Ty.lst Ty.int r) tx ax (.tmp 21) := d0 rfl
       exact run_plain rfl (y_len Try.underlying34 e1)
     · intro ax tx hs okx sm d0 d1
       have e0 : At (Ty.nat i) tx ax (.tmp 20) := d0 rfl
       have e2 : At (Ty.nat (List.length r)) tx ax (.tmp 22) := d1 rfl
       exact run_plain rfl (y_lss e0 e2)
     intro a12 s8 D8
     have ok10 := D8.ok
     have F10 := F9.step0 D8.stp
     have q23 : At (Ty.nat i) s8 a12 (.tmp 5) := D8.kt q19 rfl
     have q24 : At (Ty.nat ((r.take i).count (b : Int))) s8 a12 (.tmp 4) := D8.kt q20 rfl
     have q25 : At (Ty.nat b) s8 a12 (.tmp 3) := D8.kt q21 rfl
     have q26 : At (Ty.lst Ty.int r) s8 a12 (.tmp 0) := D8.kt q22 rfl
     have q27 : At (Ty.bool (decide (((i : Nat) : Int) < (((List.length r) : Nat) : Int)))) s8 a12 (.tmp 23) := D8.done 3
     clear D8
     refine tn ?_
     refine cond_p (p := (((i : Nat) : Int) < (((List.length r) : Nat) : Int))) q27 (fun c3 => ?_) (fun c3 => ?_)
     ·
      refine wp_skip ?_
      refine tn ?_
      refine wp_seq ?_
      refine wp_block ?_
      refine wp_seq ?_
      refine reg (a := a12) (σ := s8) rfl (fun i_ => List.getD [(Ty.pr (Ty.lst Ty.int r)), (Ty.pr (Ty.nat i)), (Ty.pr (Ty.ref [(Ty.int (r.getD i 0))])), (Ty.pr (Ty.int (r.getD i 0))), (Ty.pr (Ty.nat b)), (Ty.pr (Ty.bool (decide ((r.getD i 0) = ((b : Nat) : Int)))))] i_ Pr.any) ok10 rfl ⟨?_, ?_, ?_, ?_, ?_, ?_, trivial⟩ ?_
      · intro ax tx hs okx sm
        exact run_plain rfl (y_move (kp (sm 0 rfl) hs q26))
      · intro ax tx hs okx sm
        exact run_plain rfl (y_move (kp (sm 5 rfl) hs q23))
      · intro ax tx hs okx sm d0 d1
        have e0 : At (Ty.lst Ty.int r) tx ax (.tmp 26) := d0 rfl
        have e1 : At (Ty.nat i) tx ax (.tmp 27) := d1 rfl
        exact run_plain rfl (y_index1 Try.underlying34 Try.inf3 e0 e1 (by omega) (lst_get Ty.int r 0 i (by omega)))
      · intro ax tx hs okx sm d0
        have e2 : At (Ty.ref [(Ty.int (r.getD i 0))]) tx ax (.tmp 28) := d0 rfl
        exact run_plain rfl (y_load Try.underlying3 rfl e2 rfl)
      · intro ax tx hs okx sm
        exact run_plain rfl (y_move (kp (sm 3 rfl) hs q25))
      · intro ax tx hs okx sm d0 d1
        have e3 : At (Ty.int (r.getD i 0)) tx ax (.tmp 29) := d0 rfl
        have e4 : At (Ty.nat b) tx ax (.tmp 30) := d1 rfl
        exact run_plain rfl (y_eql e3 e4)
      intro a13 s9 D9
      have ok11 := D9.ok
      have F11 := F10.step0 D9.stp
      have q28 : At (Ty.nat i) s9 a13 (.tmp 5) := D9.kt q23 rfl
      have q29 : At (Ty.nat ((r.take i).count (b : Int))) s9 a13 (.tmp 4) := D9.kt q24 rfl
      have q30 : At (Ty.nat b) s9 a13 (.tmp 3) := D9.kt q25 rfl
      have q31 : At (Ty.lst Ty.int r) s9 a13 (.tmp 0) := D9.kt q26 rfl
      have q32 : At (Ty.bool (decide ((r.getD i 0) = ((b : Nat) : Int)))) s9 a13 (.tmp 31) := D9.done 5
      clear D9
      refine tn ?_
      refine cond_p (p := ((r.getD i 0) = ((b : Nat) : Int))) q32 (fun c4 => ?_) (fun c4 => ?_)
      ·
       refine reg (a := a13) (σ := s9) rfl (fun i_ => List.getD [(Ty.pr (Ty.nat ((r.take i).count (b : Int)))), (Ty.pr (Ty.int (((((r.take i).count (b : Int)) : Nat) : Int) + (1 : Int)))), (Ty.pr (Ty.int (((((r.take i).count (b : Int)) : Nat) : Int) + (1 : Int))))] i_ Pr.any) ok11 rfl ⟨?_, ?_, ?_, trivial⟩ ?_
       · intro ax tx hs okx sm
         exact run_plain rfl (y_move (kp (sm 4 rfl) hs q29))
       · intro ax tx hs okx sm d0
         have e0 : At (Ty.nat ((r.take i).count (b : Int))) tx ax (.tmp 32) := d0 rfl
         exact run_plain rfl (y_add e0 rfl (w64 (by omega) (by omega)))
       · intro ax tx hs okx sm d0 d1 d2
         have e1 : At (Ty.int (((((r.take i).count (b : Int)) : Nat) : Int) + (1 : Int))) tx ax (.tmp 33) := d0 rfl
         have e0 : At (Ty.nat ((r.take i).count (b : Int))) tx ax (.tmp 32) := d1 rfl
         exact run_plain rfl (y_assign e1)
       intro a14 s10 D10
       have ok12 := D10.ok
       have F12 := F11.step0 D10.stp
       have q33 : At (Ty.nat i) s10 a14 (.tmp 5) := D10.kt q28 rfl
       have q34 : At (Ty.nat b) s10 a14 (.tmp 3) := D10.kt q30 rfl
       have q35 : At (Ty.lst Ty.int r) s10 a14 (.tmp 0) := D10.kt q31 rfl
       have q36 : At (Ty.int (((((r.take i).count (b : Int)) : Nat) : Int) + (1 : Int))) s10 a14 (.tmp 4) := D10.done 2
       clear D10
       refine bn ?_
       refine tn ?_
       refine reg (a := a14) (σ := s10) rfl (fun i_ => List.getD [(Ty.pr (Ty.nat i)), (Ty.pr (Ty.int (((i : Nat) : Int) + (1 : Int)))), (Ty.pr (Ty.int (((i : Nat) : Int) + (1 : Int))))] i_ Pr.any) ok12 rfl ⟨?_, ?_, ?_, trivial⟩ ?_
       · intro ax tx hs okx sm
         exact run_plain rfl (y_move (kp (sm 5 rfl) hs q33))
       · intro ax tx hs okx sm d0
         have e0 : At (Ty.nat i) tx ax (.tmp 24) := d0 rfl
         exact run_plain rfl (y_add e0 rfl (w64 (by omega) (by omega)))
       · intro ax tx hs okx sm d0 d1 d2
         have e1 : At (Ty.int (((i : Nat) : Int) + (1 : Int))) tx ax (.tmp 25) := d0 rfl
         have e0 : At (Ty.nat i) tx ax (.tmp 24) := d1 rfl
         exact run_plain rfl (y_assign e1)
       intro a15 s11 D11
       have ok13 := D11.ok
       have F13 := F12.step0 D11.stp
       have q37 : At (Ty.nat b) s11 a15 (.tmp 3) := D11.kt q34 rfl
       have q38 : At (Ty.lst Ty.int r) s11 a15 (.tmp 0) := D11.kt q35 rfl
       have q39 : At (Ty.int (((((r.take i).count (b : Int)) : Nat) : Int) + (1 : Int))) s11 a15 (.tmp 4) := D11.kt q36 rfl
       have q40 : At (Ty.int (((i : Nat) : Int) + (1 : Int))) s11 a15 (.tmp 5) := D11.done 2
       clear D11
       exact tn ⟨r.length - ((i+1)), by omega, s11, (i+1), rfl, F13, ok13, (cvi (by (first | rfl | omega | (simp_all; done) | (simp_all; omega))) q40), (cvi (by (rw [count_take_y r b i (by omega) (by assumption)]; omega)) q39), q37, q38, by omega, rfl⟩
      ·
       refine wp_skip ?_
       refine bn ?_
       refine tn ?_
       refine reg (a := a13) (σ := s9) rfl (fun i_ => List.getD [(Ty.pr (Ty.nat i)), (Ty.pr (Ty.int (((i : Nat) : Int) + (1 : Int)))), (Ty.pr (Ty.int (((i : Nat) : Int) + (1 : Int))))] i_ Pr.any) ok11 rfl ⟨?_, ?_, ?_, trivial⟩ ?_
       · intro ax tx hs okx sm
         exact run_plain rfl (y_move (kp (sm 5 rfl) hs q28))
       · intro ax tx hs okx sm d0
         have e0 : At (Ty.nat i) tx ax (.tmp 24) := d0 rfl
         exact run_plain rfl (y_add e0 rfl (w64 (by omega) (by omega)))
       · intro ax tx hs okx sm d0 d1 d2
         have e1 : At (Ty.int (((i : Nat) : Int) + (1 : Int))) tx ax (.tmp 25) := d0 rfl
         have e0 : At (Ty.nat i) tx ax (.tmp 24) := d1 rfl
         exact run_plain rfl (y_assign e1)
       intro a16 s12 D12
       have ok14 := D12.ok
       have F14 := F11.step0 D12.stp
       have q41 : At (Ty.nat ((r.take i).count (b : Int))) s12 a16 (.tmp 4) := D12.kt q29 rfl
       have q42 : At (Ty.nat b) s12 a16 (.tmp 3) := D12.kt q30 rfl
       have q43 : At (Ty.lst Ty.int r) s12 a16 (.tmp 0) := D12.kt q31 rfl
       have q44 : At (Ty.int (((i : Nat) : Int) + (1 : Int))) s12 a16 (.tmp 5) := D12.done 2
       clear D12
       exact tn ⟨r.length - ((i+1)), by omega, s12, (i+1), rfl, F14, ok14, (cvi (by (first | rfl | omega | (simp_all; done) | (simp_all; omega))) q44), (cvi (by (rw [count_take_n r b i (by omega) (by assumption)])) q41), q42, q43, by omega, rfl⟩
     ·
      have hcl2 : (r.take i).count (b : Int) = r.count (b : Int) := (by rw [List.take_of_length_le (by omega)])
      refine wp_exit ?_
      refine tx ?_
      refine tx ?_
      refine bx ?_
      refine tn ?_
      refine wp_seq ?_
      refine reg (a := a12) (σ := s8) rfl (fun i_ => List.getD [(Ty.pr (Ty.nat ((r.take i).count (b : Int)))), (Ty.pr (Ty.bool (decide (((((r.take i).count (b : Int)) : Nat) : Int) ≠ (1 : Int)))))] i_ Pr.any) ok10 rfl ⟨?_, ?_, trivial⟩ ?_
      · intro ax tx hs okx sm
        exact run_plain rfl (y_move (kp (sm 4 rfl) hs q24))
      · intro ax tx hs okx sm d0
        have e0 : At (Ty.nat ((r.take i).count (b : Int))) tx ax (.tmp 34) := d0 rfl
        exact run_plain rfl (y_neq e0 rfl)
      intro a17 s13 D13
      have ok15 := D13.ok
      have F15 := F10.step0 D13.stp
      have q45 : At (Ty.nat b) s13 a17 (.tmp 3) := D13.kt q25 rfl
      have q46 : At (Ty.lst Ty.int r) s13 a17 (.tmp 0) := D13.kt q26 rfl
      have q47 : At (Ty.bool (decide (((((r.take i).count (b : Int)) : Nat) : Int) ≠ (1 : Int)))) s13 a17 (.tmp 35) := D13.done 1
      clear D13
      refine tn ?_
      refine cond_p (p := (((((r.take i).count (b : Int)) : Nat) : Int) ≠ (1 : Int))) q47 (fun c5 => ?_) (fun c5 => ?_)
      ·
       refine wp_seq ?_
       refine reg (a := a17) (σ := s13) rfl (fun i_ => List.getD [(Ty.pr (Ty.int (2 : Int)))] i_ Pr.any) ok15 rfl ⟨?_, trivial⟩ ?_
       · intro ax tx hs okx sm
         exact run_plain rfl (y_assign rfl)
       intro a18 s14 D14
       have ok16 := D14.ok
       have F16 := F15.step0 D14.stp
       have q48 : At (Ty.int (2 : Int)) s14 a18 (.tmp 2) := D14.done 0
       clear D14
       refine tn ?_
       refine wp_ret ?_
       refine br ?_
       refine tr ?_
       refine tr ?_
       refine br ?_
       refine tr ?_
       exact ret1 rfl ok16 F16 (cvi (by (exact (rowMay_no (by omega) (by omega) (fun hr => by have := hr.one b (by omega); omega)).symm)) q48)
      ·
       refine wp_skip ?_
       refine bn ?_
       refine tn ?_
       refine reg (a := a17) (σ := s13) rfl (fun i_ => List.getD [(Ty.pr (Ty.nat b)), (Ty.pr (Ty.int (((b : Nat) : Int) + (1 : Int)))), (Ty.pr (Ty.int (((b : Nat) : Int) + (1 : Int))))] i_ Pr.any) ok15 rfl ⟨?_, ?_, ?_, trivial⟩ ?_
       · intro ax tx hs okx sm
         exact run_plain rfl (y_move (kp (sm 3 rfl) hs q45))
       · intro ax tx hs okx sm d0
         have e0 : At (Ty.nat b) tx ax (.tmp 18) := d0 rfl
         exact run_plain rfl (y_add e0 rfl (w64 (by omega) (by omega)))
       · intro ax tx hs okx sm d0 d1 d2
         have e1 : At (Ty.int (((b : Nat) : Int) + (1 : Int))) tx ax (.tmp 19) := d0 rfl
         have e0 : At (Ty.nat b) tx ax (.tmp 18) := d1 rfl
         exact run_plain rfl (y_assign e1)
       intro a19 s15 D15
       have ok17 := D15.ok
       have F17 := F15.step0 D15.stp
       have q49 : At (Ty.lst Ty.int r) s15 a19 (.tmp 0) := D15.kt q46 rfl
       have q50 : At (Ty.int (((b : Nat) : Int) + (1 : Int))) s15 a19 (.tmp 3) := D15.done 2
       clear D15
       exact tn ⟨r.length - ((b+1)), by omega, s15, (b+1), rfl, F17, ok17, (cvi (by (first | rfl | omega | (simp_all; done) | (simp_all; omega))) q50), q49, by omega, fun j hj => by (by_cases e : j = b; subst e; omega; exact ho j (by omega)), rfl⟩
   ·
    refine wp_exit ?_
    refine tx ?_
    refine tx ?_
    refine bx ?_
    refine tn ?_
    refine wp_seq ?_
    refine reg (a := a7) (σ := s5) rfl (fun i_ => List.getD [(Ty.pr (Ty.int (0 : Int)))] i_ Pr.any) ok6 rfl ⟨?_, trivial⟩ ?_
    · intro ax tx hs okx sm
      exact run_plain rfl (y_assign rfl)
    intro a20 s16 D16
    have ok18 := D16.ok
    have F18 := F6.step0 D16.stp
    have q51 : At (Ty.int (0 : Int)) s16 a20 (.tmp 2) := D16.done 0
    clear D16
    refine tn ?_
    refine wp_ret ?_
    exact ret1 rfl ok18 F18 (cvi (by (exact (rowMay_ok.2 ⟨by omega, by omega, fun j hj => ho j (by omega)⟩).symm)) q51)

theorem Try.inf155 : Info Try.prog 155 (.agg (Array.replicate 12 (.int .i64 0))) 12 96 := by unfold Info; kernel_rfl
set_option maxRecDepth 100000 in
theorem rowCheck_fn (r : List Int) (σ : GW) (v0 : Value) (hv0 : Ty.has (Ty.lst Ty.int r) σ v0)  :
    FnC Try.prog 44 #[v0] σ (Ty.int (rowMay r)) := by
 refine fn_intro Try.func44 rfl Try.ntmps44 (Nat.le_of_ble_eq_true rfl) (fun s0 a0 hle F0 ok0 hargs => ?_)
 have p0 : At (Ty.lst Ty.int r) s0 a0 (.tmp 0) := by have e := hargs 0 _ rfl; show Ty.has _ _ _; rw [e]; exact Ty.up _ hle hv0
 have b1 := sl_le p0
 clear hargs
 refine wp_seq ?_
 refine reg (a := a0) (σ := s0) rfl (fun i_ => List.getD [(Ty.pr (Ty.int (0 : Int)))] i_ Pr.any) ok0 rfl ⟨?_, trivial⟩ ?_
 · intro ax tx hs okx sm
   exact run_plain rfl (y_assign rfl)
 intro a1 s1 D1
 have ok1 := D1.ok
 have F1 := F0.step0 D1.stp
 have q1 : At (Ty.lst Ty.int r) s1 a1 (.tmp 0) := D1.kt p0 rfl
 clear D1
 refine tn ?_
 refine wp_seq ?_
 refine wp_seq ?_
 refine reg (a := a1) (σ := s1) rfl (fun i_ => List.getD [(Ty.pr (Ty.lst Ty.int r)), (Ty.pr (Ty.nat (List.length r))), (Ty.pr (Ty.bool (decide ((((List.length r) : Nat) : Int) < (1 : Int))))), (Ty.pr (Ty.bool (decide ((((List.length r) : Nat) : Int) < (1 : Int))))), (Ty.pr (Ty.grd ((decide ((((List.length r) : Nat) : Int) < (1 : Int))) = false) (Ty.lst Ty.int r))), (Ty.pr (Ty.grd ((decide ((((List.length r) : Nat) : Int) < (1 : Int))) = false) (Ty.nat (List.length r)))), (Ty.pr (Ty.grd ((decide ((((List.length r) : Nat) : Int) < (1 : Int))) = false) (Ty.bool (decide ((12 : Int) < (((List.length r) : Nat) : Int)))))), (Ty.pr (Ty.bool ((decide ((((List.length r) : Nat) : Int) < (1 : Int))) || (decide ((12 : Int) < (((List.length r) : Nat) : Int))))))] i_ Pr.any) ok1 rfl ⟨?_, ?_, ?_, ?_, ?_, ?_, ?_, ?_, trivial⟩ ?_
 · intro ax tx hs okx sm
   exact run_plain rfl (y_move (kp (sm 0 rfl) hs q1))
 · intro ax tx hs okx sm d0
   have e0 : At (Ty.lst Ty.int r) tx ax (.tmp 6) := d0 rfl
   exact run_plain rfl (y_len Try.underlying34 e0)
 · intro ax tx hs okx sm d0
   have e1 : At (Ty.nat (List.length r)) tx ax (.tmp 7) := d0 rfl
   exact run_plain rfl (y_lss e1 rfl)
 · intro ax tx hs okx sm d0
   have e2 : At (Ty.bool (decide ((((List.length r) : Nat) : Int) < (1 : Int)))) tx ax (.tmp 8) := d0 rfl
   exact run_plain rfl (y_move e2)
 · intro ax tx hs okx sm d0
   have e3 : At (Ty.bool (decide ((((List.length r) : Nat) : Int) < (1 : Int)))) tx ax (.tmp 9) := d0 rfl
   refine run_guard (T := (Ty.lst Ty.int r)) okx rfl rfl (by decide) e3 (fun hg => ?_)
   have hp := of_decide_eq_false hg
   exact y_move (kp (sm 0 rfl) hs q1)
 · intro ax tx hs okx sm d0 d1
   have e4 : At (Ty.grd ((decide ((((List.length r) : Nat) : Int) < (1 : Int))) = false) (Ty.lst Ty.int r)) tx ax (.tmp 10) := d0 rfl
   have e3 : At (Ty.bool (decide ((((List.length r) : Nat) : Int) < (1 : Int)))) tx ax (.tmp 9) := d1 rfl
   refine run_guard (T := (Ty.nat (List.length r))) okx rfl rfl (by decide) e3 (fun hg => ?_)
   have hp := of_decide_eq_false hg
   exact y_len Try.underlying34 (e4.1 hg)
 · intro ax tx hs okx sm d0 d1
   have e5 : At (Ty.grd ((decide ((((List.length r) : Nat) : Int) < (1 : Int))) = false) (Ty.nat (List.length r))) tx ax (.tmp 11) := d0 rfl
   have e3 : At (Ty.bool (decide ((((List.length r) : Nat) : Int) < (1 : Int)))) tx ax (.tmp 9) := d1 rfl
   refine run_guard (T := (Ty.bool (decide ((12 : Int) < (((List.length r) : Nat) : Int))))) okx rfl rfl (by decide) e3 (fun hg => ?_)
   have hp := of_decide_eq_false hg
   exact y_gtr (e5.1 hg) rfl
 · intro ax tx hs okx sm d0 d1
   have e3 : At (Ty.bool (decide ((((List.length r) : Nat) : Int) < (1 : Int)))) tx ax (.tmp 9) := d0 rfl
   have e6 : At (Ty.grd ((decide ((((List.length r) : Nat) : Int) < (1 : Int))) = false) (Ty.bool (decide ((12 : Int) < (((List.length r) : Nat) : Int))))) tx ax (.tmp 12) := d1 rfl
   exact run_plain rfl (y_pick_or e3 rfl e6)
 intro a2 s2 D2
 have ok2 := D2.ok
 have F2 := F1.step0 D2.stp
 have q2 : At (Ty.lst Ty.int r) s2 a2 (.tmp 0) := D2.kt q1 rfl
 have q3 : At (Ty.bool ((decide ((((List.length r) : Nat) : Int) < (1 : Int))) || (decide ((12 : Int) < (((List.length r) : Nat) : Int))))) s2 a2 (.tmp 13) := D2.done 7
 clear D2
 refine tn ?_
 refine cond_t q3 (fun c1 => ?_) (fun c1 => ?_)
 ·
  simp only [Bool.or_eq_true, decide_eq_true_eq] at c1
  refine wp_seq ?_
  refine reg (a := a2) (σ := s2) rfl (fun i_ => List.getD [(Ty.pr (Ty.int (1 : Int)))] i_ Pr.any) ok2 rfl ⟨?_, trivial⟩ ?_
  · intro ax tx hs okx sm
    exact run_plain rfl (y_assign rfl)
  intro a3 s3 D3
  have ok3 := D3.ok
  have F3 := F2.step0 D3.stp
  have q4 : At (Ty.int (1 : Int)) s3 a3 (.tmp 2) := D3.done 0
  clear D3
  refine tn ?_
  refine wp_ret ?_
  refine tr ?_
  exact ret1 rfl ok3 F3 (cvi (by (exact (rowMay_cnt (by omega)).symm)) q4)
 ·
  obtain ⟨d1, d2⟩ := Bool.or_eq_false_iff.mp c1
  replace d1 := of_decide_eq_false d1
  replace d2 := of_decide_eq_false d2
  refine wp_skip ?_
  refine tn ?_
  refine wp_seq ?_
  refine reg (a := a2) (σ := s2) rfl (fun i_ => List.getD [(Pr.ownp 11 (List.map Ty.int (List.replicate 12 0)))] i_ Pr.any) ok2 rfl ⟨?_, trivial⟩ ?_
  · intro ax tx hs okx sm
    exact run_plain rfl (y_alloc Try.inf155 (by simp [Value.cells]) (alloc_zero 12 (by intro σ; exact rfl)))
  intro a4 s4 D4
  have ok4 := D4.ok
  have F4 := F2.step0 D4.stp
  have q5 : At (Ty.lst Ty.int r) s4 a4 (.tmp 0) := D4.kt q2 rfl
  have q6 : (Pr.ownp 11 (List.map Ty.int (List.replicate 12 0))).has s4 (a4.eval (.tmp 3)) := D4.done 0
  clear D4
  refine tn ?_
  refine wp_seq ?_
  refine wp_seq ?_
  refine reg (a := a4) (σ := s4) rfl (fun i_ => List.getD [(Ty.pr (Ty.lst Ty.int r)), (Ty.pr (Ty.nat (List.length r))), (Ty.pr (Ty.int (0 : Int)))] i_ Pr.any) ok4 rfl ⟨?_, ?_, ?_, trivial⟩ ?_
  · intro ax tx hs okx sm
    exact run_plain rfl (y_move (kp (sm 0 rfl) hs q5))
  · intro ax tx hs okx sm d0
    have e0 : At (Ty.lst Ty.int r) tx ax (.tmp 14) := d0 rfl
    exact run_plain rfl (y_len Try.underlying34 e0)
  · intro ax tx hs okx sm
    exact run_plain rfl (y_move rfl)
  intro a5 s5 D5
  have ok5 := D5.ok
  have F5 := F4.step0 D5.stp
  have q7 : At (Ty.lst Ty.int r) s5 a5 (.tmp 0) := D5.kt q5 rfl
  have q8 : (Pr.ownp 11 (List.map Ty.int (List.replicate 12 0))).has s5 (a5.eval (.tmp 3)) := D5.ko q6 rfl
  have q9 : At (Ty.lst Ty.int r) s5 a5 (.tmp 14) := D5.done 0
  have q10 : At (Ty.nat (List.length r)) s5 a5 (.tmp 15) := D5.done 1
  have q11 : At (Ty.int (0 : Int)) s5 a5 (.tmp 16) := D5.done 2
  clear D5
  refine tn ?_
  refine wp_block ?_
  refine loop (fun n1 a6 w1 => ∃ (t1 : GW) (k : Nat), t1.w = w1 ∧ From s0 t1 ∧ Ok 40 a6 ∧ At (Ty.nat k) t1 a6 (.tmp 16) ∧ (Pr.ownp 11 (List.map Ty.int (seenL r k))).has t1 (a6.eval (.tmp 3)) ∧ At (Ty.lst Ty.int r) t1 a6 (.tmp 0) ∧ At (Ty.lst Ty.int r) t1 a6 (.tmp 14) ∧ At (Ty.nat (List.length r)) t1 a6 (.tmp 15) ∧ (k ≤ r.length) ∧ (Upto r k) ∧ n1 = r.length - k) (r.length - (0)) ?_ ?_
  ·
   exact ⟨s5, 0, rfl, F5, ok5, (cvi (by (first | rfl | omega | (simp_all; done) | (simp_all; omega))) q11), (cvop (by (rw [seenL_zero])) q8), q7, q9, q10, by omega, Upto.zero r, rfl⟩
  ·
   rintro n2 a7 w2 ⟨t2, k, rfl, F6, ok6, q12, q13, q14, q15, q16, hk, hu, rfl⟩
   have hs := seenL_len r k
   refine wp_seq ?_
   refine reg (a := a7) (σ := t2) rfl (fun i_ => List.getD [(Ty.pr (Ty.bool (decide (((k : Nat) : Int) < (((List.length r) : Nat) : Int)))))] i_ Pr.any) ok6 rfl ⟨?_, trivial⟩ ?_
   · intro ax tx hs okx sm
     exact run_plain rfl (y_lss (kp (sm 16 rfl) hs q12) (kp (sm 15 rfl) hs q16))
   intro a8 s6 D6
   have ok7 := D6.ok
   have F7 := F6.step0 D6.stp
   have q17 : At (Ty.nat k) s6 a8 (.tmp 16) := D6.kt q12 rfl
   have q18 : (Pr.ownp 11 (List.map Ty.int (seenL r k))).has s6 (a8.eval (.tmp 3)) := D6.ko q13 rfl
   have q19 : At (Ty.lst Ty.int r) s6 a8 (.tmp 0) := D6.kt q14 rfl
   have q20 : At (Ty.lst Ty.int r) s6 a8 (.tmp 14) := D6.kt q15 rfl
   have q21 : At (Ty.nat (List.length r)) s6 a8 (.tmp 15) := D6.kt q16 rfl
   have q22 : At (Ty.bool (decide (((k : Nat) : Int) < (((List.length r) : Nat) : Int)))) s6 a8 (.tmp 17) := D6.done 0
   clear D6
   refine tn ?_
   refine wp_seq ?_
   refine cond_p (p := (((k : Nat) : Int) < (((List.length r) : Nat) : Int))) q22 (fun c2 => ?_) (fun c2 => ?_)
   ·
    refine wp_skip ?_
    refine tn ?_
    refine wp_seq ?_
    refine wp_block ?_
    refine wp_seq ?_
    refine reg (a := a8) (σ := s6) rfl (fun i_ => List.getD [(Ty.pr (Ty.ref [(Ty.int (r.getD k 0))])), (Ty.pr (Ty.int (r.getD k 0))), (Ty.pr (Ty.int (r.getD k 0)))] i_ Pr.any) ok7 rfl ⟨?_, ?_, ?_, trivial⟩ ?_
    · intro ax tx hs okx sm
      exact run_plain rfl (y_index1 Try.underlying34 Try.inf3 (kp (sm 14 rfl) hs q20) (kp (sm 16 rfl) hs q17) (by omega) (lst_get Ty.int r 0 k (by omega)))
    · intro ax tx hs okx sm d0
      have e0 : At (Ty.ref [(Ty.int (r.getD k 0))]) tx ax (.tmp 18) := d0 rfl
      exact run_plain rfl (y_load Try.underlying3 rfl e0 rfl)
    · intro ax tx hs okx sm d0 d1 d2
      have e1 : At (Ty.int (r.getD k 0)) tx ax (.tmp 19) := d0 rfl
      have e0 : At (Ty.ref [(Ty.int (r.getD k 0))]) tx ax (.tmp 18) := d1 rfl
      exact run_plain rfl (y_assign e1)
    intro a9 s7 D7
    have ok8 := D7.ok
    have F8 := F7.step0 D7.stp
    have q23 : At (Ty.nat k) s7 a9 (.tmp 16) := D7.kt q17 rfl
    have q24 : (Pr.ownp 11 (List.map Ty.int (seenL r k))).has s7 (a9.eval (.tmp 3)) := D7.ko q18 rfl
    have q25 : At (Ty.lst Ty.int r) s7 a9 (.tmp 0) := D7.kt q19 rfl
    have q26 : At (Ty.lst Ty.int r) s7 a9 (.tmp 14) := D7.kt q20 rfl
    have q27 : At (Ty.nat (List.length r)) s7 a9 (.tmp 15) := D7.kt q21 rfl
    have q28 : At (Ty.int (r.getD k 0)) s7 a9 (.tmp 5) := D7.done 2
    clear D7
    refine tn ?_
    refine wp_seq ?_
    refine wp_seq ?_
    refine reg (a := a9) (σ := s7) rfl (fun i_ => List.getD [(Ty.pr (Ty.int (r.getD k 0))), (Ty.pr (Ty.bool (decide ((r.getD k 0) < (0 : Int))))), (Ty.pr (Ty.bool (decide ((r.getD k 0) < (0 : Int))))), (Ty.pr (Ty.grd ((decide ((r.getD k 0) < (0 : Int))) = false) (Ty.int (r.getD k 0)))), (Ty.pr (Ty.grd ((decide ((r.getD k 0) < (0 : Int))) = false) (Ty.lst Ty.int r))), (Ty.pr (Ty.grd ((decide ((r.getD k 0) < (0 : Int))) = false) (Ty.nat (List.length r)))), (Ty.pr (Ty.grd ((decide ((r.getD k 0) < (0 : Int))) = false) (Ty.bool (decide ((((List.length r) : Nat) : Int) ≤ (r.getD k 0)))))), (Ty.pr (Ty.bool ((decide ((r.getD k 0) < (0 : Int))) || (decide ((((List.length r) : Nat) : Int) ≤ (r.getD k 0)))))), (Ty.pr (Ty.bool ((decide ((r.getD k 0) < (0 : Int))) || (decide ((((List.length r) : Nat) : Int) ≤ (r.getD k 0)))))), (Ty.pr (Ty.grd (((decide ((r.getD k 0) < (0 : Int))) || (decide ((((List.length r) : Nat) : Int) ≤ (r.getD k 0)))) = false) (Ty.int (r.getD k 0)))), (Ty.pr (Ty.grd (((decide ((r.getD k 0) < (0 : Int))) || (decide ((((List.length r) : Nat) : Int) ≤ (r.getD k 0)))) = false) (Ty.val (ptrAt (a9.eval (.tmp 3)) ((r.getD k 0)).toNat)))), (Ty.pr (Ty.grd (((decide ((r.getD k 0) < (0 : Int))) || (decide ((((List.length r) : Nat) : Int) ≤ (r.getD k 0)))) = false) (Ty.int ((seenL r k).getD ((r.getD k 0)).toNat 0)))), (Ty.pr (Ty.grd (((decide ((r.getD k 0) < (0 : Int))) || (decide ((((List.length r) : Nat) : Int) ≤ (r.getD k 0)))) = false) (Ty.bool (decide ((0 : Int) < ((seenL r k).getD ((r.getD k 0)).toNat 0)))))), (Ty.pr (Ty.bool (((decide ((r.getD k 0) < (0 : Int))) || (decide ((((List.length r) : Nat) : Int) ≤ (r.getD k 0)))) || (decide ((0 : Int) < ((seenL r k).getD ((r.getD k 0)).toNat 0))))))] i_ Pr.any) ok8 rfl ⟨?_, ?_, ?_, ?_, ?_, ?_, ?_, ?_, ?_, ?_, ?_, ?_, ?_, ?_, trivial⟩ ?_
    · intro ax tx hs okx sm
      exact run_plain rfl (y_move (kp (sm 5 rfl) hs q28))
    · intro ax tx hs okx sm d0
      have e0 : At (Ty.int (r.getD k 0)) tx ax (.tmp 20) := d0 rfl
      exact run_plain rfl (y_lss e0 rfl)
    · intro ax tx hs okx sm d0
      have e1 : At (Ty.bool (decide ((r.getD k 0) < (0 : Int)))) tx ax (.tmp 21) := d0 rfl
      exact run_plain rfl (y_move e1)
    · intro ax tx hs okx sm d0
      have e2 : At (Ty.bool (decide ((r.getD k 0) < (0 : Int)))) tx ax (.tmp 22) := d0 rfl
      refine run_guard (T := (Ty.int (r.getD k 0))) okx rfl rfl (by decide) e2 (fun hg => ?_)
      have hp := of_decide_eq_false hg
      exact y_move (kp (sm 5 rfl) hs q28)
    · intro ax tx hs okx sm d0
      have e2 : At (Ty.bool (decide ((r.getD k 0) < (0 : Int)))) tx ax (.tmp 22) := d0 rfl
      refine run_guard (T := (Ty.lst Ty.int r)) okx rfl rfl (by decide) e2 (fun hg => ?_)
      have hp := of_decide_eq_false hg
      exact y_move (kp (sm 0 rfl) hs q25)
    · intro ax tx hs okx sm d0 d1
      have e4 : At (Ty.grd ((decide ((r.getD k 0) < (0 : Int))) = false) (Ty.lst Ty.int r)) tx ax (.tmp 24) := d0 rfl
      have e2 : At (Ty.bool (decide ((r.getD k 0) < (0 : Int)))) tx ax (.tmp 22) := d1 rfl
      refine run_guard (T := (Ty.nat (List.length r))) okx rfl rfl (by decide) e2 (fun hg => ?_)
      have hp := of_decide_eq_false hg
      exact y_len Try.underlying34 (e4.1 hg)
    · intro ax tx hs okx sm d0 d1 d2
      have e3 : At (Ty.grd ((decide ((r.getD k 0) < (0 : Int))) = false) (Ty.int (r.getD k 0))) tx ax (.tmp 23) := d0 rfl
      have e5 : At (Ty.grd ((decide ((r.getD k 0) < (0 : Int))) = false) (Ty.nat (List.length r))) tx ax (.tmp 25) := d1 rfl
      have e2 : At (Ty.bool (decide ((r.getD k 0) < (0 : Int)))) tx ax (.tmp 22) := d2 rfl
      refine run_guard (T := (Ty.bool (decide ((((List.length r) : Nat) : Int) ≤ (r.getD k 0))))) okx rfl rfl (by decide) e2 (fun hg => ?_)
      have hp := of_decide_eq_false hg
      exact y_geq (e3.1 hg) (e5.1 hg)
    · intro ax tx hs okx sm d0 d1
      have e2 : At (Ty.bool (decide ((r.getD k 0) < (0 : Int)))) tx ax (.tmp 22) := d0 rfl
      have e6 : At (Ty.grd ((decide ((r.getD k 0) < (0 : Int))) = false) (Ty.bool (decide ((((List.length r) : Nat) : Int) ≤ (r.getD k 0))))) tx ax (.tmp 26) := d1 rfl
      exact run_plain rfl (y_pick_or e2 rfl e6)
    · intro ax tx hs okx sm d0 d1
      have e7 : At (Ty.bool ((decide ((r.getD k 0) < (0 : Int))) || (decide ((((List.length r) : Nat) : Int) ≤ (r.getD k 0))))) tx ax (.tmp 27) := d0 rfl
      have e2 : At (Ty.bool (decide ((r.getD k 0) < (0 : Int)))) tx ax (.tmp 22) := d1 rfl
      exact run_plain rfl (y_move e7)
    · intro ax tx hs okx sm d0
      have e8 : At (Ty.bool ((decide ((r.getD k 0) < (0 : Int))) || (decide ((((List.length r) : Nat) : Int) ≤ (r.getD k 0))))) tx ax (.tmp 28) := d0 rfl
      refine run_guard (T := (Ty.int (r.getD k 0))) okx rfl rfl (by decide) e8 (fun hg => ?_)
      obtain ⟨d3, d4⟩ := Bool.or_eq_false_iff.mp hg
      have d3 := of_decide_eq_false d3
      have d4 := of_decide_eq_false d4
      exact y_move (kp (sm 5 rfl) hs q28)
    · intro ax tx hs okx sm d0 d1
      have e9 : At (Ty.grd (((decide ((r.getD k 0) < (0 : Int))) || (decide ((((List.length r) : Nat) : Int) ≤ (r.getD k 0)))) = false) (Ty.int (r.getD k 0))) tx ax (.tmp 29) := d0 rfl
      have e8 : At (Ty.bool ((decide ((r.getD k 0) < (0 : Int))) || (decide ((((List.length r) : Nat) : Int) ≤ (r.getD k 0))))) tx ax (.tmp 28) := d1 rfl
      refine run_guard (T := (Ty.val (ptrAt (a9.eval (.tmp 3)) ((r.getD k 0)).toNat))) okx rfl rfl (by decide) e8 (fun hg => ?_)
      obtain ⟨d5, d6⟩ := Bool.or_eq_false_iff.mp hg
      have d5 := of_decide_eq_false d5
      have d6 := of_decide_eq_false d6
      exact ownp_index (i := (r.getD k 0)) Try.underlying155 Try.inf3 ((Pr.ownp 11 (List.map Ty.int (seenL r k))).up hs q24) (sm 3 rfl) (e9.1 hg) (by omega) (by omega)
    · intro ax tx hs okx sm d0 d1
      have e10 : At (Ty.grd (((decide ((r.getD k 0) < (0 : Int))) || (decide ((((List.length r) : Nat) : Int) ≤ (r.getD k 0)))) = false) (Ty.val (ptrAt (a9.eval (.tmp 3)) ((r.getD k 0)).toNat))) tx ax (.tmp 30) := d0 rfl
      have e8 : At (Ty.bool ((decide ((r.getD k 0) < (0 : Int))) || (decide ((((List.length r) : Nat) : Int) ≤ (r.getD k 0))))) tx ax (.tmp 28) := d1 rfl
      refine run_guard (T := (Ty.int ((seenL r k).getD ((r.getD k 0)).toNat 0))) okx rfl rfl (by decide) e8 (fun hg => ?_)
      obtain ⟨d7, d8⟩ := Bool.or_eq_false_iff.mp hg
      have d7 := of_decide_eq_false d7
      have d8 := of_decide_eq_false d8
      exact ownp_load Try.underlying3 rfl ((Pr.ownp 11 (List.map Ty.int (seenL r k))).up hs q24) (e10.1 hg) (lst_get Ty.int (seenL r k) 0 ((r.getD k 0)).toNat (by omega))
    · intro ax tx hs okx sm d0 d1
      have e11 : At (Ty.grd (((decide ((r.getD k 0) < (0 : Int))) || (decide ((((List.length r) : Nat) : Int) ≤ (r.getD k 0)))) = false) (Ty.int ((seenL r k).getD ((r.getD k 0)).toNat 0))) tx ax (.tmp 31) := d0 rfl
      have e8 : At (Ty.bool ((decide ((r.getD k 0) < (0 : Int))) || (decide ((((List.length r) : Nat) : Int) ≤ (r.getD k 0))))) tx ax (.tmp 28) := d1 rfl
      refine run_guard (T := (Ty.bool (decide ((0 : Int) < ((seenL r k).getD ((r.getD k 0)).toNat 0))))) okx rfl rfl (by decide) e8 (fun hg => ?_)
      obtain ⟨d9, d10⟩ := Bool.or_eq_false_iff.mp hg
      have d9 := of_decide_eq_false d9
      have d10 := of_decide_eq_false d10
      exact y_gtr (e11.1 hg) rfl
    · intro ax tx hs okx sm d0 d1
      have e8 : At (Ty.bool ((decide ((r.getD k 0) < (0 : Int))) || (decide ((((List.length r) : Nat) : Int) ≤ (r.getD k 0))))) tx ax (.tmp 28) := d0 rfl
      have e12 : At (Ty.grd (((decide ((r.getD k 0) < (0 : Int))) || (decide ((((List.length r) : Nat) : Int) ≤ (r.getD k 0)))) = false) (Ty.bool (decide ((0 : Int) < ((seenL r k).getD ((r.getD k 0)).toNat 0))))) tx ax (.tmp 32) := d1 rfl
      exact run_plain rfl (y_pick_or e8 rfl e12)
    intro a10 s8 D8
    have ok9 := D8.ok
    have F9 := F8.step0 D8.stp
    have q29 : At (Ty.nat k) s8 a10 (.tmp 16) := D8.kt q23 rfl
    have q30 : (Pr.ownp 11 (List.map Ty.int (seenL r k))).has s8 (a10.eval (.tmp 3)) := D8.ko q24 rfl
    have q31 : At (Ty.lst Ty.int r) s8 a10 (.tmp 0) := D8.kt q25 rfl
    have q32 : At (Ty.lst Ty.int r) s8 a10 (.tmp 14) := D8.kt q26 rfl
    have q33 : At (Ty.nat (List.length r)) s8 a10 (.tmp 15) := D8.kt q27 rfl
    have q34 : At (Ty.int (r.getD k 0)) s8 a10 (.tmp 5) := D8.kt q28 rfl
    have q35 : At (Ty.bool (((decide ((r.getD k 0) < (0 : Int))) || (decide ((((List.length r) : Nat) : Int) ≤ (r.getD k 0)))) || (decide ((0 : Int) < ((seenL r k).getD ((r.getD k 0)).toNat 0))))) s8 a10 (.tmp 33) := D8.done 13
    clear D8
    refine tn ?_
    refine cond_t q35 (fun c3 => ?_) (fun c3 => ?_)
    ·
     simp only [Bool.or_eq_true, decide_eq_true_eq] at c3
     refine wp_seq ?_
     refine reg (a := a10) (σ := s8) rfl (fun i_ => List.getD [(Ty.pr (Ty.int (2 : Int)))] i_ Pr.any) ok9 rfl ⟨?_, trivial⟩ ?_
     · intro ax tx hs okx sm
       exact run_plain rfl (y_assign rfl)
     intro a11 s9 D9
     have ok10 := D9.ok
     have F10 := F9.step0 D9.stp
     have q36 : At (Ty.int (2 : Int)) s9 a11 (.tmp 2) := D9.done 0
     clear D9
     refine tn ?_
     refine wp_ret ?_
     refine tr ?_
     refine br ?_
     refine tr ?_
     refine tr ?_
     refine br ?_
     refine tr ?_
     exact ret1 rfl ok10 F10 (cvi (by (by_cases hb : r.getD k 0 < 0 ∨ (r.length : Int) ≤ r.getD k 0; exact (not_row_bd (by omega) (by omega) (by omega) hb).symm; exact (not_row_twice (k := k) (by omega) (by omega) (by omega) (by omega) (by omega) (by omega)).symm)) q36)
    ·
     obtain ⟨d11, d12⟩ := Bool.or_eq_false_iff.mp c3
     obtain ⟨d13, d14⟩ := Bool.or_eq_false_iff.mp d11
     replace d13 := of_decide_eq_false d13
     replace d14 := of_decide_eq_false d14
     replace d12 := of_decide_eq_false d12
     have hq := seenL_bd r k (r.getD k 0).toNat
     refine wp_skip ?_
     refine tn ?_
     refine reg2 (a := a10) (σ := s8) rfl 5 (fun i_ => List.getD [(Ty.pr (Ty.int (r.getD k 0))), (Ty.pr (Ty.val (ptrAt (a10.eval (.tmp 3)) ((r.getD k 0)).toNat))), (Ty.pr (Ty.int ((seenL r k).getD ((r.getD k 0)).toNat 0))), (Ty.pr (Ty.int (((seenL r k).getD ((r.getD k 0)).toNat 0) + (1 : Int)))), (Ty.pr (Ty.val (ptrAt (a10.eval (.tmp 3)) ((r.getD k 0)).toNat)))] i_ Pr.any) ok9 rfl (by decide) rfl ⟨?_, ?_, ?_, ?_, ?_, trivial⟩ ?_
     · intro ax tx hs okx sm
       exact run_plain rfl (y_move (kp (sm 5 rfl) hs q34))
     · intro ax tx hs okx sm d0
       have e0 : At (Ty.int (r.getD k 0)) tx ax (.tmp 34) := d0 rfl
       exact run_plain rfl (ownp_index (i := (r.getD k 0)) Try.underlying155 Try.inf3 ((Pr.ownp 11 (List.map Ty.int (seenL r k))).up hs q30) (sm 3 rfl) e0 (by omega) (by omega))
     · intro ax tx hs okx sm d0
       have e1 : At (Ty.val (ptrAt (a10.eval (.tmp 3)) ((r.getD k 0)).toNat)) tx ax (.tmp 35) := d0 rfl
       exact run_plain rfl (ownp_load Try.underlying3 rfl ((Pr.ownp 11 (List.map Ty.int (seenL r k))).up hs q30) e1 (lst_get Ty.int (seenL r k) 0 ((r.getD k 0)).toNat (by omega)))
     · intro ax tx hs okx sm d0
       have e2 : At (Ty.int ((seenL r k).getD ((r.getD k 0)).toNat 0)) tx ax (.tmp 36) := d0 rfl
       exact run_plain rfl (y_add e2 rfl (w64 (by omega) (by omega)))
     · intro ax tx hs okx sm d0 d1 d2 d3 d4
       have e0 : At (Ty.int (r.getD k 0)) tx ax (.tmp 34) := d0 rfl
       have e1 : At (Ty.val (ptrAt (a10.eval (.tmp 3)) ((r.getD k 0)).toNat)) tx ax (.tmp 35) := d2 rfl
       have e2 : At (Ty.int ((seenL r k).getD ((r.getD k 0)).toNat 0)) tx ax (.tmp 36) := d3 rfl
       have e3 : At (Ty.int (((seenL r k).getD ((r.getD k 0)).toNat 0) + (1 : Int))) tx ax (.tmp 37) := d4 rfl
       exact run_plain rfl (ownp_index (i := (r.getD k 0)) Try.underlying155 Try.inf3 ((Pr.ownp 11 (List.map Ty.int (seenL r k))).up hs q30) (sm 3 rfl) e0 (by omega) (by omega))
     intro a12 s10 D10
     have ok11 := D10.ok
     have F11 := F9.step0 D10.stp
     have q37 := (Pr.ownp 11 (List.map Ty.int (seenL r k))).up D10.stp q30
     have q38 : At (Ty.nat k) s10 a12 (.tmp 16) := D10.kt q29 rfl
     have q39 : a12.eval (.tmp 3) = a10.eval (.tmp 3) := D10.same 3 rfl
     have q40 : At (Ty.lst Ty.int r) s10 a12 (.tmp 0) := D10.kt q31 rfl
     have q41 : At (Ty.lst Ty.int r) s10 a12 (.tmp 14) := D10.kt q32 rfl
     have q42 : At (Ty.nat (List.length r)) s10 a12 (.tmp 15) := D10.kt q33 rfl
     have q43 : At (Ty.int (((seenL r k).getD ((r.getD k 0)).toNat 0) + (1 : Int))) s10 a12 (.tmp 37) := D10.done 3 (by decide)
     have q44 : At (Ty.val (ptrAt (a10.eval (.tmp 3)) ((r.getD k 0)).toNat)) s10 a12 (.tmp 38) := D10.done 4 (by decide)
     clear D10
     refine tail_step0 (m := 11) (R := (fun _ τ => OwnP τ 11 (a10.eval (.tmp 3)) ((List.map Ty.int (seenL r k)).set ((r.getD k 0)).toNat (Ty.int (((seenL r k).getD ((r.getD k 0)).toNat 0) + (1 : Int)))))) rfl rfl (m_storep Try.inf3 (by decide) q37 q44 (by simp only [List.length_map, List.length_set]; omega) q43 (one_val rfl)) (fun v1 s11 hs1 r1 => ?_)
     have F12 := F11.step hs1 (by decide)
     have q45 : At (Ty.nat k) s11 a12 (.tmp 16) := kpm hs1 (by decide) rfl q38
     have q46 : At (Ty.lst Ty.int r) s11 a12 (.tmp 0) := kpm hs1 (by decide) rfl q40
     have q47 : At (Ty.lst Ty.int r) s11 a12 (.tmp 14) := kpm hs1 (by decide) rfl q41
     have q48 : At (Ty.nat (List.length r)) s11 a12 (.tmp 15) := kpm hs1 (by decide) rfl q42
     have q49 : At (Ty.int (((seenL r k).getD ((r.getD k 0)).toNat 0) + (1 : Int))) s11 a12 (.tmp 37) := kpm hs1 (by decide) rfl q43
     have q50 : (Pr.ownp 11 (List.map Ty.int ((seenL r k).set ((r.getD k 0)).toNat (((seenL r k).getD ((r.getD k 0)).toNat 0) + (1 : Int))))).has s11 (a10.eval (.tmp 3)) := (cvop (by simp) r1)
     refine wpList_nil ?_
     have q51 : (Pr.ownp 11 (List.map Ty.int ((seenL r k).set ((r.getD k 0)).toNat (((seenL r k).getD ((r.getD k 0)).toNat 0) + (1 : Int))))).has s11 (a12.eval (.tmp 3)) := al q39 q50
     refine bn ?_
     refine tn ?_
     refine reg (a := a12) (σ := s11) rfl (fun i_ => List.getD [(Ty.pr (Ty.int (((k : Nat) : Int) + (1 : Int)))), (Ty.pr (Ty.int (((k : Nat) : Int) + (1 : Int))))] i_ Pr.any) ok11 rfl ⟨?_, ?_, trivial⟩ ?_
     · intro ax tx hs okx sm
       exact run_plain rfl (y_add (kp (sm 16 rfl) hs q45) rfl (w64 (by omega) (by omega)))
     · intro ax tx hs okx sm d0
       have e0 : At (Ty.int (((k : Nat) : Int) + (1 : Int))) tx ax (.tmp 39) := d0 rfl
       exact run_plain rfl (y_move e0)
     intro a14 s12 D11
     have ok13 := D11.ok
     have F13 := F12.step0 D11.stp
     have q52 : (Pr.ownp 11 (List.map Ty.int ((seenL r k).set ((r.getD k 0)).toNat (((seenL r k).getD ((r.getD k 0)).toNat 0) + (1 : Int))))).has s12 (a14.eval (.tmp 3)) := D11.ko q51 rfl
     have q53 : At (Ty.lst Ty.int r) s12 a14 (.tmp 0) := D11.kt q46 rfl
     have q54 : At (Ty.lst Ty.int r) s12 a14 (.tmp 14) := D11.kt q47 rfl
     have q55 : At (Ty.nat (List.length r)) s12 a14 (.tmp 15) := D11.kt q48 rfl
     have q56 : At (Ty.int (((k : Nat) : Int) + (1 : Int))) s12 a14 (.tmp 16) := D11.done 1
     clear D11
     exact tn ⟨r.length - ((k+1)), by omega, s12, (k+1), rfl, F13, ok13, (cvi (by (first | rfl | omega | (simp_all; done) | (simp_all; omega))) q56), (cvop (by (exact congrArg _ (seenL_step r k (by omega) (by omega) (by omega)))) q52), q53, q54, q55, by omega, hu.step (by omega) (by omega) (by omega) (by omega) (by omega), rfl⟩
   ·
    refine wp_exit ?_
    refine tx ?_
    refine tx ?_
    refine bx ?_
    refine tn ?_
    refine wp_seq ?_
    refine reg (a := a8) (σ := s6) rfl (fun i_ => List.getD [(Ty.pr (Ty.int (0 : Int)))] i_ Pr.any) ok7 rfl ⟨?_, trivial⟩ ?_
    · intro ax tx hs okx sm
      exact run_plain rfl (y_assign rfl)
    intro a15 s13 D12
    have ok14 := D12.ok
    have F14 := F7.step0 D12.stp
    have q57 : At (Ty.int (0 : Int)) s13 a15 (.tmp 2) := D12.done 0
    clear D12
    refine tn ?_
    refine wp_ret ?_
    exact ret1 rfl ok14 F14 (cvi (by (exact (Upto.row (by have e : k = r.length := (by omega); rw [← e]; rw [e] at hu; rw [e]; exact hu) (by omega) (by omega)).symm)) q57)

theorem Try.inf34 : Info Try.prog 34 (.slice none 0 0) 1 24 := by unfold Info; kernel_rfl
set_option maxRecDepth 100000 in
theorem cycles_fn (r : List Int) (σ : GW) (v0 : Value) (hv0 : Ty.has (Ty.lst Ty.int r) σ v0)  :
    FnC Try.prog 39 #[v0] σ (Ty.tup2 (Ty.lst Ty.ints (if rowMay r = 0 then cyclesL r else [])) (Ty.int (rowMay r))) := by
 refine fn_intro Try.func39 rfl Try.ntmps39 (Nat.le_of_ble_eq_true rfl) (fun s0 a0 hle F0 ok0 hargs => ?_)
 have p0 : At (Ty.lst Ty.int r) s0 a0 (.tmp 0) := by have e := hargs 0 _ rfl; show Ty.has _ _ _; rw [e]; exact Ty.up _ hle hv0
 have b1 := sl_le p0
 clear hargs
 refine wp_seq ?_
 refine reg (a := a0) (σ := s0) rfl (fun i_ => List.getD [(Ty.pr (Ty.val (Value.slice none 0 0))), (Ty.pr (Ty.int (0 : Int)))] i_ Pr.any) ok0 rfl ⟨?_, ?_, trivial⟩ ?_
 · intro ax tx hs okx sm
   exact run_plain rfl (y_assign rfl)
 · intro ax tx hs okx sm d0
   have e0 : At (Ty.val (Value.slice none 0 0)) tx ax (.tmp 2) := d0 rfl
   exact run_plain rfl (y_assign rfl)
 intro a1 s1 D1
 have ok1 := D1.ok
 have F1 := F0.step0 D1.stp
 have q1 : At (Ty.lst Ty.int r) s1 a1 (.tmp 0) := D1.kt p0 rfl
 clear D1
 refine tn ?_
 refine wp_seq ?_
 refine wp_seq ?_
 refine reg (a := a1) (σ := s1) rfl (fun i_ => List.getD [(Ty.pr (Ty.lst Ty.int r)), (Ty.pr (Ty.int (rowMay r))), (Ty.pr (Ty.int (rowMay r)))] i_ Pr.any) ok1 rfl ⟨?_, ?_, ?_, trivial⟩ ?_
 · intro ax tx hs okx sm
   exact run_plain rfl (y_move (kp (sm 0 rfl) hs q1))
 · intro ax tx hs okx sm d0
   have e0 : At (Ty.lst Ty.int r) tx ax (.tmp 10) := d0 rfl
   exact run_plain rfl (y_call #[ax.eval (.tmp 10)] Try.func44 rfl rfl (by simp only [List.map_toArray, List.map_cons, List.map_nil]) (rowCheck_fn (r) _ _ e0 ))
 · intro ax tx hs okx sm d0 d1 d2 d3
   have e1 : At (Ty.int (rowMay r)) tx ax (.tmp 11) := d0 rfl
   have e0 : At (Ty.lst Ty.int r) tx ax (.tmp 10) := d2 rfl
   exact run_plain rfl (y_assign e1)
 intro a2 s2 D2
 have ok2 := D2.ok
 have F2 := F1.step0 D2.stp
 have q2 : At (Ty.lst Ty.int r) s2 a2 (.tmp 0) := D2.kt q1 rfl
 have q3 : At (Ty.int (rowMay r)) s2 a2 (.tmp 4) := D2.done 2
 clear D2
 refine tn ?_
 refine wp_seq ?_
 refine reg (a := a2) (σ := s2) rfl (fun i_ => List.getD [(Ty.pr (Ty.int (rowMay r))), (Ty.pr (Ty.bool (decide ((rowMay r) ≠ (0 : Int)))))] i_ Pr.any) ok2 rfl ⟨?_, ?_, trivial⟩ ?_
 · intro ax tx hs okx sm
   exact run_plain rfl (y_move (kp (sm 4 rfl) hs q3))
 · intro ax tx hs okx sm d0
   have e0 : At (Ty.int (rowMay r)) tx ax (.tmp 12) := d0 rfl
   exact run_plain rfl (y_neq e0 rfl)
 intro a3 s3 D3
 have ok3 := D3.ok
 have F3 := F2.step0 D3.stp
 have q4 : At (Ty.lst Ty.int r) s3 a3 (.tmp 0) := D3.kt q2 rfl
 have q5 : At (Ty.int (rowMay r)) s3 a3 (.tmp 4) := D3.kt q3 rfl
 have q6 : At (Ty.bool (decide ((rowMay r) ≠ (0 : Int)))) s3 a3 (.tmp 13) := D3.done 1
 clear D3
 refine tn ?_
 refine cond_p (p := ((rowMay r) ≠ (0 : Int))) q6 (fun c1 => ?_) (fun c1 => ?_)
 ·
  refine wp_seq ?_
  refine reg (a := a3) (σ := s3) rfl (fun i_ => List.getD [(Ty.pr (Ty.int (rowMay r))), (Ty.pr (Ty.val (Value.slice none 0 0))), (Ty.pr (Ty.int (rowMay r)))] i_ Pr.any) ok3 rfl ⟨?_, ?_, ?_, trivial⟩ ?_
  · intro ax tx hs okx sm d0
    exact run_plain rfl (y_move (kp (sm 4 rfl) hs q5))
  · intro ax tx hs okx sm d0
    exact run_plain rfl (y_assign rfl)
  · intro ax tx hs okx sm d0 d1 d2 d3
    have e0 : At (Ty.int (rowMay r)) tx ax (.tmp 14) := d0 rfl
    have e1 : At (Ty.val (Value.slice none 0 0)) tx ax (.tmp 2) := d1 rfl
    exact run_plain rfl (y_assign e0)
  intro a4 s4 D4
  have ok4 := D4.ok
  have F4 := F3.step0 D4.stp
  have q7 : At (Ty.val (Value.slice none 0 0)) s4 a4 (.tmp 2) := D4.done 1
  have q8 : At (Ty.int (rowMay r)) s4 a4 (.tmp 3) := D4.done 2
  clear D4
  refine tn ?_
  refine wp_ret ?_
  refine tr ?_
  exact ret2 rfl ok4 F4 (nil_lst (by (rw [if_neg (by assumption)])) q7) q8
 ·
  have hr := rowMay_ok.1 (Classical.not_not.1 c1); have hln := hr.le
  refine wp_skip ?_
  refine tn ?_
  refine wp_seq ?_
  refine reg (a := a3) (σ := s3) rfl (fun i_ => List.getD [(Ty.pr (Ty.val (Value.slice none 0 0)))] i_ Pr.any) ok3 rfl ⟨?_, trivial⟩ ?_
  · intro ax tx hs okx sm
    exact run_plain rfl (y_assign rfl)
  intro a5 s5 D5
  have ok5 := D5.ok
  have F5 := F3.step0 D5.stp
  have q9 : At (Ty.lst Ty.int r) s5 a5 (.tmp 0) := D5.kt q4 rfl
  have q10 : At (Ty.val (Value.slice none 0 0)) s5 a5 (.tmp 5) := D5.done 0
  clear D5
  refine tn ?_
  refine wp_seq ?_
  refine reg (a := a5) (σ := s5) rfl (fun i_ => List.getD [(Ty.pr (Ty.lst Ty.int r)), (Ty.pr (Ty.nat (List.length r))), (Pr.own 11 3 1 (List.length r) (List.map Ty.int (List.replicate (List.length r) 0))), (Pr.own 11 3 1 (List.length r) (List.map Ty.int (List.replicate (List.length r) 0)))] i_ Pr.any) ok5 rfl ⟨?_, ?_, ?_, ?_, trivial⟩ ?_
  · intro ax tx hs okx sm
    exact run_plain rfl (y_move (kp (sm 0 rfl) hs q9))
  · intro ax tx hs okx sm d0
    have e0 : At (Ty.lst Ty.int r) tx ax (.tmp 15) := d0 rfl
    exact run_plain rfl (y_len Try.underlying34 e0)
  · intro ax tx hs okx sm d0 d1
    have e1 : At (Ty.nat (List.length r)) tx ax (.tmp 16) := d0 rfl
    exact run_plain rfl ((y_make (k := 11) (T := Ty.int 0) (n := (List.length r)) Try.underlying34 Try.inf3 rfl (fun _ => rfl) e1 e1 (by omega) (by omega)).mono (fun _ _ h => cvo (by simp) (by simp) h))
  · intro ax tx hs okx sm d0 d1 d2 d3
    have e2 : (Pr.own 11 3 1 (List.length r) (List.map Ty.int (List.replicate (List.length r) 0))).has tx (ax.eval (.tmp 17)) := d0 rfl
    have e0 : At (Ty.lst Ty.int r) tx ax (.tmp 15) := d1 rfl
    have e1 : At (Ty.nat (List.length r)) tx ax (.tmp 16) := d2 rfl
    exact run_plain rfl (y_assign e2)
  intro a6 s6 D6
  have ok6 := D6.ok
  have F6 := F5.step0 D6.stp
  have q11 : At (Ty.lst Ty.int r) s6 a6 (.tmp 0) := D6.kt q9 rfl
  have q12 : At (Ty.val (Value.slice none 0 0)) s6 a6 (.tmp 5) := D6.kt q10 rfl
  have q13 : (Pr.own 11 3 1 (List.length r) (List.map Ty.int (List.replicate (List.length r) 0))).has s6 (a6.eval (.tmp 6)) := D6.done 3
  clear D6
  refine tn ?_
  refine wp_seq ?_
  refine wp_seq ?_
  refine reg (a := a6) (σ := s6) rfl (fun i_ => List.getD [(Ty.pr (Ty.lst Ty.int r)), (Ty.pr (Ty.nat (List.length r))), (Ty.pr (Ty.int (0 : Int)))] i_ Pr.any) ok6 rfl ⟨?_, ?_, ?_, trivial⟩ ?_
  · intro ax tx hs okx sm
    exact run_plain rfl (y_move (kp (sm 0 rfl) hs q11))
  · intro ax tx hs okx sm d0
    have e0 : At (Ty.lst Ty.int r) tx ax (.tmp 18) := d0 rfl
    exact run_plain rfl (y_len Try.underlying34 e0)
  · intro ax tx hs okx sm
    exact run_plain rfl (y_move rfl)
  intro a7 s7 D7
  have ok7 := D7.ok
  have F7 := F6.step0 D7.stp
  have q14 : At (Ty.lst Ty.int r) s7 a7 (.tmp 0) := D7.kt q11 rfl
  have q15 : At (Ty.val (Value.slice none 0 0)) s7 a7 (.tmp 5) := D7.kt q12 rfl
  have q16 : (Pr.own 11 3 1 (List.length r) (List.map Ty.int (List.replicate (List.length r) 0))).has s7 (a7.eval (.tmp 6)) := D7.ko q13 rfl
  have q17 : At (Ty.nat (List.length r)) s7 a7 (.tmp 19) := D7.done 1
  have q18 : At (Ty.int (0 : Int)) s7 a7 (.tmp 20) := D7.done 2
  clear D7
  refine tn ?_
  refine wp_block ?_
  refine loop (fun n1 a8 w1 => ∃ (t1 : GW) (i : Nat), t1.w = w1 ∧ From s0 t1 ∧ Ok 52 a8 ∧ At (Ty.nat i) t1 a8 (.tmp 20) ∧ (Pr.own 2 34 1 (List.length (cyclesTo r i)) (List.map Ty.ints (cyclesTo r i))).has t1 (a8.eval (.tmp 5)) ∧ (Pr.own 11 3 1 (List.length (doneL r i 0)) (List.map Ty.int (doneL r i 0))).has t1 (a8.eval (.tmp 6)) ∧ At (Ty.lst Ty.int r) t1 a8 (.tmp 0) ∧ At (Ty.nat (List.length r)) t1 a8 (.tmp 19) ∧ (i ≤ r.length) ∧ n1 = r.length - i) (r.length - (0)) ?_ ?_
  ·
   exact ⟨s7, 0, rfl, F7, ok7, (cvi (by (first | rfl | omega | (simp_all; done) | (simp_all; omega))) q18), (by have e : a7.eval (.tmp 5) = _ := q15; rw [e]; exact Own.nil _ _ _ _), (cvo (by (simp [doneL_zero])) (by (simp [doneL_zero])) q16), q14, q17, by omega, rfl⟩
  ·
   rintro n2 a9 w2 ⟨t2, i, rfl, F8, ok8, q19, q20, q21, q22, q23, hk, rfl⟩
   have hcl := cyclesTo_len r i
   have hdl := doneL_len r i 0
   refine wp_seq ?_
   refine reg (a := a9) (σ := t2) rfl (fun i_ => List.getD [(Ty.pr (Ty.bool (decide (((i : Nat) : Int) < (((List.length r) : Nat) : Int)))))] i_ Pr.any) ok8 rfl ⟨?_, trivial⟩ ?_
   · intro ax tx hs okx sm
     exact run_plain rfl (y_lss (kp (sm 20 rfl) hs q19) (kp (sm 19 rfl) hs q23))
   intro a10 s8 D8
   have ok9 := D8.ok
   have F9 := F8.step0 D8.stp
   have q24 : At (Ty.nat i) s8 a10 (.tmp 20) := D8.kt q19 rfl
   have q25 : (Pr.own 2 34 1 (List.length (cyclesTo r i)) (List.map Ty.ints (cyclesTo r i))).has s8 (a10.eval (.tmp 5)) := D8.ko q20 rfl
   have q26 : (Pr.own 11 3 1 (List.length (doneL r i 0)) (List.map Ty.int (doneL r i 0))).has s8 (a10.eval (.tmp 6)) := D8.ko q21 rfl
   have q27 : At (Ty.lst Ty.int r) s8 a10 (.tmp 0) := D8.kt q22 rfl
   have q28 : At (Ty.nat (List.length r)) s8 a10 (.tmp 19) := D8.kt q23 rfl
   have q29 : At (Ty.bool (decide (((i : Nat) : Int) < (((List.length r) : Nat) : Int)))) s8 a10 (.tmp 21) := D8.done 0
   clear D8
   refine tn ?_
   refine wp_seq ?_
   refine cond_p (p := (((i : Nat) : Int) < (((List.length r) : Nat) : Int))) q29 (fun c2 => ?_) (fun c2 => ?_)
   ·
    have hper := per_spec hr (show i < r.length by omega)
    refine wp_skip ?_
    refine tn ?_
    refine wp_seq ?_
    refine wp_block ?_
    refine wp_seq ?_
    refine reg (a := a10) (σ := s8) rfl (fun i_ => List.getD [(Ty.pr (Ty.nat i)), (Ty.pr (Ty.nat i))] i_ Pr.any) ok9 rfl ⟨?_, ?_, trivial⟩ ?_
    · intro ax tx hs okx sm
      exact run_plain rfl (y_move (kp (sm 20 rfl) hs q24))
    · intro ax tx hs okx sm d0 d1
      have e0 : At (Ty.nat i) tx ax (.tmp 22) := d0 rfl
      exact run_plain rfl (y_assign e0)
    intro a11 s9 D9
    have ok10 := D9.ok
    have F10 := F9.step0 D9.stp
    have q30 : At (Ty.nat i) s9 a11 (.tmp 20) := D9.kt q24 rfl
    have q31 : (Pr.own 2 34 1 (List.length (cyclesTo r i)) (List.map Ty.ints (cyclesTo r i))).has s9 (a11.eval (.tmp 5)) := D9.ko q25 rfl
    have q32 : (Pr.own 11 3 1 (List.length (doneL r i 0)) (List.map Ty.int (doneL r i 0))).has s9 (a11.eval (.tmp 6)) := D9.ko q26 rfl
    have q33 : At (Ty.lst Ty.int r) s9 a11 (.tmp 0) := D9.kt q27 rfl
    have q34 : At (Ty.nat (List.length r)) s9 a11 (.tmp 19) := D9.kt q28 rfl
    have q35 : At (Ty.nat i) s9 a11 (.tmp 7) := D9.done 1
    clear D9
    refine tn ?_
    refine wp_seq ?_
    refine reg (a := a11) (σ := s9) rfl (fun i_ => List.getD [(Ty.pr (Ty.val (Value.slice none 0 0)))] i_ Pr.any) ok10 rfl ⟨?_, trivial⟩ ?_
    · intro ax tx hs okx sm
      exact run_plain rfl (y_assign rfl)
    intro a12 s10 D10
    have ok11 := D10.ok
    have F11 := F10.step0 D10.stp
    have q36 : At (Ty.nat i) s10 a12 (.tmp 20) := D10.kt q30 rfl
    have q37 : (Pr.own 2 34 1 (List.length (cyclesTo r i)) (List.map Ty.ints (cyclesTo r i))).has s10 (a12.eval (.tmp 5)) := D10.ko q31 rfl
    have q38 : (Pr.own 11 3 1 (List.length (doneL r i 0)) (List.map Ty.int (doneL r i 0))).has s10 (a12.eval (.tmp 6)) := D10.ko q32 rfl
    have q39 : At (Ty.lst Ty.int r) s10 a12 (.tmp 0) := D10.kt q33 rfl
    have q40 : At (Ty.nat (List.length r)) s10 a12 (.tmp 19) := D10.kt q34 rfl
    have q41 : At (Ty.nat i) s10 a12 (.tmp 7) := D10.kt q35 rfl
    have q42 : At (Ty.val (Value.slice none 0 0)) s10 a12 (.tmp 8) := D10.done 0
    clear D10
    refine tn ?_
    refine wp_seq ?_
    refine wp_seq ?_
    refine reg (a := a12) (σ := s10) rfl (fun i_ => List.getD [(Ty.pr (Ty.nat i)), (Ty.pr (Ty.nat i))] i_ Pr.any) ok11 rfl ⟨?_, ?_, trivial⟩ ?_
    · intro ax tx hs okx sm
      exact run_plain rfl (y_move (kp (sm 7 rfl) hs q41))
    · intro ax tx hs okx sm d0 d1
      have e0 : At (Ty.nat i) tx ax (.tmp 23) := d0 rfl
      exact run_plain rfl (y_assign e0)
    intro a13 s11 D11
    have ok12 := D11.ok
    have F12 := F11.step0 D11.stp
    have q43 : At (Ty.nat i) s11 a13 (.tmp 20) := D11.kt q36 rfl
    have q44 : (Pr.own 2 34 1 (List.length (cyclesTo r i)) (List.map Ty.ints (cyclesTo r i))).has s11 (a13.eval (.tmp 5)) := D11.ko q37 rfl
    have q45 : (Pr.own 11 3 1 (List.length (doneL r i 0)) (List.map Ty.int (doneL r i 0))).has s11 (a13.eval (.tmp 6)) := D11.ko q38 rfl
    have q46 : At (Ty.lst Ty.int r) s11 a13 (.tmp 0) := D11.kt q39 rfl
    have q47 : At (Ty.nat (List.length r)) s11 a13 (.tmp 19) := D11.kt q40 rfl
    have q48 : At (Ty.val (Value.slice none 0 0)) s11 a13 (.tmp 8) := D11.kt q42 rfl
    have q49 : At (Ty.nat i) s11 a13 (.tmp 9) := D11.done 1
    clear D11
    refine tn ?_
    refine wp_block ?_
    refine loop (fun n3 a14 w3 => ∃ (t3 : GW) (m : Nat), t3.w = w3 ∧ From s0 t3 ∧ Ok 52 a14 ∧ (Pr.own 11 3 1 (List.length (doneL r i m)) (List.map Ty.int (doneL r i m))).has t3 (a14.eval (.tmp 6)) ∧ (Pr.own 3 3 1 (List.length (orbTo r i m)) (List.map Ty.int (orbTo r i m))).has t3 (a14.eval (.tmp 8)) ∧ At (Ty.nat (itr r i m)) t3 a14 (.tmp 9) ∧ At (Ty.nat i) t3 a14 (.tmp 20) ∧ (Pr.own 2 34 1 (List.length (cyclesTo r i)) (List.map Ty.ints (cyclesTo r i))).has t3 (a14.eval (.tmp 5)) ∧ At (Ty.lst Ty.int r) t3 a14 (.tmp 0) ∧ At (Ty.nat (List.length r)) t3 a14 (.tmp 19) ∧ (m ≤ per r i) ∧ (m = 0 ∨ least r i = true) ∧ n3 = per r i + 1 - m) (per r i + 1 - (0)) ?_ ?_
    ·
     exact ⟨s11, 0, rfl, F12, ok12, (cvo (by (simp)) (by (simp)) q45), (by have e : a13.eval (.tmp 8) = _ := q48; rw [e]; exact Own.nil _ _ _ _), (cvi (by (first | rfl | omega | (simp_all; done) | (simp_all; omega))) q49), q43, q44, q46, q47, by omega, .inl rfl, rfl⟩
    ·
     rintro n4 a15 w4 ⟨t4, m, rfl, F13, ok13, q50, q51, q52, q53, q54, q55, q56, hm, hml, rfl⟩
     have hdm := doneL_len r i m
     have hit := itr_lt hr (show i < r.length by omega) m
     have h01 := doneL_01 r i m (itr r i m)
     have hol := orbTo_len r i m
     refine wp_seq ?_
     refine wp_seq ?_
     refine reg (a := a15) (σ := t4) rfl (fun i_ => List.getD [(Ty.pr (Ty.val (a15.eval (.tmp 6)))), (Ty.pr (Ty.nat (itr r i m))), (Ty.pr (Ty.val (cellPtr (a15.eval (.tmp 6)) (itr r i m)))), (Ty.pr (Ty.int ((doneL r i m).getD (itr r i m) 0))), (Ty.pr (Ty.bool (decide (((doneL r i m).getD (itr r i m) 0) = (0 : Int)))))] i_ Pr.any) ok13 rfl ⟨?_, ?_, ?_, ?_, ?_, trivial⟩ ?_
     · intro ax tx hs okx sm
       exact run_plain rfl (y_move (sm 6 rfl))
     · intro ax tx hs okx sm
       exact run_plain rfl (y_move (kp (sm 9 rfl) hs q52))
     · intro ax tx hs okx sm d0 d1
       have e0 : At (Ty.val (a15.eval (.tmp 6))) tx ax (.tmp 24) := d0 rfl
       have e1 : At (Ty.nat (itr r i m)) tx ax (.tmp 25) := d1 rfl
       exact run_plain rfl (own_index1 (i := (((itr r i m) : Nat) : Int)) Try.underlying34 Try.inf3 ((Pr.own 11 3 1 (List.length (doneL r i m)) (List.map Ty.int (doneL r i m))).up hs q50) e0 e1 (by omega) (by omega))
     · intro ax tx hs okx sm d0
       have e2 : At (Ty.val (cellPtr (a15.eval (.tmp 6)) (itr r i m))) tx ax (.tmp 26) := d0 rfl
       exact run_plain rfl (own_load Try.underlying3 rfl ((Pr.own 11 3 1 (List.length (doneL r i m)) (List.map Ty.int (doneL r i m))).up hs q50) e2 (lst_get Ty.int (doneL r i m) 0 (itr r i m) (by omega)))
     · intro ax tx hs okx sm d0
       have e3 : At (Ty.int ((doneL r i m).getD (itr r i m) 0)) tx ax (.tmp 27) := d0 rfl
       exact run_plain rfl (y_eql e3 rfl)
     intro a16 s12 D12
     have ok14 := D12.ok
     have F14 := F13.step0 D12.stp
     have q57 : (Pr.own 11 3 1 (List.length (doneL r i m)) (List.map Ty.int (doneL r i m))).has s12 (a16.eval (.tmp 6)) := D12.ko q50 rfl
     have q58 : (Pr.own 3 3 1 (List.length (orbTo r i m)) (List.map Ty.int (orbTo r i m))).has s12 (a16.eval (.tmp 8)) := D12.ko q51 rfl
     have q59 : At (Ty.nat (itr r i m)) s12 a16 (.tmp 9) := D12.kt q52 rfl
     have q60 : At (Ty.nat i) s12 a16 (.tmp 20) := D12.kt q53 rfl
     have q61 : (Pr.own 2 34 1 (List.length (cyclesTo r i)) (List.map Ty.ints (cyclesTo r i))).has s12 (a16.eval (.tmp 5)) := D12.ko q54 rfl
     have q62 : At (Ty.lst Ty.int r) s12 a16 (.tmp 0) := D12.kt q55 rfl
     have q63 : At (Ty.nat (List.length r)) s12 a16 (.tmp 19) := D12.kt q56 rfl
     have q64 : At (Ty.bool (decide (((doneL r i m).getD (itr r i m) 0) = (0 : Int)))) s12 a16 (.tmp 28) := D12.done 4
     clear D12
     refine tn ?_
     refine cond_p (p := (((doneL r i m).getD (itr r i m) 0) = (0 : Int))) q64 (fun c3 => ?_) (fun c3 => ?_)
     ·
      have hq := hr.at (itr_lt hr (show i < r.length by omega) m)
      refine wp_skip ?_
      refine tn ?_
      refine wp_seq ?_
      refine wp_block ?_
      refine wp_seq ?_
      refine reg2 (a := a16) (σ := s12) rfl 6 (fun i_ => List.getD [(Ty.pr (Ty.val (a16.eval (.tmp 6)))), (Ty.pr (Ty.nat (itr r i m))), (Ty.pr (Ty.val (cellPtr (a16.eval (.tmp 6)) (itr r i m)))), (Ty.pr (Ty.int ((doneL r i m).getD (itr r i m) 0))), (Ty.pr (Ty.int (((doneL r i m).getD (itr r i m) 0) + (1 : Int)))), (Ty.pr (Ty.val (cellPtr (a16.eval (.tmp 6)) (itr r i m))))] i_ Pr.any) ok14 rfl (by decide) rfl ⟨?_, ?_, ?_, ?_, ?_, ?_, trivial⟩ ?_
      · intro ax tx hs okx sm
        exact run_plain rfl (y_move (sm 6 rfl))
      · intro ax tx hs okx sm
        exact run_plain rfl (y_move (kp (sm 9 rfl) hs q59))
      · intro ax tx hs okx sm d0 d1
        have e0 : At (Ty.val (a16.eval (.tmp 6))) tx ax (.tmp 33) := d0 rfl
        have e1 : At (Ty.nat (itr r i m)) tx ax (.tmp 34) := d1 rfl
        exact run_plain rfl (own_index1 (i := (((itr r i m) : Nat) : Int)) Try.underlying34 Try.inf3 ((Pr.own 11 3 1 (List.length (doneL r i m)) (List.map Ty.int (doneL r i m))).up hs q57) e0 e1 (by omega) (by omega))
      · intro ax tx hs okx sm d0
        have e2 : At (Ty.val (cellPtr (a16.eval (.tmp 6)) (itr r i m))) tx ax (.tmp 35) := d0 rfl
        exact run_plain rfl (own_load Try.underlying3 rfl ((Pr.own 11 3 1 (List.length (doneL r i m)) (List.map Ty.int (doneL r i m))).up hs q57) e2 (lst_get Ty.int (doneL r i m) 0 (itr r i m) (by omega)))
      · intro ax tx hs okx sm d0
        have e3 : At (Ty.int ((doneL r i m).getD (itr r i m) 0)) tx ax (.tmp 36) := d0 rfl
        exact run_plain rfl (y_add e3 rfl (w64 (by omega) (by omega)))
      · intro ax tx hs okx sm d0 d1 d2 d3 d4 d5 d6
        have e0 : At (Ty.val (a16.eval (.tmp 6))) tx ax (.tmp 33) := d0 rfl
        have e1 : At (Ty.nat (itr r i m)) tx ax (.tmp 34) := d1 rfl
        have e2 : At (Ty.val (cellPtr (a16.eval (.tmp 6)) (itr r i m))) tx ax (.tmp 35) := d4 rfl
        have e3 : At (Ty.int ((doneL r i m).getD (itr r i m) 0)) tx ax (.tmp 36) := d5 rfl
        have e4 : At (Ty.int (((doneL r i m).getD (itr r i m) 0) + (1 : Int))) tx ax (.tmp 37) := d6 rfl
        exact run_plain rfl (own_index1 (i := (((itr r i m) : Nat) : Int)) Try.underlying34 Try.inf3 ((Pr.own 11 3 1 (List.length (doneL r i m)) (List.map Ty.int (doneL r i m))).up hs q57) e0 e1 (by omega) (by omega))
      intro a17 s13 D13
      have ok15 := D13.ok
      have F15 := F14.step0 D13.stp
      have q65 := (Pr.own 11 3 1 (List.length (doneL r i m)) (List.map Ty.int (doneL r i m))).up D13.stp q57
      have q66 := (Pr.own 3 3 1 (List.length (orbTo r i m)) (List.map Ty.int (orbTo r i m))).up D13.stp q58
      have q67 := (Pr.own 2 34 1 (List.length (cyclesTo r i)) (List.map Ty.ints (cyclesTo r i))).up D13.stp q61
      have q68 : a17.eval (.tmp 6) = a16.eval (.tmp 6) := D13.same 6 rfl
      have q69 : a17.eval (.tmp 8) = a16.eval (.tmp 8) := D13.same 8 rfl
      have q70 : At (Ty.nat (itr r i m)) s13 a17 (.tmp 9) := D13.kt q59 rfl
      have q71 : At (Ty.nat i) s13 a17 (.tmp 20) := D13.kt q60 rfl
      have q72 : a17.eval (.tmp 5) = a16.eval (.tmp 5) := D13.same 5 rfl
      have q73 : At (Ty.lst Ty.int r) s13 a17 (.tmp 0) := D13.kt q62 rfl
      have q74 : At (Ty.nat (List.length r)) s13 a17 (.tmp 19) := D13.kt q63 rfl
      have q75 : At (Ty.int (((doneL r i m).getD (itr r i m) 0) + (1 : Int))) s13 a17 (.tmp 37) := D13.done 4 (by decide)
      have q76 : At (Ty.val (cellPtr (a16.eval (.tmp 6)) (itr r i m))) s13 a17 (.tmp 38) := D13.done 5 (by decide)
      clear D13
      refine tail_step0 (m := 11) (R := (fun _ τ => Own τ 11 3 1 (a16.eval (.tmp 6)) (List.length (doneL r i m)) ((List.map Ty.int (doneL r i m)).set (itr r i m) (Ty.int (((doneL r i m).getD (itr r i m) 0) + (1 : Int)))))) rfl rfl (m_store Try.inf3 (by decide) q65 q76 (by simp only [List.length_map, List.length_set]; omega) q75 (one_val rfl)) (fun v1 s14 hs1 r1 => ?_)
      have F16 := F15.step hs1 (by decide)
      have q77 : At (Ty.nat (itr r i m)) s14 a17 (.tmp 9) := kpm hs1 (by decide) rfl q70
      have q78 : At (Ty.nat i) s14 a17 (.tmp 20) := kpm hs1 (by decide) rfl q71
      have q79 : At (Ty.lst Ty.int r) s14 a17 (.tmp 0) := kpm hs1 (by decide) rfl q73
      have q80 : At (Ty.nat (List.length r)) s14 a17 (.tmp 19) := kpm hs1 (by decide) rfl q74
      have q81 : At (Ty.int (((doneL r i m).getD (itr r i m) 0) + (1 : Int))) s14 a17 (.tmp 37) := kpm hs1 (by decide) rfl q75
      have q82 : (Pr.own 11 3 1 (List.length ((doneL r i m).set (itr r i m) (((doneL r i m).getD (itr r i m) 0) + (1 : Int)))) (List.map Ty.int ((doneL r i m).set (itr r i m) (((doneL r i m).getD (itr r i m) 0) + (1 : Int))))).has s14 (a16.eval (.tmp 6)) := (cvo (by simp) (by simp) r1)
      have q83 := Own.keep q66 hs1 (by decide) (.inr (by decide))
      have q84 := Own.keep q67 hs1 (by decide) (.inr (by decide))
      refine wpList_nil ?_
      have q85 : (Pr.own 11 3 1 (List.length ((doneL r i m).set (itr r i m) (((doneL r i m).getD (itr r i m) 0) + (1 : Int)))) (List.map Ty.int ((doneL r i m).set (itr r i m) (((doneL r i m).getD (itr r i m) 0) + (1 : Int))))).has s14 (a17.eval (.tmp 6)) := al q68 q82
      have q86 : (Pr.own 3 3 1 (List.length (orbTo r i m)) (List.map Ty.int (orbTo r i m))).has s14 (a17.eval (.tmp 8)) := al q69 q83
      have q87 : (Pr.own 2 34 1 (List.length (cyclesTo r i)) (List.map Ty.ints (cyclesTo r i))).has s14 (a17.eval (.tmp 5)) := al q72 q84
      refine tn ?_
      refine reg2 (a := a17) (σ := s14) rfl 3 (fun i_ => List.getD [(Ty.pr (Ty.val (a17.eval (.tmp 8)))), (Ty.pr (Ty.nat (itr r i m))), (Ty.pr (Ty.sl 1 1 [(Ty.nat (itr r i m))]))] i_ Pr.any) ok15 rfl (by decide) rfl ⟨?_, ?_, ?_, trivial⟩ ?_
      · intro ax tx hs okx sm
        exact run_plain rfl (y_move (sm 8 rfl))
      · intro ax tx hs okx sm
        exact run_plain rfl (y_move (kp (sm 9 rfl) hs q77))
      · intro ax tx hs okx sm d0
        have e1 : At (Ty.nat (itr r i m)) tx ax (.tmp 40) := d0 rfl
        exact run_plain rfl (y_build1o Try.underlying34 Try.inf3 rfl (one_val rfl) e1)
      intro a19 s15 D14
      have ok17 := D14.ok
      have F17 := F16.step0 D14.stp
      have q88 := (Pr.own 11 3 1 (List.length ((doneL r i m).set (itr r i m) (((doneL r i m).getD (itr r i m) 0) + (1 : Int)))) (List.map Ty.int ((doneL r i m).set (itr r i m) (((doneL r i m).getD (itr r i m) 0) + (1 : Int))))).up D14.stp q85
      have q89 := (Pr.own 3 3 1 (List.length (orbTo r i m)) (List.map Ty.int (orbTo r i m))).up D14.stp q86
      have q90 := (Pr.own 2 34 1 (List.length (cyclesTo r i)) (List.map Ty.ints (cyclesTo r i))).up D14.stp q87
      have q91 : a19.eval (.tmp 6) = a17.eval (.tmp 6) := D14.same 6 rfl
      have q92 : a19.eval (.tmp 8) = a17.eval (.tmp 8) := D14.same 8 rfl
      have q93 : At (Ty.nat (itr r i m)) s15 a19 (.tmp 9) := D14.kt q77 rfl
      have q94 : At (Ty.nat i) s15 a19 (.tmp 20) := D14.kt q78 rfl
      have q95 : a19.eval (.tmp 5) = a17.eval (.tmp 5) := D14.same 5 rfl
      have q96 : At (Ty.lst Ty.int r) s15 a19 (.tmp 0) := D14.kt q79 rfl
      have q97 : At (Ty.nat (List.length r)) s15 a19 (.tmp 19) := D14.kt q80 rfl
      have q98 : At (Ty.val (a17.eval (.tmp 8))) s15 a19 (.tmp 39) := D14.done 0 (by decide)
      have q99 : At (Ty.sl 1 1 [(Ty.nat (itr r i m))]) s15 a19 (.tmp 41) := D14.done 2 (by decide)
      clear D14
      refine tail_step (m := 3) (R := (fun v τ => Own τ 3 3 1 v ((List.length (orbTo r i m)) + 1) ((List.map Ty.int (orbTo r i m)) ++ [(Ty.nat (itr r i m))]))) rfl rfl (by decide) ok17 (m_append Try.underlying34 Try.inf3 (by decide) rfl (by decide) (al q98 q89) q99 (by intro U hU; simp at hU;  subst hU; exact one_val rfl) (by omega) (by omega)) (fun a20 s16 hs2 ok18 r2 sm2 => ?_)
      have F18 := F17.step hs2 (by decide)
      have q100 := Own.keep q88 hs2 (by decide) (.inr (by decide))
      have q101 := Own.keep q90 hs2 (by decide) (.inr (by decide))
      have q102 := (sm2 6 (by decide)).trans q91
      have q103 : At (Ty.nat (itr r i m)) s16 a20 (.tmp 9) := kpm hs2 (by decide) (sm2 9 (by decide)) q93
      have q104 : At (Ty.nat i) s16 a20 (.tmp 20) := kpm hs2 (by decide) (sm2 20 (by decide)) q94
      have q105 := (sm2 5 (by decide)).trans q95
      have q106 : At (Ty.lst Ty.int r) s16 a20 (.tmp 0) := kpm hs2 (by decide) (sm2 0 (by decide)) q96
      have q107 : At (Ty.nat (List.length r)) s16 a20 (.tmp 19) := kpm hs2 (by decide) (sm2 19 (by decide)) q97
      have q108 : At (Ty.sl 1 1 [(Ty.nat (itr r i m))]) s16 a20 (.tmp 41) := kpm hs2 (by decide) (sm2 41 (by decide)) q99
      have q109 : (Pr.own 3 3 1 (List.length ((orbTo r i m) ++ [(((itr r i m) : Nat) : Int)])) (List.map Ty.int ((orbTo r i m) ++ [(((itr r i m) : Nat) : Int)]))).has s16 (a20.eval (.tmp 42)) := (cvo (by simp) (by first | (rw [List.map_append]; rfl) | simp) r2)
      refine tail_step (m := 0) (R := (fun v τ => Pr.has (Pr.own 3 3 1 (List.length ((orbTo r i m) ++ [(((itr r i m) : Nat) : Int)])) (List.map Ty.int ((orbTo r i m) ++ [(((itr r i m) : Nat) : Int)]))) τ v)) rfl rfl (by decide) ok18 (Yld.toM (y_assign q109)) (fun a21 s17 hs3 ok19 r3 sm3 => ?_)
      have F19 := F18.step hs3 (by decide)
      have q110 := Own.keep q100 hs3 (by decide) (.inl rfl)
      have q111 := Own.keep q101 hs3 (by decide) (.inl rfl)
      have q112 := (sm3 6 (by decide)).trans q102
      have q113 : At (Ty.nat (itr r i m)) s17 a21 (.tmp 9) := kpm hs3 (by decide) (sm3 9 (by decide)) q103
      have q114 : At (Ty.nat i) s17 a21 (.tmp 20) := kpm hs3 (by decide) (sm3 20 (by decide)) q104
      have q115 := (sm3 5 (by decide)).trans q105
      have q116 : At (Ty.lst Ty.int r) s17 a21 (.tmp 0) := kpm hs3 (by decide) (sm3 0 (by decide)) q106
      have q117 : At (Ty.nat (List.length r)) s17 a21 (.tmp 19) := kpm hs3 (by decide) (sm3 19 (by decide)) q107
      have q118 : At (Ty.sl 1 1 [(Ty.nat (itr r i m))]) s17 a21 (.tmp 41) := kpm hs3 (by decide) (sm3 41 (by decide)) q108
      have q119 : (Pr.own 3 3 1 (List.length ((orbTo r i m) ++ [(((itr r i m) : Nat) : Int)])) (List.map Ty.int ((orbTo r i m) ++ [(((itr r i m) : Nat) : Int)]))).has s17 (a21.eval (.tmp 42)) := kpmo hs3 (by decide) (.inl rfl) (sm3 42 (by decide)) q109
      have q120 : (Pr.own 3 3 1 (List.length ((orbTo r i m) ++ [(((itr r i m) : Nat) : Int)])) (List.map Ty.int ((orbTo r i m) ++ [(((itr r i m) : Nat) : Int)]))).has s17 (a21.eval (.tmp 8)) := r3
      refine wpList_nil ?_
      have q121 : (Pr.own 11 3 1 (List.length ((doneL r i m).set (itr r i m) (((doneL r i m).getD (itr r i m) 0) + (1 : Int)))) (List.map Ty.int ((doneL r i m).set (itr r i m) (((doneL r i m).getD (itr r i m) 0) + (1 : Int))))).has s17 (a21.eval (.tmp 6)) := al q112 q110
      have q122 : (Pr.own 2 34 1 (List.length (cyclesTo r i)) (List.map Ty.ints (cyclesTo r i))).has s17 (a21.eval (.tmp 5)) := al q115 q111
      refine bn ?_
      refine tn ?_
      refine reg (a := a21) (σ := s17) rfl (fun i_ => List.getD [(Ty.pr (Ty.lst Ty.int r)), (Ty.pr (Ty.nat (itr r i m))), (Ty.pr (Ty.ref [(Ty.int (r.getD (itr r i m) 0))])), (Ty.pr (Ty.int (r.getD (itr r i m) 0))), (Ty.pr (Ty.int (r.getD (itr r i m) 0)))] i_ Pr.any) ok19 rfl ⟨?_, ?_, ?_, ?_, ?_, trivial⟩ ?_
      · intro ax tx hs okx sm
        exact run_plain rfl (y_move (kp (sm 0 rfl) hs q116))
      · intro ax tx hs okx sm
        exact run_plain rfl (y_move (kp (sm 9 rfl) hs q113))
      · intro ax tx hs okx sm d0 d1
        have e0 : At (Ty.lst Ty.int r) tx ax (.tmp 29) := d0 rfl
        have e1 : At (Ty.nat (itr r i m)) tx ax (.tmp 30) := d1 rfl
        exact run_plain rfl (y_index1 Try.underlying34 Try.inf3 e0 e1 (by omega) (lst_get Ty.int r 0 (itr r i m) (by omega)))
      · intro ax tx hs okx sm d0
        have e2 : At (Ty.ref [(Ty.int (r.getD (itr r i m) 0))]) tx ax (.tmp 31) := d0 rfl
        exact run_plain rfl (y_load Try.underlying3 rfl e2 rfl)
      · intro ax tx hs okx sm d0 d1 d2 d3 d4
        have e3 : At (Ty.int (r.getD (itr r i m) 0)) tx ax (.tmp 32) := d0 rfl
        have e0 : At (Ty.lst Ty.int r) tx ax (.tmp 29) := d1 rfl
        have e1 : At (Ty.nat (itr r i m)) tx ax (.tmp 30) := d2 rfl
        have e2 : At (Ty.ref [(Ty.int (r.getD (itr r i m) 0))]) tx ax (.tmp 31) := d3 rfl
        exact run_plain rfl (y_assign e3)
      intro a22 s18 D15
      have ok20 := D15.ok
      have F20 := F19.step0 D15.stp
      have q123 : (Pr.own 11 3 1 (List.length ((doneL r i m).set (itr r i m) (((doneL r i m).getD (itr r i m) 0) + (1 : Int)))) (List.map Ty.int ((doneL r i m).set (itr r i m) (((doneL r i m).getD (itr r i m) 0) + (1 : Int))))).has s18 (a22.eval (.tmp 6)) := D15.ko q121 rfl
      have q124 : At (Ty.nat i) s18 a22 (.tmp 20) := D15.kt q114 rfl
      have q125 : (Pr.own 2 34 1 (List.length (cyclesTo r i)) (List.map Ty.ints (cyclesTo r i))).has s18 (a22.eval (.tmp 5)) := D15.ko q122 rfl
      have q126 : At (Ty.lst Ty.int r) s18 a22 (.tmp 0) := D15.kt q116 rfl
      have q127 : At (Ty.nat (List.length r)) s18 a22 (.tmp 19) := D15.kt q117 rfl
      have q128 : (Pr.own 3 3 1 (List.length ((orbTo r i m) ++ [(((itr r i m) : Nat) : Int)])) (List.map Ty.int ((orbTo r i m) ++ [(((itr r i m) : Nat) : Int)]))).has s18 (a22.eval (.tmp 8)) := D15.ko q120 rfl
      have q129 : At (Ty.int (r.getD (itr r i m) 0)) s18 a22 (.tmp 9) := D15.done 4
      clear D15
      have hlst := cyc_least hr (show i < r.length by omega) hml c3
      have hlt := (done_mid hr (show i < r.length by omega) hlst hm).1 c3
      exact tn ⟨per r i + 1 - ((m+1)), by omega, s18, (m+1), rfl, F20, ok20, (cvo (by (first | (rw [c3]; exact congrArg _ (doneL_step hr (by omega) c3)) | (rw [c3]; exact congrArg _ (congrArg _ (doneL_step hr (by omega) c3))))) (by (first | (rw [c3]; exact congrArg _ (doneL_step hr (by omega) c3)) | (rw [c3]; exact congrArg _ (congrArg _ (doneL_step hr (by omega) c3))))) q123), (cvo (by (rw [orbTo_succ])) (by (rw [orbTo_succ])) q128), (cvi (by (exact (nxt_int hr (by omega)).symm)) q129), q124, q125, q126, q127, by omega, .inr hlst, rfl⟩
     ·
      refine wp_exit ?_
      refine tx ?_
      refine tx ?_
      refine bx ?_
      refine tn ?_
      refine wp_seq ?_
      refine reg (a := a16) (σ := s12) rfl (fun i_ => List.getD [(Ty.pr (Ty.val (a16.eval (.tmp 8)))), (Ty.pr (Ty.nat (List.length (orbTo r i m)))), (Ty.pr (Ty.bool (decide ((0 : Int) < (((List.length (orbTo r i m)) : Nat) : Int)))))] i_ Pr.any) ok14 rfl ⟨?_, ?_, ?_, trivial⟩ ?_
      · intro ax tx hs okx sm
        exact run_plain rfl (y_move (sm 8 rfl))
      · intro ax tx hs okx sm d0
        have e0 : At (Ty.val (a16.eval (.tmp 8))) tx ax (.tmp 43) := d0 rfl
        exact run_plain rfl (own_len Try.underlying34 (al e0 ((Pr.own 3 3 1 (List.length (orbTo r i m)) (List.map Ty.int (orbTo r i m))).up hs q58)))
      · intro ax tx hs okx sm d0
        have e1 : At (Ty.nat (List.length (orbTo r i m))) tx ax (.tmp 44) := d0 rfl
        exact run_plain rfl (y_gtr e1 rfl)
      intro a23 s19 D16
      have ok21 := D16.ok
      have F21 := F14.step0 D16.stp
      have q130 : (Pr.own 11 3 1 (List.length (doneL r i m)) (List.map Ty.int (doneL r i m))).has s19 (a23.eval (.tmp 6)) := D16.ko q57 rfl
      have q131 : (Pr.own 3 3 1 (List.length (orbTo r i m)) (List.map Ty.int (orbTo r i m))).has s19 (a23.eval (.tmp 8)) := D16.ko q58 rfl
      have q132 : At (Ty.nat i) s19 a23 (.tmp 20) := D16.kt q60 rfl
      have q133 : (Pr.own 2 34 1 (List.length (cyclesTo r i)) (List.map Ty.ints (cyclesTo r i))).has s19 (a23.eval (.tmp 5)) := D16.ko q61 rfl
      have q134 : At (Ty.lst Ty.int r) s19 a23 (.tmp 0) := D16.kt q62 rfl
      have q135 : At (Ty.nat (List.length r)) s19 a23 (.tmp 19) := D16.kt q63 rfl
      have q136 : At (Ty.bool (decide ((0 : Int) < (((List.length (orbTo r i m)) : Nat) : Int)))) s19 a23 (.tmp 45) := D16.done 2
      clear D16
      refine tn ?_
      refine cond_p (p := ((0 : Int) < (((List.length (orbTo r i m)) : Nat) : Int))) q136 (fun c4 => ?_) (fun c4 => ?_)
      ·
       have hml2 := cyc_some hr (by omega) hm hml c3 (by simpa [orbTo_len] using c4)
       obtain ⟨t5, e1, h1, q137⟩ := Own.seal q131 (by decide)
       rw [← e1]
       have F22 := F21.step h1 (by decide)
       have q138 := Own.keep q130 h1 (by decide) (.inr (by decide))
       have q139 := Ty.up (Ty.nat i) (h1.le (by decide)) q132
       have q140 := Own.keep q133 h1 (by decide) (.inr (by decide))
       have q141 := Ty.up (Ty.lst Ty.int r) (h1.le (by decide)) q134
       have q142 := Ty.up (Ty.nat (List.length r)) (h1.le (by decide)) q135
       have q143 := Ty.up (Ty.bool (decide ((0 : Int) < (((List.length (orbTo r i m)) : Nat) : Int)))) (h1.le (by decide)) q136
       refine reg2 (a := a23) (σ := t5) rfl 3 (fun i_ => List.getD [(Ty.pr (Ty.val (a23.eval (.tmp 5)))), (Ty.pr (Ty.lst Ty.int (orbTo r i m))), (Ty.pr (Ty.sl 1 1 [(Ty.lst Ty.int (orbTo r i m))]))] i_ Pr.any) ok21 rfl (by decide) rfl ⟨?_, ?_, ?_, trivial⟩ ?_
       · intro ax tx hs okx sm
         exact run_plain rfl (y_move (sm 5 rfl))
       · intro ax tx hs okx sm
         exact run_plain rfl (y_move (kp (sm 8 rfl) hs q137))
       · intro ax tx hs okx sm d0
         have e1 : At (Ty.lst Ty.int (orbTo r i m)) tx ax (.tmp 47) := d0 rfl
         exact run_plain rfl (y_build1o Try.underlying33 Try.inf34 rfl (one_sl) e1)
       intro a24 s20 D17
       have ok22 := D17.ok
       have F23 := F22.step0 D17.stp
       have q144 := (Pr.own 11 3 1 (List.length (doneL r i m)) (List.map Ty.int (doneL r i m))).up D17.stp q138
       have q145 := (Pr.own 2 34 1 (List.length (cyclesTo r i)) (List.map Ty.ints (cyclesTo r i))).up D17.stp q140
       have q146 : a24.eval (.tmp 6) = a23.eval (.tmp 6) := D17.same 6 rfl
       have q147 : At (Ty.nat i) s20 a24 (.tmp 20) := D17.kt q139 rfl
       have q148 : a24.eval (.tmp 5) = a23.eval (.tmp 5) := D17.same 5 rfl
       have q149 : At (Ty.lst Ty.int r) s20 a24 (.tmp 0) := D17.kt q141 rfl
       have q150 : At (Ty.nat (List.length r)) s20 a24 (.tmp 19) := D17.kt q142 rfl
       have q151 : At (Ty.val (a23.eval (.tmp 5))) s20 a24 (.tmp 46) := D17.done 0 (by decide)
       have q152 : At (Ty.sl 1 1 [(Ty.lst Ty.int (orbTo r i m))]) s20 a24 (.tmp 48) := D17.done 2 (by decide)
       clear D17
       refine tail_step (m := 2) (R := (fun v τ => Own τ 2 34 1 v ((List.length (cyclesTo r i)) + 1) ((List.map Ty.ints (cyclesTo r i)) ++ [(Ty.lst Ty.int (orbTo r i m))]))) rfl rfl (by decide) ok22 (m_append Try.underlying33 Try.inf34 (by decide) rfl (by decide) (al q151 q145) q152 (by intro U hU; simp at hU;  subst hU; exact one_sl) (by omega) (by omega)) (fun a25 s21 hs4 ok23 r4 sm4 => ?_)
       have F24 := F23.step hs4 (by decide)
       have q153 := Own.keep q144 hs4 (by decide) (.inr (by decide))
       have q154 := (sm4 6 (by decide)).trans q146
       have q155 : At (Ty.nat i) s21 a25 (.tmp 20) := kpm hs4 (by decide) (sm4 20 (by decide)) q147
       have q156 : At (Ty.lst Ty.int r) s21 a25 (.tmp 0) := kpm hs4 (by decide) (sm4 0 (by decide)) q149
       have q157 : At (Ty.nat (List.length r)) s21 a25 (.tmp 19) := kpm hs4 (by decide) (sm4 19 (by decide)) q150
       have q158 : At (Ty.sl 1 1 [(Ty.lst Ty.int (orbTo r i m))]) s21 a25 (.tmp 48) := kpm hs4 (by decide) (sm4 48 (by decide)) q152
       have q159 : (Pr.own 2 34 1 (List.length ((cyclesTo r i) ++ [(orbTo r i m)])) (List.map Ty.ints ((cyclesTo r i) ++ [(orbTo r i m)]))).has s21 (a25.eval (.tmp 49)) := (cvo (by simp) (by first | (rw [List.map_append]; rfl) | simp) r4)
       refine tail_step (m := 0) (R := (fun v τ => Pr.has (Pr.own 2 34 1 (List.length ((cyclesTo r i) ++ [(orbTo r i m)])) (List.map Ty.ints ((cyclesTo r i) ++ [(orbTo r i m)]))) τ v)) rfl rfl (by decide) ok23 (Yld.toM (y_assign q159)) (fun a26 s22 hs5 ok24 r5 sm5 => ?_)
       have F25 := F24.step hs5 (by decide)
       have q160 := Own.keep q153 hs5 (by decide) (.inl rfl)
       have q161 := (sm5 6 (by decide)).trans q154
       have q162 : At (Ty.nat i) s22 a26 (.tmp 20) := kpm hs5 (by decide) (sm5 20 (by decide)) q155
       have q163 : At (Ty.lst Ty.int r) s22 a26 (.tmp 0) := kpm hs5 (by decide) (sm5 0 (by decide)) q156
       have q164 : At (Ty.nat (List.length r)) s22 a26 (.tmp 19) := kpm hs5 (by decide) (sm5 19 (by decide)) q157
       have q165 : At (Ty.sl 1 1 [(Ty.lst Ty.int (orbTo r i m))]) s22 a26 (.tmp 48) := kpm hs5 (by decide) (sm5 48 (by decide)) q158
       have q166 : (Pr.own 2 34 1 (List.length ((cyclesTo r i) ++ [(orbTo r i m)])) (List.map Ty.ints ((cyclesTo r i) ++ [(orbTo r i m)]))).has s22 (a26.eval (.tmp 49)) := kpmo hs5 (by decide) (.inl rfl) (sm5 49 (by decide)) q159
       have q167 : (Pr.own 2 34 1 (List.length ((cyclesTo r i) ++ [(orbTo r i m)])) (List.map Ty.ints ((cyclesTo r i) ++ [(orbTo r i m)]))).has s22 (a26.eval (.tmp 5)) := r5
       refine wpList_nil ?_
       have q168 : (Pr.own 11 3 1 (List.length (doneL r i m)) (List.map Ty.int (doneL r i m))).has s22 (a26.eval (.tmp 6)) := al q161 q160
       refine bn ?_
       refine tn ?_
       refine reg (a := a26) (σ := s22) rfl (fun i_ => List.getD [(Ty.pr (Ty.int (((i : Nat) : Int) + (1 : Int)))), (Ty.pr (Ty.int (((i : Nat) : Int) + (1 : Int))))] i_ Pr.any) ok24 rfl ⟨?_, ?_, trivial⟩ ?_
       · intro ax tx hs okx sm
         exact run_plain rfl (y_add (kp (sm 20 rfl) hs q162) rfl (w64 (by omega) (by omega)))
       · intro ax tx hs okx sm d0
         have e0 : At (Ty.int (((i : Nat) : Int) + (1 : Int))) tx ax (.tmp 50) := d0 rfl
         exact run_plain rfl (y_move e0)
       intro a27 s23 D18
       have ok25 := D18.ok
       have F26 := F25.step0 D18.stp
       have q169 : (Pr.own 11 3 1 (List.length (doneL r i m)) (List.map Ty.int (doneL r i m))).has s23 (a27.eval (.tmp 6)) := D18.ko q168 rfl
       have q170 : At (Ty.lst Ty.int r) s23 a27 (.tmp 0) := D18.kt q163 rfl
       have q171 : At (Ty.nat (List.length r)) s23 a27 (.tmp 19) := D18.kt q164 rfl
       have q172 : (Pr.own 2 34 1 (List.length ((cyclesTo r i) ++ [(orbTo r i m)])) (List.map Ty.ints ((cyclesTo r i) ++ [(orbTo r i m)]))).has s23 (a27.eval (.tmp 5)) := D18.ko q167 rfl
       have q173 : At (Ty.int (((i : Nat) : Int) + (1 : Int))) s23 a27 (.tmp 20) := D18.done 1
       clear D18
       exact tn ⟨r.length - ((i+1)), by omega, s23, (i+1), rfl, F26, ok25, (cvi (by (first | rfl | omega | (simp_all; done) | (simp_all; omega))) q173), (cvo (by (rw [hml2.2, cyclesTo_yes r i hml2.1]; rfl)) (by (rw [hml2.2, cyclesTo_yes r i hml2.1]; rfl)) q172), (cvo (by (rw [hml2.2, done_next hr (by omega)])) (by (rw [hml2.2, done_next hr (by omega)])) q169), q170, q171, by omega, rfl⟩
      ·
       have hml2 := cyc_none hr (by omega) hm c3 (by simpa [orbTo_len] using c4)
       refine wp_skip ?_
       refine bn ?_
       refine tn ?_
       refine reg (a := a23) (σ := s19) rfl (fun i_ => List.getD [(Ty.pr (Ty.int (((i : Nat) : Int) + (1 : Int)))), (Ty.pr (Ty.int (((i : Nat) : Int) + (1 : Int))))] i_ Pr.any) ok21 rfl ⟨?_, ?_, trivial⟩ ?_
       · intro ax tx hs okx sm
         exact run_plain rfl (y_add (kp (sm 20 rfl) hs q132) rfl (w64 (by omega) (by omega)))
       · intro ax tx hs okx sm d0
         have e0 : At (Ty.int (((i : Nat) : Int) + (1 : Int))) tx ax (.tmp 50) := d0 rfl
         exact run_plain rfl (y_move e0)
       intro a28 s24 D19
       have ok26 := D19.ok
       have F27 := F21.step0 D19.stp
       have q174 : (Pr.own 11 3 1 (List.length (doneL r i m)) (List.map Ty.int (doneL r i m))).has s24 (a28.eval (.tmp 6)) := D19.ko q130 rfl
       have q175 : (Pr.own 2 34 1 (List.length (cyclesTo r i)) (List.map Ty.ints (cyclesTo r i))).has s24 (a28.eval (.tmp 5)) := D19.ko q133 rfl
       have q176 : At (Ty.lst Ty.int r) s24 a28 (.tmp 0) := D19.kt q134 rfl
       have q177 : At (Ty.nat (List.length r)) s24 a28 (.tmp 19) := D19.kt q135 rfl
       have q178 : At (Ty.int (((i : Nat) : Int) + (1 : Int))) s24 a28 (.tmp 20) := D19.done 1
       clear D19
       exact tn ⟨r.length - ((i+1)), by omega, s24, (i+1), rfl, F27, ok26, (cvi (by (first | rfl | omega | (simp_all; done) | (simp_all; omega))) q178), (cvo (by (rw [cyclesTo_no r i hml2.1])) (by (rw [cyclesTo_no r i hml2.1])) q175), (cvo (by (rw [hml2.2, done_skip hr (by omega) hml2.1])) (by (rw [hml2.2, done_skip hr (by omega) hml2.1])) q174), q176, q177, by omega, rfl⟩
   ·
    refine wp_exit ?_
    refine tx ?_
    refine tx ?_
    refine bx ?_
    refine tn ?_
    refine wp_seq ?_
    refine reg (a := a10) (σ := s8) rfl (fun i_ => List.getD [(Ty.pr (Ty.val (a10.eval (.tmp 5)))), (Ty.pr (Ty.val (a10.eval (.tmp 5)))), (Ty.pr (Ty.int (0 : Int)))] i_ Pr.any) ok9 rfl ⟨?_, ?_, ?_, trivial⟩ ?_
    · intro ax tx hs okx sm
      exact run_plain rfl (y_move (sm 5 rfl))
    · intro ax tx hs okx sm d0 d1
      have e0 : At (Ty.val (a10.eval (.tmp 5))) tx ax (.tmp 51) := d0 rfl
      exact run_plain rfl (y_assign e0)
    · intro ax tx hs okx sm d0 d1 d2
      have e1 : At (Ty.val (a10.eval (.tmp 5))) tx ax (.tmp 2) := d0 rfl
      have e0 : At (Ty.val (a10.eval (.tmp 5))) tx ax (.tmp 51) := d1 rfl
      exact run_plain rfl (y_assign rfl)
    intro a29 s25 D20
    have ok27 := D20.ok
    have F28 := F9.step0 D20.stp
    have q179 : (Pr.own 2 34 1 (List.length (cyclesTo r i)) (List.map Ty.ints (cyclesTo r i))).has s25 (a29.eval (.tmp 2)) := al (show _ = _ from D20.done 1) ((Pr.own 2 34 1 (List.length (cyclesTo r i)) (List.map Ty.ints (cyclesTo r i))).up D20.stp q25)
    have q180 : At (Ty.int (0 : Int)) s25 a29 (.tmp 3) := D20.done 2
    clear D20
    refine tn ?_
    refine wp_ret ?_
    obtain ⟨t6, e2, h2, q181⟩ := Own.seal q179 (by decide)
    rw [← e2]
    have F29 := F28.step h2 (by decide)
    have q182 := Ty.up (Ty.int (0 : Int)) (h2.le (by decide)) q180
    exact ret2 rfl ok27 F29 (cvt (by (obtain rfl : i = r.length := (by omega); rw [if_pos (Classical.not_not.1 c1)]; rfl)) q181) (cvi (by (exact (Classical.not_not.1 c1).symm)) q182)


set_option maxRecDepth 100000 in
theorem common_fn (a : Nat) (b : Nat) (σ : GW) (v0 v1 : Value) (hv0 : Ty.has (Ty.nat a) σ v0) (hv1 : Ty.has (Ty.nat b) σ v1) (ha : a ≤ 1000000000) (hb : b ≤ 1000000000) :
    FnC Try.prog 93 #[v0, v1] σ (Ty.nat (Nat.gcd a b)) := by
 refine fn_intro Try.func93 rfl Try.ntmps93 (Nat.le_of_ble_eq_true rfl) (fun s0 a0 hle F0 ok0 hargs => ?_)
 have p0 : At (Ty.nat a) s0 a0 (.tmp 0) := by have e := hargs 0 _ rfl; show Ty.has _ _ _; rw [e]; exact Ty.up _ hle hv0
 have p1 : At (Ty.nat b) s0 a0 (.tmp 1) := by have e := hargs 1 _ rfl; show Ty.has _ _ _; rw [e]; exact Ty.up _ hle hv1
 clear hargs
 refine wp_seq ?_
 refine reg (a := a0) (σ := s0) rfl (fun i_ => List.getD [(Ty.pr (Ty.int (0 : Int)))] i_ Pr.any) ok0 rfl ⟨?_, trivial⟩ ?_
 · intro ax tx hs okx sm
   exact run_plain rfl (y_assign rfl)
 intro a1 s1 D1
 have ok1 := D1.ok
 have F1 := F0.step0 D1.stp
 have q1 : At (Ty.nat a) s1 a1 (.tmp 0) := D1.kt p0 rfl
 have q2 : At (Ty.nat b) s1 a1 (.tmp 1) := D1.kt p1 rfl
 clear D1
 refine tn ?_
 refine wp_seq ?_
 refine wp_block ?_
 refine loop (fun n1 a2 w1 => ∃ (t1 : GW) (x : Nat) (y : Nat), t1.w = w1 ∧ From s0 t1 ∧ Ok 12 a2 ∧ At (Ty.nat x) t1 a2 (.tmp 0) ∧ At (Ty.nat y) t1 a2 (.tmp 1) ∧ (x ≤ 1000000000) ∧ (y ≤ 1000000000) ∧ (Nat.gcd x y = Nat.gcd a b) ∧ n1 = y + 1) ((b) + 1) ?_ ?_
 ·
  exact ⟨s1, a, b, rfl, F1, ok1, (cvi (by (first | rfl | omega | (simp_all; done) | (simp_all; omega))) q1), (cvi (by (first | rfl | omega | (simp_all; done) | (simp_all; omega))) q2), by omega, by omega, rfl, rfl⟩
 ·
  rintro n2 a3 w2 ⟨t2, x, y, rfl, F2, ok2, q3, q4, hx, hy, hg, rfl⟩
  refine wp_seq ?_
  refine wp_seq ?_
  refine reg (a := a3) (σ := t2) rfl (fun i_ => List.getD [(Ty.pr (Ty.nat y)), (Ty.pr (Ty.bool (decide ((0 : Int) < ((y : Nat) : Int)))))] i_ Pr.any) ok2 rfl ⟨?_, ?_, trivial⟩ ?_
  · intro ax tx hs okx sm
    exact run_plain rfl (y_move (kp (sm 1 rfl) hs q4))
  · intro ax tx hs okx sm d0
    have e0 : At (Ty.nat y) tx ax (.tmp 5) := d0 rfl
    exact run_plain rfl (y_gtr e0 rfl)
  intro a4 s2 D2
  have ok3 := D2.ok
  have F3 := F2.step0 D2.stp
  have q5 : At (Ty.nat x) s2 a4 (.tmp 0) := D2.kt q3 rfl
  have q6 : At (Ty.nat y) s2 a4 (.tmp 1) := D2.kt q4 rfl
  have q7 : At (Ty.bool (decide ((0 : Int) < ((y : Nat) : Int)))) s2 a4 (.tmp 6) := D2.done 1
  clear D2
  refine tn ?_
  refine cond_p (p := ((0 : Int) < ((y : Nat) : Int))) q7 (fun c1 => ?_) (fun c1 => ?_)
  ·
   refine wp_skip ?_
   refine tn ?_
   refine wp_block ?_
   refine reg (a := a4) (σ := s2) rfl (fun i_ => List.getD [(Ty.pr (Ty.nat y)), (Ty.pr (Ty.nat x)), (Ty.pr (Ty.nat y)), (Ty.pr (Ty.nat (x % y))), (Ty.pr (Ty.nat y)), (Ty.pr (Ty.nat (x % y)))] i_ Pr.any) ok3 rfl ⟨?_, ?_, ?_, ?_, ?_, ?_, trivial⟩ ?_
   · intro ax tx hs okx sm
     exact run_plain rfl (y_move (kp (sm 1 rfl) hs q6))
   · intro ax tx hs okx sm
     exact run_plain rfl (y_move (kp (sm 0 rfl) hs q5))
   · intro ax tx hs okx sm
     exact run_plain rfl (y_move (kp (sm 1 rfl) hs q6))
   · intro ax tx hs okx sm d0 d1
     have e1 : At (Ty.nat x) tx ax (.tmp 8) := d0 rfl
     have e2 : At (Ty.nat y) tx ax (.tmp 9) := d1 rfl
     exact run_plain rfl (y_remN e1 e2 (by omega))
   · intro ax tx hs okx sm d0 d1 d2 d3 d4
     have e0 : At (Ty.nat y) tx ax (.tmp 7) := d0 rfl
     have e1 : At (Ty.nat x) tx ax (.tmp 8) := d2 rfl
     exact run_plain rfl (y_assign e0)
   · intro ax tx hs okx sm d0 d1 d2 d3 d4 d5 d6
     have e3 : At (Ty.nat (x % y)) tx ax (.tmp 10) := d0 rfl
     have e4 : At (Ty.nat y) tx ax (.tmp 0) := d1 rfl
     have e0 : At (Ty.nat y) tx ax (.tmp 7) := d2 rfl
     have e1 : At (Ty.nat x) tx ax (.tmp 8) := d3 rfl
     have e2 : At (Ty.nat y) tx ax (.tmp 9) := d4 rfl
     exact run_plain rfl (y_assign e3)
   intro a5 s3 D3
   have ok4 := D3.ok
   have F4 := F3.step0 D3.stp
   have q8 : At (Ty.nat y) s3 a5 (.tmp 0) := D3.done 4
   have q9 : At (Ty.nat (x % y)) s3 a5 (.tmp 1) := D3.done 5
   clear D3
   refine bn ?_
   exact tn ⟨((x % y)) + 1, by have := Nat.mod_lt x (show 0 < y by omega); omega, s3, y, (x % y), rfl, F4, ok4, (cvi (by (first | rfl | omega | (simp_all; done) | (simp_all; omega))) q8), (cvi (by (omega)) q9), by omega, by have := Nat.mod_lt x (show 0 < y by omega); omega, by rw [← hg, Nat.gcd_comm x y, Nat.gcd_rec y x, Nat.gcd_comm], rfl⟩
  ·
   refine wp_exit ?_
   refine tx ?_
   refine tx ?_
   refine bx ?_
   refine tn ?_
   refine wp_seq ?_
   refine reg (a := a4) (σ := s2) rfl (fun i_ => List.getD [(Ty.pr (Ty.nat x)), (Ty.pr (Ty.nat x))] i_ Pr.any) ok3 rfl ⟨?_, ?_, trivial⟩ ?_
   · intro ax tx hs okx sm
     exact run_plain rfl (y_move (kp (sm 0 rfl) hs q5))
   · intro ax tx hs okx sm d0 d1
     have e0 : At (Ty.nat x) tx ax (.tmp 11) := d0 rfl
     exact run_plain rfl (y_assign e0)
   intro a6 s4 D4
   have ok5 := D4.ok
   have F5 := F3.step0 D4.stp
   have q10 : At (Ty.nat x) s4 a6 (.tmp 4) := D4.done 1
   clear D4
   refine tn ?_
   refine wp_ret ?_
   exact ret1 rfl ok5 F5 (cvi (by (obtain rfl : y = 0 := (by omega); rw [← hg, Nat.gcd_zero_right])) q10)


set_option maxRecDepth 100000 in
theorem order_fn (r : List Int) (σ : GW) (v0 : Value) (hv0 : Ty.has (Ty.lst Ty.int r) σ v0)  :
    FnC Try.prog 40 #[v0] σ (Ty.tup3 (Ty.nat (if rowMay r = 0 then ordL r else 0)) (Ty.bool (if rowMay r = 0 then oddL r else false)) (Ty.int (rowMay r))) := by
 refine fn_intro Try.func40 rfl Try.ntmps40 (Nat.le_of_ble_eq_true rfl) (fun s0 a0 hle F0 ok0 hargs => ?_)
 have p0 : At (Ty.lst Ty.int r) s0 a0 (.tmp 0) := by have e := hargs 0 _ rfl; show Ty.has _ _ _; rw [e]; exact Ty.up _ hle hv0
 have b1 := sl_le p0
 clear hargs
 refine wp_seq ?_
 refine reg (a := a0) (σ := s0) rfl (fun i_ => List.getD [(Ty.pr (Ty.int (0 : Int))), (Ty.pr (Ty.bool false)), (Ty.pr (Ty.int (0 : Int)))] i_ Pr.any) ok0 rfl ⟨?_, ?_, ?_, trivial⟩ ?_
 · intro ax tx hs okx sm
   exact run_plain rfl (y_assign rfl)
 · intro ax tx hs okx sm d0
   have e0 : At (Ty.int (0 : Int)) tx ax (.tmp 2) := d0 rfl
   exact run_plain rfl (y_assign rfl)
 · intro ax tx hs okx sm d0
   have e1 : At (Ty.bool false) tx ax (.tmp 3) := d0 rfl
   exact run_plain rfl (y_assign rfl)
 intro a1 s1 D1
 have ok1 := D1.ok
 have F1 := F0.step0 D1.stp
 have q1 : At (Ty.lst Ty.int r) s1 a1 (.tmp 0) := D1.kt p0 rfl
 have q2 : At (Ty.bool false) s1 a1 (.tmp 3) := D1.done 1
 clear D1
 refine tn ?_
 refine wp_seq ?_
 refine reg (a := a1) (σ := s1) rfl (fun i_ => List.getD [(Ty.pr (Ty.lst Ty.int r)), (Ty.pr (Ty.tup2 (Ty.lst Ty.ints (if rowMay r = 0 then cyclesL r else [])) (Ty.int (rowMay r)))), (Ty.pr (Ty.tup2 (Ty.lst Ty.ints (if rowMay r = 0 then cyclesL r else [])) (Ty.int (rowMay r)))), (Ty.pr (Ty.lst Ty.ints (if rowMay r = 0 then cyclesL r else []))), (Ty.pr (Ty.int (rowMay r))), (Ty.pr (Ty.lst Ty.ints (if rowMay r = 0 then cyclesL r else []))), (Ty.pr (Ty.int (rowMay r)))] i_ Pr.any) ok1 rfl ⟨?_, ?_, ?_, ?_, ?_, ?_, ?_, trivial⟩ ?_
 · intro ax tx hs okx sm
   exact run_plain rfl (y_move (kp (sm 0 rfl) hs q1))
 · intro ax tx hs okx sm d0
   have e0 : At (Ty.lst Ty.int r) tx ax (.tmp 9) := d0 rfl
   exact run_plain rfl (y_call #[ax.eval (.tmp 9)] Try.func39 rfl rfl (by simp only [List.map_toArray, List.map_cons, List.map_nil]) (cycles_fn (r) _ _ e0 ))
 · intro ax tx hs okx sm d0
   have e1 : At (Ty.tup2 (Ty.lst Ty.ints (if rowMay r = 0 then cyclesL r else [])) (Ty.int (rowMay r))) tx ax (.tmp 10) := d0 rfl
   exact run_plain rfl (y_move e1)
 · intro ax tx hs okx sm d0
   have e2 : At (Ty.tup2 (Ty.lst Ty.ints (if rowMay r = 0 then cyclesL r else [])) (Ty.int (rowMay r))) tx ax (.tmp 8) := d0 rfl
   exact run_plain rfl (y_ext2_0 e2)
 · intro ax tx hs okx sm d0 d1
   have e2 : At (Ty.tup2 (Ty.lst Ty.ints (if rowMay r = 0 then cyclesL r else [])) (Ty.int (rowMay r))) tx ax (.tmp 8) := d0 rfl
   exact run_plain rfl (y_ext2_1 e2)
 · intro ax tx hs okx sm d0 d1 d2 d3 d4 d5 d6
   have e3 : At (Ty.lst Ty.ints (if rowMay r = 0 then cyclesL r else [])) tx ax (.tmp 11) := d0 rfl
   have e1 : At (Ty.tup2 (Ty.lst Ty.ints (if rowMay r = 0 then cyclesL r else [])) (Ty.int (rowMay r))) tx ax (.tmp 10) := d1 rfl
   have e0 : At (Ty.lst Ty.int r) tx ax (.tmp 9) := d2 rfl
   have e2 : At (Ty.tup2 (Ty.lst Ty.ints (if rowMay r = 0 then cyclesL r else [])) (Ty.int (rowMay r))) tx ax (.tmp 8) := d4 rfl
   exact run_plain rfl (y_assign e3)
 · intro ax tx hs okx sm d0 d1 d2 d3 d4 d5 d6 d7
   have e4 : At (Ty.int (rowMay r)) tx ax (.tmp 12) := d0 rfl
   have e5 : At (Ty.lst Ty.ints (if rowMay r = 0 then cyclesL r else [])) tx ax (.tmp 5) := d1 rfl
   have e0 : At (Ty.lst Ty.int r) tx ax (.tmp 9) := d2 rfl
   have e1 : At (Ty.tup2 (Ty.lst Ty.ints (if rowMay r = 0 then cyclesL r else [])) (Ty.int (rowMay r))) tx ax (.tmp 10) := d3 rfl
   have e2 : At (Ty.tup2 (Ty.lst Ty.ints (if rowMay r = 0 then cyclesL r else [])) (Ty.int (rowMay r))) tx ax (.tmp 8) := d4 rfl
   have e3 : At (Ty.lst Ty.ints (if rowMay r = 0 then cyclesL r else [])) tx ax (.tmp 11) := d5 rfl
   exact run_plain rfl (y_assign e4)
 intro a2 s2 D2
 have ok2 := D2.ok
 have F2 := F1.step0 D2.stp
 have q3 : At (Ty.bool false) s2 a2 (.tmp 3) := D2.kt q2 rfl
 have q4 : At (Ty.lst Ty.ints (if rowMay r = 0 then cyclesL r else [])) s2 a2 (.tmp 5) := D2.done 5
 have q5 : At (Ty.int (rowMay r)) s2 a2 (.tmp 4) := D2.done 6
 clear D2
 refine tn ?_
 refine wp_seq ?_
 refine wp_seq ?_
 refine reg (a := a2) (σ := s2) rfl (fun i_ => List.getD [(Ty.pr (Ty.int (rowMay r))), (Ty.pr (Ty.bool (decide ((rowMay r) ≠ (0 : Int)))))] i_ Pr.any) ok2 rfl ⟨?_, ?_, trivial⟩ ?_
 · intro ax tx hs okx sm
   exact run_plain rfl (y_move (kp (sm 4 rfl) hs q5))
 · intro ax tx hs okx sm d0
   have e0 : At (Ty.int (rowMay r)) tx ax (.tmp 13) := d0 rfl
   exact run_plain rfl (y_neq e0 rfl)
 intro a3 s3 D3
 have ok3 := D3.ok
 have F3 := F2.step0 D3.stp
 have q6 : At (Ty.bool false) s3 a3 (.tmp 3) := D3.kt q3 rfl
 have q7 : At (Ty.lst Ty.ints (if rowMay r = 0 then cyclesL r else [])) s3 a3 (.tmp 5) := D3.kt q4 rfl
 have q8 : At (Ty.int (rowMay r)) s3 a3 (.tmp 4) := D3.kt q5 rfl
 have q9 : At (Ty.bool (decide ((rowMay r) ≠ (0 : Int)))) s3 a3 (.tmp 14) := D3.done 1
 clear D3
 refine tn ?_
 refine cond_p (p := ((rowMay r) ≠ (0 : Int))) q9 (fun c1 => ?_) (fun c1 => ?_)
 ·
  refine wp_seq ?_
  refine reg (a := a3) (σ := s3) rfl (fun i_ => List.getD [(Ty.pr (Ty.int (rowMay r))), (Ty.pr (Ty.int (0 : Int))), (Ty.pr (Ty.bool false)), (Ty.pr (Ty.int (rowMay r)))] i_ Pr.any) ok3 rfl ⟨?_, ?_, ?_, ?_, trivial⟩ ?_
  · intro ax tx hs okx sm d0
    exact run_plain rfl (y_move (kp (sm 4 rfl) hs q8))
  · intro ax tx hs okx sm d0
    exact run_plain rfl (y_assign rfl)
  · intro ax tx hs okx sm d0 d1 d2
    have e1 : At (Ty.int (0 : Int)) tx ax (.tmp 2) := d0 rfl
    exact run_plain rfl (y_assign rfl)
  · intro ax tx hs okx sm d0 d1 d2 d3 d4
    have e0 : At (Ty.int (rowMay r)) tx ax (.tmp 15) := d0 rfl
    have e2 : At (Ty.bool false) tx ax (.tmp 3) := d1 rfl
    have e1 : At (Ty.int (0 : Int)) tx ax (.tmp 2) := d3 rfl
    exact run_plain rfl (y_assign e0)
  intro a4 s4 D4
  have ok4 := D4.ok
  have F4 := F3.step0 D4.stp
  have q10 : At (Ty.int (0 : Int)) s4 a4 (.tmp 2) := D4.done 1
  have q11 : At (Ty.bool false) s4 a4 (.tmp 3) := D4.done 2
  have q12 : At (Ty.int (rowMay r)) s4 a4 (.tmp 4) := D4.done 3
  clear D4
  refine tn ?_
  refine wp_ret ?_
  refine tr ?_
  exact ret3 rfl ok4 F4 (cvi (by (rw [if_neg c1]; rfl)) q10) (cvb (by (rw [if_neg c1])) q11) q12
 ·
  have h0 := Classical.not_not.1 c1; have hr := rowMay_ok.1 h0; have ecl : (if rowMay r = 0 then cyclesL r else []) = cyclesL r := if_pos h0; have ecn := congrArg List.length ecl; have hcb : (cyclesL r).length ≤ r.length := cyclesTo_len r r.length; have hln := hr.le
  refine wp_skip ?_
  refine tn ?_
  refine wp_seq ?_
  refine reg (a := a3) (σ := s3) rfl (fun i_ => List.getD [(Ty.pr (Ty.int (1 : Int)))] i_ Pr.any) ok3 rfl ⟨?_, trivial⟩ ?_
  · intro ax tx hs okx sm
    exact run_plain rfl (y_assign rfl)
  intro a5 s5 D5
  have ok5 := D5.ok
  have F5 := F3.step0 D5.stp
  have q13 : At (Ty.bool false) s5 a5 (.tmp 3) := D5.kt q6 rfl
  have q14 : At (Ty.lst Ty.ints (if rowMay r = 0 then cyclesL r else [])) s5 a5 (.tmp 5) := D5.kt q7 rfl
  have q15 : At (Ty.int (1 : Int)) s5 a5 (.tmp 2) := D5.done 0
  clear D5
  refine tn ?_
  refine wp_seq ?_
  refine wp_seq ?_
  refine reg (a := a5) (σ := s5) rfl (fun i_ => List.getD [(Ty.pr (Ty.lst Ty.ints (if rowMay r = 0 then cyclesL r else []))), (Ty.pr (Ty.nat (List.length (if rowMay r = 0 then cyclesL r else [])))), (Ty.pr (Ty.int (0 : Int)))] i_ Pr.any) ok5 rfl ⟨?_, ?_, ?_, trivial⟩ ?_
  · intro ax tx hs okx sm
    exact run_plain rfl (y_move (kp (sm 5 rfl) hs q14))
  · intro ax tx hs okx sm d0
    have e0 : At (Ty.lst Ty.ints (if rowMay r = 0 then cyclesL r else [])) tx ax (.tmp 16) := d0 rfl
    exact run_plain rfl (y_len Try.underlying33 e0)
  · intro ax tx hs okx sm
    exact run_plain rfl (y_move rfl)
  intro a6 s6 D6
  have ok6 := D6.ok
  have F6 := F5.step0 D6.stp
  have q16 : At (Ty.bool false) s6 a6 (.tmp 3) := D6.kt q13 rfl
  have q17 : At (Ty.int (1 : Int)) s6 a6 (.tmp 2) := D6.kt q15 rfl
  have q18 : At (Ty.lst Ty.ints (if rowMay r = 0 then cyclesL r else [])) s6 a6 (.tmp 16) := D6.done 0
  have q19 : At (Ty.nat (List.length (if rowMay r = 0 then cyclesL r else []))) s6 a6 (.tmp 17) := D6.done 1
  have q20 : At (Ty.int (0 : Int)) s6 a6 (.tmp 18) := D6.done 2
  clear D6
  refine tn ?_
  refine wp_block ?_
  refine loop (fun n1 a7 w1 => ∃ (t1 : GW) (k : Nat), t1.w = w1 ∧ From s0 t1 ∧ Ok 40 a7 ∧ At (Ty.nat k) t1 a7 (.tmp 18) ∧ At (Ty.nat (ordTo (cyclesL r) k)) t1 a7 (.tmp 2) ∧ At (Ty.bool (oddTo (cyclesL r) k)) t1 a7 (.tmp 3) ∧ At (Ty.lst Ty.ints (if rowMay r = 0 then cyclesL r else [])) t1 a7 (.tmp 16) ∧ At (Ty.nat (List.length (if rowMay r = 0 then cyclesL r else []))) t1 a7 (.tmp 17) ∧ (k ≤ (cyclesL r).length) ∧ n1 = (cyclesL r).length - k) ((cyclesL r).length - (0)) ?_ ?_
  ·
   exact ⟨s6, 0, rfl, F6, ok6, (cvi (by (first | rfl | omega | (simp_all; done) | (simp_all; omega))) q20), (cvi (by (first | rfl | omega | (simp_all; done) | (simp_all; omega))) q17), (cvb (by (first | rfl | omega | (simp_all; done) | (simp_all; omega))) q16), q18, q19, by omega, rfl⟩
  ·
   rintro n2 a8 w2 ⟨t2, k, rfl, F7, ok7, q21, q22, q23, q24, q25, hk, rfl⟩
   refine wp_seq ?_
   refine reg (a := a8) (σ := t2) rfl (fun i_ => List.getD [(Ty.pr (Ty.bool (decide (((k : Nat) : Int) < (((List.length (if rowMay r = 0 then cyclesL r else [])) : Nat) : Int)))))] i_ Pr.any) ok7 rfl ⟨?_, trivial⟩ ?_
   · intro ax tx hs okx sm
     exact run_plain rfl (y_lss (kp (sm 18 rfl) hs q21) (kp (sm 17 rfl) hs q25))
   intro a9 s7 D7
   have ok8 := D7.ok
   have F8 := F7.step0 D7.stp
   have q26 : At (Ty.nat k) s7 a9 (.tmp 18) := D7.kt q21 rfl
   have q27 : At (Ty.nat (ordTo (cyclesL r) k)) s7 a9 (.tmp 2) := D7.kt q22 rfl
   have q28 : At (Ty.bool (oddTo (cyclesL r) k)) s7 a9 (.tmp 3) := D7.kt q23 rfl
   have q29 : At (Ty.lst Ty.ints (if rowMay r = 0 then cyclesL r else [])) s7 a9 (.tmp 16) := D7.kt q24 rfl
   have q30 : At (Ty.nat (List.length (if rowMay r = 0 then cyclesL r else []))) s7 a9 (.tmp 17) := D7.kt q25 rfl
   have q31 : At (Ty.bool (decide (((k : Nat) : Int) < (((List.length (if rowMay r = 0 then cyclesL r else [])) : Nat) : Int)))) s7 a9 (.tmp 19) := D7.done 0
   clear D7
   refine tn ?_
   refine wp_seq ?_
   refine cond_p (p := (((k : Nat) : Int) < (((List.length (if rowMay r = 0 then cyclesL r else [])) : Nat) : Int))) q31 (fun c2 => ?_) (fun c2 => ?_)
   ·
    obtain ⟨hf1, hf2, hf3, hf4, hf5, hf6, hf7, hf8, hf9⟩ := ord_facts h0 (k := k) (by omega)
    refine wp_skip ?_
    refine tn ?_
    refine wp_seq ?_
    refine wp_block ?_
    refine wp_seq ?_
    refine reg (a := a9) (σ := s7) rfl (fun i_ => List.getD [(Ty.pr (Ty.ref [(Ty.lst Ty.int ((if rowMay r = 0 then cyclesL r else []).getD k []))])), (Ty.pr (Ty.lst Ty.int ((if rowMay r = 0 then cyclesL r else []).getD k []))), (Ty.pr (Ty.lst Ty.int ((if rowMay r = 0 then cyclesL r else []).getD k [])))] i_ Pr.any) ok8 rfl ⟨?_, ?_, ?_, trivial⟩ ?_
    · intro ax tx hs okx sm
      exact run_plain rfl (y_index1 Try.underlying33 Try.inf34 (kp (sm 16 rfl) hs q29) (kp (sm 18 rfl) hs q26) (by omega) (lst_get Ty.ints (if rowMay r = 0 then cyclesL r else []) [] k (by omega)))
    · intro ax tx hs okx sm d0
      have e0 : At (Ty.ref [(Ty.lst Ty.int ((if rowMay r = 0 then cyclesL r else []).getD k []))]) tx ax (.tmp 20) := d0 rfl
      exact run_plain rfl (y_load Try.underlying34 rfl e0 rfl)
    · intro ax tx hs okx sm d0 d1 d2
      have e1 : At (Ty.lst Ty.int ((if rowMay r = 0 then cyclesL r else []).getD k [])) tx ax (.tmp 21) := d0 rfl
      have e0 : At (Ty.ref [(Ty.lst Ty.int ((if rowMay r = 0 then cyclesL r else []).getD k []))]) tx ax (.tmp 20) := d1 rfl
      exact run_plain rfl (y_assign e1)
    intro a10 s8 D8
    have ok9 := D8.ok
    have F9 := F8.step0 D8.stp
    have q32 : At (Ty.nat k) s8 a10 (.tmp 18) := D8.kt q26 rfl
    have q33 : At (Ty.nat (ordTo (cyclesL r) k)) s8 a10 (.tmp 2) := D8.kt q27 rfl
    have q34 : At (Ty.bool (oddTo (cyclesL r) k)) s8 a10 (.tmp 3) := D8.kt q28 rfl
    have q35 : At (Ty.lst Ty.ints (if rowMay r = 0 then cyclesL r else [])) s8 a10 (.tmp 16) := D8.kt q29 rfl
    have q36 : At (Ty.nat (List.length (if rowMay r = 0 then cyclesL r else []))) s8 a10 (.tmp 17) := D8.kt q30 rfl
    have q37 : At (Ty.lst Ty.int ((if rowMay r = 0 then cyclesL r else []).getD k [])) s8 a10 (.tmp 7) := D8.done 2
    clear D8
    refine tn ?_
    refine wp_seq ?_
    refine reg (a := a10) (σ := s8) rfl (fun i_ => List.getD [(Ty.pr (Ty.nat (ordTo (cyclesL r) k))), (Ty.pr (Ty.lst Ty.int ((if rowMay r = 0 then cyclesL r else []).getD k []))), (Ty.pr (Ty.nat (List.length ((if rowMay r = 0 then cyclesL r else []).getD k [])))), (Ty.pr (Ty.nat (ordTo (cyclesL r) k))), (Ty.pr (Ty.lst Ty.int ((if rowMay r = 0 then cyclesL r else []).getD k []))), (Ty.pr (Ty.nat (List.length ((if rowMay r = 0 then cyclesL r else []).getD k [])))), (Ty.pr (Ty.nat (Nat.gcd ((ordTo (cyclesL r) k)) ((List.length ((if rowMay r = 0 then cyclesL r else []).getD k [])))))), (Ty.pr (Ty.nat ((List.length ((if rowMay r = 0 then cyclesL r else []).getD k [])) / (Nat.gcd ((ordTo (cyclesL r) k)) ((List.length ((if rowMay r = 0 then cyclesL r else []).getD k []))))))), (Ty.pr (Ty.int ((((ordTo (cyclesL r) k) : Nat) : Int) * ((((List.length ((if rowMay r = 0 then cyclesL r else []).getD k [])) / (Nat.gcd ((ordTo (cyclesL r) k)) ((List.length ((if rowMay r = 0 then cyclesL r else []).getD k []))))) : Nat) : Int)))), (Ty.pr (Ty.int ((((ordTo (cyclesL r) k) : Nat) : Int) * ((((List.length ((if rowMay r = 0 then cyclesL r else []).getD k [])) / (Nat.gcd ((ordTo (cyclesL r) k)) ((List.length ((if rowMay r = 0 then cyclesL r else []).getD k []))))) : Nat) : Int))))] i_ Pr.any) ok9 rfl ⟨?_, ?_, ?_, ?_, ?_, ?_, ?_, ?_, ?_, ?_, trivial⟩ ?_
    · intro ax tx hs okx sm
      exact run_plain rfl (y_move (kp (sm 2 rfl) hs q33))
    · intro ax tx hs okx sm
      exact run_plain rfl (y_move (kp (sm 7 rfl) hs q37))
    · intro ax tx hs okx sm d0
      have e1 : At (Ty.lst Ty.int ((if rowMay r = 0 then cyclesL r else []).getD k [])) tx ax (.tmp 23) := d0 rfl
      exact run_plain rfl (y_len Try.underlying34 e1)
    · intro ax tx hs okx sm
      exact run_plain rfl (y_move (kp (sm 2 rfl) hs q33))
    · intro ax tx hs okx sm
      exact run_plain rfl (y_move (kp (sm 7 rfl) hs q37))
    · intro ax tx hs okx sm d0
      have e4 : At (Ty.lst Ty.int ((if rowMay r = 0 then cyclesL r else []).getD k [])) tx ax (.tmp 26) := d0 rfl
      exact run_plain rfl (y_len Try.underlying34 e4)
    · intro ax tx hs okx sm d0 d1
      have e3 : At (Ty.nat (ordTo (cyclesL r) k)) tx ax (.tmp 25) := d0 rfl
      have e5 : At (Ty.nat (List.length ((if rowMay r = 0 then cyclesL r else []).getD k []))) tx ax (.tmp 27) := d1 rfl
      exact run_plain rfl (y_call #[ax.eval (.tmp 25), ax.eval (.tmp 27)] Try.func93 rfl rfl (by simp only [List.map_toArray, List.map_cons, List.map_nil]) (common_fn ((ordTo (cyclesL r) k)) ((List.length ((if rowMay r = 0 then cyclesL r else []).getD k []))) _ _ _ e3 e5 (by omega) (by omega)))
    · intro ax tx hs okx sm d0 d1
      have e2 : At (Ty.nat (List.length ((if rowMay r = 0 then cyclesL r else []).getD k []))) tx ax (.tmp 24) := d0 rfl
      have e6 : At (Ty.nat (Nat.gcd ((ordTo (cyclesL r) k)) ((List.length ((if rowMay r = 0 then cyclesL r else []).getD k []))))) tx ax (.tmp 28) := d1 rfl
      exact run_plain rfl (y_quoN e2 e6 (by omega) (by omega))
    · intro ax tx hs okx sm d0 d1
      have e0 : At (Ty.nat (ordTo (cyclesL r) k)) tx ax (.tmp 22) := d0 rfl
      have e7 : At (Ty.nat ((List.length ((if rowMay r = 0 then cyclesL r else []).getD k [])) / (Nat.gcd ((ordTo (cyclesL r) k)) ((List.length ((if rowMay r = 0 then cyclesL r else []).getD k [])))))) tx ax (.tmp 29) := d1 rfl
      exact run_plain rfl (y_mul e0 e7 (w64 (by omega) (by omega)))
    · intro ax tx hs okx sm d0 d1 d2 d3 d4 d5 d6 d7 d8 d9 d10
      have e8 : At (Ty.int ((((ordTo (cyclesL r) k) : Nat) : Int) * ((((List.length ((if rowMay r = 0 then cyclesL r else []).getD k [])) / (Nat.gcd ((ordTo (cyclesL r) k)) ((List.length ((if rowMay r = 0 then cyclesL r else []).getD k []))))) : Nat) : Int))) tx ax (.tmp 30) := d0 rfl
      have e6 : At (Ty.nat (Nat.gcd ((ordTo (cyclesL r) k)) ((List.length ((if rowMay r = 0 then cyclesL r else []).getD k []))))) tx ax (.tmp 28) := d1 rfl
      have e0 : At (Ty.nat (ordTo (cyclesL r) k)) tx ax (.tmp 22) := d2 rfl
      have e1 : At (Ty.lst Ty.int ((if rowMay r = 0 then cyclesL r else []).getD k [])) tx ax (.tmp 23) := d3 rfl
      have e2 : At (Ty.nat (List.length ((if rowMay r = 0 then cyclesL r else []).getD k []))) tx ax (.tmp 24) := d4 rfl
      have e3 : At (Ty.nat (ordTo (cyclesL r) k)) tx ax (.tmp 25) := d5 rfl
      have e4 : At (Ty.lst Ty.int ((if rowMay r = 0 then cyclesL r else []).getD k [])) tx ax (.tmp 26) := d6 rfl
      have e5 : At (Ty.nat (List.length ((if rowMay r = 0 then cyclesL r else []).getD k []))) tx ax (.tmp 27) := d7 rfl
      have e7 : At (Ty.nat ((List.length ((if rowMay r = 0 then cyclesL r else []).getD k [])) / (Nat.gcd ((ordTo (cyclesL r) k)) ((List.length ((if rowMay r = 0 then cyclesL r else []).getD k [])))))) tx ax (.tmp 29) := d9 rfl
      exact run_plain rfl (y_assign e8)
    intro a11 s9 D9
    have ok10 := D9.ok
    have F10 := F9.step0 D9.stp
    have q38 : At (Ty.nat k) s9 a11 (.tmp 18) := D9.kt q32 rfl
    have q39 : At (Ty.bool (oddTo (cyclesL r) k)) s9 a11 (.tmp 3) := D9.kt q34 rfl
    have q40 : At (Ty.lst Ty.ints (if rowMay r = 0 then cyclesL r else [])) s9 a11 (.tmp 16) := D9.kt q35 rfl
    have q41 : At (Ty.nat (List.length (if rowMay r = 0 then cyclesL r else []))) s9 a11 (.tmp 17) := D9.kt q36 rfl
    have q42 : At (Ty.lst Ty.int ((if rowMay r = 0 then cyclesL r else []).getD k [])) s9 a11 (.tmp 7) := D9.kt q37 rfl
    have q43 : At (Ty.int ((((ordTo (cyclesL r) k) : Nat) : Int) * ((((List.length ((if rowMay r = 0 then cyclesL r else []).getD k [])) / (Nat.gcd ((ordTo (cyclesL r) k)) ((List.length ((if rowMay r = 0 then cyclesL r else []).getD k []))))) : Nat) : Int))) s9 a11 (.tmp 2) := D9.done 9
    clear D9
    refine tn ?_
    refine reg (a := a11) (σ := s9) rfl (fun i_ => List.getD [(Ty.pr (Ty.bool (oddTo (cyclesL r) k))), (Ty.pr (Ty.lst Ty.int ((if rowMay r = 0 then cyclesL r else []).getD k []))), (Ty.pr (Ty.nat (List.length ((if rowMay r = 0 then cyclesL r else []).getD k [])))), (Ty.pr (Ty.nat ((List.length ((if rowMay r = 0 then cyclesL r else []).getD k [])) % 2))), (Ty.pr (Ty.bool (decide (((((List.length ((if rowMay r = 0 then cyclesL r else []).getD k [])) % 2) : Nat) : Int) = (0 : Int))))), (Ty.pr (Ty.bool ((oddTo (cyclesL r) k) != (decide (((((List.length ((if rowMay r = 0 then cyclesL r else []).getD k [])) % 2) : Nat) : Int) = (0 : Int)))))), (Ty.pr (Ty.bool ((oddTo (cyclesL r) k) != (decide (((((List.length ((if rowMay r = 0 then cyclesL r else []).getD k [])) % 2) : Nat) : Int) = (0 : Int))))))] i_ Pr.any) ok10 rfl ⟨?_, ?_, ?_, ?_, ?_, ?_, ?_, trivial⟩ ?_
    · intro ax tx hs okx sm
      exact run_plain rfl (y_move (kp (sm 3 rfl) hs q39))
    · intro ax tx hs okx sm
      exact run_plain rfl (y_move (kp (sm 7 rfl) hs q42))
    · intro ax tx hs okx sm d0
      have e1 : At (Ty.lst Ty.int ((if rowMay r = 0 then cyclesL r else []).getD k [])) tx ax (.tmp 32) := d0 rfl
      exact run_plain rfl (y_len Try.underlying34 e1)
    · intro ax tx hs okx sm d0
      have e2 : At (Ty.nat (List.length ((if rowMay r = 0 then cyclesL r else []).getD k []))) tx ax (.tmp 33) := d0 rfl
      exact run_plain rfl (y_remN e2 (toN (σ := tx) rfl (by omega)) (by omega))
    · intro ax tx hs okx sm d0
      have e3 : At (Ty.nat ((List.length ((if rowMay r = 0 then cyclesL r else []).getD k [])) % 2)) tx ax (.tmp 34) := d0 rfl
      exact run_plain rfl (y_eql e3 rfl)
    · intro ax tx hs okx sm d0 d1
      have e0 : At (Ty.bool (oddTo (cyclesL r) k)) tx ax (.tmp 31) := d0 rfl
      have e4 : At (Ty.bool (decide (((((List.length ((if rowMay r = 0 then cyclesL r else []).getD k [])) % 2) : Nat) : Int) = (0 : Int)))) tx ax (.tmp 35) := d1 rfl
      exact run_plain rfl (y_neqB Try.underlying4 e0 e4)
    · intro ax tx hs okx sm d0 d1 d2 d3 d4 d5 d6
      have e5 : At (Ty.bool ((oddTo (cyclesL r) k) != (decide (((((List.length ((if rowMay r = 0 then cyclesL r else []).getD k [])) % 2) : Nat) : Int) = (0 : Int))))) tx ax (.tmp 36) := d0 rfl
      have e0 : At (Ty.bool (oddTo (cyclesL r) k)) tx ax (.tmp 31) := d1 rfl
      have e1 : At (Ty.lst Ty.int ((if rowMay r = 0 then cyclesL r else []).getD k [])) tx ax (.tmp 32) := d2 rfl
      have e2 : At (Ty.nat (List.length ((if rowMay r = 0 then cyclesL r else []).getD k []))) tx ax (.tmp 33) := d3 rfl
      have e3 : At (Ty.nat ((List.length ((if rowMay r = 0 then cyclesL r else []).getD k [])) % 2)) tx ax (.tmp 34) := d4 rfl
      have e4 : At (Ty.bool (decide (((((List.length ((if rowMay r = 0 then cyclesL r else []).getD k [])) % 2) : Nat) : Int) = (0 : Int)))) tx ax (.tmp 35) := d5 rfl
      exact run_plain rfl (y_assign e5)
    intro a12 s10 D10
    have ok11 := D10.ok
    have F11 := F10.step0 D10.stp
    have q44 : At (Ty.nat k) s10 a12 (.tmp 18) := D10.kt q38 rfl
    have q45 : At (Ty.lst Ty.ints (if rowMay r = 0 then cyclesL r else [])) s10 a12 (.tmp 16) := D10.kt q40 rfl
    have q46 : At (Ty.nat (List.length (if rowMay r = 0 then cyclesL r else []))) s10 a12 (.tmp 17) := D10.kt q41 rfl
    have q47 : At (Ty.int ((((ordTo (cyclesL r) k) : Nat) : Int) * ((((List.length ((if rowMay r = 0 then cyclesL r else []).getD k [])) / (Nat.gcd ((ordTo (cyclesL r) k)) ((List.length ((if rowMay r = 0 then cyclesL r else []).getD k []))))) : Nat) : Int))) s10 a12 (.tmp 2) := D10.kt q43 rfl
    have q48 : At (Ty.bool ((oddTo (cyclesL r) k) != (decide (((((List.length ((if rowMay r = 0 then cyclesL r else []).getD k [])) % 2) : Nat) : Int) = (0 : Int))))) s10 a12 (.tmp 3) := D10.done 6
    clear D10
    refine bn ?_
    refine tn ?_
    refine reg (a := a12) (σ := s10) rfl (fun i_ => List.getD [(Ty.pr (Ty.int (((k : Nat) : Int) + (1 : Int)))), (Ty.pr (Ty.int (((k : Nat) : Int) + (1 : Int))))] i_ Pr.any) ok11 rfl ⟨?_, ?_, trivial⟩ ?_
    · intro ax tx hs okx sm
      exact run_plain rfl (y_add (kp (sm 18 rfl) hs q44) rfl (w64 (by omega) (by omega)))
    · intro ax tx hs okx sm d0
      have e0 : At (Ty.int (((k : Nat) : Int) + (1 : Int))) tx ax (.tmp 37) := d0 rfl
      exact run_plain rfl (y_move e0)
    intro a13 s11 D11
    have ok12 := D11.ok
    have F12 := F11.step0 D11.stp
    have q49 : At (Ty.lst Ty.ints (if rowMay r = 0 then cyclesL r else [])) s11 a13 (.tmp 16) := D11.kt q45 rfl
    have q50 : At (Ty.nat (List.length (if rowMay r = 0 then cyclesL r else []))) s11 a13 (.tmp 17) := D11.kt q46 rfl
    have q51 : At (Ty.int ((((ordTo (cyclesL r) k) : Nat) : Int) * ((((List.length ((if rowMay r = 0 then cyclesL r else []).getD k [])) / (Nat.gcd ((ordTo (cyclesL r) k)) ((List.length ((if rowMay r = 0 then cyclesL r else []).getD k []))))) : Nat) : Int))) s11 a13 (.tmp 2) := D11.kt q47 rfl
    have q52 : At (Ty.bool ((oddTo (cyclesL r) k) != (decide (((((List.length ((if rowMay r = 0 then cyclesL r else []).getD k [])) % 2) : Nat) : Int) = (0 : Int))))) s11 a13 (.tmp 3) := D11.kt q48 rfl
    have q53 : At (Ty.int (((k : Nat) : Int) + (1 : Int))) s11 a13 (.tmp 18) := D11.done 1
    clear D11
    exact tn ⟨(cyclesL r).length - ((k+1)), by omega, s11, (k+1), rfl, F12, ok12, (cvi (by (first | rfl | omega | (simp_all; done) | (simp_all; omega))) q53), (cvi (by (rw [hf7, Int.natCast_mul])) q51), (cvb (by (rw [oddTo_succ _ k (by omega), ecl])) q52), q49, q50, by omega, rfl⟩
   ·
    refine wp_exit ?_
    refine tx ?_
    refine tx ?_
    refine bx ?_
    refine tn ?_
    refine wp_seq ?_
    refine reg (a := a9) (σ := s7) rfl (fun i_ => List.getD [(Ty.pr (Ty.nat (ordTo (cyclesL r) k))), (Ty.pr (Ty.bool (oddTo (cyclesL r) k))), (Ty.pr (Ty.nat (ordTo (cyclesL r) k))), (Ty.pr (Ty.bool (oddTo (cyclesL r) k))), (Ty.pr (Ty.int (0 : Int)))] i_ Pr.any) ok8 rfl ⟨?_, ?_, ?_, ?_, ?_, trivial⟩ ?_
    · intro ax tx hs okx sm
      exact run_plain rfl (y_move (kp (sm 2 rfl) hs q27))
    · intro ax tx hs okx sm d0
      exact run_plain rfl (y_move (kp (sm 3 rfl) hs q28))
    · intro ax tx hs okx sm d0 d1 d2
      have e0 : At (Ty.nat (ordTo (cyclesL r) k)) tx ax (.tmp 38) := d0 rfl
      exact run_plain rfl (y_assign e0)
    · intro ax tx hs okx sm d0 d1 d2 d3 d4
      have e1 : At (Ty.bool (oddTo (cyclesL r) k)) tx ax (.tmp 39) := d0 rfl
      have e2 : At (Ty.nat (ordTo (cyclesL r) k)) tx ax (.tmp 2) := d1 rfl
      have e0 : At (Ty.nat (ordTo (cyclesL r) k)) tx ax (.tmp 38) := d2 rfl
      exact run_plain rfl (y_assign e1)
    · intro ax tx hs okx sm d0 d1 d2 d3 d4
      have e3 : At (Ty.bool (oddTo (cyclesL r) k)) tx ax (.tmp 3) := d0 rfl
      have e0 : At (Ty.nat (ordTo (cyclesL r) k)) tx ax (.tmp 38) := d1 rfl
      have e1 : At (Ty.bool (oddTo (cyclesL r) k)) tx ax (.tmp 39) := d2 rfl
      have e2 : At (Ty.nat (ordTo (cyclesL r) k)) tx ax (.tmp 2) := d3 rfl
      exact run_plain rfl (y_assign rfl)
    intro a14 s12 D12
    have ok13 := D12.ok
    have F13 := F8.step0 D12.stp
    have q54 : At (Ty.nat (ordTo (cyclesL r) k)) s12 a14 (.tmp 2) := D12.done 2
    have q55 : At (Ty.bool (oddTo (cyclesL r) k)) s12 a14 (.tmp 3) := D12.done 3
    have q56 : At (Ty.int (0 : Int)) s12 a14 (.tmp 4) := D12.done 4
    clear D12
    refine tn ?_
    refine wp_ret ?_
    exact ret3 rfl ok13 F13 (cvi (by (rw [if_pos h0]; obtain rfl : k = (cyclesL r).length := (by omega); rfl)) q54) (cvb (by (rw [if_pos h0]; obtain rfl : k = (cyclesL r).length := (by omega); rfl)) q55) (cvi (by (exact h0.symm)) q56)


set_option maxHeartbeats 4000000 in
set_option maxRecDepth 100000 in
theorem rowPlace_fn (r : List Int) (σ : GW)  (v0 : Value) (hv0 : Ty.has (Ty.lst Ty.int r) σ v0)  (hr : r.length ≤ 12) :
    FnC Try.prog 94 #[v0] σ (Ty.nat (rankL r)) := by
 refine fn_intro0 Try.func94 rfl Try.ntmps94 (Nat.le_of_ble_eq_true rfl) (fun s0 a0 hle F0 ok0 hargs => ?_)
 have p0 : At (Ty.lst Ty.int r) s0 a0 (.tmp 0) := by have e := hargs 0 _ rfl; show Ty.has _ _ _; rw [e]; exact Ty.up _ hle hv0
 have b1 := sl_le p0
 clear hargs
 refine wp_seq ?_
 refine reg (a := a0) (σ := s0) rfl (fun i_ => List.getD [(Ty.pr (Ty.int (0 : Int)))] i_ Pr.any) ok0 rfl ⟨?_, trivial⟩ ?_
 · intro ax tx hs okx sm
   exact run_plain rfl (y_assign rfl)
 intro a1 s1 D1
 have ok1 := D1.ok
 have F1 := F0.step0 D1.stp
 have q1 : At (Ty.lst Ty.int r) s1 a1 (.tmp 0) := D1.kt p0 rfl
 clear D1
 refine tn ?_
 refine wp_seq ?_
 refine reg (a := a1) (σ := s1) rfl (fun i_ => List.getD [(Ty.pr (Ty.int (0 : Int)))] i_ Pr.any) ok1 rfl ⟨?_, trivial⟩ ?_
 · intro ax tx hs okx sm
   exact run_plain rfl (y_assign rfl)
 intro a2 s2 D2
 have ok2 := D2.ok
 have F2 := F1.step0 D2.stp
 have q2 : At (Ty.lst Ty.int r) s2 a2 (.tmp 0) := D2.kt q1 rfl
 have q3 : At (Ty.int (0 : Int)) s2 a2 (.tmp 3) := D2.done 0
 clear D2
 refine tn ?_
 refine wp_seq ?_
 refine wp_seq ?_
 refine reg (a := a2) (σ := s2) rfl (fun i_ => List.getD [(Ty.pr (Ty.lst Ty.int r)), (Ty.pr (Ty.nat (List.length r))), (Ty.pr (Ty.int (0 : Int)))] i_ Pr.any) ok2 rfl ⟨?_, ?_, ?_, trivial⟩ ?_
 · intro ax tx hs okx sm
   exact run_plain rfl (y_move (kp (sm 0 rfl) hs q2))
 · intro ax tx hs okx sm d0
   have e0 : At (Ty.lst Ty.int r) tx ax (.tmp 9) := d0 rfl
   exact run_plain rfl (y_len Try.underlying34 e0)
 · intro ax tx hs okx sm
   exact run_plain rfl (y_move rfl)
 intro a3 s3 D3
 have ok3 := D3.ok
 have F3 := F2.step0 D3.stp
 have q4 : At (Ty.lst Ty.int r) s3 a3 (.tmp 0) := D3.kt q2 rfl
 have q5 : At (Ty.int (0 : Int)) s3 a3 (.tmp 3) := D3.kt q3 rfl
 have q6 : At (Ty.lst Ty.int r) s3 a3 (.tmp 9) := D3.done 0
 have q7 : At (Ty.nat (List.length r)) s3 a3 (.tmp 10) := D3.done 1
 have q8 : At (Ty.int (0 : Int)) s3 a3 (.tmp 11) := D3.done 2
 clear D3
 refine tn ?_
 refine wp_block ?_
 refine loop (fun n1 a4 w1 => ∃ (t1 : GW) (i : Nat) (q : Nat), t1.w = w1 ∧ FromL [] s0 t1 ∧ Ok 41 a4 ∧ At (Ty.nat i) t1 a4 (.tmp 11) ∧ At (Ty.nat q) t1 a4 (.tmp 3) ∧ At (Ty.lst Ty.int r) t1 a4 (.tmp 0) ∧ At (Ty.lst Ty.int r) t1 a4 (.tmp 9) ∧ At (Ty.nat (List.length r)) t1 a4 (.tmp 10) ∧ (i ≤ r.length) ∧ (q * fct (r.length - i) + rankL (r.drop i) = rankL r) ∧ n1 = r.length - i) (r.length - (0)) ?_ ?_
 ·
  exact ⟨s3, 0, 0, rfl, F3, ok3, (cvi (by (first | rfl | omega | (simp_all; done) | (simp_all; omega))) q8), (cvi (by (first | rfl | omega | (simp_all; done) | (simp_all; omega))) q5), q4, q6, q7, by omega, by simp, rfl⟩
 ·
  rintro n2 a5 w2 ⟨t2, i, q, rfl, F4, ok4, q9, q10, q11, q12, q13, hi, hq, rfl⟩
  have hpl := place_le hq
  have hrl := rank_le12 hr
  refine wp_seq ?_
  refine reg (a := a5) (σ := t2) rfl (fun i_ => List.getD [(Ty.pr (Ty.bool (decide (((i : Nat) : Int) < (((List.length r) : Nat) : Int)))))] i_ Pr.any) ok4 rfl ⟨?_, trivial⟩ ?_
  · intro ax tx hs okx sm
    exact run_plain rfl (y_lss (kp (sm 11 rfl) hs q9) (kp (sm 10 rfl) hs q13))
  intro a6 s4 D4
  have ok5 := D4.ok
  have F5 := F4.step0 D4.stp
  have q14 : At (Ty.nat i) s4 a6 (.tmp 11) := D4.kt q9 rfl
  have q15 : At (Ty.nat q) s4 a6 (.tmp 3) := D4.kt q10 rfl
  have q16 : At (Ty.lst Ty.int r) s4 a6 (.tmp 0) := D4.kt q11 rfl
  have q17 : At (Ty.lst Ty.int r) s4 a6 (.tmp 9) := D4.kt q12 rfl
  have q18 : At (Ty.nat (List.length r)) s4 a6 (.tmp 10) := D4.kt q13 rfl
  have q19 : At (Ty.bool (decide (((i : Nat) : Int) < (((List.length r) : Nat) : Int)))) s4 a6 (.tmp 12) := D4.done 0
  clear D4
  refine tn ?_
  refine wp_seq ?_
  refine cond_p (p := (((i : Nat) : Int) < (((List.length r) : Nat) : Int))) q19 (fun c1 => ?_) (fun c1 => ?_)
  ·
   have hmb := place_mul hr (by omega) hq
   refine wp_skip ?_
   refine tn ?_
   refine wp_seq ?_
   refine wp_block ?_
   refine wp_seq ?_
   refine reg (a := a6) (σ := s4) rfl (fun i_ => List.getD [(Ty.pr (Ty.nat i)), (Ty.pr (Ty.ref [(Ty.int (r.getD i 0))])), (Ty.pr (Ty.int (r.getD i 0))), (Ty.pr (Ty.nat i)), (Ty.pr (Ty.int (r.getD i 0)))] i_ Pr.any) ok5 rfl ⟨?_, ?_, ?_, ?_, ?_, trivial⟩ ?_
   · intro ax tx hs okx sm
     exact run_plain rfl (y_move (kp (sm 11 rfl) hs q14))
   · intro ax tx hs okx sm
     exact run_plain rfl (y_index1 Try.underlying34 Try.inf3 (kp (sm 9 rfl) hs q17) (kp (sm 11 rfl) hs q14) (by omega) (lst_get Ty.int r 0 i (by omega)))
   · intro ax tx hs okx sm d0
     have e1 : At (Ty.ref [(Ty.int (r.getD i 0))]) tx ax (.tmp 14) := d0 rfl
     exact run_plain rfl (y_load Try.underlying3 rfl e1 rfl)
   · intro ax tx hs okx sm d0 d1 d2 d3
     have e0 : At (Ty.nat i) tx ax (.tmp 13) := d0 rfl
     have e1 : At (Ty.ref [(Ty.int (r.getD i 0))]) tx ax (.tmp 14) := d2 rfl
     have e2 : At (Ty.int (r.getD i 0)) tx ax (.tmp 15) := d3 rfl
     exact run_plain rfl (y_assign e0)
   · intro ax tx hs okx sm d0 d1 d2 d3 d4 d5
     have e2 : At (Ty.int (r.getD i 0)) tx ax (.tmp 15) := d0 rfl
     have e3 : At (Ty.nat i) tx ax (.tmp 4) := d1 rfl
     have e0 : At (Ty.nat i) tx ax (.tmp 13) := d2 rfl
     have e1 : At (Ty.ref [(Ty.int (r.getD i 0))]) tx ax (.tmp 14) := d3 rfl
     exact run_plain rfl (y_assign e2)
   intro a7 s5 D5
   have ok6 := D5.ok
   have F6 := F5.step0 D5.stp
   have q20 : At (Ty.nat i) s5 a7 (.tmp 11) := D5.kt q14 rfl
   have q21 : At (Ty.nat q) s5 a7 (.tmp 3) := D5.kt q15 rfl
   have q22 : At (Ty.lst Ty.int r) s5 a7 (.tmp 0) := D5.kt q16 rfl
   have q23 : At (Ty.lst Ty.int r) s5 a7 (.tmp 9) := D5.kt q17 rfl
   have q24 : At (Ty.nat (List.length r)) s5 a7 (.tmp 10) := D5.kt q18 rfl
   have q25 : At (Ty.nat i) s5 a7 (.tmp 4) := D5.done 3
   have q26 : At (Ty.int (r.getD i 0)) s5 a7 (.tmp 5) := D5.done 4
   clear D5
   refine tn ?_
   refine wp_seq ?_
   refine reg (a := a7) (σ := s5) rfl (fun i_ => List.getD [(Ty.pr (Ty.int (0 : Int)))] i_ Pr.any) ok6 rfl ⟨?_, trivial⟩ ?_
   · intro ax tx hs okx sm
     exact run_plain rfl (y_assign rfl)
   intro a8 s6 D6
   have ok7 := D6.ok
   have F7 := F6.step0 D6.stp
   have q27 : At (Ty.nat i) s6 a8 (.tmp 11) := D6.kt q20 rfl
   have q28 : At (Ty.nat q) s6 a8 (.tmp 3) := D6.kt q21 rfl
   have q29 : At (Ty.lst Ty.int r) s6 a8 (.tmp 0) := D6.kt q22 rfl
   have q30 : At (Ty.lst Ty.int r) s6 a8 (.tmp 9) := D6.kt q23 rfl
   have q31 : At (Ty.nat (List.length r)) s6 a8 (.tmp 10) := D6.kt q24 rfl
   have q32 : At (Ty.nat i) s6 a8 (.tmp 4) := D6.kt q25 rfl
   have q33 : At (Ty.int (r.getD i 0)) s6 a8 (.tmp 5) := D6.kt q26 rfl
   have q34 : At (Ty.int (0 : Int)) s6 a8 (.tmp 6) := D6.done 0
   clear D6
   refine tn ?_
   refine wp_seq ?_
   refine wp_seq ?_
   refine reg (a := a8) (σ := s6) rfl (fun i_ => List.getD [(Ty.pr (Ty.lst Ty.int r)), (Ty.pr (Ty.nat i)), (Ty.pr (Ty.nat (i + 1))), (Ty.pr (Ty.lst Ty.int (r.drop (i + 1)))), (Ty.pr (Ty.nat (List.length (r.drop (i + 1))))), (Ty.pr (Ty.int (0 : Int)))] i_ Pr.any) ok7 rfl ⟨?_, ?_, ?_, ?_, ?_, ?_, trivial⟩ ?_
   · intro ax tx hs okx sm
     exact run_plain rfl (y_move (kp (sm 0 rfl) hs q29))
   · intro ax tx hs okx sm
     exact run_plain rfl (y_move (kp (sm 4 rfl) hs q32))
   · intro ax tx hs okx sm d0
     have e1 : At (Ty.nat i) tx ax (.tmp 17) := d0 rfl
     exact run_plain rfl ((y_add e1 rfl (w64 (by omega) (by omega))).mono (fun τ _ h => cvi (σ := τ) (by first | omega | exact (Int.natCast_mul _ _).symm) h))
   · intro ax tx hs okx sm d0 d1
     have e0 : At (Ty.lst Ty.int r) tx ax (.tmp 16) := d0 rfl
     have e2 : At (Ty.nat (i + 1)) tx ax (.tmp 18) := d1 rfl
     exact run_plain rfl (y_drop Try.underlying34 Try.inf3 e0 e2 (by omega))
   · intro ax tx hs okx sm d0
     have e3 : At (Ty.lst Ty.int (r.drop (i + 1))) tx ax (.tmp 19) := d0 rfl
     exact run_plain rfl (y_len Try.underlying34 e3)
   · intro ax tx hs okx sm
     exact run_plain rfl (y_move rfl)
   intro a9 s7 D7
   have ok8 := D7.ok
   have F8 := F7.step0 D7.stp
   have q35 : At (Ty.nat i) s7 a9 (.tmp 11) := D7.kt q27 rfl
   have q36 : At (Ty.nat q) s7 a9 (.tmp 3) := D7.kt q28 rfl
   have q37 : At (Ty.lst Ty.int r) s7 a9 (.tmp 0) := D7.kt q29 rfl
   have q38 : At (Ty.lst Ty.int r) s7 a9 (.tmp 9) := D7.kt q30 rfl
   have q39 : At (Ty.nat (List.length r)) s7 a9 (.tmp 10) := D7.kt q31 rfl
   have q40 : At (Ty.nat i) s7 a9 (.tmp 4) := D7.kt q32 rfl
   have q41 : At (Ty.int (r.getD i 0)) s7 a9 (.tmp 5) := D7.kt q33 rfl
   have q42 : At (Ty.int (0 : Int)) s7 a9 (.tmp 6) := D7.kt q34 rfl
   have q43 : At (Ty.lst Ty.int (r.drop (i + 1))) s7 a9 (.tmp 19) := D7.done 3
   have b2 := sl_le q43
   have q44 : At (Ty.nat (List.length (r.drop (i + 1)))) s7 a9 (.tmp 20) := D7.done 4
   have q45 : At (Ty.int (0 : Int)) s7 a9 (.tmp 21) := D7.done 5
   clear D7
   refine tn ?_
   refine wp_block ?_
   refine loop (fun n3 a10 w3 => ∃ (t3 : GW) (j : Nat), t3.w = w3 ∧ FromL [] s0 t3 ∧ Ok 41 a10 ∧ At (Ty.nat j) t3 a10 (.tmp 21) ∧ At (Ty.nat (lessN (r.getD i 0) ((r.drop (i + 1)).take j))) t3 a10 (.tmp 6) ∧ At (Ty.nat i) t3 a10 (.tmp 11) ∧ At (Ty.nat q) t3 a10 (.tmp 3) ∧ At (Ty.lst Ty.int r) t3 a10 (.tmp 0) ∧ At (Ty.lst Ty.int r) t3 a10 (.tmp 9) ∧ At (Ty.nat (List.length r)) t3 a10 (.tmp 10) ∧ At (Ty.nat i) t3 a10 (.tmp 4) ∧ At (Ty.int (r.getD i 0)) t3 a10 (.tmp 5) ∧ At (Ty.lst Ty.int (r.drop (i + 1))) t3 a10 (.tmp 19) ∧ At (Ty.nat (List.length (r.drop (i + 1)))) t3 a10 (.tmp 20) ∧ (j ≤ (r.drop (i + 1)).length) ∧ n3 = (r.drop (i + 1)).length - j) ((r.drop (i + 1)).length - (0)) ?_ ?_
   ·
    exact ⟨s7, 0, rfl, F8, ok8, (cvi (by (first | rfl | omega | (simp_all; done) | (simp_all; omega))) q45), (cvi (by (simp [lessN])) q42), q35, q36, q37, q38, q39, q40, q41, q43, q44, by omega, rfl⟩
   ·
    rintro n4 a11 w4 ⟨t4, j, rfl, F9, ok9, q46, q47, q48, q49, q50, q51, q52, q53, q54, q55, q56, hj, rfl⟩
    have hll := lessN_le (r.getD i 0) ((r.drop (i + 1)).take j)
    have htl := List.length_take_le j (r.drop (i + 1))
    have hdl : (r.drop (i + 1)).length = r.length - (i + 1) := List.length_drop
    refine wp_seq ?_
    refine reg (a := a11) (σ := t4) rfl (fun i_ => List.getD [(Ty.pr (Ty.bool (decide (((j : Nat) : Int) < (((List.length (r.drop (i + 1))) : Nat) : Int)))))] i_ Pr.any) ok9 rfl ⟨?_, trivial⟩ ?_
    · intro ax tx hs okx sm
      exact run_plain rfl (y_lss (kp (sm 21 rfl) hs q46) (kp (sm 20 rfl) hs q56))
    intro a12 s8 D8
    have ok10 := D8.ok
    have F10 := F9.step0 D8.stp
    have q57 : At (Ty.nat j) s8 a12 (.tmp 21) := D8.kt q46 rfl
    have q58 : At (Ty.nat (lessN (r.getD i 0) ((r.drop (i + 1)).take j))) s8 a12 (.tmp 6) := D8.kt q47 rfl
    have q59 : At (Ty.nat i) s8 a12 (.tmp 11) := D8.kt q48 rfl
    have q60 : At (Ty.nat q) s8 a12 (.tmp 3) := D8.kt q49 rfl
    have q61 : At (Ty.lst Ty.int r) s8 a12 (.tmp 0) := D8.kt q50 rfl
    have q62 : At (Ty.lst Ty.int r) s8 a12 (.tmp 9) := D8.kt q51 rfl
    have q63 : At (Ty.nat (List.length r)) s8 a12 (.tmp 10) := D8.kt q52 rfl
    have q64 : At (Ty.nat i) s8 a12 (.tmp 4) := D8.kt q53 rfl
    have q65 : At (Ty.int (r.getD i 0)) s8 a12 (.tmp 5) := D8.kt q54 rfl
    have q66 : At (Ty.lst Ty.int (r.drop (i + 1))) s8 a12 (.tmp 19) := D8.kt q55 rfl
    have q67 : At (Ty.nat (List.length (r.drop (i + 1)))) s8 a12 (.tmp 20) := D8.kt q56 rfl
    have q68 : At (Ty.bool (decide (((j : Nat) : Int) < (((List.length (r.drop (i + 1))) : Nat) : Int)))) s8 a12 (.tmp 22) := D8.done 0
    clear D8
    refine tn ?_
    refine wp_seq ?_
    refine cond_p (p := (((j : Nat) : Int) < (((List.length (r.drop (i + 1))) : Nat) : Int))) q68 (fun c2 => ?_) (fun c2 => ?_)
    ·
     refine wp_skip ?_
     refine tn ?_
     refine wp_seq ?_
     refine wp_block ?_
     refine wp_seq ?_
     refine reg (a := a12) (σ := s8) rfl (fun i_ => List.getD [(Ty.pr (Ty.ref [(Ty.int ((r.drop (i + 1)).getD j 0))])), (Ty.pr (Ty.int ((r.drop (i + 1)).getD j 0))), (Ty.pr (Ty.int ((r.drop (i + 1)).getD j 0)))] i_ Pr.any) ok10 rfl ⟨?_, ?_, ?_, trivial⟩ ?_
     · intro ax tx hs okx sm
       exact run_plain rfl (y_index1 Try.underlying34 Try.inf3 (kp (sm 19 rfl) hs q66) (kp (sm 21 rfl) hs q57) (by omega) (lst_get Ty.int (r.drop (i + 1)) 0 j (by omega)))
     · intro ax tx hs okx sm d0
       have e0 : At (Ty.ref [(Ty.int ((r.drop (i + 1)).getD j 0))]) tx ax (.tmp 23) := d0 rfl
       exact run_plain rfl (y_load Try.underlying3 rfl e0 rfl)
     · intro ax tx hs okx sm d0 d1 d2
       have e1 : At (Ty.int ((r.drop (i + 1)).getD j 0)) tx ax (.tmp 24) := d0 rfl
       have e0 : At (Ty.ref [(Ty.int ((r.drop (i + 1)).getD j 0))]) tx ax (.tmp 23) := d1 rfl
       exact run_plain rfl (y_assign e1)
     intro a13 s9 D9
     have ok11 := D9.ok
     have F11 := F10.step0 D9.stp
     have q69 : At (Ty.nat j) s9 a13 (.tmp 21) := D9.kt q57 rfl
     have q70 : At (Ty.nat (lessN (r.getD i 0) ((r.drop (i + 1)).take j))) s9 a13 (.tmp 6) := D9.kt q58 rfl
     have q71 : At (Ty.nat i) s9 a13 (.tmp 11) := D9.kt q59 rfl
     have q72 : At (Ty.nat q) s9 a13 (.tmp 3) := D9.kt q60 rfl
     have q73 : At (Ty.lst Ty.int r) s9 a13 (.tmp 0) := D9.kt q61 rfl
     have q74 : At (Ty.lst Ty.int r) s9 a13 (.tmp 9) := D9.kt q62 rfl
     have q75 : At (Ty.nat (List.length r)) s9 a13 (.tmp 10) := D9.kt q63 rfl
     have q76 : At (Ty.nat i) s9 a13 (.tmp 4) := D9.kt q64 rfl
     have q77 : At (Ty.int (r.getD i 0)) s9 a13 (.tmp 5) := D9.kt q65 rfl
     have q78 : At (Ty.lst Ty.int (r.drop (i + 1))) s9 a13 (.tmp 19) := D9.kt q66 rfl
     have q79 : At (Ty.nat (List.length (r.drop (i + 1)))) s9 a13 (.tmp 20) := D9.kt q67 rfl
     have q80 : At (Ty.int ((r.drop (i + 1)).getD j 0)) s9 a13 (.tmp 8) := D9.done 2
     clear D9
     refine tn ?_
     refine wp_seq ?_
     refine reg (a := a13) (σ := s9) rfl (fun i_ => List.getD [(Ty.pr (Ty.int ((r.drop (i + 1)).getD j 0))), (Ty.pr (Ty.int (r.getD i 0))), (Ty.pr (Ty.bool (decide (((r.drop (i + 1)).getD j 0) < (r.getD i 0)))))] i_ Pr.any) ok11 rfl ⟨?_, ?_, ?_, trivial⟩ ?_
     · intro ax tx hs okx sm
       exact run_plain rfl (y_move (kp (sm 8 rfl) hs q80))
     · intro ax tx hs okx sm
       exact run_plain rfl (y_move (kp (sm 5 rfl) hs q77))
     · intro ax tx hs okx sm d0 d1
       have e0 : At (Ty.int ((r.drop (i + 1)).getD j 0)) tx ax (.tmp 25) := d0 rfl
       have e1 : At (Ty.int (r.getD i 0)) tx ax (.tmp 26) := d1 rfl
       exact run_plain rfl (y_lss e0 e1)
     intro a14 s10 D10
     have ok12 := D10.ok
     have F12 := F11.step0 D10.stp
     have q81 : At (Ty.nat j) s10 a14 (.tmp 21) := D10.kt q69 rfl
     have q82 : At (Ty.nat (lessN (r.getD i 0) ((r.drop (i + 1)).take j))) s10 a14 (.tmp 6) := D10.kt q70 rfl
     have q83 : At (Ty.nat i) s10 a14 (.tmp 11) := D10.kt q71 rfl
     have q84 : At (Ty.nat q) s10 a14 (.tmp 3) := D10.kt q72 rfl
     have q85 : At (Ty.lst Ty.int r) s10 a14 (.tmp 0) := D10.kt q73 rfl
     have q86 : At (Ty.lst Ty.int r) s10 a14 (.tmp 9) := D10.kt q74 rfl
     have q87 : At (Ty.nat (List.length r)) s10 a14 (.tmp 10) := D10.kt q75 rfl
     have q88 : At (Ty.nat i) s10 a14 (.tmp 4) := D10.kt q76 rfl
     have q89 : At (Ty.int (r.getD i 0)) s10 a14 (.tmp 5) := D10.kt q77 rfl
     have q90 : At (Ty.lst Ty.int (r.drop (i + 1))) s10 a14 (.tmp 19) := D10.kt q78 rfl
     have q91 : At (Ty.nat (List.length (r.drop (i + 1)))) s10 a14 (.tmp 20) := D10.kt q79 rfl
     have q92 : At (Ty.bool (decide (((r.drop (i + 1)).getD j 0) < (r.getD i 0)))) s10 a14 (.tmp 27) := D10.done 2
     clear D10
     refine tn ?_
     refine cond_p (p := (((r.drop (i + 1)).getD j 0) < (r.getD i 0))) q92 (fun c3 => ?_) (fun c3 => ?_)
     ·
      refine reg (a := a14) (σ := s10) rfl (fun i_ => List.getD [(Ty.pr (Ty.nat (lessN (r.getD i 0) ((r.drop (i + 1)).take j)))), (Ty.pr (Ty.nat ((lessN (r.getD i 0) ((r.drop (i + 1)).take j)) + 1))), (Ty.pr (Ty.nat ((lessN (r.getD i 0) ((r.drop (i + 1)).take j)) + 1)))] i_ Pr.any) ok12 rfl ⟨?_, ?_, ?_, trivial⟩ ?_
      · intro ax tx hs okx sm
        exact run_plain rfl (y_move (kp (sm 6 rfl) hs q82))
      · intro ax tx hs okx sm d0
        have e0 : At (Ty.nat (lessN (r.getD i 0) ((r.drop (i + 1)).take j))) tx ax (.tmp 28) := d0 rfl
        exact run_plain rfl ((y_add e0 rfl (w64 (by omega) (by omega))).mono (fun τ _ h => cvi (σ := τ) (by first | omega | exact (Int.natCast_mul _ _).symm) h))
      · intro ax tx hs okx sm d0 d1 d2
        have e1 : At (Ty.nat ((lessN (r.getD i 0) ((r.drop (i + 1)).take j)) + 1)) tx ax (.tmp 29) := d0 rfl
        have e0 : At (Ty.nat (lessN (r.getD i 0) ((r.drop (i + 1)).take j))) tx ax (.tmp 28) := d1 rfl
        exact run_plain rfl (y_assign e1)
      intro a15 s11 D11
      have ok13 := D11.ok
      have F13 := F12.step0 D11.stp
      have q93 : At (Ty.nat j) s11 a15 (.tmp 21) := D11.kt q81 rfl
      have q94 : At (Ty.nat i) s11 a15 (.tmp 11) := D11.kt q83 rfl
      have q95 : At (Ty.nat q) s11 a15 (.tmp 3) := D11.kt q84 rfl
      have q96 : At (Ty.lst Ty.int r) s11 a15 (.tmp 0) := D11.kt q85 rfl
      have q97 : At (Ty.lst Ty.int r) s11 a15 (.tmp 9) := D11.kt q86 rfl
      have q98 : At (Ty.nat (List.length r)) s11 a15 (.tmp 10) := D11.kt q87 rfl
      have q99 : At (Ty.nat i) s11 a15 (.tmp 4) := D11.kt q88 rfl
      have q100 : At (Ty.int (r.getD i 0)) s11 a15 (.tmp 5) := D11.kt q89 rfl
      have q101 : At (Ty.lst Ty.int (r.drop (i + 1))) s11 a15 (.tmp 19) := D11.kt q90 rfl
      have q102 : At (Ty.nat (List.length (r.drop (i + 1)))) s11 a15 (.tmp 20) := D11.kt q91 rfl
      have q103 : At (Ty.nat ((lessN (r.getD i 0) ((r.drop (i + 1)).take j)) + 1)) s11 a15 (.tmp 6) := D11.done 2
      clear D11
      refine bn ?_
      refine tn ?_
      refine reg (a := a15) (σ := s11) rfl (fun i_ => List.getD [(Ty.pr (Ty.nat (j + 1))), (Ty.pr (Ty.nat (j + 1)))] i_ Pr.any) ok13 rfl ⟨?_, ?_, trivial⟩ ?_
      · intro ax tx hs okx sm
        exact run_plain rfl ((y_add (kp (sm 21 rfl) hs q93) rfl (w64 (by omega) (by omega))).mono (fun τ _ h => cvi (σ := τ) (by first | omega | exact (Int.natCast_mul _ _).symm) h))
      · intro ax tx hs okx sm d0
        have e0 : At (Ty.nat (j + 1)) tx ax (.tmp 30) := d0 rfl
        exact run_plain rfl (y_move e0)
      intro a16 s12 D12
      have ok14 := D12.ok
      have F14 := F13.step0 D12.stp
      have q104 : At (Ty.nat i) s12 a16 (.tmp 11) := D12.kt q94 rfl
      have q105 : At (Ty.nat q) s12 a16 (.tmp 3) := D12.kt q95 rfl
      have q106 : At (Ty.lst Ty.int r) s12 a16 (.tmp 0) := D12.kt q96 rfl
      have q107 : At (Ty.lst Ty.int r) s12 a16 (.tmp 9) := D12.kt q97 rfl
      have q108 : At (Ty.nat (List.length r)) s12 a16 (.tmp 10) := D12.kt q98 rfl
      have q109 : At (Ty.nat i) s12 a16 (.tmp 4) := D12.kt q99 rfl
      have q110 : At (Ty.int (r.getD i 0)) s12 a16 (.tmp 5) := D12.kt q100 rfl
      have q111 : At (Ty.lst Ty.int (r.drop (i + 1))) s12 a16 (.tmp 19) := D12.kt q101 rfl
      have q112 : At (Ty.nat (List.length (r.drop (i + 1)))) s12 a16 (.tmp 20) := D12.kt q102 rfl
      have q113 : At (Ty.nat ((lessN (r.getD i 0) ((r.drop (i + 1)).take j)) + 1)) s12 a16 (.tmp 6) := D12.kt q103 rfl
      have q114 : At (Ty.nat (j + 1)) s12 a16 (.tmp 21) := D12.done 1
      clear D12
      exact tn ⟨(r.drop (i + 1)).length - ((j+1)), by omega, s12, (j+1), rfl, F14, ok14, (cvi (by (first | rfl | omega | (simp_all; done) | (simp_all; omega))) q114), (cvi (by (rw [lessN_snoc _ _ _ (by omega), if_pos (by assumption)])) q113), q104, q105, q106, q107, q108, q109, q110, q111, q112, by omega, rfl⟩
     ·
      refine wp_skip ?_
      refine bn ?_
      refine tn ?_
      refine reg (a := a14) (σ := s10) rfl (fun i_ => List.getD [(Ty.pr (Ty.nat (j + 1))), (Ty.pr (Ty.nat (j + 1)))] i_ Pr.any) ok12 rfl ⟨?_, ?_, trivial⟩ ?_
      · intro ax tx hs okx sm
        exact run_plain rfl ((y_add (kp (sm 21 rfl) hs q81) rfl (w64 (by omega) (by omega))).mono (fun τ _ h => cvi (σ := τ) (by first | omega | exact (Int.natCast_mul _ _).symm) h))
      · intro ax tx hs okx sm d0
        have e0 : At (Ty.nat (j + 1)) tx ax (.tmp 30) := d0 rfl
        exact run_plain rfl (y_move e0)
      intro a17 s13 D13
      have ok15 := D13.ok
      have F15 := F12.step0 D13.stp
      have q115 : At (Ty.nat (lessN (r.getD i 0) ((r.drop (i + 1)).take j))) s13 a17 (.tmp 6) := D13.kt q82 rfl
      have q116 : At (Ty.nat i) s13 a17 (.tmp 11) := D13.kt q83 rfl
      have q117 : At (Ty.nat q) s13 a17 (.tmp 3) := D13.kt q84 rfl
      have q118 : At (Ty.lst Ty.int r) s13 a17 (.tmp 0) := D13.kt q85 rfl
      have q119 : At (Ty.lst Ty.int r) s13 a17 (.tmp 9) := D13.kt q86 rfl
      have q120 : At (Ty.nat (List.length r)) s13 a17 (.tmp 10) := D13.kt q87 rfl
      have q121 : At (Ty.nat i) s13 a17 (.tmp 4) := D13.kt q88 rfl
      have q122 : At (Ty.int (r.getD i 0)) s13 a17 (.tmp 5) := D13.kt q89 rfl
      have q123 : At (Ty.lst Ty.int (r.drop (i + 1))) s13 a17 (.tmp 19) := D13.kt q90 rfl
      have q124 : At (Ty.nat (List.length (r.drop (i + 1)))) s13 a17 (.tmp 20) := D13.kt q91 rfl
      have q125 : At (Ty.nat (j + 1)) s13 a17 (.tmp 21) := D13.done 1
      clear D13
      exact tn ⟨(r.drop (i + 1)).length - ((j+1)), by omega, s13, (j+1), rfl, F15, ok15, (cvi (by (first | rfl | omega | (simp_all; done) | (simp_all; omega))) q125), (cvi (by (rw [lessN_snoc _ _ _ (by omega), if_neg (by assumption)]; rfl)) q115), q116, q117, q118, q119, q120, q121, q122, q123, q124, by omega, rfl⟩
    ·
     refine wp_exit ?_
     refine tx ?_
     refine tx ?_
     refine bx ?_
     refine tn ?_
     refine reg (a := a12) (σ := s8) rfl (fun i_ => List.getD [(Ty.pr (Ty.nat q)), (Ty.pr (Ty.lst Ty.int r)), (Ty.pr (Ty.nat (List.length r))), (Ty.pr (Ty.nat i)), (Ty.pr (Ty.nat ((List.length r) - i))), (Ty.pr (Ty.nat (q * ((List.length r) - i)))), (Ty.pr (Ty.nat (lessN (r.getD i 0) ((r.drop (i + 1)).take j)))), (Ty.pr (Ty.nat ((q * ((List.length r) - i)) + (lessN (r.getD i 0) ((r.drop (i + 1)).take j))))), (Ty.pr (Ty.nat ((q * ((List.length r) - i)) + (lessN (r.getD i 0) ((r.drop (i + 1)).take j)))))] i_ Pr.any) ok10 rfl ⟨?_, ?_, ?_, ?_, ?_, ?_, ?_, ?_, ?_, trivial⟩ ?_
     · intro ax tx hs okx sm
       exact run_plain rfl (y_move (kp (sm 3 rfl) hs q60))
     · intro ax tx hs okx sm
       exact run_plain rfl (y_move (kp (sm 0 rfl) hs q61))
     · intro ax tx hs okx sm d0
       have e1 : At (Ty.lst Ty.int r) tx ax (.tmp 32) := d0 rfl
       exact run_plain rfl (y_len Try.underlying34 e1)
     · intro ax tx hs okx sm
       exact run_plain rfl (y_move (kp (sm 4 rfl) hs q64))
     · intro ax tx hs okx sm d0 d1
       have e2 : At (Ty.nat (List.length r)) tx ax (.tmp 33) := d0 rfl
       have e3 : At (Ty.nat i) tx ax (.tmp 34) := d1 rfl
       exact run_plain rfl ((y_sub e2 e3 (w64 (by omega) (by omega))).mono (fun τ _ h => cvi (σ := τ) (by omega) h))
     · intro ax tx hs okx sm d0 d1
       have e0 : At (Ty.nat q) tx ax (.tmp 31) := d0 rfl
       have e4 : At (Ty.nat ((List.length r) - i)) tx ax (.tmp 35) := d1 rfl
       exact run_plain rfl ((y_mul e0 e4 (w64 (by omega) (by omega))).mono (fun τ _ h => cvi (σ := τ) (by first | omega | exact (Int.natCast_mul _ _).symm) h))
     · intro ax tx hs okx sm
       exact run_plain rfl (y_move (kp (sm 6 rfl) hs q58))
     · intro ax tx hs okx sm d0 d1
       have e5 : At (Ty.nat (q * ((List.length r) - i))) tx ax (.tmp 36) := d0 rfl
       have e6 : At (Ty.nat (lessN (r.getD i 0) ((r.drop (i + 1)).take j))) tx ax (.tmp 37) := d1 rfl
       exact run_plain rfl ((y_add e5 e6 (w64 (by omega) (by omega))).mono (fun τ _ h => cvi (σ := τ) (by first | omega | exact (Int.natCast_mul _ _).symm) h))
     · intro ax tx hs okx sm d0 d1 d2 d3 d4 d5 d6 d7 d8
       have e7 : At (Ty.nat ((q * ((List.length r) - i)) + (lessN (r.getD i 0) ((r.drop (i + 1)).take j)))) tx ax (.tmp 38) := d0 rfl
       have e0 : At (Ty.nat q) tx ax (.tmp 31) := d1 rfl
       have e1 : At (Ty.lst Ty.int r) tx ax (.tmp 32) := d2 rfl
       have e2 : At (Ty.nat (List.length r)) tx ax (.tmp 33) := d3 rfl
       have e3 : At (Ty.nat i) tx ax (.tmp 34) := d4 rfl
       have e4 : At (Ty.nat ((List.length r) - i)) tx ax (.tmp 35) := d5 rfl
       have e5 : At (Ty.nat (q * ((List.length r) - i))) tx ax (.tmp 36) := d6 rfl
       have e6 : At (Ty.nat (lessN (r.getD i 0) ((r.drop (i + 1)).take j))) tx ax (.tmp 37) := d7 rfl
       exact run_plain rfl (y_assign e7)
     intro a18 s14 D14
     have ok16 := D14.ok
     have F16 := F10.step0 D14.stp
     have q126 : At (Ty.nat i) s14 a18 (.tmp 11) := D14.kt q59 rfl
     have q127 : At (Ty.lst Ty.int r) s14 a18 (.tmp 0) := D14.kt q61 rfl
     have q128 : At (Ty.lst Ty.int r) s14 a18 (.tmp 9) := D14.kt q62 rfl
     have q129 : At (Ty.nat (List.length r)) s14 a18 (.tmp 10) := D14.kt q63 rfl
     have q130 : At (Ty.nat ((q * ((List.length r) - i)) + (lessN (r.getD i 0) ((r.drop (i + 1)).take j)))) s14 a18 (.tmp 3) := D14.done 8
     clear D14
     refine bn ?_
     refine tn ?_
     refine reg (a := a18) (σ := s14) rfl (fun i_ => List.getD [(Ty.pr (Ty.nat (i + 1))), (Ty.pr (Ty.nat (i + 1)))] i_ Pr.any) ok16 rfl ⟨?_, ?_, trivial⟩ ?_
     · intro ax tx hs okx sm
       exact run_plain rfl ((y_add (kp (sm 11 rfl) hs q126) rfl (w64 (by omega) (by omega))).mono (fun τ _ h => cvi (σ := τ) (by first | omega | exact (Int.natCast_mul _ _).symm) h))
     · intro ax tx hs okx sm d0
       have e0 : At (Ty.nat (i + 1)) tx ax (.tmp 39) := d0 rfl
       exact run_plain rfl (y_move e0)
     intro a19 s15 D15
     have ok17 := D15.ok
     have F17 := F16.step0 D15.stp
     have q131 : At (Ty.lst Ty.int r) s15 a19 (.tmp 0) := D15.kt q127 rfl
     have q132 : At (Ty.lst Ty.int r) s15 a19 (.tmp 9) := D15.kt q128 rfl
     have q133 : At (Ty.nat (List.length r)) s15 a19 (.tmp 10) := D15.kt q129 rfl
     have q134 : At (Ty.nat ((q * ((List.length r) - i)) + (lessN (r.getD i 0) ((r.drop (i + 1)).take j)))) s15 a19 (.tmp 3) := D15.kt q130 rfl
     have q135 : At (Ty.nat (i + 1)) s15 a19 (.tmp 11) := D15.done 1
     clear D15
     obtain rfl : j = (r.drop (i + 1)).length := (by omega)
     exact tn ⟨r.length - ((i+1)), by omega, s15, (i+1), (q * (r.length - i) + lessN (r.getD i 0) (r.drop (i + 1))), rfl, F17, ok17, (cvi (by (first | rfl | omega | (simp_all; done) | (simp_all; omega))) q135), (cvi (by (rw [List.take_length])) q134), q131, q132, q133, by omega, place_step (by omega) hq, rfl⟩
  ·
   refine wp_exit ?_
   refine tx ?_
   refine tx ?_
   refine bx ?_
   refine tn ?_
   refine wp_seq ?_
   refine reg (a := a6) (σ := s4) rfl (fun i_ => List.getD [(Ty.pr (Ty.nat q)), (Ty.pr (Ty.nat q))] i_ Pr.any) ok5 rfl ⟨?_, ?_, trivial⟩ ?_
   · intro ax tx hs okx sm
     exact run_plain rfl (y_move (kp (sm 3 rfl) hs q15))
   · intro ax tx hs okx sm d0 d1
     have e0 : At (Ty.nat q) tx ax (.tmp 40) := d0 rfl
     exact run_plain rfl (y_assign e0)
   intro a20 s16 D16
   have ok18 := D16.ok
   have F18 := F5.step0 D16.stp
   have q136 : At (Ty.nat q) s16 a20 (.tmp 2) := D16.done 1
   clear D16
   refine tn ?_
   refine wp_ret ?_
   exact retL1 rfl ok18 F18 (cvi (by (obtain rfl : i = r.length := (by omega); exact congrArg _ (place_end hq))) q136)


set_option maxHeartbeats 4000000 in
set_option maxRecDepth 100000 in
theorem rowRank_fn (r : List Int) (σ : GW)  (v0 : Value) (hv0 : Ty.has (Ty.lst Ty.int r) σ v0)   :
    FnC Try.prog 41 #[v0] σ (Ty.tup2 (Ty.nat (if rowMay r = 0 then rankL r else 0)) (Ty.int (rowMay r))) := by
 refine fn_intro0 Try.func41 rfl Try.ntmps41 (Nat.le_of_ble_eq_true rfl) (fun s0 a0 hle F0 ok0 hargs => ?_)
 have p0 : At (Ty.lst Ty.int r) s0 a0 (.tmp 0) := by have e := hargs 0 _ rfl; show Ty.has _ _ _; rw [e]; exact Ty.up _ hle hv0
 have b1 := sl_le p0
 clear hargs
 refine wp_seq ?_
 refine reg (a := a0) (σ := s0) rfl (fun i_ => List.getD [(Ty.pr (Ty.int (0 : Int))), (Ty.pr (Ty.int (0 : Int)))] i_ Pr.any) ok0 rfl ⟨?_, ?_, trivial⟩ ?_
 · intro ax tx hs okx sm
   exact run_plain rfl (y_assign rfl)
 · intro ax tx hs okx sm d0
   have e0 : At (Ty.int (0 : Int)) tx ax (.tmp 2) := d0 rfl
   exact run_plain rfl (y_assign rfl)
 intro a1 s1 D1
 have ok1 := D1.ok
 have F1 := F0.step0 D1.stp
 have q1 : At (Ty.lst Ty.int r) s1 a1 (.tmp 0) := D1.kt p0 rfl
 clear D1
 refine tn ?_
 refine wp_seq ?_
 refine wp_seq ?_
 refine reg (a := a1) (σ := s1) rfl (fun i_ => List.getD [(Ty.pr (Ty.lst Ty.int r)), (Ty.pr (Ty.int (rowMay r))), (Ty.pr (Ty.int (rowMay r)))] i_ Pr.any) ok1 rfl ⟨?_, ?_, ?_, trivial⟩ ?_
 · intro ax tx hs okx sm
   exact run_plain rfl (y_move (kp (sm 0 rfl) hs q1))
 · intro ax tx hs okx sm d0
   have e0 : At (Ty.lst Ty.int r) tx ax (.tmp 5) := d0 rfl
   exact run_plain rfl (y_call #[ax.eval (.tmp 5)] Try.func44 rfl rfl (by simp only [List.map_toArray, List.map_cons, List.map_nil]) (rowCheck_fn (r) _ _ e0 ))
 · intro ax tx hs okx sm d0 d1 d2 d3
   have e1 : At (Ty.int (rowMay r)) tx ax (.tmp 6) := d0 rfl
   have e0 : At (Ty.lst Ty.int r) tx ax (.tmp 5) := d2 rfl
   exact run_plain rfl (y_assign e1)
 intro a2 s2 D2
 have ok2 := D2.ok
 have F2 := F1.step0 D2.stp
 have q2 : At (Ty.lst Ty.int r) s2 a2 (.tmp 0) := D2.kt q1 rfl
 have q3 : At (Ty.int (rowMay r)) s2 a2 (.tmp 4) := D2.done 2
 clear D2
 refine tn ?_
 refine wp_seq ?_
 refine reg (a := a2) (σ := s2) rfl (fun i_ => List.getD [(Ty.pr (Ty.int (rowMay r))), (Ty.pr (Ty.bool (decide ((rowMay r) ≠ (0 : Int)))))] i_ Pr.any) ok2 rfl ⟨?_, ?_, trivial⟩ ?_
 · intro ax tx hs okx sm
   exact run_plain rfl (y_move (kp (sm 4 rfl) hs q3))
 · intro ax tx hs okx sm d0
   have e0 : At (Ty.int (rowMay r)) tx ax (.tmp 7) := d0 rfl
   exact run_plain rfl (y_neq e0 rfl)
 intro a3 s3 D3
 have ok3 := D3.ok
 have F3 := F2.step0 D3.stp
 have q4 : At (Ty.lst Ty.int r) s3 a3 (.tmp 0) := D3.kt q2 rfl
 have q5 : At (Ty.int (rowMay r)) s3 a3 (.tmp 4) := D3.kt q3 rfl
 have q6 : At (Ty.bool (decide ((rowMay r) ≠ (0 : Int)))) s3 a3 (.tmp 8) := D3.done 1
 clear D3
 refine tn ?_
 refine cond_p (p := ((rowMay r) ≠ (0 : Int))) q6 (fun c1 => ?_) (fun c1 => ?_)
 ·
  refine wp_seq ?_
  refine reg (a := a3) (σ := s3) rfl (fun i_ => List.getD [(Ty.pr (Ty.int (rowMay r))), (Ty.pr (Ty.int (0 : Int))), (Ty.pr (Ty.int (rowMay r)))] i_ Pr.any) ok3 rfl ⟨?_, ?_, ?_, trivial⟩ ?_
  · intro ax tx hs okx sm d0
    exact run_plain rfl (y_move (kp (sm 4 rfl) hs q5))
  · intro ax tx hs okx sm d0
    exact run_plain rfl (y_assign rfl)
  · intro ax tx hs okx sm d0 d1 d2 d3
    have e0 : At (Ty.int (rowMay r)) tx ax (.tmp 9) := d0 rfl
    have e1 : At (Ty.int (0 : Int)) tx ax (.tmp 2) := d1 rfl
    exact run_plain rfl (y_assign e0)
  intro a4 s4 D4
  have ok4 := D4.ok
  have F4 := F3.step0 D4.stp
  have q7 : At (Ty.int (0 : Int)) s4 a4 (.tmp 2) := D4.done 1
  have q8 : At (Ty.int (rowMay r)) s4 a4 (.tmp 3) := D4.done 2
  clear D4
  refine tn ?_
  refine wp_ret ?_
  refine tr ?_
  exact retL2 rfl ok4 F4 (hasT2 (cvi (by (rw [if_neg c1]; rfl)) q7) q8)
 ·
  have h0 := Classical.not_not.1 c1; have hr := rowMay_ok.1 h0; have hrl := hr.le; have h12 : ∀ i, i < r.length → 0 ≤ r.getD i 0 ∧ r.getD i 0 < 12 := fun i hi => hr.lt12 hi
  refine wp_skip ?_
  refine tn ?_
  refine wp_seq ?_
  refine reg (a := a3) (σ := s3) rfl (fun i_ => List.getD [(Ty.pr (Ty.lst Ty.int r)), (Ty.pr (Ty.nat (rankL r))), (Ty.pr (Ty.nat (rankL r))), (Ty.pr (Ty.int (0 : Int)))] i_ Pr.any) ok3 rfl ⟨?_, ?_, ?_, ?_, trivial⟩ ?_
  · intro ax tx hs okx sm
    exact run_plain rfl (y_move (kp (sm 0 rfl) hs q4))
  · intro ax tx hs okx sm d0
    have e0 : At (Ty.lst Ty.int r) tx ax (.tmp 10) := d0 rfl
    exact run_plain rfl (y_call #[ax.eval (.tmp 10)] Try.func94 rfl rfl (by simp only [List.map_toArray, List.map_cons, List.map_nil]) (rowPlace_fn (r) _ _ e0 (by omega)))
  · intro ax tx hs okx sm d0 d1 d2 d3
    have e1 : At (Ty.nat (rankL r)) tx ax (.tmp 11) := d0 rfl
    have e0 : At (Ty.lst Ty.int r) tx ax (.tmp 10) := d2 rfl
    exact run_plain rfl (y_assign e1)
  · intro ax tx hs okx sm d0 d1 d2 d3
    have e2 : At (Ty.nat (rankL r)) tx ax (.tmp 2) := d0 rfl
    have e0 : At (Ty.lst Ty.int r) tx ax (.tmp 10) := d1 rfl
    have e1 : At (Ty.nat (rankL r)) tx ax (.tmp 11) := d2 rfl
    exact run_plain rfl (y_assign rfl)
  intro a5 s5 D5
  have ok5 := D5.ok
  have F5 := F3.step0 D5.stp
  have q9 : At (Ty.nat (rankL r)) s5 a5 (.tmp 2) := D5.done 2
  have q10 : At (Ty.int (0 : Int)) s5 a5 (.tmp 3) := D5.done 3
  clear D5
  refine tn ?_
  refine wp_ret ?_
  exact retL2 rfl ok5 F5 (hasT2 (cvi (by (rw [if_pos h0])) q9) (cvi (by (exact h0.symm)) q10))


set_option maxRecDepth 100000 in
theorem inverse_fn (r : List Int) (σ : GW) (v0 : Value) (hv0 : Ty.has (Ty.lst Ty.int r) σ v0) (hr : IsRow r) :
    FnC Try.prog 95 #[v0] σ (Ty.lst Ty.int (undoL r)) := by
 have hln := hr.le
 refine fn_intro Try.func95 rfl Try.ntmps95 (Nat.le_of_ble_eq_true rfl) (fun s0 a0 hle F0 ok0 hargs => ?_)
 have p0 : At (Ty.lst Ty.int r) s0 a0 (.tmp 0) := by have e := hargs 0 _ rfl; show Ty.has _ _ _; rw [e]; exact Ty.up _ hle hv0
 have b1 := sl_le p0
 clear hargs
 refine wp_seq ?_
 refine reg (a := a0) (σ := s0) rfl (fun i_ => List.getD [(Ty.pr (Ty.val (Value.slice none 0 0)))] i_ Pr.any) ok0 rfl ⟨?_, trivial⟩ ?_
 · intro ax tx hs okx sm
   exact run_plain rfl (y_assign rfl)
 intro a1 s1 D1
 have ok1 := D1.ok
 have F1 := F0.step0 D1.stp
 have q1 : At (Ty.lst Ty.int r) s1 a1 (.tmp 0) := D1.kt p0 rfl
 clear D1
 refine tn ?_
 refine wp_seq ?_
 refine reg (a := a1) (σ := s1) rfl (fun i_ => List.getD [(Ty.pr (Ty.lst Ty.int r)), (Ty.pr (Ty.nat (List.length r))), (Pr.own 11 3 1 (List.length r) (List.map Ty.int (List.replicate (List.length r) 0))), (Pr.own 11 3 1 (List.length r) (List.map Ty.int (List.replicate (List.length r) 0)))] i_ Pr.any) ok1 rfl ⟨?_, ?_, ?_, ?_, trivial⟩ ?_
 · intro ax tx hs okx sm
   exact run_plain rfl (y_move (kp (sm 0 rfl) hs q1))
 · intro ax tx hs okx sm d0
   have e0 : At (Ty.lst Ty.int r) tx ax (.tmp 6) := d0 rfl
   exact run_plain rfl (y_len Try.underlying34 e0)
 · intro ax tx hs okx sm d0 d1
   have e1 : At (Ty.nat (List.length r)) tx ax (.tmp 7) := d0 rfl
   exact run_plain rfl ((y_make (k := 11) (T := Ty.int 0) (n := (List.length r)) Try.underlying34 Try.inf3 rfl (fun _ => rfl) e1 e1 (by omega) (by omega)).mono (fun _ _ h => cvo (by simp) (by simp) h))
 · intro ax tx hs okx sm d0 d1 d2 d3
   have e2 : (Pr.own 11 3 1 (List.length r) (List.map Ty.int (List.replicate (List.length r) 0))).has tx (ax.eval (.tmp 8)) := d0 rfl
   have e0 : At (Ty.lst Ty.int r) tx ax (.tmp 6) := d1 rfl
   have e1 : At (Ty.nat (List.length r)) tx ax (.tmp 7) := d2 rfl
   exact run_plain rfl (y_assign e2)
 intro a2 s2 D2
 have ok2 := D2.ok
 have F2 := F1.step0 D2.stp
 have q2 : At (Ty.lst Ty.int r) s2 a2 (.tmp 0) := D2.kt q1 rfl
 have q3 : (Pr.own 11 3 1 (List.length r) (List.map Ty.int (List.replicate (List.length r) 0))).has s2 (a2.eval (.tmp 3)) := D2.done 3
 clear D2
 refine tn ?_
 refine wp_seq ?_
 refine wp_seq ?_
 refine reg (a := a2) (σ := s2) rfl (fun i_ => List.getD [(Ty.pr (Ty.lst Ty.int r)), (Ty.pr (Ty.nat (List.length r))), (Ty.pr (Ty.int (0 : Int)))] i_ Pr.any) ok2 rfl ⟨?_, ?_, ?_, trivial⟩ ?_
 · intro ax tx hs okx sm
   exact run_plain rfl (y_move (kp (sm 0 rfl) hs q2))
 · intro ax tx hs okx sm d0
   have e0 : At (Ty.lst Ty.int r) tx ax (.tmp 9) := d0 rfl
   exact run_plain rfl (y_len Try.underlying34 e0)
 · intro ax tx hs okx sm
   exact run_plain rfl (y_move rfl)
 intro a3 s3 D3
 have ok3 := D3.ok
 have F3 := F2.step0 D3.stp
 have q4 : (Pr.own 11 3 1 (List.length r) (List.map Ty.int (List.replicate (List.length r) 0))).has s3 (a3.eval (.tmp 3)) := D3.ko q3 rfl
 have q5 : At (Ty.lst Ty.int r) s3 a3 (.tmp 9) := D3.done 0
 have q6 : At (Ty.nat (List.length r)) s3 a3 (.tmp 10) := D3.done 1
 have q7 : At (Ty.int (0 : Int)) s3 a3 (.tmp 11) := D3.done 2
 clear D3
 refine tn ?_
 refine wp_block ?_
 refine loop (fun n1 a4 w1 => ∃ (t1 : GW) (k : Nat), t1.w = w1 ∧ From s0 t1 ∧ Ok 22 a4 ∧ At (Ty.nat k) t1 a4 (.tmp 11) ∧ (Pr.own 11 3 1 (List.length (undoTo r k)) (List.map Ty.int (undoTo r k))).has t1 (a4.eval (.tmp 3)) ∧ At (Ty.lst Ty.int r) t1 a4 (.tmp 9) ∧ At (Ty.nat (List.length r)) t1 a4 (.tmp 10) ∧ (k ≤ r.length) ∧ n1 = r.length - k) (r.length - (0)) ?_ ?_
 ·
  exact ⟨s3, 0, rfl, F3, ok3, (cvi (by (first | rfl | omega | (simp_all; done) | (simp_all; omega))) q7), (cvo (by (simp [undoTo_zero])) (by (simp [undoTo_zero])) q4), q5, q6, by omega, rfl⟩
 ·
  rintro n2 a5 w2 ⟨t2, k, rfl, F4, ok4, q8, q9, q10, q11, hk, rfl⟩
  have hp := undoTo_len r k
  refine wp_seq ?_
  refine reg (a := a5) (σ := t2) rfl (fun i_ => List.getD [(Ty.pr (Ty.bool (decide (((k : Nat) : Int) < (((List.length r) : Nat) : Int)))))] i_ Pr.any) ok4 rfl ⟨?_, trivial⟩ ?_
  · intro ax tx hs okx sm
    exact run_plain rfl (y_lss (kp (sm 11 rfl) hs q8) (kp (sm 10 rfl) hs q11))
  intro a6 s4 D4
  have ok5 := D4.ok
  have F5 := F4.step0 D4.stp
  have q12 : At (Ty.nat k) s4 a6 (.tmp 11) := D4.kt q8 rfl
  have q13 : (Pr.own 11 3 1 (List.length (undoTo r k)) (List.map Ty.int (undoTo r k))).has s4 (a6.eval (.tmp 3)) := D4.ko q9 rfl
  have q14 : At (Ty.lst Ty.int r) s4 a6 (.tmp 9) := D4.kt q10 rfl
  have q15 : At (Ty.nat (List.length r)) s4 a6 (.tmp 10) := D4.kt q11 rfl
  have q16 : At (Ty.bool (decide (((k : Nat) : Int) < (((List.length r) : Nat) : Int)))) s4 a6 (.tmp 12) := D4.done 0
  clear D4
  refine tn ?_
  refine wp_seq ?_
  refine cond_p (p := (((k : Nat) : Int) < (((List.length r) : Nat) : Int))) q16 (fun c1 => ?_) (fun c1 => ?_)
  ·
   have hq := hr.at (i := k) (by omega)
   refine wp_skip ?_
   refine tn ?_
   refine wp_seq ?_
   refine wp_block ?_
   refine wp_seq ?_
   refine reg (a := a6) (σ := s4) rfl (fun i_ => List.getD [(Ty.pr (Ty.nat k)), (Ty.pr (Ty.ref [(Ty.int (r.getD k 0))])), (Ty.pr (Ty.int (r.getD k 0))), (Ty.pr (Ty.nat k)), (Ty.pr (Ty.int (r.getD k 0)))] i_ Pr.any) ok5 rfl ⟨?_, ?_, ?_, ?_, ?_, trivial⟩ ?_
   · intro ax tx hs okx sm
     exact run_plain rfl (y_move (kp (sm 11 rfl) hs q12))
   · intro ax tx hs okx sm
     exact run_plain rfl (y_index1 Try.underlying34 Try.inf3 (kp (sm 9 rfl) hs q14) (kp (sm 11 rfl) hs q12) (by omega) (lst_get Ty.int r 0 k (by omega)))
   · intro ax tx hs okx sm d0
     have e1 : At (Ty.ref [(Ty.int (r.getD k 0))]) tx ax (.tmp 14) := d0 rfl
     exact run_plain rfl (y_load Try.underlying3 rfl e1 rfl)
   · intro ax tx hs okx sm d0 d1 d2 d3
     have e0 : At (Ty.nat k) tx ax (.tmp 13) := d0 rfl
     have e1 : At (Ty.ref [(Ty.int (r.getD k 0))]) tx ax (.tmp 14) := d2 rfl
     have e2 : At (Ty.int (r.getD k 0)) tx ax (.tmp 15) := d3 rfl
     exact run_plain rfl (y_assign e0)
   · intro ax tx hs okx sm d0 d1 d2 d3 d4 d5
     have e2 : At (Ty.int (r.getD k 0)) tx ax (.tmp 15) := d0 rfl
     have e3 : At (Ty.nat k) tx ax (.tmp 4) := d1 rfl
     have e0 : At (Ty.nat k) tx ax (.tmp 13) := d2 rfl
     have e1 : At (Ty.ref [(Ty.int (r.getD k 0))]) tx ax (.tmp 14) := d3 rfl
     exact run_plain rfl (y_assign e2)
   intro a7 s5 D5
   have ok6 := D5.ok
   have F6 := F5.step0 D5.stp
   have q17 : At (Ty.nat k) s5 a7 (.tmp 11) := D5.kt q12 rfl
   have q18 : (Pr.own 11 3 1 (List.length (undoTo r k)) (List.map Ty.int (undoTo r k))).has s5 (a7.eval (.tmp 3)) := D5.ko q13 rfl
   have q19 : At (Ty.lst Ty.int r) s5 a7 (.tmp 9) := D5.kt q14 rfl
   have q20 : At (Ty.nat (List.length r)) s5 a7 (.tmp 10) := D5.kt q15 rfl
   have q21 : At (Ty.nat k) s5 a7 (.tmp 4) := D5.done 3
   have q22 : At (Ty.int (r.getD k 0)) s5 a7 (.tmp 5) := D5.done 4
   clear D5
   refine tn ?_
   refine reg2 (a := a7) (σ := s5) rfl 4 (fun i_ => List.getD [(Ty.pr (Ty.val (a7.eval (.tmp 3)))), (Ty.pr (Ty.int (r.getD k 0))), (Ty.pr (Ty.nat k)), (Ty.pr (Ty.val (cellPtr (a7.eval (.tmp 3)) ((r.getD k 0)).toNat)))] i_ Pr.any) ok6 rfl (by decide) rfl ⟨?_, ?_, ?_, ?_, trivial⟩ ?_
   · intro ax tx hs okx sm
     exact run_plain rfl (y_move (sm 3 rfl))
   · intro ax tx hs okx sm
     exact run_plain rfl (y_move (kp (sm 5 rfl) hs q22))
   · intro ax tx hs okx sm
     exact run_plain rfl (y_move (kp (sm 4 rfl) hs q21))
   · intro ax tx hs okx sm d0 d1 d2 d3 d4
     have e0 : At (Ty.val (a7.eval (.tmp 3))) tx ax (.tmp 16) := d0 rfl
     have e1 : At (Ty.int (r.getD k 0)) tx ax (.tmp 17) := d1 rfl
     have e2 : At (Ty.nat k) tx ax (.tmp 18) := d4 rfl
     exact run_plain rfl (own_index1 (i := (r.getD k 0)) Try.underlying34 Try.inf3 ((Pr.own 11 3 1 (List.length (undoTo r k)) (List.map Ty.int (undoTo r k))).up hs q18) e0 e1 (by omega) (by omega))
   intro a8 s6 D6
   have ok7 := D6.ok
   have F7 := F6.step0 D6.stp
   have q23 := (Pr.own 11 3 1 (List.length (undoTo r k)) (List.map Ty.int (undoTo r k))).up D6.stp q18
   have q24 : At (Ty.nat k) s6 a8 (.tmp 11) := D6.kt q17 rfl
   have q25 : a8.eval (.tmp 3) = a7.eval (.tmp 3) := D6.same 3 rfl
   have q26 : At (Ty.lst Ty.int r) s6 a8 (.tmp 9) := D6.kt q19 rfl
   have q27 : At (Ty.nat (List.length r)) s6 a8 (.tmp 10) := D6.kt q20 rfl
   have q28 : At (Ty.nat k) s6 a8 (.tmp 18) := D6.done 2 (by decide)
   have q29 : At (Ty.val (cellPtr (a7.eval (.tmp 3)) ((r.getD k 0)).toNat)) s6 a8 (.tmp 19) := D6.done 3 (by decide)
   clear D6
   refine tail_step0 (m := 11) (R := (fun _ τ => Own τ 11 3 1 (a7.eval (.tmp 3)) (List.length (undoTo r k)) ((List.map Ty.int (undoTo r k)).set ((r.getD k 0)).toNat (Ty.nat k)))) rfl rfl (m_store Try.inf3 (by decide) q23 q29 (by simp only [List.length_map, List.length_set]; omega) q28 (one_val rfl)) (fun v1 s7 hs1 r1 => ?_)
   have F8 := F7.step hs1 (by decide)
   have q30 : At (Ty.nat k) s7 a8 (.tmp 11) := kpm hs1 (by decide) rfl q24
   have q31 : At (Ty.lst Ty.int r) s7 a8 (.tmp 9) := kpm hs1 (by decide) rfl q26
   have q32 : At (Ty.nat (List.length r)) s7 a8 (.tmp 10) := kpm hs1 (by decide) rfl q27
   have q33 : At (Ty.nat k) s7 a8 (.tmp 18) := kpm hs1 (by decide) rfl q28
   have q34 : (Pr.own 11 3 1 (List.length ((undoTo r k).set ((r.getD k 0)).toNat ((k : Nat) : Int))) (List.map Ty.int ((undoTo r k).set ((r.getD k 0)).toNat ((k : Nat) : Int)))).has s7 (a7.eval (.tmp 3)) := (cvo (by simp) (by simp) r1)
   refine wpList_nil ?_
   have q35 : (Pr.own 11 3 1 (List.length ((undoTo r k).set ((r.getD k 0)).toNat ((k : Nat) : Int))) (List.map Ty.int ((undoTo r k).set ((r.getD k 0)).toNat ((k : Nat) : Int)))).has s7 (a8.eval (.tmp 3)) := al q25 q34
   refine bn ?_
   refine tn ?_
   refine reg (a := a8) (σ := s7) rfl (fun i_ => List.getD [(Ty.pr (Ty.int (((k : Nat) : Int) + (1 : Int)))), (Ty.pr (Ty.int (((k : Nat) : Int) + (1 : Int))))] i_ Pr.any) ok7 rfl ⟨?_, ?_, trivial⟩ ?_
   · intro ax tx hs okx sm
     exact run_plain rfl (y_add (kp (sm 11 rfl) hs q30) rfl (w64 (by omega) (by omega)))
   · intro ax tx hs okx sm d0
     have e0 : At (Ty.int (((k : Nat) : Int) + (1 : Int))) tx ax (.tmp 20) := d0 rfl
     exact run_plain rfl (y_move e0)
   intro a10 s8 D7
   have ok9 := D7.ok
   have F9 := F8.step0 D7.stp
   have q36 : (Pr.own 11 3 1 (List.length ((undoTo r k).set ((r.getD k 0)).toNat ((k : Nat) : Int))) (List.map Ty.int ((undoTo r k).set ((r.getD k 0)).toNat ((k : Nat) : Int)))).has s8 (a10.eval (.tmp 3)) := D7.ko q35 rfl
   have q37 : At (Ty.lst Ty.int r) s8 a10 (.tmp 9) := D7.kt q31 rfl
   have q38 : At (Ty.nat (List.length r)) s8 a10 (.tmp 10) := D7.kt q32 rfl
   have q39 : At (Ty.int (((k : Nat) : Int) + (1 : Int))) s8 a10 (.tmp 11) := D7.done 1
   clear D7
   exact tn ⟨r.length - ((k+1)), by omega, s8, (k+1), rfl, F9, ok9, (cvi (by (first | rfl | omega | (simp_all; done) | (simp_all; omega))) q39), (cvo (by (rw [undoTo_step r k hr (by omega)])) (by (rw [undoTo_step r k hr (by omega)])) q36), q37, q38, by omega, rfl⟩
  ·
   refine wp_exit ?_
   refine tx ?_
   refine tx ?_
   refine bx ?_
   refine tn ?_
   refine wp_seq ?_
   refine reg (a := a6) (σ := s4) rfl (fun i_ => List.getD [(Ty.pr (Ty.val (a6.eval (.tmp 3)))), (Ty.pr (Ty.val (a6.eval (.tmp 3))))] i_ Pr.any) ok5 rfl ⟨?_, ?_, trivial⟩ ?_
   · intro ax tx hs okx sm
     exact run_plain rfl (y_move (sm 3 rfl))
   · intro ax tx hs okx sm d0 d1
     have e0 : At (Ty.val (a6.eval (.tmp 3))) tx ax (.tmp 21) := d0 rfl
     exact run_plain rfl (y_assign e0)
   intro a11 s9 D8
   have ok10 := D8.ok
   have F10 := F5.step0 D8.stp
   have q40 : (Pr.own 11 3 1 (List.length (undoTo r k)) (List.map Ty.int (undoTo r k))).has s9 (a11.eval (.tmp 2)) := al (show _ = _ from D8.done 1) ((Pr.own 11 3 1 (List.length (undoTo r k)) (List.map Ty.int (undoTo r k))).up D8.stp q13)
   clear D8
   refine tn ?_
   refine wp_ret ?_
   obtain ⟨t3, e1, h1, q41⟩ := Own.seal q40 (by decide)
   rw [← e1]
   have F11 := F10.step h1 (by decide)
   exact ret1 rfl ok10 F11 (cvt (by (obtain rfl : k = r.length := (by omega); rw [undoTo_all r hr])) q41)


set_option maxHeartbeats 4000000 in
set_option maxRecDepth 100000 in
theorem rowBack_fn (r : List Int) (σ : GW)  (v0 : Value) (hv0 : Ty.has (Ty.lst Ty.int r) σ v0)   :
    FnC Try.prog 42 #[v0] σ (Ty.tup2 (Ty.lst Ty.int (if rowMay r = 0 then undoL r else [])) (Ty.int (rowMay r))) := by
 refine fn_intro0 Try.func42 rfl Try.ntmps42 (Nat.le_of_ble_eq_true rfl) (fun s0 a0 hle F0 ok0 hargs => ?_)
 have p0 : At (Ty.lst Ty.int r) s0 a0 (.tmp 0) := by have e := hargs 0 _ rfl; show Ty.has _ _ _; rw [e]; exact Ty.up _ hle hv0
 have b1 := sl_le p0
 clear hargs
 refine wp_seq ?_
 refine reg (a := a0) (σ := s0) rfl (fun i_ => List.getD [(Ty.pr (Ty.val (Value.slice none 0 0))), (Ty.pr (Ty.int (0 : Int)))] i_ Pr.any) ok0 rfl ⟨?_, ?_, trivial⟩ ?_
 · intro ax tx hs okx sm
   exact run_plain rfl (y_assign rfl)
 · intro ax tx hs okx sm d0
   have e0 : At (Ty.val (Value.slice none 0 0)) tx ax (.tmp 2) := d0 rfl
   exact run_plain rfl (y_assign rfl)
 intro a1 s1 D1
 have ok1 := D1.ok
 have F1 := F0.step0 D1.stp
 have q1 : At (Ty.lst Ty.int r) s1 a1 (.tmp 0) := D1.kt p0 rfl
 clear D1
 refine tn ?_
 refine wp_seq ?_
 refine wp_seq ?_
 refine reg (a := a1) (σ := s1) rfl (fun i_ => List.getD [(Ty.pr (Ty.lst Ty.int r)), (Ty.pr (Ty.int (rowMay r))), (Ty.pr (Ty.int (rowMay r)))] i_ Pr.any) ok1 rfl ⟨?_, ?_, ?_, trivial⟩ ?_
 · intro ax tx hs okx sm
   exact run_plain rfl (y_move (kp (sm 0 rfl) hs q1))
 · intro ax tx hs okx sm d0
   have e0 : At (Ty.lst Ty.int r) tx ax (.tmp 5) := d0 rfl
   exact run_plain rfl (y_call #[ax.eval (.tmp 5)] Try.func44 rfl rfl (by simp only [List.map_toArray, List.map_cons, List.map_nil]) (rowCheck_fn (r) _ _ e0 ))
 · intro ax tx hs okx sm d0 d1 d2 d3
   have e1 : At (Ty.int (rowMay r)) tx ax (.tmp 6) := d0 rfl
   have e0 : At (Ty.lst Ty.int r) tx ax (.tmp 5) := d2 rfl
   exact run_plain rfl (y_assign e1)
 intro a2 s2 D2
 have ok2 := D2.ok
 have F2 := F1.step0 D2.stp
 have q2 : At (Ty.lst Ty.int r) s2 a2 (.tmp 0) := D2.kt q1 rfl
 have q3 : At (Ty.int (rowMay r)) s2 a2 (.tmp 4) := D2.done 2
 clear D2
 refine tn ?_
 refine wp_seq ?_
 refine reg (a := a2) (σ := s2) rfl (fun i_ => List.getD [(Ty.pr (Ty.int (rowMay r))), (Ty.pr (Ty.bool (decide ((rowMay r) ≠ (0 : Int)))))] i_ Pr.any) ok2 rfl ⟨?_, ?_, trivial⟩ ?_
 · intro ax tx hs okx sm
   exact run_plain rfl (y_move (kp (sm 4 rfl) hs q3))
 · intro ax tx hs okx sm d0
   have e0 : At (Ty.int (rowMay r)) tx ax (.tmp 7) := d0 rfl
   exact run_plain rfl (y_neq e0 rfl)
 intro a3 s3 D3
 have ok3 := D3.ok
 have F3 := F2.step0 D3.stp
 have q4 : At (Ty.lst Ty.int r) s3 a3 (.tmp 0) := D3.kt q2 rfl
 have q5 : At (Ty.int (rowMay r)) s3 a3 (.tmp 4) := D3.kt q3 rfl
 have q6 : At (Ty.bool (decide ((rowMay r) ≠ (0 : Int)))) s3 a3 (.tmp 8) := D3.done 1
 clear D3
 refine tn ?_
 refine cond_p (p := ((rowMay r) ≠ (0 : Int))) q6 (fun c1 => ?_) (fun c1 => ?_)
 ·
  refine wp_seq ?_
  refine reg (a := a3) (σ := s3) rfl (fun i_ => List.getD [(Ty.pr (Ty.int (rowMay r))), (Ty.pr (Ty.val (Value.slice none 0 0))), (Ty.pr (Ty.int (rowMay r)))] i_ Pr.any) ok3 rfl ⟨?_, ?_, ?_, trivial⟩ ?_
  · intro ax tx hs okx sm d0
    exact run_plain rfl (y_move (kp (sm 4 rfl) hs q5))
  · intro ax tx hs okx sm d0
    exact run_plain rfl (y_assign rfl)
  · intro ax tx hs okx sm d0 d1 d2 d3
    have e0 : At (Ty.int (rowMay r)) tx ax (.tmp 9) := d0 rfl
    have e1 : At (Ty.val (Value.slice none 0 0)) tx ax (.tmp 2) := d1 rfl
    exact run_plain rfl (y_assign e0)
  intro a4 s4 D4
  have ok4 := D4.ok
  have F4 := F3.step0 D4.stp
  have q7 : At (Ty.val (Value.slice none 0 0)) s4 a4 (.tmp 2) := D4.done 1
  have q8 : At (Ty.int (rowMay r)) s4 a4 (.tmp 3) := D4.done 2
  clear D4
  refine tn ?_
  refine wp_ret ?_
  refine tr ?_
  exact retL2 rfl ok4 F4 (hasT2 (nil_lst (by (rw [if_neg c1])) q7) q8)
 ·
  have h0 := Classical.not_not.1 c1; have hr := rowMay_ok.1 h0; have hrl := hr.le; have h12 : ∀ i, i < r.length → 0 ≤ r.getD i 0 ∧ r.getD i 0 < 12 := fun i hi => hr.lt12 hi
  refine wp_skip ?_
  refine tn ?_
  refine wp_seq ?_
  refine reg (a := a3) (σ := s3) rfl (fun i_ => List.getD [(Ty.pr (Ty.lst Ty.int r)), (Ty.pr (Ty.lst Ty.int (undoL r))), (Ty.pr (Ty.lst Ty.int (undoL r))), (Ty.pr (Ty.int (0 : Int)))] i_ Pr.any) ok3 rfl ⟨?_, ?_, ?_, ?_, trivial⟩ ?_
  · intro ax tx hs okx sm
    exact run_plain rfl (y_move (kp (sm 0 rfl) hs q4))
  · intro ax tx hs okx sm d0
    have e0 : At (Ty.lst Ty.int r) tx ax (.tmp 10) := d0 rfl
    exact run_plain rfl (y_call #[ax.eval (.tmp 10)] Try.func95 rfl rfl (by simp only [List.map_toArray, List.map_cons, List.map_nil]) (inverse_fn (r) _ _ e0 (by assumption)))
  · intro ax tx hs okx sm d0 d1 d2 d3
    have e1 : At (Ty.lst Ty.int (undoL r)) tx ax (.tmp 11) := d0 rfl
    have e0 : At (Ty.lst Ty.int r) tx ax (.tmp 10) := d2 rfl
    exact run_plain rfl (y_assign e1)
  · intro ax tx hs okx sm d0 d1 d2 d3
    have e2 : At (Ty.lst Ty.int (undoL r)) tx ax (.tmp 2) := d0 rfl
    have e0 : At (Ty.lst Ty.int r) tx ax (.tmp 10) := d1 rfl
    have e1 : At (Ty.lst Ty.int (undoL r)) tx ax (.tmp 11) := d2 rfl
    exact run_plain rfl (y_assign rfl)
  intro a5 s5 D5
  have ok5 := D5.ok
  have F5 := F3.step0 D5.stp
  have q9 : At (Ty.lst Ty.int (undoL r)) s5 a5 (.tmp 2) := D5.done 2
  have q10 : At (Ty.int (0 : Int)) s5 a5 (.tmp 3) := D5.done 3
  clear D5
  refine tn ?_
  refine wp_ret ?_
  exact retL2 rfl ok5 F5 (hasT2 (cvt (by (rw [if_pos h0])) q9) (cvi (by (exact h0.symm)) q10))

theorem Try.inf175 : Info Try.prog 175 (.pointer none) 1 8 := by unfold Info; kernel_rfl
theorem Try.inf178 : Info Try.prog 178 (.agg #[.pointer none, .slice none 0 0]) 2 32 := by unfold Info; kernel_rfl
theorem Try.fld178_0 : fieldOf Try.prog 178 0 = some (175, 0) := by kernel_rfl
set_option maxHeartbeats 4000000 in
set_option maxRecDepth 100000 in
theorem copyCheck_fn (b buf : Value) (nb : Bool) (σ : GW) (hlow : Low [40] σ) (v0 : Value) (hv0 : Ty.has (Ty.val b) σ v0) (ho_b : OwnPT 178 σ 40 b [(Ty.val (bAddr nb b)), (Ty.val buf)])  :
    FnL Try.prog 130 #[v0] σ [40] (fun v τ => True ∧ (OwnPT 178 τ 40 b [(Ty.val (bAddr false b)), (Ty.val buf)])) := by
 refine fn_introL hlow Try.func130 rfl Try.ntmps130 (Nat.le_of_ble_eq_true rfl) (fun a0 F0 ok0 hargs => ?_)
 have p0 : At (Ty.val b) σ a0 (.tmp 0) := by have e := hargs 0 _ rfl; show Ty.has _ _ _; rw [e]; exact hv0
 clear hargs
 refine wp_seq ?_
 refine reg (a := a0) (σ := σ) rfl (fun i_ => List.getD [(Ty.pr (Ty.val b)), (Ty.pr (Ty.val b)), (Ty.pr (Ty.val (ptrAt b 0))), (Ty.pr (Ty.val (bAddr nb b))), (Ty.pr (Ty.bool nb))] i_ Pr.any) ok0 rfl ⟨?_, ?_, ?_, ?_, ?_, trivial⟩ ?_
 · intro ax tx hs okx sm
   exact run_plain rfl (y_move (kp (sm 0 rfl) hs p0))
 · intro ax tx hs okx sm d0
   have e0 : At (Ty.val b) tx ax (.tmp 2) := d0 rfl
   exact run_plain rfl (y_nilp (OwnPT.toP (OwnPT.k0 ho_b hs)) e0)
 · intro ax tx hs okx sm d0
   have e1 : At (Ty.val b) tx ax (.tmp 3) := d0 rfl
   exact run_plain rfl (ownp_field Try.fld178_0 Try.inf175 (by decide) (OwnPT.toP (OwnPT.k0 ho_b hs)) e1)
 · intro ax tx hs okx sm d0
   have e2 : At (Ty.val (ptrAt b 0)) tx ax (.tmp 4) := d0 rfl
   exact run_plain rfl (ownp_load Try.underlying175 rfl (OwnPT.toP (OwnPT.k0 ho_b hs)) e2 rfl)
 · intro ax tx hs okx sm d0
   have e3 : At (Ty.val (bAddr nb b)) tx ax (.tmp 5) := d0 rfl
   exact run_plain rfl (y_bnil Try.underlying175 Try.inf178 (OwnPT.k0 ho_b hs) e3 rfl)
 intro a1 s1 D1
 have ok1 := D1.ok
 have F1 := F0.step0 D1.stp
 have q1 : At (Ty.val b) s1 a1 (.tmp 0) := D1.kt p0 rfl
 have o1 := OwnPT.k0 ho_b D1.stp
 have q2 : At (Ty.bool nb) s1 a1 (.tmp 6) := D1.done 4
 clear D1
 refine tn ?_
 refine cond_t q2 (fun c1 => ?_) (fun c1 => ?_)
 ·
  refine reg2 (a := a1) (σ := s1) rfl 7 (fun i_ => List.getD [(Ty.pr (Ty.val b)), (Ty.pr (Ty.val b)), (Ty.pr (Ty.val b)), (Ty.pr (Ty.val b)), (Ty.pr (Ty.val b)), (Ty.pr (Ty.val b)), (Ty.pr (Ty.val (ptrAt b 0)))] i_ Pr.any) ok1 rfl (by decide) rfl ⟨?_, ?_, ?_, ?_, ?_, ?_, ?_, trivial⟩ ?_
  · intro ax tx hs okx sm
    exact run_plain rfl (y_move (kp (sm 0 rfl) hs q1))
  · intro ax tx hs okx sm
    exact run_plain rfl (y_move (kp (sm 0 rfl) hs q1))
  · intro ax tx hs okx sm d0
    have e1 : At (Ty.val b) tx ax (.tmp 8) := d0 rfl
    exact run_plain rfl (y_tounsafe Try.underlying175 Try.underlying213 Try.inf178 (by decide) (OwnPT.k0 o1 hs) (Nat.le_of_ble_eq_true rfl) e1)
  · intro ax tx hs okx sm d0
    have e2 : At (Ty.val b) tx ax (.tmp 9) := d0 rfl
    exact run_plain rfl (y_extern (R := (Ty.val b)) #[b] (by simp only [List.map_toArray, List.map_cons, List.map_nil, (show ax.eval (.tmp 9) = _ from e2)]) (by rw [run_callFunc_extern Try.func154 (by kernel_rfl) (by kernel_rfl) (by kernel_rfl) (e := Extern.AbiNoEscape.same) (by kernel_rfl), Lib.run_noEscape]; rfl) rfl)
  · intro ax tx hs okx sm d0
    have e3 : At (Ty.val b) tx ax (.tmp 10) := d0 rfl
    exact run_plain rfl (y_fromunsafe Try.underlying213 Try.underlying175 Try.inf178 (OwnPT.k0 o1 hs) e3 (by kernel_rfl))
  · intro ax tx hs okx sm d0 d1 d2 d3 d4 d5
    have e0 : At (Ty.val b) tx ax (.tmp 7) := d0 rfl
    have e1 : At (Ty.val b) tx ax (.tmp 8) := d2 rfl
    have e2 : At (Ty.val b) tx ax (.tmp 9) := d3 rfl
    have e3 : At (Ty.val b) tx ax (.tmp 10) := d4 rfl
    have e4 : At (Ty.val b) tx ax (.tmp 11) := d5 rfl
    exact run_plain rfl (y_nilp (OwnPT.toP (OwnPT.k0 o1 hs)) e0)
  · intro ax tx hs okx sm d0 d1 d2 d3 d4 d5
    have e5 : At (Ty.val b) tx ax (.tmp 12) := d0 rfl
    have e0 : At (Ty.val b) tx ax (.tmp 7) := d1 rfl
    have e1 : At (Ty.val b) tx ax (.tmp 8) := d2 rfl
    have e2 : At (Ty.val b) tx ax (.tmp 9) := d3 rfl
    have e3 : At (Ty.val b) tx ax (.tmp 10) := d4 rfl
    have e4 : At (Ty.val b) tx ax (.tmp 11) := d5 rfl
    exact run_plain rfl (ownp_field Try.fld178_0 Try.inf175 (by decide) (OwnPT.toP (OwnPT.k0 o1 hs)) e5)
  intro a2 s2 D2
  have ok2 := D2.ok
  have F2 := F1.step0 D2.stp
  have o2 := OwnPT.k0 o1 D2.stp
  have q3 : At (Ty.val b) s2 a2 (.tmp 11) := D2.done 4 (by decide)
  have q4 : At (Ty.val (ptrAt b 0)) s2 a2 (.tmp 13) := D2.done 6 (by decide)
  clear D2
  refine tailL0 (L := [40]) (R := (fun _ τ => OwnPT 178 τ 40 b ([(Ty.val (bAddr nb b)), (Ty.val buf)].set 0 (Ty.val b)))) rfl rfl (YldM.toL (m_storept Try.inf175 (by decide) o2 q4 (Nat.le_of_ble_eq_true rfl) q3 (one_val (OwnPT.one o2)))) (fun v1 s3 hs1 r1 => ?_)
  have F3 := F2.stepL hs1 (by decide)
  have o3 : OwnPT 178 s3 40 b [(Ty.val b), (Ty.val buf)] := r1
  clear r1
  refine wpList_nil ?_
  exact nL0 rfl ok2 F3 ⟨trivial, (ownpt_cell 0 (Ty.val (bAddr false b)) o3 rfl (fun _ _ h => (cvt (by (first | rfl | omega | (simp_all; done) | (simp_all; omega))) h)))⟩
 ·
  refine wp_seq ?_
  refine reg (a := a1) (σ := s1) rfl (fun i_ => List.getD [(Ty.pr (Ty.val b)), (Ty.pr (Ty.val b)), (Ty.pr (Ty.val (ptrAt b 0))), (Ty.pr (Ty.val (bAddr nb b))), (Ty.pr (Ty.val b)), (Ty.pr (Ty.bool false))] i_ Pr.any) ok1 rfl ⟨?_, ?_, ?_, ?_, ?_, ?_, trivial⟩ ?_
  · intro ax tx hs okx sm
    exact run_plain rfl (y_move (kp (sm 0 rfl) hs q1))
  · intro ax tx hs okx sm d0
    have e0 : At (Ty.val b) tx ax (.tmp 14) := d0 rfl
    exact run_plain rfl (y_nilp (OwnPT.toP (OwnPT.k0 o1 hs)) e0)
  · intro ax tx hs okx sm d0
    have e1 : At (Ty.val b) tx ax (.tmp 15) := d0 rfl
    exact run_plain rfl (ownp_field Try.fld178_0 Try.inf175 (by decide) (OwnPT.toP (OwnPT.k0 o1 hs)) e1)
  · intro ax tx hs okx sm d0
    have e2 : At (Ty.val (ptrAt b 0)) tx ax (.tmp 16) := d0 rfl
    exact run_plain rfl (ownp_load Try.underlying175 rfl (OwnPT.toP (OwnPT.k0 o1 hs)) e2 rfl)
  · intro ax tx hs okx sm
    exact run_plain rfl (y_move (kp (sm 0 rfl) hs q1))
  · intro ax tx hs okx sm d0 d1
    have e3 : At (Ty.val (bAddr nb b)) tx ax (.tmp 17) := d0 rfl
    have e4 : At (Ty.val b) tx ax (.tmp 18) := d1 rfl
    exact run_plain rfl (y_bself Try.underlying175 Try.inf178 (OwnPT.k0 o1 hs) (bAddr_f (by assumption) e3) e4)
  intro a3 s4 D3
  have ok3 := D3.ok
  have F4 := F1.step0 D3.stp
  have o4 := OwnPT.k0 o1 D3.stp
  have q6 : At (Ty.bool false) s4 a3 (.tmp 19) := D3.done 5
  clear D3
  refine tn ?_
  refine cond_t q6 (fun c2 => (by cases c2)) (fun _ => ?_)
  refine wp_skip ?_
  exact nL0 rfl ok3 F4 ⟨trivial, (ownpt_cell 0 (Ty.val (bAddr false b)) o4 rfl (fun _ _ h => (cvt (by (rw [c1])) h)))⟩

theorem Try.inf5 : Info Try.prog 5 (.int .u8 0) 1 1 := by unfold Info; kernel_rfl
theorem Try.inf176 : Info Try.prog 176 (.slice none 0 0) 1 24 := by unfold Info; kernel_rfl
theorem Try.fld178_1 : fieldOf Try.prog 178 1 = some (176, 1) := by kernel_rfl
set_option maxHeartbeats 4000000 in
set_option maxRecDepth 100000 in
theorem writeByte_fn (b buf : Value) (nb : Bool) (l : List UInt8) (c : UInt8) (σ : GW) (hlow : Low [40, 41] σ) (v0 v1 : Value) (hv0 : Ty.has (Ty.val b) σ v0) (hv1 : Ty.has (Ty.byte c) σ v1) (ho_b : OwnPT 178 σ 40 b [(Ty.val (bAddr nb b)), (Ty.val buf)]) (ho_buf : Own σ 41 5 1 buf (List.length l) (List.map Ty.byte l)) (hl : l.length ≤ 1000000000) :
    FnL Try.prog 117 #[v0, v1] σ [40, 41] (fun v τ => ∃ (bz : Value), (Ty.has (Ty.val Value.nilIface) τ v) ∧ (OwnPT 178 τ 40 b [(Ty.val (bAddr false b)), (Ty.val bz)]) ∧ (Own τ 41 5 1 bz (List.length (l ++ [c])) (List.map Ty.byte (l ++ [c])))) := by
 refine fn_introL hlow Try.func117 rfl Try.ntmps117 (Nat.le_of_ble_eq_true rfl) (fun a0 F0 ok0 hargs => ?_)
 have p0 : At (Ty.val b) σ a0 (.tmp 0) := by have e := hargs 0 _ rfl; show Ty.has _ _ _; rw [e]; exact hv0
 have p1 : At (Ty.byte c) σ a0 (.tmp 1) := by have e := hargs 1 _ rfl; show Ty.has _ _ _; rw [e]; exact hv1
 clear hargs
 refine wp_seq ?_
 refine reg (a := a0) (σ := σ) rfl (fun i_ => List.getD [(Ty.pr (Ty.val Value.nilIface))] i_ Pr.any) ok0 rfl ⟨?_, trivial⟩ ?_
 · intro ax tx hs okx sm
   exact run_plain rfl (y_assign rfl)
 intro a1 s1 D1
 have ok1 := D1.ok
 have F1 := F0.step0 D1.stp
 have q1 : At (Ty.val b) s1 a1 (.tmp 0) := D1.kt p0 rfl
 have q2 : At (Ty.byte c) s1 a1 (.tmp 1) := D1.kt p1 rfl
 have o1 := OwnPT.k0 ho_b D1.stp
 have o2 := Own.k0 ho_buf D1.stp
 clear D1
 refine tn ?_
 refine wp_seq ?_
 refine reg2 (a := a1) (σ := s1) rfl 1 (fun i_ => List.getD [(Ty.pr (Ty.val b))] i_ Pr.any) ok1 rfl (by decide) rfl ⟨?_, trivial⟩ ?_
 · intro ax tx hs okx sm
   exact run_plain rfl (y_move (kp (sm 0 rfl) hs q1))
 intro a2 s2 D2
 have ok2 := D2.ok
 have F2 := F1.step0 D2.stp
 have q3 : At (Ty.val b) s2 a2 (.tmp 0) := D2.kt q1 rfl
 have q4 : At (Ty.byte c) s2 a2 (.tmp 1) := D2.kt q2 rfl
 have o3 := OwnPT.k0 o1 D2.stp
 have o4 := Own.k0 o2 D2.stp
 have q5 : At (Ty.val b) s2 a2 (.tmp 5) := D2.done 0 (by decide)
 clear D2
 refine tailL (L := [40]) (R := (fun v τ' => ∃ τ, (fun v τ => True ∧ (OwnPT 178 τ 40 b [(Ty.val (bAddr false b)), (Ty.val buf)])) v τ ∧ Back [(40, 40)] τ τ')) rfl rfl (by decide) ok2 (y_callL (L := [40]) [(40, 40)] [(40, 40)] #[a2.eval (.tmp 5)] rfl (by decide) Try.func130 rfl rfl (by simp only [List.map_toArray, List.map_cons, List.map_nil]) (copyCheck_fn (b) (buf) (nb) _ (GW.low_lend _ (by decide)) _ (Ty.up _ (GW.le_lend _ _) q5) (OwnPT.ren o3 (GW.ren_lend _ _ (by decide) rfl)) )) (fun a3 s3 hs1 ok3 r1 sm1 => ?_)
 have F3 := F2.stepL hs1 (by decide)
 have q6 : At (Ty.val b) s3 a3 (.tmp 0) := kpL hs1 (by decide) (sm1 0 (by decide)) q3
 have q7 : At (Ty.byte c) s3 a3 (.tmp 1) := kpL hs1 (by decide) (sm1 1 (by decide)) q4
 have o7 := Own.keepL o4 hs1 (by decide) (by decide)
 obtain ⟨t1, ⟨hT1, o5⟩, B1⟩ := r1
 have o6 : OwnPT 178 s3 40 b [(Ty.val (bAddr false b)), (Ty.val buf)] := OwnPT.ren o5 (B1.ren (by decide) rfl)
 refine wpList_nil ?_
 refine tn ?_
 refine wp_seq ?_
 refine reg2 (a := a3) (σ := s3) rfl 7 (fun i_ => List.getD [(Ty.pr (Ty.val b)), (Ty.pr (Ty.val b)), (Ty.pr (Ty.val b)), (Ty.pr (Ty.val (ptrAt b 1))), (Ty.pr (Ty.val buf)), (Ty.pr (Ty.byte c)), (Ty.pr (Ty.sl 1 1 [(Ty.byte c)]))] i_ Pr.any) ok3 rfl (by decide) rfl ⟨?_, ?_, ?_, ?_, ?_, ?_, ?_, trivial⟩ ?_
 · intro ax tx hs okx sm
   exact run_plain rfl (y_move (kp (sm 0 rfl) hs q6))
 · intro ax tx hs okx sm
   exact run_plain rfl (y_move (kp (sm 0 rfl) hs q6))
 · intro ax tx hs okx sm d0
   have e1 : At (Ty.val b) tx ax (.tmp 8) := d0 rfl
   exact run_plain rfl (y_nilp (OwnPT.toP (OwnPT.k0 o6 hs)) e1)
 · intro ax tx hs okx sm d0
   have e2 : At (Ty.val b) tx ax (.tmp 9) := d0 rfl
   exact run_plain rfl (ownp_field Try.fld178_1 Try.inf176 (by decide) (OwnPT.toP (OwnPT.k0 o6 hs)) e2)
 · intro ax tx hs okx sm d0
   have e3 : At (Ty.val (ptrAt b 1)) tx ax (.tmp 10) := d0 rfl
   exact run_plain rfl (ownp_load Try.underlying176 rfl (OwnPT.toP (OwnPT.k0 o6 hs)) e3 rfl)
 · intro ax tx hs okx sm
   exact run_plain rfl (y_move (kp (sm 1 rfl) hs q7))
 · intro ax tx hs okx sm d0
   have e5 : At (Ty.byte c) tx ax (.tmp 12) := d0 rfl
   exact run_plain rfl (y_build1o Try.underlying176 Try.inf5 rfl (one_val rfl) e5)
 intro a4 s4 D3
 have ok4 := D3.ok
 have F4 := F3.step0 D3.stp
 have o8 := Own.k0 o7 D3.stp
 have o9 := OwnPT.k0 o6 D3.stp
 have q9 : At (Ty.val b) s4 a4 (.tmp 7) := D3.done 0 (by decide)
 have q10 : At (Ty.val buf) s4 a4 (.tmp 11) := D3.done 4 (by decide)
 have q11 : At (Ty.sl 1 1 [(Ty.byte c)]) s4 a4 (.tmp 13) := D3.done 6 (by decide)
 have b1 := sl_le q11
 clear D3
 refine tailL (L := [41]) (R := (fun v τ => Own τ 41 5 1 v ((List.length l) + 1) ((List.map Ty.byte l) ++ [(Ty.byte c)]))) rfl rfl (by decide) ok4 (YldM.toL (m_append Try.underlying176 Try.inf5 (by decide) rfl (by decide) (al (R := (Pr.own 41 5 1 (List.length l) (List.map Ty.byte l))) q10 o8) q11 (by intro U hU; simp at hU; subst hU; exact one_val rfl) (by omega) (by omega))) (fun a5 s5 hs2 ok5 r2 sm2 => ?_)
 have F5 := F4.stepL hs2 (by decide)
 have q12 : At (Ty.val b) s5 a5 (.tmp 7) := kpL hs2 (by decide) (sm2 7 (by decide)) q9
 have o11 := OwnPT.keepL o9 hs2 (by decide) (by decide)
 obtain ⟨x1, hx1⟩ : ∃ x, a5.eval (.tmp 14) = x := ⟨_, rfl⟩
 have q13 : At (Ty.val x1) s5 a5 (.tmp 14) := hx1
 have o10 : Own s5 41 5 1 x1 (List.length (l ++ [c])) (List.map Ty.byte (l ++ [c])) := al2 (R := (Pr.own 41 5 1 (List.length (l ++ [c])) (List.map Ty.byte (l ++ [c])))) hx1 (cvo (by simp) (by first | (rw [List.map_append]; rfl) | simp) r2)
 clear r2
 refine tailL (L := []) (R := (fun v τ => Pr.has (Ty.pr (Ty.val b)) τ v)) rfl rfl (by decide) ok5 (Yld.toL (y_nilp (OwnPT.toP o11) q12)) (fun a6 s6 hs3 ok6 r3 sm3 => ?_)
 have F6 := F5.stepL hs3 (by decide)
 have q14 : At (Ty.val x1) s6 a6 (.tmp 14) := kpL hs3 (by decide) (sm3 14 (by decide)) q13
 have o12 := OwnPT.keepL o11 hs3 (by decide) (by decide)
 have o13 := Own.keepL o10 hs3 (by decide) (by decide)
 have q15 : At (Ty.val b) s6 a6 (.tmp 15) := r3
 clear r3
 refine tailL (L := []) (R := (fun v τ => Pr.has (Ty.pr (Ty.val (ptrAt b 1))) τ v)) rfl rfl (by decide) ok6 (Yld.toL (ownp_field Try.fld178_1 Try.inf176 (by decide) (OwnPT.toP o12) q15)) (fun a7 s7 hs4 ok7 r4 sm4 => ?_)
 have F7 := F6.stepL hs4 (by decide)
 have q16 : At (Ty.val x1) s7 a7 (.tmp 14) := kpL hs4 (by decide) (sm4 14 (by decide)) q14
 have o14 := OwnPT.keepL o12 hs4 (by decide) (by decide)
 have o15 := Own.keepL o13 hs4 (by decide) (by decide)
 have q17 : At (Ty.val (ptrAt b 1)) s7 a7 (.tmp 16) := r4
 clear r4
 refine tailL0 (L := [40]) (R := (fun _ τ => OwnPT 178 τ 40 b ([(Ty.val (bAddr false b)), (Ty.val buf)].set 1 (Ty.val x1)))) rfl rfl (YldM.toL (m_storept Try.inf176 (by decide) o14 q17 (Nat.le_of_ble_eq_true rfl) q16 (one_val (Own.one o15)))) (fun v1 s8 hs5 r5 => ?_)
 have F8 := F7.stepL hs5 (by decide)
 have o17 := Own.keepL o15 hs5 (by decide) (by decide)
 have o16 : OwnPT 178 s8 40 b [(Ty.val (bAddr false b)), (Ty.val x1)] := r5
 clear r5
 refine wpList_nil ?_
 refine tn ?_
 refine wp_seq ?_
 refine reg (a := a7) (σ := s8) rfl (fun i_ => List.getD [(Ty.pr (Ty.val Value.nilIface))] i_ Pr.any) ok7 rfl ⟨?_, trivial⟩ ?_
 · intro ax tx hs okx sm
   exact run_plain rfl (y_assign rfl)
 intro a8 s9 D4
 have ok8 := D4.ok
 have F9 := F8.step0 D4.stp
 have o18 := Own.k0 o17 D4.stp
 have o19 := OwnPT.k0 o16 D4.stp
 have q19 : At (Ty.val Value.nilIface) s9 a8 (.tmp 4) := D4.done 0
 clear D4
 refine tn ?_
 refine wp_ret ?_
 exact retL1 rfl ok8 F9 ⟨x1, q19, o19, o18⟩


set_option maxHeartbeats 4000000 in
set_option maxRecDepth 100000 in
theorem bString_fn (b buf : Value) (nb : Bool) (l : List UInt8) (σ : GW) (hlow : Low [40, 41] σ) (v0 : Value) (hv0 : Ty.has (Ty.val b) σ v0) (ho_b : OwnPT 178 σ 40 b [(Ty.val (bAddr nb b)), (Ty.val buf)]) (ho_buf : Own σ 41 5 1 buf (List.length l) (List.map Ty.byte l))  :
    FnL Try.prog 118 #[v0] σ [40, 41] (fun v τ => (Ty.has (Ty.val (Value.string (bsL l))) τ v)) := by
 refine fn_introL hlow Try.func118 rfl Try.ntmps118 (Nat.le_of_ble_eq_true rfl) (fun a0 F0 ok0 hargs => ?_)
 have p0 : At (Ty.val b) σ a0 (.tmp 0) := by have e := hargs 0 _ rfl; show Ty.has _ _ _; rw [e]; exact hv0
 clear hargs
 refine wp_seq ?_
 refine reg (a := a0) (σ := σ) rfl (fun i_ => List.getD [(Ty.pr (Ty.val (Value.string (ByteArray.mk #[]))))] i_ Pr.any) ok0 rfl ⟨?_, trivial⟩ ?_
 · intro ax tx hs okx sm
   exact run_plain rfl (y_assign rfl)
 intro a1 s1 D1
 have ok1 := D1.ok
 have F1 := F0.step0 D1.stp
 have q1 : At (Ty.val b) s1 a1 (.tmp 0) := D1.kt p0 rfl
 have o1 := OwnPT.k0 ho_b D1.stp
 have o2 := Own.k0 ho_buf D1.stp
 clear D1
 refine tn ?_
 refine wp_seq ?_
 refine reg2 (a := a1) (σ := s1) rfl 10 (fun i_ => List.getD [(Ty.pr (Ty.val b)), (Ty.pr (Ty.val b)), (Ty.pr (Ty.val (ptrAt b 1))), (Ty.pr (Ty.val buf)), (Ty.pr (Ty.dptr buf (List.length l))), (Ty.pr (Ty.val b)), (Ty.pr (Ty.val b)), (Ty.pr (Ty.val (ptrAt b 1))), (Ty.pr (Ty.val buf)), (Ty.pr (Ty.nat (List.length l)))] i_ Pr.any) ok1 rfl (by decide) rfl ⟨?_, ?_, ?_, ?_, ?_, ?_, ?_, ?_, ?_, ?_, trivial⟩ ?_
 · intro ax tx hs okx sm
   exact run_plain rfl (y_move (kp (sm 0 rfl) hs q1))
 · intro ax tx hs okx sm d0
   have e0 : At (Ty.val b) tx ax (.tmp 3) := d0 rfl
   exact run_plain rfl (y_nilp (OwnPT.toP (OwnPT.k0 o1 hs)) e0)
 · intro ax tx hs okx sm d0
   have e1 : At (Ty.val b) tx ax (.tmp 4) := d0 rfl
   exact run_plain rfl (ownp_field Try.fld178_1 Try.inf176 (by decide) (OwnPT.toP (OwnPT.k0 o1 hs)) e1)
 · intro ax tx hs okx sm d0
   have e2 : At (Ty.val (ptrAt b 1)) tx ax (.tmp 5) := d0 rfl
   exact run_plain rfl (ownp_load Try.underlying176 rfl (OwnPT.toP (OwnPT.k0 o1 hs)) e2 rfl)
 · intro ax tx hs okx sm d0
   have e3 : At (Ty.val buf) tx ax (.tmp 6) := d0 rfl
   exact run_plain rfl (y_sdata Try.underlying193 (Own.k0 o2 hs) e3)
 · intro ax tx hs okx sm
   exact run_plain rfl (y_move (kp (sm 0 rfl) hs q1))
 · intro ax tx hs okx sm d0
   have e5 : At (Ty.val b) tx ax (.tmp 8) := d0 rfl
   exact run_plain rfl (y_nilp (OwnPT.toP (OwnPT.k0 o1 hs)) e5)
 · intro ax tx hs okx sm d0
   have e6 : At (Ty.val b) tx ax (.tmp 9) := d0 rfl
   exact run_plain rfl (ownp_field Try.fld178_1 Try.inf176 (by decide) (OwnPT.toP (OwnPT.k0 o1 hs)) e6)
 · intro ax tx hs okx sm d0
   have e7 : At (Ty.val (ptrAt b 1)) tx ax (.tmp 10) := d0 rfl
   exact run_plain rfl (ownp_load Try.underlying176 rfl (OwnPT.toP (OwnPT.k0 o1 hs)) e7 rfl)
 · intro ax tx hs okx sm d0
   have e8 : At (Ty.val buf) tx ax (.tmp 11) := d0 rfl
   exact run_plain rfl (own_len Try.underlying176 (al (R := (Pr.own 41 5 1 (List.length l) (List.map Ty.byte l))) e8 (Own.k0 o2 hs)))
 intro a2 s2 D2
 have ok2 := D2.ok
 have F2 := F1.step0 D2.stp
 have o3 := OwnPT.k0 o1 D2.stp
 have o4 := Own.k0 o2 D2.stp
 have q2 : At (Ty.dptr buf (List.length l)) s2 a2 (.tmp 7) := D2.done 4 (by decide)
 have q3 : At (Ty.nat (List.length l)) s2 a2 (.tmp 12) := D2.done 9 (by decide)
 clear D2
 refine tailL (L := [41]) (R := (fun v τ => (Ty.val (Value.string (bsL l))).has τ v)) rfl rfl (by decide) ok2 (YldM.toL (m_sstr (by decide) Try.underlying193 (by kernel_rfl) o4 q2 q3)) (fun a3 s3 hs1 ok3 r1 sm1 => ?_)
 have F3 := F2.stepL hs1 (by decide)
 have o5 := OwnPT.keepL o3 hs1 (by decide) (by decide)
 have q4 : At (Ty.val (Value.string (bsL l))) s3 a3 (.tmp 13) := r1
 clear r1
 refine tailL (L := []) (R := (fun v τ => Pr.has (Ty.pr (Ty.val (Value.string (bsL l)))) τ v)) rfl rfl (by decide) ok3 (Yld.toL (y_assign q4)) (fun a4 s4 hs2 ok4 r2 sm2 => ?_)
 have F4 := F3.stepL hs2 (by decide)
 have o6 := OwnPT.keepL o5 hs2 (by decide) (by decide)
 have q5 : At (Ty.val (Value.string (bsL l))) s4 a4 (.tmp 2) := r2
 clear r2
 refine wpList_nil ?_
 refine tn ?_
 refine wp_ret ?_
 exact retL1 rfl ok4 F4 q5


set_option maxHeartbeats 4000000 in
set_option maxRecDepth 100000 in
theorem signs_fn (r : List Int) (σ : GW)  (v0 : Value) (hv0 : Ty.has (Ty.lst Ty.int r) σ v0)  (hr : ∀ i, i < r.length → 0 ≤ r.getD i 0 ∧ r.getD i 0 < 12) (hl : r.length ≤ 1000000) :
    FnC Try.prog 96 #[v0] σ (Ty.val (Value.string (bsL (signsB r)))) := by
 have hsz := signs_size
 refine fn_intro0 Try.func96 rfl Try.ntmps96 (Nat.le_of_ble_eq_true rfl) (fun s0 a0 hle F0 ok0 hargs => ?_)
 have p0 : At (Ty.lst Ty.int r) s0 a0 (.tmp 0) := by have e := hargs 0 _ rfl; show Ty.has _ _ _; rw [e]; exact Ty.up _ hle hv0
 have b1 := sl_le p0
 clear hargs
 refine wp_seq ?_
 refine reg (a := a0) (σ := s0) rfl (fun i_ => List.getD [(Ty.pr (Ty.val (Value.string (ByteArray.mk #[]))))] i_ Pr.any) ok0 rfl ⟨?_, trivial⟩ ?_
 · intro ax tx hs okx sm
   exact run_plain rfl (y_assign rfl)
 intro a1 s1 D1
 have ok1 := D1.ok
 have F1 := F0.step0 D1.stp
 have q1 : At (Ty.lst Ty.int r) s1 a1 (.tmp 0) := D1.kt p0 rfl
 clear D1
 refine tn ?_
 refine wp_seq ?_
 refine reg (a := a1) (σ := s1) rfl (fun i_ => List.getD [(Pr.ownpt 178 5 [(Ty.val (Value.pointer none)), (Ty.val (Value.slice none 0 0))])] i_ Pr.any) ok1 rfl ⟨?_, trivial⟩ ?_
 · intro ax tx hs okx sm
   exact run_plain rfl (y_alloct Try.inf178 rfl (alloc_vals (vs := [.pointer none, .slice none 0 0]) rfl))
 intro a2 s2 D2
 have ok2 := D2.ok
 have F2 := F1.step0 D2.stp
 have q2 : At (Ty.lst Ty.int r) s2 a2 (.tmp 0) := D2.kt q1 rfl
 obtain ⟨x1, hx1⟩ : ∃ x, a2.eval (.tmp 3) = x := ⟨_, rfl⟩
 have q3 : At (Ty.val x1) s2 a2 (.tmp 3) := hx1
 have o1 : OwnPT 178 s2 5 x1 [(Ty.val (Value.pointer none)), (Ty.val (Value.slice none 0 0))] := al2 (R := (Pr.ownpt 178 5 [(Ty.val (Value.pointer none)), (Ty.val (Value.slice none 0 0))])) hx1 (D2.done 0)
 clear D2
 refine tn ?_
 refine wp_seq ?_
 refine wp_seq ?_
 refine reg (a := a2) (σ := s2) rfl (fun i_ => List.getD [(Ty.pr (Ty.lst Ty.int r)), (Ty.pr (Ty.nat (List.length r))), (Ty.pr (Ty.int (0 : Int)))] i_ Pr.any) ok2 rfl ⟨?_, ?_, ?_, trivial⟩ ?_
 · intro ax tx hs okx sm
   exact run_plain rfl (y_move (kp (sm 0 rfl) hs q2))
 · intro ax tx hs okx sm d0
   have e0 : At (Ty.lst Ty.int r) tx ax (.tmp 6) := d0 rfl
   exact run_plain rfl (y_len Try.underlying34 e0)
 · intro ax tx hs okx sm
   exact run_plain rfl (y_move rfl)
 intro a3 s3 D3
 have ok3 := D3.ok
 have F3 := F2.step0 D3.stp
 have q4 : At (Ty.val x1) s3 a3 (.tmp 3) := D3.kt q3 rfl
 have o2 := OwnPT.k0 o1 D3.stp
 have q5 : At (Ty.lst Ty.int r) s3 a3 (.tmp 6) := D3.done 0
 have q6 : At (Ty.nat (List.length r)) s3 a3 (.tmp 7) := D3.done 1
 have q7 : At (Ty.int (0 : Int)) s3 a3 (.tmp 8) := D3.done 2
 clear D3
 refine tn ?_
 refine wp_block ?_
 have o3 : Own s3 6 5 1 (Value.slice none 0 0) 0 (List.map Ty.byte ([] : List UInt8)) := Own.nil _ _ _ _
 refine loop (fun n1 a4 w1 => ∃ (t1 : GW) (k : Nat) (nz : Bool) (bf : Value), t1.w = w1 ∧ FromL [] s0 t1 ∧ Ok 17 a4 ∧ At (Ty.nat k) t1 a4 (.tmp 8) ∧ At (Ty.val x1) t1 a4 (.tmp 3) ∧ At (Ty.lst Ty.int r) t1 a4 (.tmp 6) ∧ At (Ty.nat (List.length r)) t1 a4 (.tmp 7) ∧ OwnPT 178 t1 5 x1 [(Ty.val (bAddr nz x1)), (Ty.val bf)] ∧ Own t1 6 5 1 bf (List.length (signsB (r.take k))) (List.map Ty.byte (signsB (r.take k))) ∧ (k ≤ r.length) ∧ n1 = r.length - k) (r.length - (0)) ?_ ?_
 ·
  exact ⟨s3, 0, true, (Value.slice none 0 0), rfl, F3, ok3, (cvi (by (first | rfl | omega | (simp_all; done) | (simp_all; omega))) q7), q4, q5, q6, (ownpt_cell 0 (Ty.val (bAddr (true) x1)) o2 rfl (fun _ _ h => (cvt (by (first | rfl | omega | (simp_all; done) | (simp_all; omega))) h))), (cvo (by (simp [signsB])) (by (simp [signsB])) o3), by omega, rfl⟩
 ·
  rintro n2 a5 w2 ⟨t2, k, nz, bf, rfl, F4, ok4, q8, q9, q10, q11, o4, o5, hk, rfl⟩
  have hsl := signsB_len (r.take k)
  have htl := List.length_take_le k r
  refine wp_seq ?_
  refine reg (a := a5) (σ := t2) rfl (fun i_ => List.getD [(Ty.pr (Ty.bool (decide (((k : Nat) : Int) < (((List.length r) : Nat) : Int)))))] i_ Pr.any) ok4 rfl ⟨?_, trivial⟩ ?_
  · intro ax tx hs okx sm
    exact run_plain rfl (y_lss (kp (sm 8 rfl) hs q8) (kp (sm 7 rfl) hs q11))
  intro a6 s4 D4
  have ok5 := D4.ok
  have F5 := F4.step0 D4.stp
  have q12 : At (Ty.nat k) s4 a6 (.tmp 8) := D4.kt q8 rfl
  have q13 : At (Ty.val x1) s4 a6 (.tmp 3) := D4.kt q9 rfl
  have q14 : At (Ty.lst Ty.int r) s4 a6 (.tmp 6) := D4.kt q10 rfl
  have q15 : At (Ty.nat (List.length r)) s4 a6 (.tmp 7) := D4.kt q11 rfl
  have o6 := OwnPT.k0 o4 D4.stp
  have o7 := Own.k0 o5 D4.stp
  have q16 : At (Ty.bool (decide (((k : Nat) : Int) < (((List.length r) : Nat) : Int)))) s4 a6 (.tmp 9) := D4.done 0
  clear D4
  refine tn ?_
  refine wp_seq ?_
  refine cond_p (p := (((k : Nat) : Int) < (((List.length r) : Nat) : Int))) q16 (fun c1 => ?_) (fun c1 => ?_)
  ·
   have hrk := hr k (by omega)
   refine wp_skip ?_
   refine tn ?_
   refine wp_seq ?_
   refine wp_block ?_
   refine wp_seq ?_
   refine reg (a := a6) (σ := s4) rfl (fun i_ => List.getD [(Ty.pr (Ty.ref [(Ty.int (r.getD k 0))])), (Ty.pr (Ty.int (r.getD k 0))), (Ty.pr (Ty.int (r.getD k 0)))] i_ Pr.any) ok5 rfl ⟨?_, ?_, ?_, trivial⟩ ?_
   · intro ax tx hs okx sm
     exact run_plain rfl (y_index1 Try.underlying34 Try.inf3 (kp (sm 6 rfl) hs q14) (kp (sm 8 rfl) hs q12) (by omega) (lst_get Ty.int r 0 k (by omega)))
   · intro ax tx hs okx sm d0
     have e0 : At (Ty.ref [(Ty.int (r.getD k 0))]) tx ax (.tmp 10) := d0 rfl
     exact run_plain rfl (y_load Try.underlying3 rfl e0 rfl)
   · intro ax tx hs okx sm d0 d1 d2
     have e1 : At (Ty.int (r.getD k 0)) tx ax (.tmp 11) := d0 rfl
     have e0 : At (Ty.ref [(Ty.int (r.getD k 0))]) tx ax (.tmp 10) := d1 rfl
     exact run_plain rfl (y_assign e1)
   intro a7 s5 D5
   have ok6 := D5.ok
   have F6 := F5.step0 D5.stp
   have q17 : At (Ty.nat k) s5 a7 (.tmp 8) := D5.kt q12 rfl
   have q18 : At (Ty.val x1) s5 a7 (.tmp 3) := D5.kt q13 rfl
   have q19 : At (Ty.lst Ty.int r) s5 a7 (.tmp 6) := D5.kt q14 rfl
   have q20 : At (Ty.nat (List.length r)) s5 a7 (.tmp 7) := D5.kt q15 rfl
   have o8 := OwnPT.k0 o6 D5.stp
   have o9 := Own.k0 o7 D5.stp
   have q21 : At (Ty.int (r.getD k 0)) s5 a7 (.tmp 5) := D5.done 2
   clear D5
   refine tn ?_
   refine reg2 (a := a7) (σ := s5) rfl 2 (fun i_ => List.getD [(Ty.pr (Ty.int (r.getD k 0))), (Ty.pr (Ty.val (Value.int .u8 (((SIGNS.get! ((r.getD k 0)).toNat).toNat : Nat) : Int))))] i_ Pr.any) ok6 rfl (by decide) rfl ⟨?_, ?_, trivial⟩ ?_
   · intro ax tx hs okx sm
     exact run_plain rfl (y_move (kp (sm 5 rfl) hs q21))
   · intro ax tx hs okx sm d0
     have e0 : At (Ty.int (r.getD k 0)) tx ax (.tmp 12) := d0 rfl
     exact run_plain rfl (y_sindex Try.underlying9 rfl e0 (by omega) (by omega))
   intro a8 s6 D6
   have ok7 := D6.ok
   have F7 := F6.step0 D6.stp
   have q22 : At (Ty.nat k) s6 a8 (.tmp 8) := D6.kt q17 rfl
   have q23 : At (Ty.val x1) s6 a8 (.tmp 3) := D6.kt q18 rfl
   have q24 : At (Ty.lst Ty.int r) s6 a8 (.tmp 6) := D6.kt q19 rfl
   have q25 : At (Ty.nat (List.length r)) s6 a8 (.tmp 7) := D6.kt q20 rfl
   have o10 := OwnPT.k0 o8 D6.stp
   have o11 := Own.k0 o9 D6.stp
   have q26 : At (Ty.val (Value.int .u8 (((SIGNS.get! ((r.getD k 0)).toNat).toNat : Nat) : Int))) s6 a8 (.tmp 13) := D6.done 1 (by decide)
   clear D6
   refine tailL (L := [5, 6]) (R := (fun v τ' => ∃ τ, (fun v τ => ∃ (bz : Value), (Ty.has (Ty.val Value.nilIface) τ v) ∧ (OwnPT 178 τ 40 x1 [(Ty.val (bAddr false (x1))), (Ty.val bz)]) ∧ (Own τ 41 5 1 bz (List.length (((signsB (r.take k))) ++ [((SIGNS.get! ((r.getD k 0)).toNat))])) (List.map Ty.byte (((signsB (r.take k))) ++ [((SIGNS.get! ((r.getD k 0)).toNat))])))) v τ ∧ Back [(40, 5), (41, 6)] τ τ')) rfl rfl (by decide) ok7 (y_callL (L := [40, 41]) [(5, 40), (6, 41)] [(40, 5), (41, 6)] #[a8.eval (.tmp 3), a8.eval (.tmp 13)] rfl (by decide) Try.func117 rfl rfl (by simp only [List.map_toArray, List.map_cons, List.map_nil]) (writeByte_fn (x1) (bf) (nz) ((signsB (r.take k))) ((SIGNS.get! ((r.getD k 0)).toNat)) _ (GW.low_lend _ (by decide)) _ _ (Ty.up _ (GW.le_lend _ _) q23) (Ty.up _ (GW.le_lend _ _) q26) (OwnPT.ren (ownpt_cell 0 (Ty.val (bAddr (nz) (x1))) o10 rfl (fun _ _ h => (cvt (by (first | rfl | omega | (simp_all; done) | (simp_all; omega))) h))) (GW.ren_lend _ _ (by decide) rfl)) (Own.ren (cvo (by (simp)) (by (simp)) o11) (GW.ren_lend _ _ (by decide) rfl)) (by omega))) (fun a9 s7 hs1 ok8 r1 sm1 => ?_)
   have F8 := F7.stepL hs1 (by decide)
   have q27 : At (Ty.nat k) s7 a9 (.tmp 8) := kpL hs1 (by decide) (sm1 8 (by decide)) q22
   have q28 : At (Ty.val x1) s7 a9 (.tmp 3) := kpL hs1 (by decide) (sm1 3 (by decide)) q23
   have q29 : At (Ty.lst Ty.int r) s7 a9 (.tmp 6) := kpL hs1 (by decide) (sm1 6 (by decide)) q24
   have q30 : At (Ty.nat (List.length r)) s7 a9 (.tmp 7) := kpL hs1 (by decide) (sm1 7 (by decide)) q25
   obtain ⟨t3, ⟨x2, hT1, o12, o13⟩, B1⟩ := r1
   have q31 : At (Ty.val Value.nilIface) s7 a9 (.tmp 14) := Ty.up _ B1.le hT1
   have o14 : OwnPT 178 s7 5 x1 [(Ty.val (bAddr false (x1))), (Ty.val x2)] := OwnPT.ren o12 (B1.ren (by decide) rfl)
   have o15 : Own s7 6 5 1 x2 (List.length (((signsB (r.take k))) ++ [((SIGNS.get! ((r.getD k 0)).toNat))])) (List.map Ty.byte (((signsB (r.take k))) ++ [((SIGNS.get! ((r.getD k 0)).toNat))])) := Own.ren o13 (B1.ren (by decide) rfl)
   refine wpList_nil ?_
   refine bn ?_
   refine tn ?_
   refine reg (a := a9) (σ := s7) rfl (fun i_ => List.getD [(Ty.pr (Ty.int (((k : Nat) : Int) + (1 : Int)))), (Ty.pr (Ty.int (((k : Nat) : Int) + (1 : Int))))] i_ Pr.any) ok8 rfl ⟨?_, ?_, trivial⟩ ?_
   · intro ax tx hs okx sm
     exact run_plain rfl (y_add (kp (sm 8 rfl) hs q27) rfl (w64 (by omega) (by omega)))
   · intro ax tx hs okx sm d0
     have e0 : At (Ty.int (((k : Nat) : Int) + (1 : Int))) tx ax (.tmp 15) := d0 rfl
     exact run_plain rfl (y_move e0)
   intro a10 s8 D7
   have ok9 := D7.ok
   have F9 := F8.step0 D7.stp
   have q32 : At (Ty.val x1) s8 a10 (.tmp 3) := D7.kt q28 rfl
   have q33 : At (Ty.lst Ty.int r) s8 a10 (.tmp 6) := D7.kt q29 rfl
   have q34 : At (Ty.nat (List.length r)) s8 a10 (.tmp 7) := D7.kt q30 rfl
   have o16 := OwnPT.k0 o14 D7.stp
   have o17 := Own.k0 o15 D7.stp
   have q35 : At (Ty.int (((k : Nat) : Int) + (1 : Int))) s8 a10 (.tmp 8) := D7.done 1
   clear D7
   exact tn ⟨r.length - ((k+1)), by omega, s8, (k+1), false, x2, rfl, F9, ok9, (cvi (by (first | rfl | omega | (simp_all; done) | (simp_all; omega))) q35), q32, q33, q34, (ownpt_cell 0 (Ty.val (bAddr (false) x1)) o16 rfl (fun _ _ h => (cvt (by (first | rfl | omega | (simp_all; done) | (simp_all; omega))) h))), (cvo (by (rw [signsB_take r k (by omega)])) (by (rw [signsB_take r k (by omega)])) o17), by omega, rfl⟩
  ·
   refine wp_exit ?_
   refine tx ?_
   refine tx ?_
   refine bx ?_
   refine tn ?_
   refine wp_seq ?_
   refine reg2 (a := a6) (σ := s4) rfl 0 (fun i_ => List.getD [] i_ Pr.any) ok5 rfl (by decide) rfl trivial ?_
   intro a11 s9 D8
   have ok10 := D8.ok
   have F10 := F5.step0 D8.stp
   have q36 : At (Ty.val x1) s9 a11 (.tmp 3) := D8.kt q13 rfl
   have o18 := OwnPT.k0 o6 D8.stp
   have o19 := Own.k0 o7 D8.stp
   clear D8
   refine tailL (L := [5, 6]) (R := (fun v τ' => ∃ τ, (fun v τ => (Ty.has (Ty.val (Value.string (bsL ((signsB (r.take k)))))) τ v)) v τ ∧ Back [(40, 5), (41, 6)] τ τ')) rfl rfl (by decide) ok10 (y_callL (L := [40, 41]) [(5, 40), (6, 41)] [(40, 5), (41, 6)] #[a11.eval (.tmp 3)] rfl (by decide) Try.func118 rfl rfl (by simp only [List.map_toArray, List.map_cons, List.map_nil]) (bString_fn (x1) (bf) (nz) ((signsB (r.take k))) _ (GW.low_lend _ (by decide)) _ (Ty.up _ (GW.le_lend _ _) q36) (OwnPT.ren (ownpt_cell 0 (Ty.val (bAddr (nz) (x1))) o18 rfl (fun _ _ h => (cvt (by (first | rfl | omega | (simp_all; done) | (simp_all; omega))) h))) (GW.ren_lend _ _ (by decide) rfl)) (Own.ren (cvo (by (simp)) (by (simp)) o19) (GW.ren_lend _ _ (by decide) rfl)) )) (fun a12 s10 hs2 ok11 r2 sm2 => ?_)
   have F11 := F10.stepL hs2 (by decide)
   obtain ⟨t4, hT2, B2⟩ := r2
   have q37 : At (Ty.val (Value.string (bsL ((signsB (r.take k)))))) s10 a12 (.tmp 16) := Ty.up _ B2.le hT2
   refine tailL (L := []) (R := (fun v τ => Pr.has (Ty.pr (Ty.val (Value.string (bsL ((signsB (r.take k))))))) τ v)) rfl rfl (by decide) ok11 (Yld.toL (y_assign q37)) (fun a13 s11 hs3 ok12 r3 sm3 => ?_)
   have F12 := F11.stepL hs3 (by decide)
   have q38 : At (Ty.val (Value.string (bsL ((signsB (r.take k)))))) s11 a13 (.tmp 2) := r3
   clear r3
   refine wpList_nil ?_
   refine tn ?_
   refine wp_ret ?_
   exact retL1 rfl ok12 F12 (cvt (by (obtain rfl : k = r.length := (by omega); rw [List.take_length])) q38)


end Go.Proofs.Ytlhnpkaohfoicaa
