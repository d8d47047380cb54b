/- The functions that the law MusicSays reaches, each by its contract. Part 3. -/
import Derived.Test.YtlhnpkaohfoicaaMusicSaysW2
namespace Go.Proofs.Ytlhnpkaohfoicaa
open Go.KL

set_option maxHeartbeats 4000000 in
set_option maxRecDepth 100000 in
theorem rPatternMay_fn (n : Int) (s : ByteArray) (σ : GW)  (v0 v1 : Value) (hv0 : Ty.has (Ty.int n) σ v0) (hv1 : Ty.has (Ty.val (Value.string s)) σ v1)  (hn64 : -9223372036854775808 ≤ n ∧ n ≤ 9223372036854775807) (hs : s.size ≤ 17592186044416) :
    FnC Try.prog 32 #[v0, v1] σ (Ty.int (patMay n (runsL s))) := by
 have hLl := runsL_len s
 obtain ⟨L, hL⟩ : ∃ L, L = runsL s := ⟨_, rfl⟩
 rw [← hL] at hLl ⊢
 refine fn_intro0 Try.func32 rfl Try.ntmps32 (Nat.le_of_ble_eq_true rfl) (fun s0 a0 hle F0 ok0 hargs => ?_)
 have p0 : At (Ty.int n) s0 a0 (.tmp 0) := by have e := hargs 0 _ rfl; show Ty.has _ _ _; rw [e]; exact Ty.up _ hle hv0
 have p1 : At (Ty.val (Value.string s)) s0 a0 (.tmp 1) := by have e := hargs 1 _ rfl; show Ty.has _ _ _; rw [e]; exact Ty.up _ hle hv1
 clear hargs
 refine wp_seq ?_
 refine reg (a := a0) (σ := s0) rfl (fun i_ => List.getD [(Ty.pr (Ty.int (0 : Int)))] i_ Pr.any) ok0 rfl ⟨?_, trivial⟩ ?_
 · intro ax tx hs okx sm
   exact run_plain rfl (y_assign rfl)
 intro a1 s1 D1
 have ok1 := D1.ok
 have F1 := F0.step0 D1.stp
 have q1 : At (Ty.int n) s1 a1 (.tmp 0) := D1.kt p0 rfl
 have q2 : At (Ty.val (Value.string s)) s1 a1 (.tmp 1) := D1.kt p1 rfl
 clear D1
 refine tn ?_
 refine wp_seq ?_
 refine wp_seq ?_
 refine reg (a := a1) (σ := s1) rfl (fun i_ => List.getD [(Ty.pr (Ty.int n)), (Ty.pr (Ty.bool (decide (n < (1 : Int))))), (Ty.pr (Ty.bool (decide (n < (1 : Int))))), (Ty.pr (Ty.grd ((decide (n < (1 : Int))) = false) (Ty.int n))), (Ty.pr (Ty.grd ((decide (n < (1 : Int))) = false) (Ty.bool (decide ((12 : Int) < n))))), (Ty.pr (Ty.bool ((decide (n < (1 : Int))) || (decide ((12 : Int) < n)))))] i_ Pr.any) ok1 rfl ⟨?_, ?_, ?_, ?_, ?_, ?_, trivial⟩ ?_
 · intro ax tx hs okx sm
   exact run_plain rfl (y_move (kp (sm 0 rfl) hs q1))
 · intro ax tx hs okx sm d0
   have e0 : At (Ty.int n) tx ax (.tmp 10) := d0 rfl
   exact run_plain rfl (y_lss e0 rfl)
 · intro ax tx hs okx sm d0
   have e1 : At (Ty.bool (decide (n < (1 : Int)))) tx ax (.tmp 11) := d0 rfl
   exact run_plain rfl (y_move e1)
 · intro ax tx hs okx sm d0
   have e2 : At (Ty.bool (decide (n < (1 : Int)))) tx ax (.tmp 12) := d0 rfl
   refine run_guard (T := (Ty.int n)) okx rfl rfl (by decide) e2 (fun hg => ?_)
   have hp := of_decide_eq_false hg
   exact y_move (kp (sm 0 rfl) hs q1)
 · intro ax tx hs okx sm d0 d1
   have e3 : At (Ty.grd ((decide (n < (1 : Int))) = false) (Ty.int n)) tx ax (.tmp 13) := d0 rfl
   have e2 : At (Ty.bool (decide (n < (1 : Int)))) tx ax (.tmp 12) := d1 rfl
   refine run_guard (T := (Ty.bool (decide ((12 : Int) < n)))) okx rfl rfl (by decide) e2 (fun hg => ?_)
   have hp := of_decide_eq_false hg
   exact y_gtr (e3.1 hg) rfl
 · intro ax tx hs okx sm d0 d1
   have e2 : At (Ty.bool (decide (n < (1 : Int)))) tx ax (.tmp 12) := d0 rfl
   have e4 : At (Ty.grd ((decide (n < (1 : Int))) = false) (Ty.bool (decide ((12 : Int) < n)))) tx ax (.tmp 14) := d1 rfl
   exact run_plain rfl (y_pick_or e2 rfl e4)
 intro a2 s2 D2
 have ok2 := D2.ok
 have F2 := F1.step0 D2.stp
 have q3 : At (Ty.int n) s2 a2 (.tmp 0) := D2.kt q1 rfl
 have q4 : At (Ty.val (Value.string s)) s2 a2 (.tmp 1) := D2.kt q2 rfl
 have q5 : At (Ty.bool ((decide (n < (1 : Int))) || (decide ((12 : Int) < n)))) s2 a2 (.tmp 15) := D2.done 5
 clear D2
 refine tn ?_
 refine cond_t q5 (fun c1 => ?_) (fun c1 => ?_)
 ·
  simp only [Bool.or_eq_true, decide_eq_true_eq] at c1
  refine wp_seq ?_
  refine reg (a := a2) (σ := s2) rfl (fun i_ => List.getD [(Ty.pr (Ty.int (1 : Int)))] i_ Pr.any) ok2 rfl ⟨?_, trivial⟩ ?_
  · intro ax tx hs okx sm
    exact run_plain rfl (y_assign rfl)
  intro a3 s3 D3
  have ok3 := D3.ok
  have F3 := F2.step0 D3.stp
  have q6 : At (Ty.int (1 : Int)) s3 a3 (.tmp 4) := D3.done 0
  clear D3
  refine tn ?_
  refine wp_ret ?_
  refine tr ?_
  exact retL1 rfl ok3 F3 (cvi (by (exact (patMay_cnt (by omega)).symm)) q6)
 ·
  obtain ⟨d1, d2⟩ := Bool.or_eq_false_iff.mp c1
  replace d1 := of_decide_eq_false d1
  replace d2 := of_decide_eq_false d2
  simp only [Bool.or_eq_false_iff, decide_eq_false_iff_not] at c1; have hx1 : ¬ (n < 1 ∨ 12 < n) := (by omega)
  refine wp_skip ?_
  refine tn ?_
  refine wp_seq ?_
  refine reg (a := a2) (σ := s2) rfl (fun i_ => List.getD [(Ty.pr (Ty.val (Value.string s))), (Ty.pr (Ty.lst Ty.int (runsL s))), (Ty.pr (Ty.lst Ty.int (runsL s)))] i_ Pr.any) ok2 rfl ⟨?_, ?_, ?_, trivial⟩ ?_
  · intro ax tx hs okx sm
    exact run_plain rfl (y_move (kp (sm 1 rfl) hs q4))
  · intro ax tx hs okx sm d0
    have e0 : At (Ty.val (Value.string s)) tx ax (.tmp 16) := d0 rfl
    exact run_plain rfl (y_call #[ax.eval (.tmp 16)] Try.func90 rfl rfl (by simp only [List.map_toArray, List.map_cons, List.map_nil]) (rRunes_fn (s) _ _ e0 (by omega)))
  · intro ax tx hs okx sm d0 d1 d2 d3
    have e1 : At (Ty.lst Ty.int (runsL s)) tx ax (.tmp 17) := d0 rfl
    have e0 : At (Ty.val (Value.string s)) tx ax (.tmp 16) := d2 rfl
    exact run_plain rfl (y_assign e1)
  intro a4 s4 D4
  have ok4 := D4.ok
  have F4 := F2.step0 D4.stp
  have q7 : At (Ty.int n) s4 a4 (.tmp 0) := D4.kt q3 rfl
  have q8 : At (Ty.lst Ty.int (runsL s)) s4 a4 (.tmp 5) := D4.done 2
  clear D4
  have q9 : At (Ty.lst Ty.int L) s4 a4 (.tmp 5) := (cvt (by (rw [hL])) q8)
  refine tn ?_
  refine wp_seq ?_
  refine reg (a := a4) (σ := s4) rfl (fun i_ => List.getD [(Ty.pr (Ty.int (0 : Int)))] i_ Pr.any) ok4 rfl ⟨?_, trivial⟩ ?_
  · intro ax tx hs okx sm
    exact run_plain rfl (y_assign rfl)
  intro a5 s5 D5
  have ok5 := D5.ok
  have F5 := F4.step0 D5.stp
  have q10 : At (Ty.int n) s5 a5 (.tmp 0) := D5.kt q7 rfl
  have q11 : At (Ty.lst Ty.int L) s5 a5 (.tmp 5) := D5.kt q9 rfl
  have q12 : At (Ty.int (0 : Int)) s5 a5 (.tmp 6) := D5.done 0
  clear D5
  refine tn ?_
  refine wp_seq ?_
  refine wp_seq ?_
  refine reg (a := a5) (σ := s5) rfl (fun i_ => List.getD [(Ty.pr (Ty.int (0 : Int)))] i_ Pr.any) ok5 rfl ⟨?_, trivial⟩ ?_
  · intro ax tx hs okx sm
    exact run_plain rfl (y_assign rfl)
  intro a6 s6 D6
  have ok6 := D6.ok
  have F6 := F5.step0 D6.stp
  have q13 : At (Ty.int n) s6 a6 (.tmp 0) := D6.kt q10 rfl
  have q14 : At (Ty.lst Ty.int L) s6 a6 (.tmp 5) := D6.kt q11 rfl
  have q15 : At (Ty.int (0 : Int)) s6 a6 (.tmp 6) := D6.kt q12 rfl
  have q16 : At (Ty.int (0 : Int)) s6 a6 (.tmp 7) := D6.done 0
  clear D6
  refine tn ?_
  refine wp_block ?_
  refine loop (fun n1 a7 w1 => ∃ (t1 : GW) (i : Nat), t1.w = w1 ∧ FromL [] s0 t1 ∧ Ok 85 a7 ∧ At (Ty.nat i) t1 a7 (.tmp 7) ∧ At (Ty.nat (starN (L.take i))) t1 a7 (.tmp 6) ∧ At (Ty.int n) t1 a7 (.tmp 0) ∧ At (Ty.lst Ty.int L) t1 a7 (.tmp 5) ∧ (i ≤ L.length) ∧ (peF n (L.take i) (L.drop i) = peF n [] L) ∧ n1 = L.length - i) (L.length - (0)) ?_ ?_
  ·
   exact ⟨s6, 0, rfl, F6, ok6, (cvi (by (first | rfl | omega | (simp_all; done) | (simp_all; omega))) q16), (cvi (by (rfl)) q15), q13, q14, by omega, rfl, rfl⟩
  ·
   rintro n2 a8 w2 ⟨t2, i, rfl, F7, ok7, q17, q18, q19, q20, hi, hpe, rfl⟩
   have hst := starN_le (L.take i)
   refine wp_seq ?_
   refine wp_seq ?_
   refine reg (a := a8) (σ := t2) rfl (fun i_ => List.getD [(Ty.pr (Ty.nat i)), (Ty.pr (Ty.lst Ty.int L)), (Ty.pr (Ty.nat (List.length L))), (Ty.pr (Ty.bool (decide (((i : Nat) : Int) < (((List.length L) : Nat) : Int)))))] i_ Pr.any) ok7 rfl ⟨?_, ?_, ?_, ?_, trivial⟩ ?_
   · intro ax tx hs okx sm
     exact run_plain rfl (y_move (kp (sm 7 rfl) hs q17))
   · intro ax tx hs okx sm
     exact run_plain rfl (y_move (kp (sm 5 rfl) hs q20))
   · intro ax tx hs okx sm d0
     have e1 : At (Ty.lst Ty.int L) tx ax (.tmp 19) := d0 rfl
     exact run_plain rfl (y_len Try.underlying34 e1)
   · intro ax tx hs okx sm d0 d1
     have e0 : At (Ty.nat i) tx ax (.tmp 18) := d0 rfl
     have e2 : At (Ty.nat (List.length L)) tx ax (.tmp 20) := d1 rfl
     exact run_plain rfl (y_lss e0 e2)
   intro a9 s7 D7
   have ok8 := D7.ok
   have F8 := F7.step0 D7.stp
   have q21 : At (Ty.nat i) s7 a9 (.tmp 7) := D7.kt q17 rfl
   have q22 : At (Ty.nat (starN (L.take i))) s7 a9 (.tmp 6) := D7.kt q18 rfl
   have q23 : At (Ty.int n) s7 a9 (.tmp 0) := D7.kt q19 rfl
   have q24 : At (Ty.lst Ty.int L) s7 a9 (.tmp 5) := D7.kt q20 rfl
   have q25 : At (Ty.bool (decide (((i : Nat) : Int) < (((List.length L) : Nat) : Int)))) s7 a9 (.tmp 21) := D7.done 3
   clear D7
   refine tn ?_
   refine cond_p (p := (((i : Nat) : Int) < (((List.length L) : Nat) : Int))) q25 (fun c2 => ?_) (fun c2 => ?_)
   ·
    have hts := take_snoc L 0 i (by omega); rw [drop_at (show i < L.length by omega)] at hpe
    refine wp_skip ?_
    refine tn ?_
    refine wp_seq ?_
    refine wp_block ?_
    refine wp_seq ?_
    refine reg (a := a9) (σ := s7) rfl (fun i_ => List.getD [(Ty.pr (Ty.lst Ty.int L)), (Ty.pr (Ty.nat i)), (Ty.pr (Ty.ref [(Ty.int (L.getD i 0))])), (Ty.pr (Ty.int (L.getD i 0))), (Ty.pr (Ty.int (signIdx ((L.getD i 0))))), (Ty.pr (Ty.int (signIdx ((L.getD i 0)))))] i_ Pr.any) ok8 rfl ⟨?_, ?_, ?_, ?_, ?_, ?_, trivial⟩ ?_
    · intro ax tx hs okx sm
      exact run_plain rfl (y_move (kp (sm 5 rfl) hs q24))
    · intro ax tx hs okx sm
      exact run_plain rfl (y_move (kp (sm 7 rfl) hs q21))
    · intro ax tx hs okx sm d0 d1
      have e0 : At (Ty.lst Ty.int L) tx ax (.tmp 24) := d0 rfl
      have e1 : At (Ty.nat i) tx ax (.tmp 25) := d1 rfl
      exact run_plain rfl (y_index1 Try.underlying34 Try.inf3 e0 e1 (by omega) (lst_get Ty.int L 0 i (by omega)))
    · intro ax tx hs okx sm d0
      have e2 : At (Ty.ref [(Ty.int (L.getD i 0))]) tx ax (.tmp 26) := d0 rfl
      exact run_plain rfl (y_load Try.underlying3 rfl e2 rfl)
    · intro ax tx hs okx sm d0
      have e3 : At (Ty.int (L.getD i 0)) tx ax (.tmp 27) := d0 rfl
      exact run_plain rfl (y_call #[ax.eval (.tmp 27)] Try.func91 rfl rfl (by simp only [List.map_toArray, List.map_cons, List.map_nil]) (rBell_fn ((L.getD i 0)) _ _ (cvi (σ := tx) (by omega) e3) ))
    · intro ax tx hs okx sm d0 d1 d2 d3 d4 d5 d6
      have e4 : At (Ty.int (signIdx ((L.getD i 0)))) tx ax (.tmp 28) := d0 rfl
      have e0 : At (Ty.lst Ty.int L) tx ax (.tmp 24) := d2 rfl
      have e1 : At (Ty.nat i) tx ax (.tmp 25) := d3 rfl
      have e2 : At (Ty.ref [(Ty.int (L.getD i 0))]) tx ax (.tmp 26) := d4 rfl
      have e3 : At (Ty.int (L.getD i 0)) tx ax (.tmp 27) := d5 rfl
      exact run_plain rfl (y_assign e4)
    intro a10 s8 D8
    have ok9 := D8.ok
    have F9 := F8.step0 D8.stp
    have q26 : At (Ty.nat i) s8 a10 (.tmp 7) := D8.kt q21 rfl
    have q27 : At (Ty.nat (starN (L.take i))) s8 a10 (.tmp 6) := D8.kt q22 rfl
    have q28 : At (Ty.int n) s8 a10 (.tmp 0) := D8.kt q23 rfl
    have q29 : At (Ty.lst Ty.int L) s8 a10 (.tmp 5) := D8.kt q24 rfl
    have q30 : At (Ty.int (signIdx ((L.getD i 0)))) s8 a10 (.tmp 8) := D8.done 5
    clear D8
    refine tn ?_
    refine wp_block ?_
    refine wp_seq ?_
    refine reg (a := a10) (σ := s8) rfl (fun i_ => List.getD [(Ty.pr (Ty.lst Ty.int L)), (Ty.pr (Ty.nat i)), (Ty.pr (Ty.ref [(Ty.int (L.getD i 0))])), (Ty.pr (Ty.int (L.getD i 0))), (Ty.pr (Ty.bool (decide ((L.getD i 0) = (42 : Int))))), (Ty.pr (Ty.bool (decide ((L.getD i 0) = (42 : Int))))), (Ty.pr (Ty.grd ((decide ((L.getD i 0) = (42 : Int))) = true) (Ty.nat (starN (L.take i))))), (Ty.pr (Ty.grd ((decide ((L.getD i 0) = (42 : Int))) = true) (Ty.bool (decide ((((starN (L.take i)) : Nat) : Int) = (0 : Int)))))), (Ty.pr (Ty.bool ((decide ((L.getD i 0) = (42 : Int))) && (decide ((((starN (L.take i)) : Nat) : Int) = (0 : Int)))))), (Ty.pr (Ty.bool ((decide ((L.getD i 0) = (42 : Int))) && (decide ((((starN (L.take i)) : Nat) : Int) = (0 : Int))))))] i_ Pr.any) ok9 rfl ⟨?_, ?_, ?_, ?_, ?_, ?_, ?_, ?_, ?_, ?_, trivial⟩ ?_
    · intro ax tx hs okx sm
      exact run_plain rfl (y_move (kp (sm 5 rfl) hs q29))
    · intro ax tx hs okx sm
      exact run_plain rfl (y_move (kp (sm 7 rfl) hs q26))
    · intro ax tx hs okx sm d0 d1
      have e0 : At (Ty.lst Ty.int L) tx ax (.tmp 44) := d0 rfl
      have e1 : At (Ty.nat i) tx ax (.tmp 45) := d1 rfl
      exact run_plain rfl (y_index1 Try.underlying34 Try.inf3 e0 e1 (by omega) (lst_get Ty.int L 0 i (by omega)))
    · intro ax tx hs okx sm d0
      have e2 : At (Ty.ref [(Ty.int (L.getD i 0))]) tx ax (.tmp 46) := d0 rfl
      exact run_plain rfl (y_load Try.underlying3 rfl e2 rfl)
    · intro ax tx hs okx sm d0
      have e3 : At (Ty.int (L.getD i 0)) tx ax (.tmp 47) := d0 rfl
      exact run_plain rfl (y_eql e3 rfl)
    · intro ax tx hs okx sm d0
      have e4 : At (Ty.bool (decide ((L.getD i 0) = (42 : Int)))) tx ax (.tmp 48) := d0 rfl
      exact run_plain rfl (y_move e4)
    · intro ax tx hs okx sm d0
      have e5 : At (Ty.bool (decide ((L.getD i 0) = (42 : Int)))) tx ax (.tmp 49) := d0 rfl
      refine run_guard (T := (Ty.nat (starN (L.take i)))) okx rfl rfl (by decide) e5 (fun hg => ?_)
      have hp := of_decide_eq_true hg
      exact y_move (kp (sm 6 rfl) hs q27)
    · intro ax tx hs okx sm d0 d1
      have e6 : At (Ty.grd ((decide ((L.getD i 0) = (42 : Int))) = true) (Ty.nat (starN (L.take i)))) tx ax (.tmp 50) := d0 rfl
      have e5 : At (Ty.bool (decide ((L.getD i 0) = (42 : Int)))) tx ax (.tmp 49) := d1 rfl
      refine run_guard (T := (Ty.bool (decide ((((starN (L.take i)) : Nat) : Int) = (0 : Int))))) okx rfl rfl (by decide) e5 (fun hg => ?_)
      have hp := of_decide_eq_true hg
      exact y_eql (e6.1 hg) rfl
    · intro ax tx hs okx sm d0 d1
      have e5 : At (Ty.bool (decide ((L.getD i 0) = (42 : Int)))) tx ax (.tmp 49) := d0 rfl
      have e7 : At (Ty.grd ((decide ((L.getD i 0) = (42 : Int))) = true) (Ty.bool (decide ((((starN (L.take i)) : Nat) : Int) = (0 : Int))))) tx ax (.tmp 51) := d1 rfl
      exact run_plain rfl (y_pick_and e5 e7 rfl)
    · intro ax tx hs okx sm d0 d1
      have e8 : At (Ty.bool ((decide ((L.getD i 0) = (42 : Int))) && (decide ((((starN (L.take i)) : Nat) : Int) = (0 : Int))))) tx ax (.tmp 52) := d0 rfl
      have e5 : At (Ty.bool (decide ((L.getD i 0) = (42 : Int)))) tx ax (.tmp 49) := d1 rfl
      exact run_plain rfl (y_assign e8)
    intro a11 s9 D9
    have ok10 := D9.ok
    have F10 := F9.step0 D9.stp
    have q31 : At (Ty.nat i) s9 a11 (.tmp 7) := D9.kt q26 rfl
    have q32 : At (Ty.nat (starN (L.take i))) s9 a11 (.tmp 6) := D9.kt q27 rfl
    have q33 : At (Ty.int n) s9 a11 (.tmp 0) := D9.kt q28 rfl
    have q34 : At (Ty.lst Ty.int L) s9 a11 (.tmp 5) := D9.kt q29 rfl
    have q35 : At (Ty.int (signIdx ((L.getD i 0)))) s9 a11 (.tmp 8) := D9.kt q30 rfl
    have q36 : At (Ty.bool ((decide ((L.getD i 0) = (42 : Int))) && (decide ((((starN (L.take i)) : Nat) : Int) = (0 : Int))))) s9 a11 (.tmp 43) := D9.done 9
    clear D9
    refine tn ?_
    refine cond_t q36 (fun c3 => ?_) (fun c3 => ?_)
    ·
     obtain ⟨d3, d4⟩ := Bool.and_eq_true_iff.mp c3
     replace d3 := of_decide_eq_true d3
     replace d4 := of_decide_eq_true d4
     simp only [Bool.and_eq_true, decide_eq_true_eq] at c3
     refine reg (a := a11) (σ := s9) rfl (fun i_ => List.getD [(Ty.pr (Ty.nat (starN (L.take i)))), (Ty.pr (Ty.nat ((starN (L.take i)) + 1))), (Ty.pr (Ty.nat ((starN (L.take i)) + 1)))] i_ Pr.any) ok10 rfl ⟨?_, ?_, ?_, trivial⟩ ?_
     · intro ax tx hs okx sm
       exact run_plain rfl (y_move (kp (sm 6 rfl) hs q32))
     · intro ax tx hs okx sm d0
       have e0 : At (Ty.nat (starN (L.take i))) tx ax (.tmp 53) := d0 rfl
       exact run_plain rfl ((y_add e0 rfl (w64 (by omega) (by omega))).mono (fun τ _ h => cvi (σ := τ) (by first | omega | exact (Int.natCast_mul _ _).symm) h))
     · intro ax tx hs okx sm d0 d1 d2
       have e1 : At (Ty.nat ((starN (L.take i)) + 1)) tx ax (.tmp 54) := d0 rfl
       have e0 : At (Ty.nat (starN (L.take i))) tx ax (.tmp 53) := d1 rfl
       exact run_plain rfl (y_assign e1)
     intro a12 s10 D10
     have ok11 := D10.ok
     have F11 := F10.step0 D10.stp
     have q37 : At (Ty.nat i) s10 a12 (.tmp 7) := D10.kt q31 rfl
     have q38 : At (Ty.int n) s10 a12 (.tmp 0) := D10.kt q33 rfl
     have q39 : At (Ty.lst Ty.int L) s10 a12 (.tmp 5) := D10.kt q34 rfl
     have q40 : At (Ty.nat ((starN (L.take i)) + 1)) s10 a12 (.tmp 6) := D10.done 2
     clear D10
     refine bn ?_
     refine bn ?_
     refine tn ?_
     refine reg (a := a12) (σ := s10) rfl (fun i_ => List.getD [(Ty.pr (Ty.nat i)), (Ty.pr (Ty.nat (i + 1))), (Ty.pr (Ty.nat (i + 1)))] i_ Pr.any) ok11 rfl ⟨?_, ?_, ?_, trivial⟩ ?_
     · intro ax tx hs okx sm
       exact run_plain rfl (y_move (kp (sm 7 rfl) hs q37))
     · intro ax tx hs okx sm d0
       have e0 : At (Ty.nat i) tx ax (.tmp 22) := d0 rfl
       exact run_plain rfl ((y_add e0 rfl (w64 (by omega) (by omega))).mono (fun τ _ h => cvi (σ := τ) (by first | omega | exact (Int.natCast_mul _ _).symm) h))
     · intro ax tx hs okx sm d0 d1 d2
       have e1 : At (Ty.nat (i + 1)) tx ax (.tmp 23) := d0 rfl
       have e0 : At (Ty.nat i) tx ax (.tmp 22) := d1 rfl
       exact run_plain rfl (y_assign e1)
     intro a13 s11 D11
     have ok12 := D11.ok
     have F12 := F11.step0 D11.stp
     have q41 : At (Ty.int n) s11 a13 (.tmp 0) := D11.kt q38 rfl
     have q42 : At (Ty.lst Ty.int L) s11 a13 (.tmp 5) := D11.kt q39 rfl
     have q43 : At (Ty.nat ((starN (L.take i)) + 1)) s11 a13 (.tmp 6) := D11.kt q40 rfl
     have q44 : At (Ty.nat (i + 1)) s11 a13 (.tmp 7) := D11.done 2
     clear D11
     exact tn ⟨L.length - ((i+1)), by omega, s11, (i+1), rfl, F12, ok12, (cvi (by (first | rfl | omega | (simp_all; done) | (simp_all; omega))) q44), (cvi (by (rw [hts, c3.1, starN_star (by omega)])) q43), q41, q42, by omega, by rw [hts]; exact pe_go hpe (ok_star c3.1 (by omega)), rfl⟩
    ·
     simp only [Bool.and_eq_false_iff, decide_eq_false_iff_not] at c3; have hx3 : ¬ (L.getD i 0 = 42 ∧ starN (L.take i) = 0) := (by omega)
     refine wp_seq ?_
     refine reg (a := a11) (σ := s9) rfl (fun i_ => List.getD [(Ty.pr (Ty.lst Ty.int L)), (Ty.pr (Ty.nat i)), (Ty.pr (Ty.ref [(Ty.int (L.getD i 0))])), (Ty.pr (Ty.int (L.getD i 0))), (Ty.pr (Ty.bool (decide ((L.getD i 0) = (63 : Int))))), (Ty.pr (Ty.bool (decide ((L.getD i 0) = (63 : Int)))))] i_ Pr.any) ok10 rfl ⟨?_, ?_, ?_, ?_, ?_, ?_, trivial⟩ ?_
     · intro ax tx hs okx sm
       exact run_plain rfl (y_move (kp (sm 5 rfl) hs q34))
     · intro ax tx hs okx sm
       exact run_plain rfl (y_move (kp (sm 7 rfl) hs q31))
     · intro ax tx hs okx sm d0 d1
       have e0 : At (Ty.lst Ty.int L) tx ax (.tmp 56) := d0 rfl
       have e1 : At (Ty.nat i) tx ax (.tmp 57) := d1 rfl
       exact run_plain rfl (y_index1 Try.underlying34 Try.inf3 e0 e1 (by omega) (lst_get Ty.int L 0 i (by omega)))
     · intro ax tx hs okx sm d0
       have e2 : At (Ty.ref [(Ty.int (L.getD i 0))]) tx ax (.tmp 58) := d0 rfl
       exact run_plain rfl (y_load Try.underlying3 rfl e2 rfl)
     · intro ax tx hs okx sm d0
       have e3 : At (Ty.int (L.getD i 0)) tx ax (.tmp 59) := d0 rfl
       exact run_plain rfl (y_eql e3 rfl)
     · intro ax tx hs okx sm d0
       have e4 : At (Ty.bool (decide ((L.getD i 0) = (63 : Int)))) tx ax (.tmp 60) := d0 rfl
       exact run_plain rfl (y_assign e4)
     intro a14 s12 D12
     have ok13 := D12.ok
     have F13 := F10.step0 D12.stp
     have q45 : At (Ty.nat i) s12 a14 (.tmp 7) := D12.kt q31 rfl
     have q46 : At (Ty.nat (starN (L.take i))) s12 a14 (.tmp 6) := D12.kt q32 rfl
     have q47 : At (Ty.int n) s12 a14 (.tmp 0) := D12.kt q33 rfl
     have q48 : At (Ty.lst Ty.int L) s12 a14 (.tmp 5) := D12.kt q34 rfl
     have q49 : At (Ty.int (signIdx ((L.getD i 0)))) s12 a14 (.tmp 8) := D12.kt q35 rfl
     have q50 : At (Ty.bool (decide ((L.getD i 0) = (63 : Int)))) s12 a14 (.tmp 55) := D12.done 5
     clear D12
     refine tn ?_
     refine cond_p (p := ((L.getD i 0) = (63 : Int))) q50 (fun c4 => ?_) (fun c4 => ?_)
     ·
      refine wp_skip ?_
      refine bn ?_
      refine bn ?_
      refine tn ?_
      refine reg (a := a14) (σ := s12) rfl (fun i_ => List.getD [(Ty.pr (Ty.nat i)), (Ty.pr (Ty.nat (i + 1))), (Ty.pr (Ty.nat (i + 1)))] i_ Pr.any) ok13 rfl ⟨?_, ?_, ?_, trivial⟩ ?_
      · intro ax tx hs okx sm
        exact run_plain rfl (y_move (kp (sm 7 rfl) hs q45))
      · intro ax tx hs okx sm d0
        have e0 : At (Ty.nat i) tx ax (.tmp 22) := d0 rfl
        exact run_plain rfl ((y_add e0 rfl (w64 (by omega) (by omega))).mono (fun τ _ h => cvi (σ := τ) (by first | omega | exact (Int.natCast_mul _ _).symm) h))
      · intro ax tx hs okx sm d0 d1 d2
        have e1 : At (Ty.nat (i + 1)) tx ax (.tmp 23) := d0 rfl
        have e0 : At (Ty.nat i) tx ax (.tmp 22) := d1 rfl
        exact run_plain rfl (y_assign e1)
      intro a15 s13 D13
      have ok14 := D13.ok
      have F14 := F13.step0 D13.stp
      have q51 : At (Ty.nat (starN (L.take i))) s13 a15 (.tmp 6) := D13.kt q46 rfl
      have q52 : At (Ty.int n) s13 a15 (.tmp 0) := D13.kt q47 rfl
      have q53 : At (Ty.lst Ty.int L) s13 a15 (.tmp 5) := D13.kt q48 rfl
      have q54 : At (Ty.nat (i + 1)) s13 a15 (.tmp 7) := D13.done 2
      clear D13
      exact tn ⟨L.length - ((i+1)), by omega, s13, (i+1), rfl, F14, ok14, (cvi (by (first | rfl | omega | (simp_all; done) | (simp_all; omega))) q54), (cvi (by (rw [hts, starN_snoc (by omega)])) q51), q52, q53, by omega, by rw [hts]; exact pe_go hpe (ok_q c4), rfl⟩
     ·
      refine wp_seq ?_
      refine reg (a := a14) (σ := s12) rfl (fun i_ => List.getD [(Ty.pr (Ty.int (signIdx ((L.getD i 0))))), (Ty.pr (Ty.bool (decide ((signIdx ((L.getD i 0))) < (0 : Int))))), (Ty.pr (Ty.bool (decide ((signIdx ((L.getD i 0))) < (0 : Int))))), (Ty.pr (Ty.grd ((decide ((signIdx ((L.getD i 0))) < (0 : Int))) = false) (Ty.int (signIdx ((L.getD i 0)))))), (Ty.pr (Ty.grd ((decide ((signIdx ((L.getD i 0))) < (0 : Int))) = false) (Ty.int n))), (Ty.pr (Ty.grd ((decide ((signIdx ((L.getD i 0))) < (0 : Int))) = false) (Ty.bool (decide (n ≤ (signIdx ((L.getD i 0)))))))), (Ty.pr (Ty.bool ((decide ((signIdx ((L.getD i 0))) < (0 : Int))) || (decide (n ≤ (signIdx ((L.getD i 0)))))))), (Ty.pr (Ty.bool ((decide ((signIdx ((L.getD i 0))) < (0 : Int))) || (decide (n ≤ (signIdx ((L.getD i 0))))))))] i_ Pr.any) ok13 rfl ⟨?_, ?_, ?_, ?_, ?_, ?_, ?_, ?_, trivial⟩ ?_
      · intro ax tx hs okx sm
        exact run_plain rfl (y_move (kp (sm 8 rfl) hs q49))
      · intro ax tx hs okx sm d0
        have e0 : At (Ty.int (signIdx ((L.getD i 0)))) tx ax (.tmp 62) := d0 rfl
        exact run_plain rfl (y_lss e0 rfl)
      · intro ax tx hs okx sm d0
        have e1 : At (Ty.bool (decide ((signIdx ((L.getD i 0))) < (0 : Int)))) tx ax (.tmp 63) := d0 rfl
        exact run_plain rfl (y_move e1)
      · intro ax tx hs okx sm d0
        have e2 : At (Ty.bool (decide ((signIdx ((L.getD i 0))) < (0 : Int)))) tx ax (.tmp 64) := d0 rfl
        refine run_guard (T := (Ty.int (signIdx ((L.getD i 0))))) okx rfl rfl (by decide) e2 (fun hg => ?_)
        have hp := of_decide_eq_false hg
        exact y_move (kp (sm 8 rfl) hs q49)
      · intro ax tx hs okx sm d0
        have e2 : At (Ty.bool (decide ((signIdx ((L.getD i 0))) < (0 : Int)))) tx ax (.tmp 64) := d0 rfl
        refine run_guard (T := (Ty.int n)) okx rfl rfl (by decide) e2 (fun hg => ?_)
        have hp := of_decide_eq_false hg
        exact y_move (kp (sm 0 rfl) hs q47)
      · intro ax tx hs okx sm d0 d1 d2
        have e3 : At (Ty.grd ((decide ((signIdx ((L.getD i 0))) < (0 : Int))) = false) (Ty.int (signIdx ((L.getD i 0))))) tx ax (.tmp 65) := d0 rfl
        have e4 : At (Ty.grd ((decide ((signIdx ((L.getD i 0))) < (0 : Int))) = false) (Ty.int n)) tx ax (.tmp 66) := d1 rfl
        have e2 : At (Ty.bool (decide ((signIdx ((L.getD i 0))) < (0 : Int)))) tx ax (.tmp 64) := d2 rfl
        refine run_guard (T := (Ty.bool (decide (n ≤ (signIdx ((L.getD i 0))))))) okx rfl rfl (by decide) e2 (fun hg => ?_)
        have hp := of_decide_eq_false hg
        exact y_geq (e3.1 hg) (e4.1 hg)
      · intro ax tx hs okx sm d0 d1
        have e2 : At (Ty.bool (decide ((signIdx ((L.getD i 0))) < (0 : Int)))) tx ax (.tmp 64) := d0 rfl
        have e5 : At (Ty.grd ((decide ((signIdx ((L.getD i 0))) < (0 : Int))) = false) (Ty.bool (decide (n ≤ (signIdx ((L.getD i 0))))))) tx ax (.tmp 67) := d1 rfl
        exact run_plain rfl (y_pick_or e2 rfl e5)
      · intro ax tx hs okx sm d0 d1
        have e6 : At (Ty.bool ((decide ((signIdx ((L.getD i 0))) < (0 : Int))) || (decide (n ≤ (signIdx ((L.getD i 0))))))) tx ax (.tmp 68) := d0 rfl
        have e2 : At (Ty.bool (decide ((signIdx ((L.getD i 0))) < (0 : Int)))) tx ax (.tmp 64) := d1 rfl
        exact run_plain rfl (y_assign e6)
      intro a16 s14 D14
      have ok15 := D14.ok
      have F15 := F13.step0 D14.stp
      have q55 : At (Ty.nat i) s14 a16 (.tmp 7) := D14.kt q45 rfl
      have q56 : At (Ty.nat (starN (L.take i))) s14 a16 (.tmp 6) := D14.kt q46 rfl
      have q57 : At (Ty.int n) s14 a16 (.tmp 0) := D14.kt q47 rfl
      have q58 : At (Ty.lst Ty.int L) s14 a16 (.tmp 5) := D14.kt q48 rfl
      have q59 : At (Ty.bool ((decide ((signIdx ((L.getD i 0))) < (0 : Int))) || (decide (n ≤ (signIdx ((L.getD i 0))))))) s14 a16 (.tmp 61) := D14.done 7
      clear D14
      refine tn ?_
      refine cond_t q59 (fun c5 => ?_) (fun c5 => ?_)
      ·
       simp only [Bool.or_eq_true, decide_eq_true_eq] at c5; have he := pe_stop hpe (ok_word hx3 c4 (by omega)) (by decide)
       refine wp_seq ?_
       refine reg (a := a16) (σ := s14) rfl (fun i_ => List.getD [(Ty.pr (Ty.int (4 : Int)))] i_ Pr.any) ok15 rfl ⟨?_, trivial⟩ ?_
       · intro ax tx hs okx sm
         exact run_plain rfl (y_assign rfl)
       intro a17 s15 D15
       have ok16 := D15.ok
       have F16 := F15.step0 D15.stp
       have q60 : At (Ty.int (4 : Int)) s15 a17 (.tmp 4) := D15.done 0
       clear D15
       refine tn ?_
       refine wp_ret ?_
       refine br ?_
       refine br ?_
       refine tr ?_
       refine tr ?_
       refine br ?_
       refine tr ?_
       exact retL1 rfl ok16 F16 (cvi (by (rw [patMay_err hx1 (by omega), he])) q60)
      ·
       obtain ⟨d5, d6⟩ := Bool.or_eq_false_iff.mp c5
       replace d5 := of_decide_eq_false d5
       replace d6 := of_decide_eq_false d6
       simp only [Bool.or_eq_false_iff, decide_eq_false_iff_not] at c5; have hx5 : ¬ (signIdx (L.getD i 0) < 0 ∨ n ≤ signIdx (L.getD i 0)) := (by omega); have hn42 := ne_42 (c := L.getD i 0) (by omega)
       refine wp_seq ?_
       refine reg (a := a16) (σ := s14) rfl (fun i_ => List.getD [(Ty.pr (Ty.int (0 : Int)))] i_ Pr.any) ok15 rfl ⟨?_, trivial⟩ ?_
       · intro ax tx hs okx sm
         exact run_plain rfl (y_assign rfl)
       intro a18 s16 D16
       have ok17 := D16.ok
       have F17 := F15.step0 D16.stp
       have q61 : At (Ty.nat i) s16 a18 (.tmp 7) := D16.kt q55 rfl
       have q62 : At (Ty.nat (starN (L.take i))) s16 a18 (.tmp 6) := D16.kt q56 rfl
       have q63 : At (Ty.int n) s16 a18 (.tmp 0) := D16.kt q57 rfl
       have q64 : At (Ty.lst Ty.int L) s16 a18 (.tmp 5) := D16.kt q58 rfl
       have q65 : At (Ty.int (0 : Int)) s16 a18 (.tmp 9) := D16.done 0
       clear D16
       refine tn ?_
       refine wp_block ?_
       refine loop (fun n3 a19 w3 => ∃ (t3 : GW) (k : Nat), t3.w = w3 ∧ FromL [] s0 t3 ∧ Ok 85 a19 ∧ At (Ty.nat k) t3 a19 (.tmp 9) ∧ At (Ty.nat i) t3 a19 (.tmp 7) ∧ At (Ty.nat (starN (L.take i))) t3 a19 (.tmp 6) ∧ At (Ty.int n) t3 a19 (.tmp 0) ∧ At (Ty.lst Ty.int L) t3 a19 (.tmp 5) ∧ (k ≤ i) ∧ (∀ j, j < k → L.getD j 0 ≠ L.getD i 0) ∧ n3 = i - k) (i - (0)) ?_ ?_
       ·
        exact ⟨s16, 0, rfl, F17, ok17, (cvi (by (first | rfl | omega | (simp_all; done) | (simp_all; omega))) q65), q61, q62, q63, q64, by omega, fun j hj => absurd hj (Nat.not_lt_zero j), rfl⟩
       ·
        rintro n4 a20 w4 ⟨t4, k, rfl, F18, ok18, q66, q67, q68, q69, q70, hk, hno, rfl⟩
        refine wp_seq ?_
        refine wp_seq ?_
        refine reg (a := a20) (σ := t4) rfl (fun i_ => List.getD [(Ty.pr (Ty.nat k)), (Ty.pr (Ty.nat i)), (Ty.pr (Ty.bool (decide (((k : Nat) : Int) < ((i : Nat) : Int)))))] i_ Pr.any) ok18 rfl ⟨?_, ?_, ?_, trivial⟩ ?_
        · intro ax tx hs okx sm
          exact run_plain rfl (y_move (kp (sm 9 rfl) hs q66))
        · intro ax tx hs okx sm
          exact run_plain rfl (y_move (kp (sm 7 rfl) hs q67))
        · intro ax tx hs okx sm d0 d1
          have e0 : At (Ty.nat k) tx ax (.tmp 29) := d0 rfl
          have e1 : At (Ty.nat i) tx ax (.tmp 30) := d1 rfl
          exact run_plain rfl (y_lss e0 e1)
        intro a21 s17 D17
        have ok19 := D17.ok
        have F19 := F18.step0 D17.stp
        have q71 : At (Ty.nat k) s17 a21 (.tmp 9) := D17.kt q66 rfl
        have q72 : At (Ty.nat i) s17 a21 (.tmp 7) := D17.kt q67 rfl
        have q73 : At (Ty.nat (starN (L.take i))) s17 a21 (.tmp 6) := D17.kt q68 rfl
        have q74 : At (Ty.int n) s17 a21 (.tmp 0) := D17.kt q69 rfl
        have q75 : At (Ty.lst Ty.int L) s17 a21 (.tmp 5) := D17.kt q70 rfl
        have q76 : At (Ty.bool (decide (((k : Nat) : Int) < ((i : Nat) : Int)))) s17 a21 (.tmp 31) := D17.done 2
        clear D17
        refine tn ?_
        refine cond_p (p := (((k : Nat) : Int) < ((i : Nat) : Int))) q76 (fun c6 => ?_) (fun c6 => ?_)
        ·
         refine wp_skip ?_
         refine tn ?_
         refine wp_seq ?_
         refine wp_block ?_
         refine wp_seq ?_
         refine reg (a := a21) (σ := s17) rfl (fun i_ => List.getD [(Ty.pr (Ty.lst Ty.int L)), (Ty.pr (Ty.nat k)), (Ty.pr (Ty.ref [(Ty.int (L.getD k 0))])), (Ty.pr (Ty.int (L.getD k 0))), (Ty.pr (Ty.lst Ty.int L)), (Ty.pr (Ty.nat i)), (Ty.pr (Ty.ref [(Ty.int (L.getD i 0))])), (Ty.pr (Ty.int (L.getD i 0))), (Ty.pr (Ty.bool (decide ((L.getD k 0) = (L.getD i 0)))))] i_ Pr.any) ok19 rfl ⟨?_, ?_, ?_, ?_, ?_, ?_, ?_, ?_, ?_, trivial⟩ ?_
         · intro ax tx hs okx sm
           exact run_plain rfl (y_move (kp (sm 5 rfl) hs q75))
         · intro ax tx hs okx sm
           exact run_plain rfl (y_move (kp (sm 9 rfl) hs q71))
         · intro ax tx hs okx sm d0 d1
           have e0 : At (Ty.lst Ty.int L) tx ax (.tmp 34) := d0 rfl
           have e1 : At (Ty.nat k) tx ax (.tmp 35) := d1 rfl
           exact run_plain rfl (y_index1 Try.underlying34 Try.inf3 e0 e1 (by omega) (lst_get Ty.int L 0 k (by omega)))
         · intro ax tx hs okx sm d0
           have e2 : At (Ty.ref [(Ty.int (L.getD k 0))]) tx ax (.tmp 36) := d0 rfl
           exact run_plain rfl (y_load Try.underlying3 rfl e2 rfl)
         · intro ax tx hs okx sm
           exact run_plain rfl (y_move (kp (sm 5 rfl) hs q75))
         · intro ax tx hs okx sm
           exact run_plain rfl (y_move (kp (sm 7 rfl) hs q72))
         · intro ax tx hs okx sm d0 d1
           have e4 : At (Ty.lst Ty.int L) tx ax (.tmp 38) := d0 rfl
           have e5 : At (Ty.nat i) tx ax (.tmp 39) := d1 rfl
           exact run_plain rfl (y_index1 Try.underlying34 Try.inf3 e4 e5 (by omega) (lst_get Ty.int L 0 i (by omega)))
         · intro ax tx hs okx sm d0
           have e6 : At (Ty.ref [(Ty.int (L.getD i 0))]) tx ax (.tmp 40) := d0 rfl
           exact run_plain rfl (y_load Try.underlying3 rfl e6 rfl)
         · intro ax tx hs okx sm d0 d1
           have e3 : At (Ty.int (L.getD k 0)) tx ax (.tmp 37) := d0 rfl
           have e7 : At (Ty.int (L.getD i 0)) tx ax (.tmp 41) := d1 rfl
           exact run_plain rfl (y_eql e3 e7)
         intro a22 s18 D18
         have ok20 := D18.ok
         have F20 := F19.step0 D18.stp
         have q77 : At (Ty.nat k) s18 a22 (.tmp 9) := D18.kt q71 rfl
         have q78 : At (Ty.nat i) s18 a22 (.tmp 7) := D18.kt q72 rfl
         have q79 : At (Ty.nat (starN (L.take i))) s18 a22 (.tmp 6) := D18.kt q73 rfl
         have q80 : At (Ty.int n) s18 a22 (.tmp 0) := D18.kt q74 rfl
         have q81 : At (Ty.lst Ty.int L) s18 a22 (.tmp 5) := D18.kt q75 rfl
         have q82 : At (Ty.bool (decide ((L.getD k 0) = (L.getD i 0)))) s18 a22 (.tmp 42) := D18.done 8
         clear D18
         refine tn ?_
         refine cond_p (p := ((L.getD k 0) = (L.getD i 0))) q82 (fun c7 => ?_) (fun c7 => ?_)
         ·
          have he := pe_stop hpe (ok_row hx3 c4 hx5 (in_take (by omega) (by omega) c7)) (by decide)
          refine wp_seq ?_
          refine reg (a := a22) (σ := s18) rfl (fun i_ => List.getD [(Ty.pr (Ty.int (2 : Int)))] i_ Pr.any) ok20 rfl ⟨?_, trivial⟩ ?_
          · intro ax tx hs okx sm
            exact run_plain rfl (y_assign rfl)
          intro a23 s19 D19
          have ok21 := D19.ok
          have F21 := F20.step0 D19.stp
          have q83 : At (Ty.int (2 : Int)) s19 a23 (.tmp 4) := D19.done 0
          clear D19
          refine tn ?_
          refine wp_ret ?_
          refine br ?_
          refine tr ?_
          refine tr ?_
          refine br ?_
          refine br ?_
          refine br ?_
          refine tr ?_
          refine tr ?_
          refine br ?_
          refine tr ?_
          exact retL1 rfl ok21 F21 (cvi (by (rw [patMay_err hx1 (by omega), he])) q83)
         ·
          refine wp_skip ?_
          refine bn ?_
          refine tn ?_
          refine reg (a := a22) (σ := s18) rfl (fun i_ => List.getD [(Ty.pr (Ty.nat k)), (Ty.pr (Ty.nat (k + 1))), (Ty.pr (Ty.nat (k + 1)))] i_ Pr.any) ok20 rfl ⟨?_, ?_, ?_, trivial⟩ ?_
          · intro ax tx hs okx sm
            exact run_plain rfl (y_move (kp (sm 9 rfl) hs q77))
          · intro ax tx hs okx sm d0
            have e0 : At (Ty.nat k) tx ax (.tmp 32) := d0 rfl
            exact run_plain rfl ((y_add e0 rfl (w64 (by omega) (by omega))).mono (fun τ _ h => cvi (σ := τ) (by first | omega | exact (Int.natCast_mul _ _).symm) h))
          · intro ax tx hs okx sm d0 d1 d2
            have e1 : At (Ty.nat (k + 1)) tx ax (.tmp 33) := d0 rfl
            have e0 : At (Ty.nat k) tx ax (.tmp 32) := d1 rfl
            exact run_plain rfl (y_assign e1)
          intro a24 s20 D20
          have ok22 := D20.ok
          have F22 := F20.step0 D20.stp
          have q84 : At (Ty.nat i) s20 a24 (.tmp 7) := D20.kt q78 rfl
          have q85 : At (Ty.nat (starN (L.take i))) s20 a24 (.tmp 6) := D20.kt q79 rfl
          have q86 : At (Ty.int n) s20 a24 (.tmp 0) := D20.kt q80 rfl
          have q87 : At (Ty.lst Ty.int L) s20 a24 (.tmp 5) := D20.kt q81 rfl
          have q88 : At (Ty.nat (k + 1)) s20 a24 (.tmp 9) := D20.done 2
          clear D20
          exact tn ⟨i - ((k+1)), by omega, s20, (k+1), rfl, F22, ok22, (cvi (by (first | rfl | omega | (simp_all; done) | (simp_all; omega))) q88), q84, q85, q86, q87, by omega, all_next hno c7, rfl⟩
        ·
         refine wp_exit ?_
         refine tx ?_
         refine tx ?_
         refine bx ?_
         refine bn ?_
         refine bn ?_
         refine tn ?_
         refine reg (a := a21) (σ := s17) rfl (fun i_ => List.getD [(Ty.pr (Ty.nat i)), (Ty.pr (Ty.nat (i + 1))), (Ty.pr (Ty.nat (i + 1)))] i_ Pr.any) ok19 rfl ⟨?_, ?_, ?_, trivial⟩ ?_
         · intro ax tx hs okx sm
           exact run_plain rfl (y_move (kp (sm 7 rfl) hs q72))
         · intro ax tx hs okx sm d0
           have e0 : At (Ty.nat i) tx ax (.tmp 22) := d0 rfl
           exact run_plain rfl ((y_add e0 rfl (w64 (by omega) (by omega))).mono (fun τ _ h => cvi (σ := τ) (by first | omega | exact (Int.natCast_mul _ _).symm) h))
         · intro ax tx hs okx sm d0 d1 d2
           have e1 : At (Ty.nat (i + 1)) tx ax (.tmp 23) := d0 rfl
           have e0 : At (Ty.nat i) tx ax (.tmp 22) := d1 rfl
           exact run_plain rfl (y_assign e1)
         intro a25 s21 D21
         have ok23 := D21.ok
         have F23 := F19.step0 D21.stp
         have q89 : At (Ty.nat (starN (L.take i))) s21 a25 (.tmp 6) := D21.kt q73 rfl
         have q90 : At (Ty.int n) s21 a25 (.tmp 0) := D21.kt q74 rfl
         have q91 : At (Ty.lst Ty.int L) s21 a25 (.tmp 5) := D21.kt q75 rfl
         have q92 : At (Ty.nat (i + 1)) s21 a25 (.tmp 7) := D21.done 2
         clear D21
         exact tn ⟨L.length - ((i+1)), by omega, s21, (i+1), rfl, F23, ok23, (cvi (by (first | rfl | omega | (simp_all; done) | (simp_all; omega))) q92), (cvi (by (rw [hts, starN_snoc hn42])) q89), q90, q91, by omega, by rw [hts]; exact pe_go hpe (ok_new hx3 c4 hx5 (not_take (fun k_ hk_ => hno k_ (by omega)))), rfl⟩
   ·
    have hie : i = L.length := (by omega); rw [hie, List.drop_length] at hpe; have hp0 : peF n [] L = 0 := hpe.symm; have hsn : starN (L.take i) = starN L := (by rw [hie, List.take_length])
    refine wp_exit ?_
    refine tx ?_
    refine tx ?_
    refine bx ?_
    refine tn ?_
    refine wp_seq ?_
    refine wp_seq ?_
    refine reg (a := a9) (σ := s7) rfl (fun i_ => List.getD [(Ty.pr (Ty.lst Ty.int L)), (Ty.pr (Ty.nat (List.length L))), (Ty.pr (Ty.nat (starN (L.take i)))), (Ty.pr (Ty.int ((((List.length L) : Nat) : Int) - (((starN (L.take i)) : Nat) : Int)))), (Ty.pr (Ty.int n)), (Ty.pr (Ty.bool (decide (n < ((((List.length L) : Nat) : Int) - (((starN (L.take i)) : Nat) : Int)))))), (Ty.pr (Ty.bool (decide (n < ((((List.length L) : Nat) : Int) - (((starN (L.take i)) : Nat) : Int)))))), (Ty.pr (Ty.grd ((decide (n < ((((List.length L) : Nat) : Int) - (((starN (L.take i)) : Nat) : Int)))) = false) (Ty.lst Ty.int L))), (Ty.pr (Ty.grd ((decide (n < ((((List.length L) : Nat) : Int) - (((starN (L.take i)) : Nat) : Int)))) = false) (Ty.nat (List.length L)))), (Ty.pr (Ty.grd ((decide (n < ((((List.length L) : Nat) : Int) - (((starN (L.take i)) : Nat) : Int)))) = false) (Ty.int n))), (Ty.pr (Ty.grd ((decide (n < ((((List.length L) : Nat) : Int) - (((starN (L.take i)) : Nat) : Int)))) = false) (Ty.bool (decide ((((List.length L) : Nat) : Int) < n))))), (Ty.pr (Ty.grd ((decide (n < ((((List.length L) : Nat) : Int) - (((starN (L.take i)) : Nat) : Int)))) = false) (Ty.bool (decide ((((List.length L) : Nat) : Int) < n))))), (Ty.pr (Ty.grd (((decide (n < ((((List.length L) : Nat) : Int) - (((starN (L.take i)) : Nat) : Int)))) = false) ∧ (decide ((((List.length L) : Nat) : Int) < n)) = true) (Ty.nat (starN (L.take i))))), (Ty.pr (Ty.grd (((decide (n < ((((List.length L) : Nat) : Int) - (((starN (L.take i)) : Nat) : Int)))) = false) ∧ (decide ((((List.length L) : Nat) : Int) < n)) = true) (Ty.bool (decide ((((starN (L.take i)) : Nat) : Int) = (0 : Int)))))), (Ty.pr (Ty.grd ((decide (n < ((((List.length L) : Nat) : Int) - (((starN (L.take i)) : Nat) : Int)))) = false) (Ty.bool ((decide ((((List.length L) : Nat) : Int) < n)) && (decide ((((starN (L.take i)) : Nat) : Int) = (0 : Int))))))), (Ty.pr (Ty.bool ((decide (n < ((((List.length L) : Nat) : Int) - (((starN (L.take i)) : Nat) : Int)))) || ((decide ((((List.length L) : Nat) : Int) < n)) && (decide ((((starN (L.take i)) : Nat) : Int) = (0 : Int)))))))] i_ Pr.any) ok8 rfl ⟨?_, ?_, ?_, ?_, ?_, ?_, ?_, ?_, ?_, ?_, ?_, ?_, ?_, ?_, ?_, ?_, trivial⟩ ?_
    · intro ax tx hs okx sm
      exact run_plain rfl (y_move (kp (sm 5 rfl) hs q24))
    · intro ax tx hs okx sm d0
      have e0 : At (Ty.lst Ty.int L) tx ax (.tmp 69) := d0 rfl
      exact run_plain rfl (y_len Try.underlying34 e0)
    · intro ax tx hs okx sm
      exact run_plain rfl (y_move (kp (sm 6 rfl) hs q22))
    · intro ax tx hs okx sm d0 d1
      have e1 : At (Ty.nat (List.length L)) tx ax (.tmp 70) := d0 rfl
      have e2 : At (Ty.nat (starN (L.take i))) tx ax (.tmp 71) := d1 rfl
      exact run_plain rfl (y_sub e1 e2 (w64 (by omega) (by omega)))
    · intro ax tx hs okx sm
      exact run_plain rfl (y_move (kp (sm 0 rfl) hs q23))
    · intro ax tx hs okx sm d0 d1
      have e3 : At (Ty.int ((((List.length L) : Nat) : Int) - (((starN (L.take i)) : Nat) : Int))) tx ax (.tmp 72) := d0 rfl
      have e4 : At (Ty.int n) tx ax (.tmp 73) := d1 rfl
      exact run_plain rfl (y_gtr e3 e4)
    · intro ax tx hs okx sm d0
      have e5 : At (Ty.bool (decide (n < ((((List.length L) : Nat) : Int) - (((starN (L.take i)) : Nat) : Int))))) tx ax (.tmp 74) := d0 rfl
      exact run_plain rfl (y_move e5)
    · intro ax tx hs okx sm d0
      have e6 : At (Ty.bool (decide (n < ((((List.length L) : Nat) : Int) - (((starN (L.take i)) : Nat) : Int))))) tx ax (.tmp 75) := d0 rfl
      refine run_guard (T := (Ty.lst Ty.int L)) okx rfl rfl (by decide) e6 (fun hg => ?_)
      have hp := of_decide_eq_false hg
      exact y_move (kp (sm 5 rfl) hs q24)
    · intro ax tx hs okx sm d0 d1
      have e7 : At (Ty.grd ((decide (n < ((((List.length L) : Nat) : Int) - (((starN (L.take i)) : Nat) : Int)))) = false) (Ty.lst Ty.int L)) tx ax (.tmp 76) := d0 rfl
      have e6 : At (Ty.bool (decide (n < ((((List.length L) : Nat) : Int) - (((starN (L.take i)) : Nat) : Int))))) tx ax (.tmp 75) := d1 rfl
      refine run_guard (T := (Ty.nat (List.length L))) okx rfl rfl (by decide) e6 (fun hg => ?_)
      have hp := of_decide_eq_false hg
      exact y_len Try.underlying34 (e7.1 hg)
    · intro ax tx hs okx sm d0
      have e6 : At (Ty.bool (decide (n < ((((List.length L) : Nat) : Int) - (((starN (L.take i)) : Nat) : Int))))) tx ax (.tmp 75) := d0 rfl
      refine run_guard (T := (Ty.int n)) okx rfl rfl (by decide) e6 (fun hg => ?_)
      have hp := of_decide_eq_false hg
      exact y_move (kp (sm 0 rfl) hs q23)
    · intro ax tx hs okx sm d0 d1 d2
      have e8 : At (Ty.grd ((decide (n < ((((List.length L) : Nat) : Int) - (((starN (L.take i)) : Nat) : Int)))) = false) (Ty.nat (List.length L))) tx ax (.tmp 77) := d0 rfl
      have e9 : At (Ty.grd ((decide (n < ((((List.length L) : Nat) : Int) - (((starN (L.take i)) : Nat) : Int)))) = false) (Ty.int n)) tx ax (.tmp 78) := d1 rfl
      have e6 : At (Ty.bool (decide (n < ((((List.length L) : Nat) : Int) - (((starN (L.take i)) : Nat) : Int))))) tx ax (.tmp 75) := d2 rfl
      refine run_guard (T := (Ty.bool (decide ((((List.length L) : Nat) : Int) < n)))) okx rfl rfl (by decide) e6 (fun hg => ?_)
      have hp := of_decide_eq_false hg
      exact y_lss (e8.1 hg) (e9.1 hg)
    · intro ax tx hs okx sm d0 d1 d2
      have e10 : At (Ty.grd ((decide (n < ((((List.length L) : Nat) : Int) - (((starN (L.take i)) : Nat) : Int)))) = false) (Ty.bool (decide ((((List.length L) : Nat) : Int) < n)))) tx ax (.tmp 79) := d0 rfl
      have e6 : At (Ty.bool (decide (n < ((((List.length L) : Nat) : Int) - (((starN (L.take i)) : Nat) : Int))))) tx ax (.tmp 75) := d1 rfl
      refine run_guard (T := (Ty.bool (decide ((((List.length L) : Nat) : Int) < n)))) okx rfl rfl (by decide) e6 (fun hg => ?_)
      have hp := of_decide_eq_false hg
      exact y_move (e10.1 hg)
    · intro ax tx hs okx sm d0
      have e11 : At (Ty.grd ((decide (n < ((((List.length L) : Nat) : Int) - (((starN (L.take i)) : Nat) : Int)))) = false) (Ty.bool (decide ((((List.length L) : Nat) : Int) < n)))) tx ax (.tmp 80) := d0 rfl
      refine run_guard2 (T := (Ty.nat (starN (L.take i)))) okx rfl rfl (by decide) e11 (fun hg => ?_)
      have hp := of_decide_eq_true hg.2
      exact y_move (kp (sm 6 rfl) hs q22)
    · intro ax tx hs okx sm d0 d1
      have e12 : At (Ty.grd (((decide (n < ((((List.length L) : Nat) : Int) - (((starN (L.take i)) : Nat) : Int)))) = false) ∧ (decide ((((List.length L) : Nat) : Int) < n)) = true) (Ty.nat (starN (L.take i)))) tx ax (.tmp 81) := d0 rfl
      have e11 : At (Ty.grd ((decide (n < ((((List.length L) : Nat) : Int) - (((starN (L.take i)) : Nat) : Int)))) = false) (Ty.bool (decide ((((List.length L) : Nat) : Int) < n)))) tx ax (.tmp 80) := d1 rfl
      refine run_guard2 (T := (Ty.bool (decide ((((starN (L.take i)) : Nat) : Int) = (0 : Int))))) okx rfl rfl (by decide) e11 (fun hg => ?_)
      have hp := of_decide_eq_true hg.2
      exact y_eql (e12.1 hg) rfl
    · intro ax tx hs okx sm d0 d1 d2
      have e11 : At (Ty.grd ((decide (n < ((((List.length L) : Nat) : Int) - (((starN (L.take i)) : Nat) : Int)))) = false) (Ty.bool (decide ((((List.length L) : Nat) : Int) < n)))) tx ax (.tmp 80) := d0 rfl
      have e13 : At (Ty.grd (((decide (n < ((((List.length L) : Nat) : Int) - (((starN (L.take i)) : Nat) : Int)))) = false) ∧ (decide ((((List.length L) : Nat) : Int) < n)) = true) (Ty.bool (decide ((((starN (L.take i)) : Nat) : Int) = (0 : Int))))) tx ax (.tmp 82) := d1 rfl
      have e6 : At (Ty.bool (decide (n < ((((List.length L) : Nat) : Int) - (((starN (L.take i)) : Nat) : Int))))) tx ax (.tmp 75) := d2 rfl
      refine run_guard (T := (Ty.bool ((decide ((((List.length L) : Nat) : Int) < n)) && (decide ((((starN (L.take i)) : Nat) : Int) = (0 : Int)))))) okx rfl rfl (by decide) e6 (fun hg => ?_)
      have hp := of_decide_eq_false hg
      exact y_pick_and (e11.1 hg) (grd_part hg e13) rfl
    · intro ax tx hs okx sm d0 d1
      have e6 : At (Ty.bool (decide (n < ((((List.length L) : Nat) : Int) - (((starN (L.take i)) : Nat) : Int))))) tx ax (.tmp 75) := d0 rfl
      have e14 : At (Ty.grd ((decide (n < ((((List.length L) : Nat) : Int) - (((starN (L.take i)) : Nat) : Int)))) = false) (Ty.bool ((decide ((((List.length L) : Nat) : Int) < n)) && (decide ((((starN (L.take i)) : Nat) : Int) = (0 : Int)))))) tx ax (.tmp 83) := d1 rfl
      exact run_plain rfl (y_pick_or e6 rfl e14)
    intro a26 s22 D22
    have ok24 := D22.ok
    have F24 := F8.step0 D22.stp
    have q93 : At (Ty.bool ((decide (n < ((((List.length L) : Nat) : Int) - (((starN (L.take i)) : Nat) : Int)))) || ((decide ((((List.length L) : Nat) : Int) < n)) && (decide ((((starN (L.take i)) : Nat) : Int) = (0 : Int)))))) s22 a26 (.tmp 84) := D22.done 15
    clear D22
    refine tn ?_
    refine cond_t q93 (fun c8 => ?_) (fun c8 => ?_)
    ·
     simp only [Bool.or_eq_true, Bool.and_eq_true, decide_eq_true_eq] at c8
     refine wp_seq ?_
     refine reg (a := a26) (σ := s22) rfl (fun i_ => List.getD [(Ty.pr (Ty.int (1 : Int)))] i_ Pr.any) ok24 rfl ⟨?_, trivial⟩ ?_
     · intro ax tx hs okx sm
       exact run_plain rfl (y_assign rfl)
     intro a27 s23 D23
     have ok25 := D23.ok
     have F25 := F24.step0 D23.stp
     have q94 : At (Ty.int (1 : Int)) s23 a27 (.tmp 4) := D23.done 0
     clear D23
     refine tn ?_
     refine wp_ret ?_
     refine tr ?_
     exact retL1 rfl ok25 F25 (cvi (by (exact (patMay_len hx1 hp0 (by omega)).symm)) q94)
    ·
     obtain ⟨d7, d8⟩ := Bool.or_eq_false_iff.mp c8
     replace d7 := of_decide_eq_false d7
     simp only [Bool.or_eq_false_iff, Bool.and_eq_false_iff, decide_eq_false_iff_not] at c8
     refine wp_skip ?_
     refine tn ?_
     refine wp_seq ?_
     refine reg (a := a26) (σ := s22) rfl (fun i_ => List.getD [(Ty.pr (Ty.int (0 : Int)))] i_ Pr.any) ok24 rfl ⟨?_, trivial⟩ ?_
     · intro ax tx hs okx sm
       exact run_plain rfl (y_assign rfl)
     intro a28 s24 D24
     have ok26 := D24.ok
     have F26 := F24.step0 D24.stp
     have q95 : At (Ty.int (0 : Int)) s24 a28 (.tmp 4) := D24.done 0
     clear D24
     refine tn ?_
     refine wp_ret ?_
     exact retL1 rfl ok26 F26 (cvi (by (exact (patMay_ok hx1 hp0 (by omega)).symm)) q95)


set_option maxRecDepth 100000 in
theorem rRowMay_fn (r : List Int) (σ : GW) (v0 : Value) (hv0 : Ty.has (Ty.lst Ty.int r) σ v0)  :
    FnC Try.prog 38 #[v0] σ (Ty.int (rowMay r)) := by
 refine fn_intro Try.func38 rfl Try.ntmps38 (Nat.le_of_ble_eq_true rfl) (fun s0 a0 hle F0 ok0 hargs => ?_)
 have p0 : At (Ty.lst Ty.int r) s0 a0 (.tmp 0) := by have e := hargs 0 _ rfl; show Ty.has _ _ _; rw [e]; exact Ty.up _ hle hv0
 have b1 := sl_le p0
 clear hargs
 refine wp_seq ?_
 refine reg (a := a0) (σ := s0) rfl (fun i_ => List.getD [(Ty.pr (Ty.int (0 : Int)))] i_ Pr.any) ok0 rfl ⟨?_, trivial⟩ ?_
 · intro ax tx hs okx sm
   exact run_plain rfl (y_assign rfl)
 intro a1 s1 D1
 have ok1 := D1.ok
 have F1 := F0.step0 D1.stp
 have q1 : At (Ty.lst Ty.int r) s1 a1 (.tmp 0) := D1.kt p0 rfl
 clear D1
 refine tn ?_
 refine wp_seq ?_
 refine wp_seq ?_
 refine reg (a := a1) (σ := s1) rfl (fun i_ => List.getD [(Ty.pr (Ty.lst Ty.int r)), (Ty.pr (Ty.nat (List.length r))), (Ty.pr (Ty.bool (decide ((((List.length r) : Nat) : Int) < (1 : Int))))), (Ty.pr (Ty.bool (decide ((((List.length r) : Nat) : Int) < (1 : Int))))), (Ty.pr (Ty.grd ((decide ((((List.length r) : Nat) : Int) < (1 : Int))) = false) (Ty.lst Ty.int r))), (Ty.pr (Ty.grd ((decide ((((List.length r) : Nat) : Int) < (1 : Int))) = false) (Ty.nat (List.length r)))), (Ty.pr (Ty.grd ((decide ((((List.length r) : Nat) : Int) < (1 : Int))) = false) (Ty.bool (decide ((12 : Int) < (((List.length r) : Nat) : Int)))))), (Ty.pr (Ty.bool ((decide ((((List.length r) : Nat) : Int) < (1 : Int))) || (decide ((12 : Int) < (((List.length r) : Nat) : Int))))))] i_ Pr.any) ok1 rfl ⟨?_, ?_, ?_, ?_, ?_, ?_, ?_, ?_, trivial⟩ ?_
 · intro ax tx hs okx sm
   exact run_plain rfl (y_move (kp (sm 0 rfl) hs q1))
 · intro ax tx hs okx sm d0
   have e0 : At (Ty.lst Ty.int r) tx ax (.tmp 6) := d0 rfl
   exact run_plain rfl (y_len Try.underlying34 e0)
 · intro ax tx hs okx sm d0
   have e1 : At (Ty.nat (List.length r)) tx ax (.tmp 7) := d0 rfl
   exact run_plain rfl (y_lss e1 rfl)
 · intro ax tx hs okx sm d0
   have e2 : At (Ty.bool (decide ((((List.length r) : Nat) : Int) < (1 : Int)))) tx ax (.tmp 8) := d0 rfl
   exact run_plain rfl (y_move e2)
 · intro ax tx hs okx sm d0
   have e3 : At (Ty.bool (decide ((((List.length r) : Nat) : Int) < (1 : Int)))) tx ax (.tmp 9) := d0 rfl
   refine run_guard (T := (Ty.lst Ty.int r)) okx rfl rfl (by decide) e3 (fun hg => ?_)
   have hp := of_decide_eq_false hg
   exact y_move (kp (sm 0 rfl) hs q1)
 · intro ax tx hs okx sm d0 d1
   have e4 : At (Ty.grd ((decide ((((List.length r) : Nat) : Int) < (1 : Int))) = false) (Ty.lst Ty.int r)) tx ax (.tmp 10) := d0 rfl
   have e3 : At (Ty.bool (decide ((((List.length r) : Nat) : Int) < (1 : Int)))) tx ax (.tmp 9) := d1 rfl
   refine run_guard (T := (Ty.nat (List.length r))) okx rfl rfl (by decide) e3 (fun hg => ?_)
   have hp := of_decide_eq_false hg
   exact y_len Try.underlying34 (e4.1 hg)
 · intro ax tx hs okx sm d0 d1
   have e5 : At (Ty.grd ((decide ((((List.length r) : Nat) : Int) < (1 : Int))) = false) (Ty.nat (List.length r))) tx ax (.tmp 11) := d0 rfl
   have e3 : At (Ty.bool (decide ((((List.length r) : Nat) : Int) < (1 : Int)))) tx ax (.tmp 9) := d1 rfl
   refine run_guard (T := (Ty.bool (decide ((12 : Int) < (((List.length r) : Nat) : Int))))) okx rfl rfl (by decide) e3 (fun hg => ?_)
   have hp := of_decide_eq_false hg
   exact y_gtr (e5.1 hg) rfl
 · intro ax tx hs okx sm d0 d1
   have e3 : At (Ty.bool (decide ((((List.length r) : Nat) : Int) < (1 : Int)))) tx ax (.tmp 9) := d0 rfl
   have e6 : At (Ty.grd ((decide ((((List.length r) : Nat) : Int) < (1 : Int))) = false) (Ty.bool (decide ((12 : Int) < (((List.length r) : Nat) : Int))))) tx ax (.tmp 12) := d1 rfl
   exact run_plain rfl (y_pick_or e3 rfl e6)
 intro a2 s2 D2
 have ok2 := D2.ok
 have F2 := F1.step0 D2.stp
 have q2 : At (Ty.lst Ty.int r) s2 a2 (.tmp 0) := D2.kt q1 rfl
 have q3 : At (Ty.bool ((decide ((((List.length r) : Nat) : Int) < (1 : Int))) || (decide ((12 : Int) < (((List.length r) : Nat) : Int))))) s2 a2 (.tmp 13) := D2.done 7
 clear D2
 refine tn ?_
 refine cond_t q3 (fun c1 => ?_) (fun c1 => ?_)
 ·
  simp only [Bool.or_eq_true, decide_eq_true_eq] at c1
  refine wp_seq ?_
  refine reg (a := a2) (σ := s2) rfl (fun i_ => List.getD [(Ty.pr (Ty.int (1 : Int)))] i_ Pr.any) ok2 rfl ⟨?_, trivial⟩ ?_
  · intro ax tx hs okx sm
    exact run_plain rfl (y_assign rfl)
  intro a3 s3 D3
  have ok3 := D3.ok
  have F3 := F2.step0 D3.stp
  have q4 : At (Ty.int (1 : Int)) s3 a3 (.tmp 2) := D3.done 0
  clear D3
  refine tn ?_
  refine wp_ret ?_
  refine tr ?_
  exact ret1 rfl ok3 F3 (cvi (by (exact (rowMay_cnt (by omega)).symm)) q4)
 ·
  obtain ⟨d1, d2⟩ := Bool.or_eq_false_iff.mp c1
  replace d1 := of_decide_eq_false d1
  replace d2 := of_decide_eq_false d2
  refine wp_skip ?_
  refine tn ?_
  refine wp_seq ?_
  refine wp_seq ?_
  refine reg (a := a2) (σ := s2) rfl (fun i_ => List.getD [(Ty.pr (Ty.int (0 : Int)))] i_ Pr.any) ok2 rfl ⟨?_, trivial⟩ ?_
  · intro ax tx hs okx sm
    exact run_plain rfl (y_assign rfl)
  intro a4 s4 D4
  have ok4 := D4.ok
  have F4 := F2.step0 D4.stp
  have q5 : At (Ty.lst Ty.int r) s4 a4 (.tmp 0) := D4.kt q2 rfl
  have q6 : At (Ty.int (0 : Int)) s4 a4 (.tmp 3) := D4.done 0
  clear D4
  refine tn ?_
  refine wp_block ?_
  refine loop (fun n1 a5 w1 => ∃ (t1 : GW) (b : Nat), t1.w = w1 ∧ From s0 t1 ∧ Ok 36 a5 ∧ At (Ty.nat b) t1 a5 (.tmp 3) ∧ At (Ty.lst Ty.int r) t1 a5 (.tmp 0) ∧ (b ≤ r.length) ∧ (∀ j, j < b → r.count (j : Int) = 1) ∧ n1 = r.length - b) (r.length - (0)) ?_ ?_
  ·
   exact ⟨s4, 0, rfl, F4, ok4, (cvi (by (first | rfl | omega | (simp_all; done) | (simp_all; omega))) q6), q5, by omega, fun j hj => absurd hj (Nat.not_lt_zero j), rfl⟩
  ·
   rintro n2 a6 w2 ⟨t2, b, rfl, F5, ok5, q7, q8, hb, ho, rfl⟩
   refine wp_seq ?_
   refine wp_seq ?_
   refine reg (a := a6) (σ := t2) rfl (fun i_ => List.getD [(Ty.pr (Ty.nat b)), (Ty.pr (Ty.lst Ty.int r)), (Ty.pr (Ty.nat (List.length r))), (Ty.pr (Ty.bool (decide (((b : Nat) : Int) < (((List.length r) : Nat) : Int)))))] i_ Pr.any) ok5 rfl ⟨?_, ?_, ?_, ?_, trivial⟩ ?_
   · intro ax tx hs okx sm
     exact run_plain rfl (y_move (kp (sm 3 rfl) hs q7))
   · intro ax tx hs okx sm
     exact run_plain rfl (y_move (kp (sm 0 rfl) hs q8))
   · intro ax tx hs okx sm d0
     have e1 : At (Ty.lst Ty.int r) tx ax (.tmp 15) := d0 rfl
     exact run_plain rfl (y_len Try.underlying34 e1)
   · intro ax tx hs okx sm d0 d1
     have e0 : At (Ty.nat b) tx ax (.tmp 14) := d0 rfl
     have e2 : At (Ty.nat (List.length r)) tx ax (.tmp 16) := d1 rfl
     exact run_plain rfl (y_lss e0 e2)
   intro a7 s5 D5
   have ok6 := D5.ok
   have F6 := F5.step0 D5.stp
   have q9 : At (Ty.nat b) s5 a7 (.tmp 3) := D5.kt q7 rfl
   have q10 : At (Ty.lst Ty.int r) s5 a7 (.tmp 0) := D5.kt q8 rfl
   have q11 : At (Ty.bool (decide (((b : Nat) : Int) < (((List.length r) : Nat) : Int)))) s5 a7 (.tmp 17) := D5.done 3
   clear D5
   refine tn ?_
   refine cond_p (p := (((b : Nat) : Int) < (((List.length r) : Nat) : Int))) q11 (fun c2 => ?_) (fun c2 => ?_)
   ·
    refine wp_skip ?_
    refine tn ?_
    refine wp_seq ?_
    refine wp_block ?_
    refine wp_seq ?_
    refine reg (a := a7) (σ := s5) rfl (fun i_ => List.getD [(Ty.pr (Ty.int (0 : Int)))] i_ Pr.any) ok6 rfl ⟨?_, trivial⟩ ?_
    · intro ax tx hs okx sm
      exact run_plain rfl (y_assign rfl)
    intro a8 s6 D6
    have ok7 := D6.ok
    have F7 := F6.step0 D6.stp
    have q12 : At (Ty.nat b) s6 a8 (.tmp 3) := D6.kt q9 rfl
    have q13 : At (Ty.lst Ty.int r) s6 a8 (.tmp 0) := D6.kt q10 rfl
    have q14 : At (Ty.int (0 : Int)) s6 a8 (.tmp 4) := D6.done 0
    clear D6
    refine tn ?_
    refine wp_seq ?_
    refine wp_seq ?_
    refine reg (a := a8) (σ := s6) rfl (fun i_ => List.getD [(Ty.pr (Ty.int (0 : Int)))] i_ Pr.any) ok7 rfl ⟨?_, trivial⟩ ?_
    · intro ax tx hs okx sm
      exact run_plain rfl (y_assign rfl)
    intro a9 s7 D7
    have ok8 := D7.ok
    have F8 := F7.step0 D7.stp
    have q15 : At (Ty.nat b) s7 a9 (.tmp 3) := D7.kt q12 rfl
    have q16 : At (Ty.lst Ty.int r) s7 a9 (.tmp 0) := D7.kt q13 rfl
    have q17 : At (Ty.int (0 : Int)) s7 a9 (.tmp 4) := D7.kt q14 rfl
    have q18 : At (Ty.int (0 : Int)) s7 a9 (.tmp 5) := D7.done 0
    clear D7
    refine tn ?_
    refine wp_block ?_
    refine loop (fun n3 a10 w3 => ∃ (t3 : GW) (i : Nat), t3.w = w3 ∧ From s0 t3 ∧ Ok 36 a10 ∧ At (Ty.nat i) t3 a10 (.tmp 5) ∧ At (Ty.nat ((r.take i).count (b : Int))) t3 a10 (.tmp 4) ∧ At (Ty.nat b) t3 a10 (.tmp 3) ∧ At (Ty.lst Ty.int r) t3 a10 (.tmp 0) ∧ (i ≤ r.length) ∧ n3 = r.length - i) (r.length - (0)) ?_ ?_
    ·
     exact ⟨s7, 0, rfl, F8, ok8, (cvi (by (first | rfl | omega | (simp_all; done) | (simp_all; omega))) q18), (cvi (by (first | rfl | omega | (simp_all; done) | (simp_all; omega))) q17), q15, q16, by omega, rfl⟩
    ·
     rintro n4 a11 w4 ⟨t4, i, rfl, F9, ok9, q19, q20, q21, q22, hi, rfl⟩
     have hcl := count_take_le r (b : Int) i
     refine wp_seq ?_
     refine wp_seq ?_
     refine reg (a := a11) (σ := t4) rfl (fun i_ => List.getD [(Ty.pr (Ty.nat i)), (Ty.pr (Ty.lst Ty.int r)), (Ty.pr (Ty.nat (List.length r))), (Ty.pr (Ty.bool (decide (((i : Nat) : Int) < (((List.length r) : Nat) : Int)))))] i_ Pr.any) ok9 rfl ⟨?_, ?_, ?_, ?_, trivial⟩ ?_
     · intro ax tx hs okx sm
       exact run_plain rfl (y_move (kp (sm 5 rfl) hs q19))
     · intro ax tx hs okx sm
       exact run_plain rfl (y_move (kp (sm 0 rfl) hs q22))
     · intro ax tx hs okx sm d0
       have e1 : At (Ty.lst Ty.int r) tx ax (.tmp 21) := d0 rfl
       exact run_plain rfl (y_len Try.underlying34 e1)
     · intro ax tx hs okx sm d0 d1
       have e0 : At (Ty.nat i) tx ax (.tmp 20) := d0 rfl
       have e2 : At (Ty.nat (List.length r)) tx ax (.tmp 22) := d1 rfl
       exact run_plain rfl (y_lss e0 e2)
     intro a12 s8 D8
     have ok10 := D8.ok
     have F10 := F9.step0 D8.stp
     have q23 : At (Ty.nat i) s8 a12 (.tmp 5) := D8.kt q19 rfl
     have q24 : At (Ty.nat ((r.take i).count (b : Int))) s8 a12 (.tmp 4) := D8.kt q20 rfl
     have q25 : At (Ty.nat b) s8 a12 (.tmp 3) := D8.kt q21 rfl
     have q26 : At (Ty.lst Ty.int r) s8 a12 (.tmp 0) := D8.kt q22 rfl
     have q27 : At (Ty.bool (decide (((i : Nat) : Int) < (((List.length r) : Nat) : Int)))) s8 a12 (.tmp 23) := D8.done 3
     clear D8
     refine tn ?_
     refine cond_p (p := (((i : Nat) : Int) < (((List.length r) : Nat) : Int))) q27 (fun c3 => ?_) (fun c3 => ?_)
     ·
      refine wp_skip ?_
      refine tn ?_
      refine wp_seq ?_
      refine wp_block ?_
      refine wp_seq ?_
      refine reg (a := a12) (σ := s8) rfl (fun i_ => List.getD [(Ty.pr (Ty.lst Ty.int r)), (Ty.pr (Ty.nat i)), (Ty.pr (Ty.ref [(Ty.int (r.getD i 0))])), (Ty.pr (Ty.int (r.getD i 0))), (Ty.pr (Ty.nat b)), (Ty.pr (Ty.bool (decide ((r.getD i 0) = ((b : Nat) : Int)))))] i_ Pr.any) ok10 rfl ⟨?_, ?_, ?_, ?_, ?_, ?_, trivial⟩ ?_
      · intro ax tx hs okx sm
        exact run_plain rfl (y_move (kp (sm 0 rfl) hs q26))
      · intro ax tx hs okx sm
        exact run_plain rfl (y_move (kp (sm 5 rfl) hs q23))
      · intro ax tx hs okx sm d0 d1
        have e0 : At (Ty.lst Ty.int r) tx ax (.tmp 26) := d0 rfl
        have e1 : At (Ty.nat i) tx ax (.tmp 27) := d1 rfl
        exact run_plain rfl (y_index1 Try.underlying34 Try.inf3 e0 e1 (by omega) (lst_get Ty.int r 0 i (by omega)))
      · intro ax tx hs okx sm d0
        have e2 : At (Ty.ref [(Ty.int (r.getD i 0))]) tx ax (.tmp 28) := d0 rfl
        exact run_plain rfl (y_load Try.underlying3 rfl e2 rfl)
      · intro ax tx hs okx sm
        exact run_plain rfl (y_move (kp (sm 3 rfl) hs q25))
      · intro ax tx hs okx sm d0 d1
        have e3 : At (Ty.int (r.getD i 0)) tx ax (.tmp 29) := d0 rfl
        have e4 : At (Ty.nat b) tx ax (.tmp 30) := d1 rfl
        exact run_plain rfl (y_eql e3 e4)
      intro a13 s9 D9
      have ok11 := D9.ok
      have F11 := F10.step0 D9.stp
      have q28 : At (Ty.nat i) s9 a13 (.tmp 5) := D9.kt q23 rfl
      have q29 : At (Ty.nat ((r.take i).count (b : Int))) s9 a13 (.tmp 4) := D9.kt q24 rfl
      have q30 : At (Ty.nat b) s9 a13 (.tmp 3) := D9.kt q25 rfl
      have q31 : At (Ty.lst Ty.int r) s9 a13 (.tmp 0) := D9.kt q26 rfl
      have q32 : At (Ty.bool (decide ((r.getD i 0) = ((b : Nat) : Int)))) s9 a13 (.tmp 31) := D9.done 5
      clear D9
      refine tn ?_
      refine cond_p (p := ((r.getD i 0) = ((b : Nat) : Int))) q32 (fun c4 => ?_) (fun c4 => ?_)
      ·
       refine reg (a := a13) (σ := s9) rfl (fun i_ => List.getD [(Ty.pr (Ty.nat ((r.take i).count (b : Int)))), (Ty.pr (Ty.int (((((r.take i).count (b : Int)) : Nat) : Int) + (1 : Int)))), (Ty.pr (Ty.int (((((r.take i).count (b : Int)) : Nat) : Int) + (1 : Int))))] i_ Pr.any) ok11 rfl ⟨?_, ?_, ?_, trivial⟩ ?_
       · intro ax tx hs okx sm
         exact run_plain rfl (y_move (kp (sm 4 rfl) hs q29))
       · intro ax tx hs okx sm d0
         have e0 : At (Ty.nat ((r.take i).count (b : Int))) tx ax (.tmp 32) := d0 rfl
         exact run_plain rfl (y_add e0 rfl (w64 (by omega) (by omega)))
       · intro ax tx hs okx sm d0 d1 d2
         have e1 : At (Ty.int (((((r.take i).count (b : Int)) : Nat) : Int) + (1 : Int))) tx ax (.tmp 33) := d0 rfl
         have e0 : At (Ty.nat ((r.take i).count (b : Int))) tx ax (.tmp 32) := d1 rfl
         exact run_plain rfl (y_assign e1)
       intro a14 s10 D10
       have ok12 := D10.ok
       have F12 := F11.step0 D10.stp
       have q33 : At (Ty.nat i) s10 a14 (.tmp 5) := D10.kt q28 rfl
       have q34 : At (Ty.nat b) s10 a14 (.tmp 3) := D10.kt q30 rfl
       have q35 : At (Ty.lst Ty.int r) s10 a14 (.tmp 0) := D10.kt q31 rfl
       have q36 : At (Ty.int (((((r.take i).count (b : Int)) : Nat) : Int) + (1 : Int))) s10 a14 (.tmp 4) := D10.done 2
       clear D10
       refine bn ?_
       refine tn ?_
       refine reg (a := a14) (σ := s10) rfl (fun i_ => List.getD [(Ty.pr (Ty.nat i)), (Ty.pr (Ty.int (((i : Nat) : Int) + (1 : Int)))), (Ty.pr (Ty.int (((i : Nat) : Int) + (1 : Int))))] i_ Pr.any) ok12 rfl ⟨?_, ?_, ?_, trivial⟩ ?_
       · intro ax tx hs okx sm
         exact run_plain rfl (y_move (kp (sm 5 rfl) hs q33))
       · intro ax tx hs okx sm d0
         have e0 : At (Ty.nat i) tx ax (.tmp 24) := d0 rfl
         exact run_plain rfl (y_add e0 rfl (w64 (by omega) (by omega)))
       · intro ax tx hs okx sm d0 d1 d2
         have e1 : At (Ty.int (((i : Nat) : Int) + (1 : Int))) tx ax (.tmp 25) := d0 rfl
         have e0 : At (Ty.nat i) tx ax (.tmp 24) := d1 rfl
         exact run_plain rfl (y_assign e1)
       intro a15 s11 D11
       have ok13 := D11.ok
       have F13 := F12.step0 D11.stp
       have q37 : At (Ty.nat b) s11 a15 (.tmp 3) := D11.kt q34 rfl
       have q38 : At (Ty.lst Ty.int r) s11 a15 (.tmp 0) := D11.kt q35 rfl
       have q39 : At (Ty.int (((((r.take i).count (b : Int)) : Nat) : Int) + (1 : Int))) s11 a15 (.tmp 4) := D11.kt q36 rfl
       have q40 : At (Ty.int (((i : Nat) : Int) + (1 : Int))) s11 a15 (.tmp 5) := D11.done 2
       clear D11
       exact tn ⟨r.length - ((i+1)), by omega, s11, (i+1), rfl, F13, ok13, (cvi (by (first | rfl | omega | (simp_all; done) | (simp_all; omega))) q40), (cvi (by (rw [count_take_y r b i (by omega) (by assumption)]; omega)) q39), q37, q38, by omega, rfl⟩
      ·
       refine wp_skip ?_
       refine bn ?_
       refine tn ?_
       refine reg (a := a13) (σ := s9) rfl (fun i_ => List.getD [(Ty.pr (Ty.nat i)), (Ty.pr (Ty.int (((i : Nat) : Int) + (1 : Int)))), (Ty.pr (Ty.int (((i : Nat) : Int) + (1 : Int))))] i_ Pr.any) ok11 rfl ⟨?_, ?_, ?_, trivial⟩ ?_
       · intro ax tx hs okx sm
         exact run_plain rfl (y_move (kp (sm 5 rfl) hs q28))
       · intro ax tx hs okx sm d0
         have e0 : At (Ty.nat i) tx ax (.tmp 24) := d0 rfl
         exact run_plain rfl (y_add e0 rfl (w64 (by omega) (by omega)))
       · intro ax tx hs okx sm d0 d1 d2
         have e1 : At (Ty.int (((i : Nat) : Int) + (1 : Int))) tx ax (.tmp 25) := d0 rfl
         have e0 : At (Ty.nat i) tx ax (.tmp 24) := d1 rfl
         exact run_plain rfl (y_assign e1)
       intro a16 s12 D12
       have ok14 := D12.ok
       have F14 := F11.step0 D12.stp
       have q41 : At (Ty.nat ((r.take i).count (b : Int))) s12 a16 (.tmp 4) := D12.kt q29 rfl
       have q42 : At (Ty.nat b) s12 a16 (.tmp 3) := D12.kt q30 rfl
       have q43 : At (Ty.lst Ty.int r) s12 a16 (.tmp 0) := D12.kt q31 rfl
       have q44 : At (Ty.int (((i : Nat) : Int) + (1 : Int))) s12 a16 (.tmp 5) := D12.done 2
       clear D12
       exact tn ⟨r.length - ((i+1)), by omega, s12, (i+1), rfl, F14, ok14, (cvi (by (first | rfl | omega | (simp_all; done) | (simp_all; omega))) q44), (cvi (by (rw [count_take_n r b i (by omega) (by assumption)])) q41), q42, q43, by omega, rfl⟩
     ·
      have hcl2 : (r.take i).count (b : Int) = r.count (b : Int) := (by rw [List.take_of_length_le (by omega)])
      refine wp_exit ?_
      refine tx ?_
      refine tx ?_
      refine bx ?_
      refine tn ?_
      refine wp_seq ?_
      refine reg (a := a12) (σ := s8) rfl (fun i_ => List.getD [(Ty.pr (Ty.nat ((r.take i).count (b : Int)))), (Ty.pr (Ty.bool (decide (((((r.take i).count (b : Int)) : Nat) : Int) ≠ (1 : Int)))))] i_ Pr.any) ok10 rfl ⟨?_, ?_, trivial⟩ ?_
      · intro ax tx hs okx sm
        exact run_plain rfl (y_move (kp (sm 4 rfl) hs q24))
      · intro ax tx hs okx sm d0
        have e0 : At (Ty.nat ((r.take i).count (b : Int))) tx ax (.tmp 34) := d0 rfl
        exact run_plain rfl (y_neq e0 rfl)
      intro a17 s13 D13
      have ok15 := D13.ok
      have F15 := F10.step0 D13.stp
      have q45 : At (Ty.nat b) s13 a17 (.tmp 3) := D13.kt q25 rfl
      have q46 : At (Ty.lst Ty.int r) s13 a17 (.tmp 0) := D13.kt q26 rfl
      have q47 : At (Ty.bool (decide (((((r.take i).count (b : Int)) : Nat) : Int) ≠ (1 : Int)))) s13 a17 (.tmp 35) := D13.done 1
      clear D13
      refine tn ?_
      refine cond_p (p := (((((r.take i).count (b : Int)) : Nat) : Int) ≠ (1 : Int))) q47 (fun c5 => ?_) (fun c5 => ?_)
      ·
       refine wp_seq ?_
       refine reg (a := a17) (σ := s13) rfl (fun i_ => List.getD [(Ty.pr (Ty.int (2 : Int)))] i_ Pr.any) ok15 rfl ⟨?_, trivial⟩ ?_
       · intro ax tx hs okx sm
         exact run_plain rfl (y_assign rfl)
       intro a18 s14 D14
       have ok16 := D14.ok
       have F16 := F15.step0 D14.stp
       have q48 : At (Ty.int (2 : Int)) s14 a18 (.tmp 2) := D14.done 0
       clear D14
       refine tn ?_
       refine wp_ret ?_
       refine br ?_
       refine tr ?_
       refine tr ?_
       refine br ?_
       refine tr ?_
       exact ret1 rfl ok16 F16 (cvi (by (exact (rowMay_no (by omega) (by omega) (fun hr => by have := hr.one b (by omega); omega)).symm)) q48)
      ·
       refine wp_skip ?_
       refine bn ?_
       refine tn ?_
       refine reg (a := a17) (σ := s13) rfl (fun i_ => List.getD [(Ty.pr (Ty.nat b)), (Ty.pr (Ty.int (((b : Nat) : Int) + (1 : Int)))), (Ty.pr (Ty.int (((b : Nat) : Int) + (1 : Int))))] i_ Pr.any) ok15 rfl ⟨?_, ?_, ?_, trivial⟩ ?_
       · intro ax tx hs okx sm
         exact run_plain rfl (y_move (kp (sm 3 rfl) hs q45))
       · intro ax tx hs okx sm d0
         have e0 : At (Ty.nat b) tx ax (.tmp 18) := d0 rfl
         exact run_plain rfl (y_add e0 rfl (w64 (by omega) (by omega)))
       · intro ax tx hs okx sm d0 d1 d2
         have e1 : At (Ty.int (((b : Nat) : Int) + (1 : Int))) tx ax (.tmp 19) := d0 rfl
         have e0 : At (Ty.nat b) tx ax (.tmp 18) := d1 rfl
         exact run_plain rfl (y_assign e1)
       intro a19 s15 D15
       have ok17 := D15.ok
       have F17 := F15.step0 D15.stp
       have q49 : At (Ty.lst Ty.int r) s15 a19 (.tmp 0) := D15.kt q46 rfl
       have q50 : At (Ty.int (((b : Nat) : Int) + (1 : Int))) s15 a19 (.tmp 3) := D15.done 2
       clear D15
       exact tn ⟨r.length - ((b+1)), by omega, s15, (b+1), rfl, F17, ok17, (cvi (by (first | rfl | omega | (simp_all; done) | (simp_all; omega))) q50), q49, by omega, fun j hj => by (by_cases e : j = b; subst e; omega; exact ho j (by omega)), rfl⟩
   ·
    refine wp_exit ?_
    refine tx ?_
    refine tx ?_
    refine bx ?_
    refine tn ?_
    refine wp_seq ?_
    refine reg (a := a7) (σ := s5) rfl (fun i_ => List.getD [(Ty.pr (Ty.int (0 : Int)))] i_ Pr.any) ok6 rfl ⟨?_, trivial⟩ ?_
    · intro ax tx hs okx sm
      exact run_plain rfl (y_assign rfl)
    intro a20 s16 D16
    have ok18 := D16.ok
    have F18 := F6.step0 D16.stp
    have q51 : At (Ty.int (0 : Int)) s16 a20 (.tmp 2) := D16.done 0
    clear D16
    refine tn ?_
    refine wp_ret ?_
    exact ret1 rfl ok18 F18 (cvi (by (exact (rowMay_ok.2 ⟨by omega, by omega, fun j hj => ho j (by omega)⟩).symm)) q51)


set_option maxHeartbeats 4000000 in
set_option maxRecDepth 100000 in
theorem rPattern_fn (s : ByteArray) (σ : GW)  (v0 : Value) (hv0 : Ty.has (Ty.val (Value.string s)) σ v0)  (hs : s.size ≤ 17592186044416) :
    FnC Try.prog 92 #[v0] σ (Ty.tup3 (Ty.lst Ty.int (frR (runsL s))) (Ty.lst Ty.int (bkR (runsL s))) (Ty.bool (hasS (runsL s)))) := by
 have hLl := runsL_len s
 obtain ⟨L, hL⟩ : ∃ L, L = runsL s := ⟨_, rfl⟩
 rw [← hL] at hLl ⊢
 refine fn_intro0 Try.func92 rfl Try.ntmps92 (Nat.le_of_ble_eq_true rfl) (fun s0 a0 hle F0 ok0 hargs => ?_)
 have p0 : At (Ty.val (Value.string s)) s0 a0 (.tmp 0) := by have e := hargs 0 _ rfl; show Ty.has _ _ _; rw [e]; exact Ty.up _ hle hv0
 clear hargs
 refine wp_seq ?_
 refine reg (a := a0) (σ := s0) rfl (fun i_ => List.getD [(Ty.pr (Ty.val (Value.slice none 0 0))), (Ty.pr (Ty.val (Value.slice none 0 0))), (Ty.pr (Ty.bool false))] i_ Pr.any) ok0 rfl ⟨?_, ?_, ?_, trivial⟩ ?_
 · intro ax tx hs okx sm
   exact run_plain rfl (y_assign rfl)
 · intro ax tx hs okx sm d0
   have e0 : At (Ty.val (Value.slice none 0 0)) tx ax (.tmp 2) := d0 rfl
   exact run_plain rfl (y_assign rfl)
 · intro ax tx hs okx sm d0
   have e1 : At (Ty.val (Value.slice none 0 0)) tx ax (.tmp 3) := d0 rfl
   exact run_plain rfl (y_assign rfl)
 intro a1 s1 D1
 have ok1 := D1.ok
 have F1 := F0.step0 D1.stp
 have q1 : At (Ty.val (Value.string s)) s1 a1 (.tmp 0) := D1.kt p0 rfl
 clear D1
 refine tn ?_
 refine wp_seq ?_
 refine reg (a := a1) (σ := s1) rfl (fun i_ => List.getD [(Ty.pr (Ty.val (Value.string s))), (Ty.pr (Ty.lst Ty.int (runsL s))), (Ty.pr (Ty.lst Ty.int (runsL s)))] i_ Pr.any) ok1 rfl ⟨?_, ?_, ?_, trivial⟩ ?_
 · intro ax tx hs okx sm
   exact run_plain rfl (y_move (kp (sm 0 rfl) hs q1))
 · intro ax tx hs okx sm d0
   have e0 : At (Ty.val (Value.string s)) tx ax (.tmp 7) := d0 rfl
   exact run_plain rfl (y_call #[ax.eval (.tmp 7)] Try.func90 rfl rfl (by simp only [List.map_toArray, List.map_cons, List.map_nil]) (rRunes_fn (s) _ _ e0 (by omega)))
 · intro ax tx hs okx sm d0 d1 d2 d3
   have e1 : At (Ty.lst Ty.int (runsL s)) tx ax (.tmp 8) := d0 rfl
   have e0 : At (Ty.val (Value.string s)) tx ax (.tmp 7) := d2 rfl
   exact run_plain rfl (y_assign e1)
 intro a2 s2 D2
 have ok2 := D2.ok
 have F2 := F1.step0 D2.stp
 have q2 : At (Ty.lst Ty.int (runsL s)) s2 a2 (.tmp 5) := D2.done 2
 clear D2
 have q3 : At (Ty.lst Ty.int L) s2 a2 (.tmp 5) := (cvt (by (rw [hL])) q2)
 refine tn ?_
 refine wp_seq ?_
 refine wp_seq ?_
 refine reg (a := a2) (σ := s2) rfl (fun i_ => List.getD [(Ty.pr (Ty.int (0 : Int)))] i_ Pr.any) ok2 rfl ⟨?_, trivial⟩ ?_
 · intro ax tx hs okx sm
   exact run_plain rfl (y_assign rfl)
 intro a3 s3 D3
 have ok3 := D3.ok
 have F3 := F2.step0 D3.stp
 have q4 : At (Ty.lst Ty.int L) s3 a3 (.tmp 5) := D3.kt q3 rfl
 have q5 : At (Ty.int (0 : Int)) s3 a3 (.tmp 6) := D3.done 0
 clear D3
 refine tn ?_
 refine wp_block ?_
 refine loop (fun n1 a4 w1 => ∃ (t1 : GW) (i : Nat), t1.w = w1 ∧ FromL [] s0 t1 ∧ Ok 28 a4 ∧ At (Ty.nat i) t1 a4 (.tmp 6) ∧ At (Ty.lst Ty.int L) t1 a4 (.tmp 5) ∧ (i ≤ L.length) ∧ (∀ j, j < i → L.getD j 0 ≠ 42) ∧ n1 = L.length - i) (L.length - (0)) ?_ ?_
 ·
  exact ⟨s3, 0, rfl, F3, ok3, (cvi (by (first | rfl | omega | (simp_all; done) | (simp_all; omega))) q5), q4, by omega, fun j hj => absurd hj (Nat.not_lt_zero j), rfl⟩
 ·
  rintro n2 a5 w2 ⟨t2, i, rfl, F4, ok4, q6, q7, hi, hno, rfl⟩
  refine wp_seq ?_
  refine wp_seq ?_
  refine reg (a := a5) (σ := t2) rfl (fun i_ => List.getD [(Ty.pr (Ty.nat i)), (Ty.pr (Ty.lst Ty.int L)), (Ty.pr (Ty.nat (List.length L))), (Ty.pr (Ty.bool (decide (((i : Nat) : Int) < (((List.length L) : Nat) : Int)))))] i_ Pr.any) ok4 rfl ⟨?_, ?_, ?_, ?_, trivial⟩ ?_
  · intro ax tx hs okx sm
    exact run_plain rfl (y_move (kp (sm 6 rfl) hs q6))
  · intro ax tx hs okx sm
    exact run_plain rfl (y_move (kp (sm 5 rfl) hs q7))
  · intro ax tx hs okx sm d0
    have e1 : At (Ty.lst Ty.int L) tx ax (.tmp 10) := d0 rfl
    exact run_plain rfl (y_len Try.underlying34 e1)
  · intro ax tx hs okx sm d0 d1
    have e0 : At (Ty.nat i) tx ax (.tmp 9) := d0 rfl
    have e2 : At (Ty.nat (List.length L)) tx ax (.tmp 11) := d1 rfl
    exact run_plain rfl (y_lss e0 e2)
  intro a6 s4 D4
  have ok5 := D4.ok
  have F5 := F4.step0 D4.stp
  have q8 : At (Ty.nat i) s4 a6 (.tmp 6) := D4.kt q6 rfl
  have q9 : At (Ty.lst Ty.int L) s4 a6 (.tmp 5) := D4.kt q7 rfl
  have q10 : At (Ty.bool (decide (((i : Nat) : Int) < (((List.length L) : Nat) : Int)))) s4 a6 (.tmp 12) := D4.done 3
  clear D4
  refine tn ?_
  refine cond_p (p := (((i : Nat) : Int) < (((List.length L) : Nat) : Int))) q10 (fun c1 => ?_) (fun c1 => ?_)
  ·
   refine wp_skip ?_
   refine tn ?_
   refine wp_seq ?_
   refine wp_block ?_
   refine wp_seq ?_
   refine reg (a := a6) (σ := s4) rfl (fun i_ => List.getD [(Ty.pr (Ty.lst Ty.int L)), (Ty.pr (Ty.nat i)), (Ty.pr (Ty.ref [(Ty.int (L.getD i 0))])), (Ty.pr (Ty.int (L.getD i 0))), (Ty.pr (Ty.bool (decide ((L.getD i 0) = (42 : Int)))))] i_ Pr.any) ok5 rfl ⟨?_, ?_, ?_, ?_, ?_, trivial⟩ ?_
   · intro ax tx hs okx sm
     exact run_plain rfl (y_move (kp (sm 5 rfl) hs q9))
   · intro ax tx hs okx sm
     exact run_plain rfl (y_move (kp (sm 6 rfl) hs q8))
   · intro ax tx hs okx sm d0 d1
     have e0 : At (Ty.lst Ty.int L) tx ax (.tmp 15) := d0 rfl
     have e1 : At (Ty.nat i) tx ax (.tmp 16) := d1 rfl
     exact run_plain rfl (y_index1 Try.underlying34 Try.inf3 e0 e1 (by omega) (lst_get Ty.int L 0 i (by omega)))
   · intro ax tx hs okx sm d0
     have e2 : At (Ty.ref [(Ty.int (L.getD i 0))]) tx ax (.tmp 17) := d0 rfl
     exact run_plain rfl (y_load Try.underlying3 rfl e2 rfl)
   · intro ax tx hs okx sm d0
     have e3 : At (Ty.int (L.getD i 0)) tx ax (.tmp 18) := d0 rfl
     exact run_plain rfl (y_eql e3 rfl)
   intro a7 s5 D5
   have ok6 := D5.ok
   have F6 := F5.step0 D5.stp
   have q11 : At (Ty.nat i) s5 a7 (.tmp 6) := D5.kt q8 rfl
   have q12 : At (Ty.lst Ty.int L) s5 a7 (.tmp 5) := D5.kt q9 rfl
   have q13 : At (Ty.bool (decide ((L.getD i 0) = (42 : Int)))) s5 a7 (.tmp 19) := D5.done 4
   clear D5
   refine tn ?_
   refine cond_p (p := ((L.getD i 0) = (42 : Int))) q13 (fun c2 => ?_) (fun c2 => ?_)
   ·
    have hpa := pat_at (l := L) (i := i) (by omega) hno c2
    refine wp_seq ?_
    refine reg (a := a7) (σ := s5) rfl (fun i_ => List.getD [(Ty.pr (Ty.lst Ty.int L)), (Ty.pr (Ty.nat i)), (Ty.pr (Ty.lst Ty.int (L.take i))), (Ty.pr (Ty.lst Ty.int L)), (Ty.pr (Ty.nat i)), (Ty.pr (Ty.nat (i + 1))), (Ty.pr (Ty.lst Ty.int (L.drop (i + 1)))), (Ty.pr (Ty.lst Ty.int (L.take i))), (Ty.pr (Ty.lst Ty.int (L.drop (i + 1)))), (Ty.pr (Ty.bool true))] i_ Pr.any) ok6 rfl ⟨?_, ?_, ?_, ?_, ?_, ?_, ?_, ?_, ?_, ?_, trivial⟩ ?_
    · intro ax tx hs okx sm
      exact run_plain rfl (y_move (kp (sm 5 rfl) hs q12))
    · intro ax tx hs okx sm
      exact run_plain rfl (y_move (kp (sm 6 rfl) hs q11))
    · intro ax tx hs okx sm d0 d1
      have e0 : At (Ty.lst Ty.int L) tx ax (.tmp 20) := d0 rfl
      have e1 : At (Ty.nat i) tx ax (.tmp 21) := d1 rfl
      exact run_plain rfl (y_take Try.underlying34 Try.inf3 e0 e1 (by omega))
    · intro ax tx hs okx sm
      exact run_plain rfl (y_move (kp (sm 5 rfl) hs q12))
    · intro ax tx hs okx sm
      exact run_plain rfl (y_move (kp (sm 6 rfl) hs q11))
    · intro ax tx hs okx sm d0
      have e4 : At (Ty.nat i) tx ax (.tmp 24) := d0 rfl
      exact run_plain rfl ((y_add e4 rfl (w64 (by omega) (by omega))).mono (fun τ _ h => cvi (σ := τ) (by first | omega | exact (Int.natCast_mul _ _).symm) h))
    · intro ax tx hs okx sm d0 d1
      have e3 : At (Ty.lst Ty.int L) tx ax (.tmp 23) := d0 rfl
      have e5 : At (Ty.nat (i + 1)) tx ax (.tmp 25) := d1 rfl
      exact run_plain rfl (y_drop Try.underlying34 Try.inf3 e3 e5 (by omega))
    · intro ax tx hs okx sm d0 d1 d2 d3 d4 d5 d6 d7
      have e2 : At (Ty.lst Ty.int (L.take i)) tx ax (.tmp 22) := d0 rfl
      have e0 : At (Ty.lst Ty.int L) tx ax (.tmp 20) := d1 rfl
      have e1 : At (Ty.nat i) tx ax (.tmp 21) := d2 rfl
      exact run_plain rfl (y_assign e2)
    · intro ax tx hs okx sm d0 d1 d2 d3 d4 d5 d6 d7 d8 d9
      have e6 : At (Ty.lst Ty.int (L.drop (i + 1))) tx ax (.tmp 26) := d0 rfl
      have e7 : At (Ty.lst Ty.int (L.take i)) tx ax (.tmp 2) := d1 rfl
      have e0 : At (Ty.lst Ty.int L) tx ax (.tmp 20) := d2 rfl
      have e1 : At (Ty.nat i) tx ax (.tmp 21) := d3 rfl
      have e2 : At (Ty.lst Ty.int (L.take i)) tx ax (.tmp 22) := d4 rfl
      have e3 : At (Ty.lst Ty.int L) tx ax (.tmp 23) := d5 rfl
      have e4 : At (Ty.nat i) tx ax (.tmp 24) := d6 rfl
      have e5 : At (Ty.nat (i + 1)) tx ax (.tmp 25) := d7 rfl
      exact run_plain rfl (y_assign e6)
    · intro ax tx hs okx sm d0 d1 d2 d3 d4 d5 d6 d7 d8 d9
      have e8 : At (Ty.lst Ty.int (L.drop (i + 1))) tx ax (.tmp 3) := d0 rfl
      have e0 : At (Ty.lst Ty.int L) tx ax (.tmp 20) := d1 rfl
      have e1 : At (Ty.nat i) tx ax (.tmp 21) := d2 rfl
      have e2 : At (Ty.lst Ty.int (L.take i)) tx ax (.tmp 22) := d3 rfl
      have e3 : At (Ty.lst Ty.int L) tx ax (.tmp 23) := d4 rfl
      have e4 : At (Ty.nat i) tx ax (.tmp 24) := d5 rfl
      have e5 : At (Ty.nat (i + 1)) tx ax (.tmp 25) := d6 rfl
      have e6 : At (Ty.lst Ty.int (L.drop (i + 1))) tx ax (.tmp 26) := d7 rfl
      have e7 : At (Ty.lst Ty.int (L.take i)) tx ax (.tmp 2) := d8 rfl
      exact run_plain rfl (y_assign rfl)
    intro a8 s6 D6
    have ok7 := D6.ok
    have F7 := F6.step0 D6.stp
    have q14 : At (Ty.lst Ty.int (L.take i)) s6 a8 (.tmp 2) := D6.done 7
    have q15 : At (Ty.lst Ty.int (L.drop (i + 1))) s6 a8 (.tmp 3) := D6.done 8
    have q16 : At (Ty.bool true) s6 a8 (.tmp 4) := D6.done 9
    clear D6
    refine tn ?_
    refine wp_ret ?_
    refine br ?_
    refine tr ?_
    refine tr ?_
    refine br ?_
    refine tr ?_
    exact retL3 rfl ok7 F7 (hasT3 (cvt (by (rw [hpa.1])) q14) (cvt (by (rw [hpa.2.1])) q15) (cvb (by (rw [hpa.2.2])) q16))
   ·
    refine wp_skip ?_
    refine bn ?_
    refine tn ?_
    refine reg (a := a7) (σ := s5) rfl (fun i_ => List.getD [(Ty.pr (Ty.nat i)), (Ty.pr (Ty.nat (i + 1))), (Ty.pr (Ty.nat (i + 1)))] i_ Pr.any) ok6 rfl ⟨?_, ?_, ?_, trivial⟩ ?_
    · intro ax tx hs okx sm
      exact run_plain rfl (y_move (kp (sm 6 rfl) hs q11))
    · intro ax tx hs okx sm d0
      have e0 : At (Ty.nat i) tx ax (.tmp 13) := d0 rfl
      exact run_plain rfl ((y_add e0 rfl (w64 (by omega) (by omega))).mono (fun τ _ h => cvi (σ := τ) (by first | omega | exact (Int.natCast_mul _ _).symm) h))
    · intro ax tx hs okx sm d0 d1 d2
      have e1 : At (Ty.nat (i + 1)) tx ax (.tmp 14) := d0 rfl
      have e0 : At (Ty.nat i) tx ax (.tmp 13) := d1 rfl
      exact run_plain rfl (y_assign e1)
    intro a9 s7 D7
    have ok8 := D7.ok
    have F8 := F6.step0 D7.stp
    have q17 : At (Ty.lst Ty.int L) s7 a9 (.tmp 5) := D7.kt q12 rfl
    have q18 : At (Ty.nat (i + 1)) s7 a9 (.tmp 6) := D7.done 2
    clear D7
    exact tn ⟨L.length - ((i+1)), by omega, s7, (i+1), rfl, F8, ok8, (cvi (by (first | rfl | omega | (simp_all; done) | (simp_all; omega))) q18), q17, by omega, all_next hno c2, rfl⟩
  ·
   have hpn := pat_no (l := L) (fun j hj => hno j (by omega))
   refine wp_exit ?_
   refine tx ?_
   refine tx ?_
   refine bx ?_
   refine tn ?_
   refine wp_seq ?_
   refine reg (a := a6) (σ := s4) rfl (fun i_ => List.getD [(Ty.pr (Ty.lst Ty.int L)), (Ty.pr (Ty.lst Ty.int L)), (Ty.pr (Ty.val (Value.slice none 0 0))), (Ty.pr (Ty.bool false))] i_ Pr.any) ok5 rfl ⟨?_, ?_, ?_, ?_, trivial⟩ ?_
   · intro ax tx hs okx sm
     exact run_plain rfl (y_move (kp (sm 5 rfl) hs q9))
   · intro ax tx hs okx sm d0 d1
     have e0 : At (Ty.lst Ty.int L) tx ax (.tmp 27) := d0 rfl
     exact run_plain rfl (y_assign e0)
   · intro ax tx hs okx sm d0 d1 d2
     have e1 : At (Ty.lst Ty.int L) tx ax (.tmp 2) := d0 rfl
     have e0 : At (Ty.lst Ty.int L) tx ax (.tmp 27) := d1 rfl
     exact run_plain rfl (y_assign rfl)
   · intro ax tx hs okx sm d0 d1 d2 d3
     have e2 : At (Ty.val (Value.slice none 0 0)) tx ax (.tmp 3) := d0 rfl
     have e0 : At (Ty.lst Ty.int L) tx ax (.tmp 27) := d1 rfl
     have e1 : At (Ty.lst Ty.int L) tx ax (.tmp 2) := d2 rfl
     exact run_plain rfl (y_assign rfl)
   intro a10 s8 D8
   have ok9 := D8.ok
   have F9 := F5.step0 D8.stp
   have q19 : At (Ty.lst Ty.int L) s8 a10 (.tmp 2) := D8.done 1
   have q20 : At (Ty.val (Value.slice none 0 0)) s8 a10 (.tmp 3) := D8.done 2
   have q21 : At (Ty.bool false) s8 a10 (.tmp 4) := D8.done 3
   clear D8
   refine tn ?_
   refine wp_ret ?_
   exact retL3 rfl ok9 F9 (hasT3 (cvt (by (rw [hpn.1])) q19) (nil_lst (by (rw [hpn.2.1])) q20) (cvb (by (rw [hpn.2.2])) q21))


set_option maxHeartbeats 4000000 in
set_option maxRecDepth 100000 in
theorem rLike_fn (s : ByteArray) (r : List Int) (σ : GW)  (v0 v1 : Value) (hv0 : Ty.has (Ty.val (Value.string s)) σ v0) (hv1 : Ty.has (Ty.lst Ty.int r) σ v1)  (hs : s.size ≤ 17592186044416) (hl : (frR (runsL s)).length ≤ r.length ∧ (bkR (runsL s)).length ≤ r.length) (hp : (∀ c ∈ frR (runsL s), c = 63 ∨ 0 ≤ signIdx c) ∧ ∀ c ∈ bkR (runsL s), c = 63 ∨ 0 ≤ signIdx c) :
    FnC Try.prog 36 #[v0, v1] σ (Ty.bool (likeB (List.map bellQ (frR (runsL s))) (List.map bellQ (bkR (runsL s))) r)) := by
 obtain ⟨F, hF⟩ : ∃ L, L = frR (runsL s) := ⟨_, rfl⟩
 obtain ⟨B, hB⟩ : ∃ L, L = bkR (runsL s) := ⟨_, rfl⟩
 rw [← hF, ← hB] at hl hp
 rw [← hF, ← hB]
 obtain ⟨hl1, hl2⟩ := hl
 obtain ⟨hp1, hp2⟩ := hp
 refine fn_intro0 Try.func36 rfl Try.ntmps36 (Nat.le_of_ble_eq_true rfl) (fun s0 a0 hle F0 ok0 hargs => ?_)
 have p0 : At (Ty.val (Value.string s)) s0 a0 (.tmp 0) := by have e := hargs 0 _ rfl; show Ty.has _ _ _; rw [e]; exact Ty.up _ hle hv0
 have p1 : At (Ty.lst Ty.int r) s0 a0 (.tmp 1) := by have e := hargs 1 _ rfl; show Ty.has _ _ _; rw [e]; exact Ty.up _ hle hv1
 have b1 := sl_le p1
 clear hargs
 refine wp_seq ?_
 refine reg (a := a0) (σ := s0) rfl (fun i_ => List.getD [(Ty.pr (Ty.bool false))] i_ Pr.any) ok0 rfl ⟨?_, trivial⟩ ?_
 · intro ax tx hs okx sm
   exact run_plain rfl (y_assign rfl)
 intro a1 s1 D1
 have ok1 := D1.ok
 have F1 := F0.step0 D1.stp
 have q1 : At (Ty.val (Value.string s)) s1 a1 (.tmp 0) := D1.kt p0 rfl
 have q2 : At (Ty.lst Ty.int r) s1 a1 (.tmp 1) := D1.kt p1 rfl
 clear D1
 refine tn ?_
 refine wp_seq ?_
 refine reg (a := a1) (σ := s1) rfl (fun i_ => List.getD [(Ty.pr (Ty.val (Value.string s))), (Ty.pr (Ty.tup3 (Ty.lst Ty.int (frR (runsL s))) (Ty.lst Ty.int (bkR (runsL s))) (Ty.bool (hasS (runsL s))))), (Ty.pr (Ty.tup3 (Ty.lst Ty.int (frR (runsL s))) (Ty.lst Ty.int (bkR (runsL s))) (Ty.bool (hasS (runsL s))))), (Ty.pr (Ty.lst Ty.int (frR (runsL s)))), (Ty.pr (Ty.lst Ty.int (bkR (runsL s)))), (Ty.pr (Ty.bool (hasS (runsL s)))), (Ty.pr (Ty.lst Ty.int (frR (runsL s)))), (Ty.pr (Ty.lst Ty.int (bkR (runsL s)))), (Ty.pr (Ty.bool (hasS (runsL s))))] i_ Pr.any) ok1 rfl ⟨?_, ?_, ?_, ?_, ?_, ?_, ?_, ?_, ?_, trivial⟩ ?_
 · intro ax tx hs okx sm
   exact run_plain rfl (y_move (kp (sm 0 rfl) hs q1))
 · intro ax tx hs okx sm d0
   have e0 : At (Ty.val (Value.string s)) tx ax (.tmp 11) := d0 rfl
   exact run_plain rfl (y_call #[ax.eval (.tmp 11)] Try.func92 rfl rfl (by simp only [List.map_toArray, List.map_cons, List.map_nil]) (rPattern_fn (s) _ _ e0 (by omega)))
 · intro ax tx hs okx sm d0
   have e1 : At (Ty.tup3 (Ty.lst Ty.int (frR (runsL s))) (Ty.lst Ty.int (bkR (runsL s))) (Ty.bool (hasS (runsL s)))) tx ax (.tmp 12) := d0 rfl
   exact run_plain rfl (y_move e1)
 · intro ax tx hs okx sm d0
   have e2 : At (Ty.tup3 (Ty.lst Ty.int (frR (runsL s))) (Ty.lst Ty.int (bkR (runsL s))) (Ty.bool (hasS (runsL s)))) tx ax (.tmp 10) := d0 rfl
   exact run_plain rfl (y_ext3_0 e2)
 · intro ax tx hs okx sm d0 d1
   have e2 : At (Ty.tup3 (Ty.lst Ty.int (frR (runsL s))) (Ty.lst Ty.int (bkR (runsL s))) (Ty.bool (hasS (runsL s)))) tx ax (.tmp 10) := d0 rfl
   exact run_plain rfl (y_ext3_1 e2)
 · intro ax tx hs okx sm d0 d1
   have e2 : At (Ty.tup3 (Ty.lst Ty.int (frR (runsL s))) (Ty.lst Ty.int (bkR (runsL s))) (Ty.bool (hasS (runsL s)))) tx ax (.tmp 10) := d0 rfl
   exact run_plain rfl (y_ext3_2 e2)
 · intro ax tx hs okx sm d0 d1 d2 d3 d4 d5 d6 d7
   have e3 : At (Ty.lst Ty.int (frR (runsL s))) tx ax (.tmp 13) := d0 rfl
   have e1 : At (Ty.tup3 (Ty.lst Ty.int (frR (runsL s))) (Ty.lst Ty.int (bkR (runsL s))) (Ty.bool (hasS (runsL s)))) tx ax (.tmp 12) := d1 rfl
   have e0 : At (Ty.val (Value.string s)) tx ax (.tmp 11) := d2 rfl
   have e2 : At (Ty.tup3 (Ty.lst Ty.int (frR (runsL s))) (Ty.lst Ty.int (bkR (runsL s))) (Ty.bool (hasS (runsL s)))) tx ax (.tmp 10) := d4 rfl
   exact run_plain rfl (y_assign e3)
 · intro ax tx hs okx sm d0 d1 d2 d3 d4 d5 d6 d7 d8
   have e4 : At (Ty.lst Ty.int (bkR (runsL s))) tx ax (.tmp 14) := d0 rfl
   have e6 : At (Ty.lst Ty.int (frR (runsL s))) tx ax (.tmp 5) := d1 rfl
   have e0 : At (Ty.val (Value.string s)) tx ax (.tmp 11) := d2 rfl
   have e1 : At (Ty.tup3 (Ty.lst Ty.int (frR (runsL s))) (Ty.lst Ty.int (bkR (runsL s))) (Ty.bool (hasS (runsL s)))) tx ax (.tmp 12) := d3 rfl
   have e2 : At (Ty.tup3 (Ty.lst Ty.int (frR (runsL s))) (Ty.lst Ty.int (bkR (runsL s))) (Ty.bool (hasS (runsL s)))) tx ax (.tmp 10) := d4 rfl
   have e3 : At (Ty.lst Ty.int (frR (runsL s))) tx ax (.tmp 13) := d5 rfl
   exact run_plain rfl (y_assign e4)
 · intro ax tx hs okx sm d0 d1 d2 d3 d4 d5 d6 d7 d8 d9
   have e5 : At (Ty.bool (hasS (runsL s))) tx ax (.tmp 15) := d0 rfl
   have e7 : At (Ty.lst Ty.int (bkR (runsL s))) tx ax (.tmp 6) := d1 rfl
   have e0 : At (Ty.val (Value.string s)) tx ax (.tmp 11) := d2 rfl
   have e1 : At (Ty.tup3 (Ty.lst Ty.int (frR (runsL s))) (Ty.lst Ty.int (bkR (runsL s))) (Ty.bool (hasS (runsL s)))) tx ax (.tmp 12) := d3 rfl
   have e2 : At (Ty.tup3 (Ty.lst Ty.int (frR (runsL s))) (Ty.lst Ty.int (bkR (runsL s))) (Ty.bool (hasS (runsL s)))) tx ax (.tmp 10) := d4 rfl
   have e3 : At (Ty.lst Ty.int (frR (runsL s))) tx ax (.tmp 13) := d5 rfl
   have e4 : At (Ty.lst Ty.int (bkR (runsL s))) tx ax (.tmp 14) := d6 rfl
   have e6 : At (Ty.lst Ty.int (frR (runsL s))) tx ax (.tmp 5) := d8 rfl
   exact run_plain rfl (y_assign e5)
 intro a2 s2 D2
 have ok2 := D2.ok
 have F2 := F1.step0 D2.stp
 have q3 : At (Ty.lst Ty.int r) s2 a2 (.tmp 1) := D2.kt q2 rfl
 have q4 : At (Ty.lst Ty.int (frR (runsL s))) s2 a2 (.tmp 5) := D2.done 6
 have q5 : At (Ty.lst Ty.int (bkR (runsL s))) s2 a2 (.tmp 6) := D2.done 7
 clear D2
 have q6 : At (Ty.lst Ty.int F) s2 a2 (.tmp 5) := (cvt (by (rw [hF])) q4)
 have q7 : At (Ty.lst Ty.int B) s2 a2 (.tmp 6) := (cvt (by (rw [hB])) q5)
 refine tn ?_
 refine wp_seq ?_
 refine wp_seq ?_
 refine reg (a := a2) (σ := s2) rfl (fun i_ => List.getD [(Ty.pr (Ty.int (0 : Int)))] i_ Pr.any) ok2 rfl ⟨?_, trivial⟩ ?_
 · intro ax tx hs okx sm
   exact run_plain rfl (y_assign rfl)
 intro a3 s3 D3
 have ok3 := D3.ok
 have F3 := F2.step0 D3.stp
 have q8 : At (Ty.lst Ty.int r) s3 a3 (.tmp 1) := D3.kt q3 rfl
 have q9 : At (Ty.lst Ty.int F) s3 a3 (.tmp 5) := D3.kt q6 rfl
 have q10 : At (Ty.lst Ty.int B) s3 a3 (.tmp 6) := D3.kt q7 rfl
 have q11 : At (Ty.int (0 : Int)) s3 a3 (.tmp 8) := D3.done 0
 clear D3
 refine tn ?_
 refine wp_block ?_
 refine loop (fun n1 a4 w1 => ∃ (t1 : GW) (i : Nat), t1.w = w1 ∧ FromL [] s0 t1 ∧ Ok 68 a4 ∧ At (Ty.nat i) t1 a4 (.tmp 8) ∧ At (Ty.lst Ty.int r) t1 a4 (.tmp 1) ∧ At (Ty.lst Ty.int F) t1 a4 (.tmp 5) ∧ At (Ty.lst Ty.int B) t1 a4 (.tmp 6) ∧ (i ≤ F.length) ∧ (∀ j, j < i → (F.map bellQ).getD j 0 < 0 ∨ r.getD j 0 = (F.map bellQ).getD j 0) ∧ n1 = F.length - i) (F.length - (0)) ?_ ?_
 ·
  exact ⟨s3, 0, rfl, F3, ok3, (cvi (by (first | rfl | omega | (simp_all; done) | (simp_all; omega))) q11), q8, q9, q10, by omega, fun j hj => absurd hj (Nat.not_lt_zero j), rfl⟩
 ·
  rintro n2 a5 w2 ⟨t2, i, rfl, F4, ok4, q12, q13, q14, q15, hi, hq, rfl⟩
  refine wp_seq ?_
  refine wp_seq ?_
  refine reg (a := a5) (σ := t2) rfl (fun i_ => List.getD [(Ty.pr (Ty.nat i)), (Ty.pr (Ty.lst Ty.int F)), (Ty.pr (Ty.nat (List.length F))), (Ty.pr (Ty.bool (decide (((i : Nat) : Int) < (((List.length F) : Nat) : Int)))))] i_ Pr.any) ok4 rfl ⟨?_, ?_, ?_, ?_, trivial⟩ ?_
  · intro ax tx hs okx sm
    exact run_plain rfl (y_move (kp (sm 8 rfl) hs q12))
  · intro ax tx hs okx sm
    exact run_plain rfl (y_move (kp (sm 5 rfl) hs q14))
  · intro ax tx hs okx sm d0
    have e1 : At (Ty.lst Ty.int F) tx ax (.tmp 17) := d0 rfl
    exact run_plain rfl (y_len Try.underlying34 e1)
  · intro ax tx hs okx sm d0 d1
    have e0 : At (Ty.nat i) tx ax (.tmp 16) := d0 rfl
    have e2 : At (Ty.nat (List.length F)) tx ax (.tmp 18) := d1 rfl
    exact run_plain rfl (y_lss e0 e2)
  intro a6 s4 D4
  have ok5 := D4.ok
  have F5 := F4.step0 D4.stp
  have q16 : At (Ty.nat i) s4 a6 (.tmp 8) := D4.kt q12 rfl
  have q17 : At (Ty.lst Ty.int r) s4 a6 (.tmp 1) := D4.kt q13 rfl
  have q18 : At (Ty.lst Ty.int F) s4 a6 (.tmp 5) := D4.kt q14 rfl
  have q19 : At (Ty.lst Ty.int B) s4 a6 (.tmp 6) := D4.kt q15 rfl
  have q20 : At (Ty.bool (decide (((i : Nat) : Int) < (((List.length F) : Nat) : Int)))) s4 a6 (.tmp 19) := D4.done 3
  clear D4
  refine tn ?_
  refine cond_p (p := (((i : Nat) : Int) < (((List.length F) : Nat) : Int))) q20 (fun c1 => ?_) (fun c1 => ?_)
  ·
   refine wp_skip ?_
   refine tn ?_
   refine wp_seq ?_
   refine wp_block ?_
   refine wp_seq ?_
   refine reg (a := a6) (σ := s4) rfl (fun i_ => List.getD [(Ty.pr (Ty.lst Ty.int F)), (Ty.pr (Ty.nat i)), (Ty.pr (Ty.ref [(Ty.int (F.getD i 0))])), (Ty.pr (Ty.int (F.getD i 0))), (Ty.pr (Ty.bool (decide ((F.getD i 0) ≠ (63 : Int))))), (Ty.pr (Ty.bool (decide ((F.getD i 0) ≠ (63 : Int))))), (Ty.pr (Ty.grd ((decide ((F.getD i 0) ≠ (63 : Int))) = true) (Ty.lst Ty.int F))), (Ty.pr (Ty.grd ((decide ((F.getD i 0) ≠ (63 : Int))) = true) (Ty.nat i))), (Ty.pr (Ty.grd ((decide ((F.getD i 0) ≠ (63 : Int))) = true) (Ty.ref [(Ty.int (F.getD i 0))]))), (Ty.pr (Ty.grd ((decide ((F.getD i 0) ≠ (63 : Int))) = true) (Ty.int (F.getD i 0)))), (Ty.pr (Ty.grd ((decide ((F.getD i 0) ≠ (63 : Int))) = true) (Ty.int (signIdx ((F.getD i 0)))))), (Ty.pr (Ty.grd ((decide ((F.getD i 0) ≠ (63 : Int))) = true) (Ty.lst Ty.int r))), (Ty.pr (Ty.grd ((decide ((F.getD i 0) ≠ (63 : Int))) = true) (Ty.nat i))), (Ty.pr (Ty.grd ((decide ((F.getD i 0) ≠ (63 : Int))) = true) (Ty.ref [(Ty.int (r.getD i 0))]))), (Ty.pr (Ty.grd ((decide ((F.getD i 0) ≠ (63 : Int))) = true) (Ty.int (r.getD i 0)))), (Ty.pr (Ty.grd ((decide ((F.getD i 0) ≠ (63 : Int))) = true) (Ty.bool (decide ((signIdx ((F.getD i 0))) ≠ (r.getD i 0)))))), (Ty.pr (Ty.bool ((decide ((F.getD i 0) ≠ (63 : Int))) && (decide ((signIdx ((F.getD i 0))) ≠ (r.getD i 0))))))] i_ Pr.any) ok5 rfl ⟨?_, ?_, ?_, ?_, ?_, ?_, ?_, ?_, ?_, ?_, ?_, ?_, ?_, ?_, ?_, ?_, ?_, trivial⟩ ?_
   · intro ax tx hs okx sm
     exact run_plain rfl (y_move (kp (sm 5 rfl) hs q18))
   · intro ax tx hs okx sm
     exact run_plain rfl (y_move (kp (sm 8 rfl) hs q16))
   · intro ax tx hs okx sm d0 d1
     have e0 : At (Ty.lst Ty.int F) tx ax (.tmp 22) := d0 rfl
     have e1 : At (Ty.nat i) tx ax (.tmp 23) := d1 rfl
     exact run_plain rfl (y_index1 Try.underlying34 Try.inf3 e0 e1 (by omega) (lst_get Ty.int F 0 i (by omega)))
   · intro ax tx hs okx sm d0
     have e2 : At (Ty.ref [(Ty.int (F.getD i 0))]) tx ax (.tmp 24) := d0 rfl
     exact run_plain rfl (y_load Try.underlying3 rfl e2 rfl)
   · intro ax tx hs okx sm d0
     have e3 : At (Ty.int (F.getD i 0)) tx ax (.tmp 25) := d0 rfl
     exact run_plain rfl (y_neq e3 rfl)
   · intro ax tx hs okx sm d0
     have e4 : At (Ty.bool (decide ((F.getD i 0) ≠ (63 : Int)))) tx ax (.tmp 26) := d0 rfl
     exact run_plain rfl (y_move e4)
   · intro ax tx hs okx sm d0
     have e5 : At (Ty.bool (decide ((F.getD i 0) ≠ (63 : Int)))) tx ax (.tmp 27) := d0 rfl
     refine run_guard (T := (Ty.lst Ty.int F)) okx rfl rfl (by decide) e5 (fun hg => ?_)
     have hp := of_decide_eq_true hg
     exact y_move (kp (sm 5 rfl) hs q18)
   · intro ax tx hs okx sm d0
     have e5 : At (Ty.bool (decide ((F.getD i 0) ≠ (63 : Int)))) tx ax (.tmp 27) := d0 rfl
     refine run_guard (T := (Ty.nat i)) okx rfl rfl (by decide) e5 (fun hg => ?_)
     have hp := of_decide_eq_true hg
     exact y_move (kp (sm 8 rfl) hs q16)
   · intro ax tx hs okx sm d0 d1 d2
     have e6 : At (Ty.grd ((decide ((F.getD i 0) ≠ (63 : Int))) = true) (Ty.lst Ty.int F)) tx ax (.tmp 28) := d0 rfl
     have e7 : At (Ty.grd ((decide ((F.getD i 0) ≠ (63 : Int))) = true) (Ty.nat i)) tx ax (.tmp 29) := d1 rfl
     have e5 : At (Ty.bool (decide ((F.getD i 0) ≠ (63 : Int)))) tx ax (.tmp 27) := d2 rfl
     refine run_guard (T := (Ty.ref [(Ty.int (F.getD i 0))])) okx rfl rfl (by decide) e5 (fun hg => ?_)
     have hp := of_decide_eq_true hg
     exact y_index1 Try.underlying34 Try.inf3 (e6.1 hg) (e7.1 hg) (by omega) (lst_get Ty.int F 0 i (by omega))
   · intro ax tx hs okx sm d0 d1
     have e8 : At (Ty.grd ((decide ((F.getD i 0) ≠ (63 : Int))) = true) (Ty.ref [(Ty.int (F.getD i 0))])) tx ax (.tmp 30) := d0 rfl
     have e5 : At (Ty.bool (decide ((F.getD i 0) ≠ (63 : Int)))) tx ax (.tmp 27) := d1 rfl
     refine run_guard (T := (Ty.int (F.getD i 0))) okx rfl rfl (by decide) e5 (fun hg => ?_)
     have hp := of_decide_eq_true hg
     exact y_load Try.underlying3 rfl (e8.1 hg) rfl
   · intro ax tx hs okx sm d0 d1 d2
     have e9 : At (Ty.grd ((decide ((F.getD i 0) ≠ (63 : Int))) = true) (Ty.int (F.getD i 0))) tx ax (.tmp 31) := d0 rfl
     have e5 : At (Ty.bool (decide ((F.getD i 0) ≠ (63 : Int)))) tx ax (.tmp 27) := d1 rfl
     refine run_guard (T := (Ty.int (signIdx ((F.getD i 0))))) okx rfl rfl (by decide) e5 (fun hg => ?_)
     have hp := of_decide_eq_true hg
     exact y_call #[ax.eval (.tmp 31)] Try.func91 rfl rfl (by simp only [List.map_toArray, List.map_cons, List.map_nil]) (rBell_fn ((F.getD i 0)) _ _ (cvi (σ := tx) (by omega) (e9.1 hg)) )
   · intro ax tx hs okx sm d0
     have e5 : At (Ty.bool (decide ((F.getD i 0) ≠ (63 : Int)))) tx ax (.tmp 27) := d0 rfl
     refine run_guard (T := (Ty.lst Ty.int r)) okx rfl rfl (by decide) e5 (fun hg => ?_)
     have hp := of_decide_eq_true hg
     exact y_move (kp (sm 1 rfl) hs q17)
   · intro ax tx hs okx sm d0
     have e5 : At (Ty.bool (decide ((F.getD i 0) ≠ (63 : Int)))) tx ax (.tmp 27) := d0 rfl
     refine run_guard (T := (Ty.nat i)) okx rfl rfl (by decide) e5 (fun hg => ?_)
     have hp := of_decide_eq_true hg
     exact y_move (kp (sm 8 rfl) hs q16)
   · intro ax tx hs okx sm d0 d1 d2
     have e11 : At (Ty.grd ((decide ((F.getD i 0) ≠ (63 : Int))) = true) (Ty.lst Ty.int r)) tx ax (.tmp 33) := d0 rfl
     have e12 : At (Ty.grd ((decide ((F.getD i 0) ≠ (63 : Int))) = true) (Ty.nat i)) tx ax (.tmp 34) := d1 rfl
     have e5 : At (Ty.bool (decide ((F.getD i 0) ≠ (63 : Int)))) tx ax (.tmp 27) := d2 rfl
     refine run_guard (T := (Ty.ref [(Ty.int (r.getD i 0))])) okx rfl rfl (by decide) e5 (fun hg => ?_)
     have hp := of_decide_eq_true hg
     exact y_index1 Try.underlying34 Try.inf3 (e11.1 hg) (e12.1 hg) (by omega) (lst_get Ty.int r 0 i (by omega))
   · intro ax tx hs okx sm d0 d1
     have e13 : At (Ty.grd ((decide ((F.getD i 0) ≠ (63 : Int))) = true) (Ty.ref [(Ty.int (r.getD i 0))])) tx ax (.tmp 35) := d0 rfl
     have e5 : At (Ty.bool (decide ((F.getD i 0) ≠ (63 : Int)))) tx ax (.tmp 27) := d1 rfl
     refine run_guard (T := (Ty.int (r.getD i 0))) okx rfl rfl (by decide) e5 (fun hg => ?_)
     have hp := of_decide_eq_true hg
     exact y_load Try.underlying3 rfl (e13.1 hg) rfl
   · intro ax tx hs okx sm d0 d1 d2
     have e10 : At (Ty.grd ((decide ((F.getD i 0) ≠ (63 : Int))) = true) (Ty.int (signIdx ((F.getD i 0))))) tx ax (.tmp 32) := d0 rfl
     have e14 : At (Ty.grd ((decide ((F.getD i 0) ≠ (63 : Int))) = true) (Ty.int (r.getD i 0))) tx ax (.tmp 36) := d1 rfl
     have e5 : At (Ty.bool (decide ((F.getD i 0) ≠ (63 : Int)))) tx ax (.tmp 27) := d2 rfl
     refine run_guard (T := (Ty.bool (decide ((signIdx ((F.getD i 0))) ≠ (r.getD i 0))))) okx rfl rfl (by decide) e5 (fun hg => ?_)
     have hp := of_decide_eq_true hg
     exact y_neq (e10.1 hg) (e14.1 hg)
   · intro ax tx hs okx sm d0 d1
     have e5 : At (Ty.bool (decide ((F.getD i 0) ≠ (63 : Int)))) tx ax (.tmp 27) := d0 rfl
     have e15 : At (Ty.grd ((decide ((F.getD i 0) ≠ (63 : Int))) = true) (Ty.bool (decide ((signIdx ((F.getD i 0))) ≠ (r.getD i 0))))) tx ax (.tmp 37) := d1 rfl
     exact run_plain rfl (y_pick_and e5 e15 rfl)
   intro a7 s5 D5
   have ok6 := D5.ok
   have F6 := F5.step0 D5.stp
   have q21 : At (Ty.nat i) s5 a7 (.tmp 8) := D5.kt q16 rfl
   have q22 : At (Ty.lst Ty.int r) s5 a7 (.tmp 1) := D5.kt q17 rfl
   have q23 : At (Ty.lst Ty.int F) s5 a7 (.tmp 5) := D5.kt q18 rfl
   have q24 : At (Ty.lst Ty.int B) s5 a7 (.tmp 6) := D5.kt q19 rfl
   have q25 : At (Ty.bool ((decide ((F.getD i 0) ≠ (63 : Int))) && (decide ((signIdx ((F.getD i 0))) ≠ (r.getD i 0))))) s5 a7 (.tmp 38) := D5.done 16
   clear D5
   refine tn ?_
   refine cond_t q25 (fun c2 => ?_) (fun c2 => ?_)
   ·
    obtain ⟨d1, d2⟩ := Bool.and_eq_true_iff.mp c2
    replace d1 := of_decide_eq_true d1
    replace d2 := of_decide_eq_true d2
    simp only [Bool.and_eq_true, decide_eq_true_eq] at c2
    refine wp_seq ?_
    refine reg (a := a7) (σ := s5) rfl (fun i_ => List.getD [(Ty.pr (Ty.bool false))] i_ Pr.any) ok6 rfl ⟨?_, trivial⟩ ?_
    · intro ax tx hs okx sm
      exact run_plain rfl (y_assign rfl)
    intro a8 s6 D6
    have ok7 := D6.ok
    have F7 := F6.step0 D6.stp
    have q26 : At (Ty.bool false) s6 a8 (.tmp 4) := D6.done 0
    clear D6
    refine tn ?_
    refine wp_ret ?_
    refine br ?_
    refine tr ?_
    refine tr ?_
    refine br ?_
    refine tr ?_
    exact retL1 rfl ok7 F7 (cvb (by (exact (lk_no1 (by omega) hp1 c2.1 c2.2).symm)) q26)
   ·
    simp only [Bool.and_eq_false_iff, decide_eq_false_iff_not] at c2
    refine wp_skip ?_
    refine bn ?_
    refine tn ?_
    refine reg (a := a7) (σ := s5) rfl (fun i_ => List.getD [(Ty.pr (Ty.nat i)), (Ty.pr (Ty.nat (i + 1))), (Ty.pr (Ty.nat (i + 1)))] i_ Pr.any) ok6 rfl ⟨?_, ?_, ?_, trivial⟩ ?_
    · intro ax tx hs okx sm
      exact run_plain rfl (y_move (kp (sm 8 rfl) hs q21))
    · intro ax tx hs okx sm d0
      have e0 : At (Ty.nat i) tx ax (.tmp 20) := d0 rfl
      exact run_plain rfl ((y_add e0 rfl (w64 (by omega) (by omega))).mono (fun τ _ h => cvi (σ := τ) (by first | omega | exact (Int.natCast_mul _ _).symm) h))
    · intro ax tx hs okx sm d0 d1 d2
      have e1 : At (Ty.nat (i + 1)) tx ax (.tmp 21) := d0 rfl
      have e0 : At (Ty.nat i) tx ax (.tmp 20) := d1 rfl
      exact run_plain rfl (y_assign e1)
    intro a9 s7 D7
    have ok8 := D7.ok
    have F8 := F6.step0 D7.stp
    have q27 : At (Ty.lst Ty.int r) s7 a9 (.tmp 1) := D7.kt q22 rfl
    have q28 : At (Ty.lst Ty.int F) s7 a9 (.tmp 5) := D7.kt q23 rfl
    have q29 : At (Ty.lst Ty.int B) s7 a9 (.tmp 6) := D7.kt q24 rfl
    have q30 : At (Ty.nat (i + 1)) s7 a9 (.tmp 8) := D7.done 2
    clear D7
    exact tn ⟨F.length - ((i+1)), by omega, s7, (i+1), rfl, F8, ok8, (cvi (by (first | rfl | omega | (simp_all; done) | (simp_all; omega))) q30), q27, q28, q29, by omega, all_next hq (lk_go (by omega) (by omega)), rfl⟩
  ·
   have hie : i = F.length := (by omega)
   refine wp_exit ?_
   refine tx ?_
   refine tx ?_
   refine bx ?_
   refine tn ?_
   refine wp_seq ?_
   refine wp_seq ?_
   refine reg (a := a6) (σ := s4) rfl (fun i_ => List.getD [(Ty.pr (Ty.int (0 : Int)))] i_ Pr.any) ok5 rfl ⟨?_, trivial⟩ ?_
   · intro ax tx hs okx sm
     exact run_plain rfl (y_assign rfl)
   intro a10 s8 D8
   have ok9 := D8.ok
   have F9 := F5.step0 D8.stp
   have q31 : At (Ty.lst Ty.int r) s8 a10 (.tmp 1) := D8.kt q17 rfl
   have q32 : At (Ty.lst Ty.int B) s8 a10 (.tmp 6) := D8.kt q19 rfl
   have q33 : At (Ty.int (0 : Int)) s8 a10 (.tmp 9) := D8.done 0
   clear D8
   refine tn ?_
   refine wp_block ?_
   refine loop (fun n3 a11 w3 => ∃ (t3 : GW) (k : Nat), t3.w = w3 ∧ FromL [] s0 t3 ∧ Ok 68 a11 ∧ At (Ty.nat k) t3 a11 (.tmp 9) ∧ At (Ty.lst Ty.int r) t3 a11 (.tmp 1) ∧ At (Ty.lst Ty.int B) t3 a11 (.tmp 6) ∧ (k ≤ B.length) ∧ (∀ j, j < k → (B.map bellQ).getD j 0 < 0 ∨ r.getD (r.length - B.length + j) 0 = (B.map bellQ).getD j 0) ∧ n3 = B.length - k) (B.length - (0)) ?_ ?_
   ·
    exact ⟨s8, 0, rfl, F9, ok9, (cvi (by (first | rfl | omega | (simp_all; done) | (simp_all; omega))) q33), q31, q32, by omega, fun j hj => absurd hj (Nat.not_lt_zero j), rfl⟩
   ·
    rintro n4 a12 w4 ⟨t4, k, rfl, F10, ok10, q34, q35, q36, hk, hq2, rfl⟩
    have hix : (((((r.length : Nat) : Int)) - (((B.length : Nat) : Int))) + ((k : Nat) : Int)).toNat = r.length - B.length + k := by omega
    refine wp_seq ?_
    refine wp_seq ?_
    refine reg (a := a12) (σ := t4) rfl (fun i_ => List.getD [(Ty.pr (Ty.nat k)), (Ty.pr (Ty.lst Ty.int B)), (Ty.pr (Ty.nat (List.length B))), (Ty.pr (Ty.bool (decide (((k : Nat) : Int) < (((List.length B) : Nat) : Int)))))] i_ Pr.any) ok10 rfl ⟨?_, ?_, ?_, ?_, trivial⟩ ?_
    · intro ax tx hs okx sm
      exact run_plain rfl (y_move (kp (sm 9 rfl) hs q34))
    · intro ax tx hs okx sm
      exact run_plain rfl (y_move (kp (sm 6 rfl) hs q36))
    · intro ax tx hs okx sm d0
      have e1 : At (Ty.lst Ty.int B) tx ax (.tmp 40) := d0 rfl
      exact run_plain rfl (y_len Try.underlying34 e1)
    · intro ax tx hs okx sm d0 d1
      have e0 : At (Ty.nat k) tx ax (.tmp 39) := d0 rfl
      have e2 : At (Ty.nat (List.length B)) tx ax (.tmp 41) := d1 rfl
      exact run_plain rfl (y_lss e0 e2)
    intro a13 s9 D9
    have ok11 := D9.ok
    have F11 := F10.step0 D9.stp
    have q37 : At (Ty.nat k) s9 a13 (.tmp 9) := D9.kt q34 rfl
    have q38 : At (Ty.lst Ty.int r) s9 a13 (.tmp 1) := D9.kt q35 rfl
    have q39 : At (Ty.lst Ty.int B) s9 a13 (.tmp 6) := D9.kt q36 rfl
    have q40 : At (Ty.bool (decide (((k : Nat) : Int) < (((List.length B) : Nat) : Int)))) s9 a13 (.tmp 42) := D9.done 3
    clear D9
    refine tn ?_
    refine cond_p (p := (((k : Nat) : Int) < (((List.length B) : Nat) : Int))) q40 (fun c3 => ?_) (fun c3 => ?_)
    ·
     refine wp_skip ?_
     refine tn ?_
     refine wp_seq ?_
     refine wp_block ?_
     refine wp_seq ?_
     refine reg (a := a13) (σ := s9) rfl (fun i_ => List.getD [(Ty.pr (Ty.lst Ty.int B)), (Ty.pr (Ty.nat k)), (Ty.pr (Ty.ref [(Ty.int (B.getD k 0))])), (Ty.pr (Ty.int (B.getD k 0))), (Ty.pr (Ty.bool (decide ((B.getD k 0) ≠ (63 : Int))))), (Ty.pr (Ty.bool (decide ((B.getD k 0) ≠ (63 : Int))))), (Ty.pr (Ty.grd ((decide ((B.getD k 0) ≠ (63 : Int))) = true) (Ty.lst Ty.int B))), (Ty.pr (Ty.grd ((decide ((B.getD k 0) ≠ (63 : Int))) = true) (Ty.nat k))), (Ty.pr (Ty.grd ((decide ((B.getD k 0) ≠ (63 : Int))) = true) (Ty.ref [(Ty.int (B.getD k 0))]))), (Ty.pr (Ty.grd ((decide ((B.getD k 0) ≠ (63 : Int))) = true) (Ty.int (B.getD k 0)))), (Ty.pr (Ty.grd ((decide ((B.getD k 0) ≠ (63 : Int))) = true) (Ty.int (signIdx ((B.getD k 0)))))), (Ty.pr (Ty.grd ((decide ((B.getD k 0) ≠ (63 : Int))) = true) (Ty.lst Ty.int r))), (Ty.pr (Ty.grd ((decide ((B.getD k 0) ≠ (63 : Int))) = true) (Ty.lst Ty.int r))), (Ty.pr (Ty.grd ((decide ((B.getD k 0) ≠ (63 : Int))) = true) (Ty.nat (List.length r)))), (Ty.pr (Ty.grd ((decide ((B.getD k 0) ≠ (63 : Int))) = true) (Ty.lst Ty.int B))), (Ty.pr (Ty.grd ((decide ((B.getD k 0) ≠ (63 : Int))) = true) (Ty.nat (List.length B)))), (Ty.pr (Ty.grd ((decide ((B.getD k 0) ≠ (63 : Int))) = true) (Ty.int ((((List.length r) : Nat) : Int) - (((List.length B) : Nat) : Int))))), (Ty.pr (Ty.grd ((decide ((B.getD k 0) ≠ (63 : Int))) = true) (Ty.nat k))), (Ty.pr (Ty.grd ((decide ((B.getD k 0) ≠ (63 : Int))) = true) (Ty.int (((((List.length r) : Nat) : Int) - (((List.length B) : Nat) : Int)) + ((k : Nat) : Int))))), (Ty.pr (Ty.grd ((decide ((B.getD k 0) ≠ (63 : Int))) = true) (Ty.ref [(Ty.int (r.getD ((((((List.length r) : Nat) : Int) - (((List.length B) : Nat) : Int)) + ((k : Nat) : Int))).toNat 0))]))), (Ty.pr (Ty.grd ((decide ((B.getD k 0) ≠ (63 : Int))) = true) (Ty.int (r.getD ((((((List.length r) : Nat) : Int) - (((List.length B) : Nat) : Int)) + ((k : Nat) : Int))).toNat 0)))), (Ty.pr (Ty.grd ((decide ((B.getD k 0) ≠ (63 : Int))) = true) (Ty.bool (decide ((signIdx ((B.getD k 0))) ≠ (r.getD ((((((List.length r) : Nat) : Int) - (((List.length B) : Nat) : Int)) + ((k : Nat) : Int))).toNat 0)))))), (Ty.pr (Ty.bool ((decide ((B.getD k 0) ≠ (63 : Int))) && (decide ((signIdx ((B.getD k 0))) ≠ (r.getD ((((((List.length r) : Nat) : Int) - (((List.length B) : Nat) : Int)) + ((k : Nat) : Int))).toNat 0))))))] i_ Pr.any) ok11 rfl ⟨?_, ?_, ?_, ?_, ?_, ?_, ?_, ?_, ?_, ?_, ?_, ?_, ?_, ?_, ?_, ?_, ?_, ?_, ?_, ?_, ?_, ?_, ?_, trivial⟩ ?_
     · intro ax tx hs okx sm
       exact run_plain rfl (y_move (kp (sm 6 rfl) hs q39))
     · intro ax tx hs okx sm
       exact run_plain rfl (y_move (kp (sm 9 rfl) hs q37))
     · intro ax tx hs okx sm d0 d1
       have e0 : At (Ty.lst Ty.int B) tx ax (.tmp 45) := d0 rfl
       have e1 : At (Ty.nat k) tx ax (.tmp 46) := d1 rfl
       exact run_plain rfl (y_index1 Try.underlying34 Try.inf3 e0 e1 (by omega) (lst_get Ty.int B 0 k (by omega)))
     · intro ax tx hs okx sm d0
       have e2 : At (Ty.ref [(Ty.int (B.getD k 0))]) tx ax (.tmp 47) := d0 rfl
       exact run_plain rfl (y_load Try.underlying3 rfl e2 rfl)
     · intro ax tx hs okx sm d0
       have e3 : At (Ty.int (B.getD k 0)) tx ax (.tmp 48) := d0 rfl
       exact run_plain rfl (y_neq e3 rfl)
     · intro ax tx hs okx sm d0
       have e4 : At (Ty.bool (decide ((B.getD k 0) ≠ (63 : Int)))) tx ax (.tmp 49) := d0 rfl
       exact run_plain rfl (y_move e4)
     · intro ax tx hs okx sm d0
       have e5 : At (Ty.bool (decide ((B.getD k 0) ≠ (63 : Int)))) tx ax (.tmp 50) := d0 rfl
       refine run_guard (T := (Ty.lst Ty.int B)) okx rfl rfl (by decide) e5 (fun hg => ?_)
       have hp := of_decide_eq_true hg
       exact y_move (kp (sm 6 rfl) hs q39)
     · intro ax tx hs okx sm d0
       have e5 : At (Ty.bool (decide ((B.getD k 0) ≠ (63 : Int)))) tx ax (.tmp 50) := d0 rfl
       refine run_guard (T := (Ty.nat k)) okx rfl rfl (by decide) e5 (fun hg => ?_)
       have hp := of_decide_eq_true hg
       exact y_move (kp (sm 9 rfl) hs q37)
     · intro ax tx hs okx sm d0 d1 d2
       have e6 : At (Ty.grd ((decide ((B.getD k 0) ≠ (63 : Int))) = true) (Ty.lst Ty.int B)) tx ax (.tmp 51) := d0 rfl
       have e7 : At (Ty.grd ((decide ((B.getD k 0) ≠ (63 : Int))) = true) (Ty.nat k)) tx ax (.tmp 52) := d1 rfl
       have e5 : At (Ty.bool (decide ((B.getD k 0) ≠ (63 : Int)))) tx ax (.tmp 50) := d2 rfl
       refine run_guard (T := (Ty.ref [(Ty.int (B.getD k 0))])) okx rfl rfl (by decide) e5 (fun hg => ?_)
       have hp := of_decide_eq_true hg
       exact y_index1 Try.underlying34 Try.inf3 (e6.1 hg) (e7.1 hg) (by omega) (lst_get Ty.int B 0 k (by omega))
     · intro ax tx hs okx sm d0 d1
       have e8 : At (Ty.grd ((decide ((B.getD k 0) ≠ (63 : Int))) = true) (Ty.ref [(Ty.int (B.getD k 0))])) tx ax (.tmp 53) := d0 rfl
       have e5 : At (Ty.bool (decide ((B.getD k 0) ≠ (63 : Int)))) tx ax (.tmp 50) := d1 rfl
       refine run_guard (T := (Ty.int (B.getD k 0))) okx rfl rfl (by decide) e5 (fun hg => ?_)
       have hp := of_decide_eq_true hg
       exact y_load Try.underlying3 rfl (e8.1 hg) rfl
     · intro ax tx hs okx sm d0 d1 d2
       have e9 : At (Ty.grd ((decide ((B.getD k 0) ≠ (63 : Int))) = true) (Ty.int (B.getD k 0))) tx ax (.tmp 54) := d0 rfl
       have e5 : At (Ty.bool (decide ((B.getD k 0) ≠ (63 : Int)))) tx ax (.tmp 50) := d1 rfl
       refine run_guard (T := (Ty.int (signIdx ((B.getD k 0))))) okx rfl rfl (by decide) e5 (fun hg => ?_)
       have hp := of_decide_eq_true hg
       exact y_call #[ax.eval (.tmp 54)] Try.func91 rfl rfl (by simp only [List.map_toArray, List.map_cons, List.map_nil]) (rBell_fn ((B.getD k 0)) _ _ (cvi (σ := tx) (by omega) (e9.1 hg)) )
     · intro ax tx hs okx sm d0
       have e5 : At (Ty.bool (decide ((B.getD k 0) ≠ (63 : Int)))) tx ax (.tmp 50) := d0 rfl
       refine run_guard (T := (Ty.lst Ty.int r)) okx rfl rfl (by decide) e5 (fun hg => ?_)
       have hp := of_decide_eq_true hg
       exact y_move (kp (sm 1 rfl) hs q38)
     · intro ax tx hs okx sm d0
       have e5 : At (Ty.bool (decide ((B.getD k 0) ≠ (63 : Int)))) tx ax (.tmp 50) := d0 rfl
       refine run_guard (T := (Ty.lst Ty.int r)) okx rfl rfl (by decide) e5 (fun hg => ?_)
       have hp := of_decide_eq_true hg
       exact y_move (kp (sm 1 rfl) hs q38)
     · intro ax tx hs okx sm d0 d1
       have e12 : At (Ty.grd ((decide ((B.getD k 0) ≠ (63 : Int))) = true) (Ty.lst Ty.int r)) tx ax (.tmp 57) := d0 rfl
       have e5 : At (Ty.bool (decide ((B.getD k 0) ≠ (63 : Int)))) tx ax (.tmp 50) := d1 rfl
       refine run_guard (T := (Ty.nat (List.length r))) okx rfl rfl (by decide) e5 (fun hg => ?_)
       have hp := of_decide_eq_true hg
       exact y_len Try.underlying34 (e12.1 hg)
     · intro ax tx hs okx sm d0
       have e5 : At (Ty.bool (decide ((B.getD k 0) ≠ (63 : Int)))) tx ax (.tmp 50) := d0 rfl
       refine run_guard (T := (Ty.lst Ty.int B)) okx rfl rfl (by decide) e5 (fun hg => ?_)
       have hp := of_decide_eq_true hg
       exact y_move (kp (sm 6 rfl) hs q39)
     · intro ax tx hs okx sm d0 d1
       have e14 : At (Ty.grd ((decide ((B.getD k 0) ≠ (63 : Int))) = true) (Ty.lst Ty.int B)) tx ax (.tmp 59) := d0 rfl
       have e5 : At (Ty.bool (decide ((B.getD k 0) ≠ (63 : Int)))) tx ax (.tmp 50) := d1 rfl
       refine run_guard (T := (Ty.nat (List.length B))) okx rfl rfl (by decide) e5 (fun hg => ?_)
       have hp := of_decide_eq_true hg
       exact y_len Try.underlying34 (e14.1 hg)
     · intro ax tx hs okx sm d0 d1 d2
       have e13 : At (Ty.grd ((decide ((B.getD k 0) ≠ (63 : Int))) = true) (Ty.nat (List.length r))) tx ax (.tmp 58) := d0 rfl
       have e15 : At (Ty.grd ((decide ((B.getD k 0) ≠ (63 : Int))) = true) (Ty.nat (List.length B))) tx ax (.tmp 60) := d1 rfl
       have e5 : At (Ty.bool (decide ((B.getD k 0) ≠ (63 : Int)))) tx ax (.tmp 50) := d2 rfl
       refine run_guard (T := (Ty.int ((((List.length r) : Nat) : Int) - (((List.length B) : Nat) : Int)))) okx rfl rfl (by decide) e5 (fun hg => ?_)
       have hp := of_decide_eq_true hg
       exact y_sub (e13.1 hg) (e15.1 hg) (w64 (by omega) (by omega))
     · intro ax tx hs okx sm d0
       have e5 : At (Ty.bool (decide ((B.getD k 0) ≠ (63 : Int)))) tx ax (.tmp 50) := d0 rfl
       refine run_guard (T := (Ty.nat k)) okx rfl rfl (by decide) e5 (fun hg => ?_)
       have hp := of_decide_eq_true hg
       exact y_move (kp (sm 9 rfl) hs q37)
     · intro ax tx hs okx sm d0 d1 d2
       have e16 : At (Ty.grd ((decide ((B.getD k 0) ≠ (63 : Int))) = true) (Ty.int ((((List.length r) : Nat) : Int) - (((List.length B) : Nat) : Int)))) tx ax (.tmp 61) := d0 rfl
       have e17 : At (Ty.grd ((decide ((B.getD k 0) ≠ (63 : Int))) = true) (Ty.nat k)) tx ax (.tmp 62) := d1 rfl
       have e5 : At (Ty.bool (decide ((B.getD k 0) ≠ (63 : Int)))) tx ax (.tmp 50) := d2 rfl
       refine run_guard (T := (Ty.int (((((List.length r) : Nat) : Int) - (((List.length B) : Nat) : Int)) + ((k : Nat) : Int)))) okx rfl rfl (by decide) e5 (fun hg => ?_)
       have hp := of_decide_eq_true hg
       exact y_add (e16.1 hg) (e17.1 hg) (w64 (by omega) (by omega))
     · intro ax tx hs okx sm d0 d1 d2
       have e11 : At (Ty.grd ((decide ((B.getD k 0) ≠ (63 : Int))) = true) (Ty.lst Ty.int r)) tx ax (.tmp 56) := d0 rfl
       have e18 : At (Ty.grd ((decide ((B.getD k 0) ≠ (63 : Int))) = true) (Ty.int (((((List.length r) : Nat) : Int) - (((List.length B) : Nat) : Int)) + ((k : Nat) : Int)))) tx ax (.tmp 63) := d1 rfl
       have e5 : At (Ty.bool (decide ((B.getD k 0) ≠ (63 : Int)))) tx ax (.tmp 50) := d2 rfl
       refine run_guard (T := (Ty.ref [(Ty.int (r.getD ((((((List.length r) : Nat) : Int) - (((List.length B) : Nat) : Int)) + ((k : Nat) : Int))).toNat 0))])) okx rfl rfl (by decide) e5 (fun hg => ?_)
       have hp := of_decide_eq_true hg
       exact y_index1 Try.underlying34 Try.inf3 (e11.1 hg) (e18.1 hg) (by omega) (lst_get Ty.int r 0 ((((((List.length r) : Nat) : Int) - (((List.length B) : Nat) : Int)) + ((k : Nat) : Int))).toNat (by omega))
     · intro ax tx hs okx sm d0 d1
       have e19 : At (Ty.grd ((decide ((B.getD k 0) ≠ (63 : Int))) = true) (Ty.ref [(Ty.int (r.getD ((((((List.length r) : Nat) : Int) - (((List.length B) : Nat) : Int)) + ((k : Nat) : Int))).toNat 0))])) tx ax (.tmp 64) := d0 rfl
       have e5 : At (Ty.bool (decide ((B.getD k 0) ≠ (63 : Int)))) tx ax (.tmp 50) := d1 rfl
       refine run_guard (T := (Ty.int (r.getD ((((((List.length r) : Nat) : Int) - (((List.length B) : Nat) : Int)) + ((k : Nat) : Int))).toNat 0))) okx rfl rfl (by decide) e5 (fun hg => ?_)
       have hp := of_decide_eq_true hg
       exact y_load Try.underlying3 rfl (e19.1 hg) rfl
     · intro ax tx hs okx sm d0 d1 d2
       have e10 : At (Ty.grd ((decide ((B.getD k 0) ≠ (63 : Int))) = true) (Ty.int (signIdx ((B.getD k 0))))) tx ax (.tmp 55) := d0 rfl
       have e20 : At (Ty.grd ((decide ((B.getD k 0) ≠ (63 : Int))) = true) (Ty.int (r.getD ((((((List.length r) : Nat) : Int) - (((List.length B) : Nat) : Int)) + ((k : Nat) : Int))).toNat 0))) tx ax (.tmp 65) := d1 rfl
       have e5 : At (Ty.bool (decide ((B.getD k 0) ≠ (63 : Int)))) tx ax (.tmp 50) := d2 rfl
       refine run_guard (T := (Ty.bool (decide ((signIdx ((B.getD k 0))) ≠ (r.getD ((((((List.length r) : Nat) : Int) - (((List.length B) : Nat) : Int)) + ((k : Nat) : Int))).toNat 0))))) okx rfl rfl (by decide) e5 (fun hg => ?_)
       have hp := of_decide_eq_true hg
       exact y_neq (e10.1 hg) (e20.1 hg)
     · intro ax tx hs okx sm d0 d1
       have e5 : At (Ty.bool (decide ((B.getD k 0) ≠ (63 : Int)))) tx ax (.tmp 50) := d0 rfl
       have e21 : At (Ty.grd ((decide ((B.getD k 0) ≠ (63 : Int))) = true) (Ty.bool (decide ((signIdx ((B.getD k 0))) ≠ (r.getD ((((((List.length r) : Nat) : Int) - (((List.length B) : Nat) : Int)) + ((k : Nat) : Int))).toNat 0))))) tx ax (.tmp 66) := d1 rfl
       exact run_plain rfl (y_pick_and e5 e21 rfl)
     intro a14 s10 D10
     have ok12 := D10.ok
     have F12 := F11.step0 D10.stp
     have q41 : At (Ty.nat k) s10 a14 (.tmp 9) := D10.kt q37 rfl
     have q42 : At (Ty.lst Ty.int r) s10 a14 (.tmp 1) := D10.kt q38 rfl
     have q43 : At (Ty.lst Ty.int B) s10 a14 (.tmp 6) := D10.kt q39 rfl
     have q44 : At (Ty.bool ((decide ((B.getD k 0) ≠ (63 : Int))) && (decide ((signIdx ((B.getD k 0))) ≠ (r.getD ((((((List.length r) : Nat) : Int) - (((List.length B) : Nat) : Int)) + ((k : Nat) : Int))).toNat 0))))) s10 a14 (.tmp 67) := D10.done 22
     clear D10
     refine tn ?_
     refine cond_t q44 (fun c4 => ?_) (fun c4 => ?_)
     ·
      obtain ⟨d3, d4⟩ := Bool.and_eq_true_iff.mp c4
      replace d3 := of_decide_eq_true d3
      replace d4 := of_decide_eq_true d4
      simp only [Bool.and_eq_true, decide_eq_true_eq] at c4; rw [hix] at c4
      refine wp_seq ?_
      refine reg (a := a14) (σ := s10) rfl (fun i_ => List.getD [(Ty.pr (Ty.bool false))] i_ Pr.any) ok12 rfl ⟨?_, trivial⟩ ?_
      · intro ax tx hs okx sm
        exact run_plain rfl (y_assign rfl)
      intro a15 s11 D11
      have ok13 := D11.ok
      have F13 := F12.step0 D11.stp
      have q45 : At (Ty.bool false) s11 a15 (.tmp 4) := D11.done 0
      clear D11
      refine tn ?_
      refine wp_ret ?_
      refine br ?_
      refine tr ?_
      refine tr ?_
      refine br ?_
      refine tr ?_
      exact retL1 rfl ok13 F13 (cvb (by (exact (lk_no2 (by omega) hp2 c4.1 c4.2).symm)) q45)
     ·
      simp only [Bool.and_eq_false_iff, decide_eq_false_iff_not] at c4
      refine wp_skip ?_
      refine bn ?_
      refine tn ?_
      refine reg (a := a14) (σ := s10) rfl (fun i_ => List.getD [(Ty.pr (Ty.nat k)), (Ty.pr (Ty.nat (k + 1))), (Ty.pr (Ty.nat (k + 1)))] i_ Pr.any) ok12 rfl ⟨?_, ?_, ?_, trivial⟩ ?_
      · intro ax tx hs okx sm
        exact run_plain rfl (y_move (kp (sm 9 rfl) hs q41))
      · intro ax tx hs okx sm d0
        have e0 : At (Ty.nat k) tx ax (.tmp 43) := d0 rfl
        exact run_plain rfl ((y_add e0 rfl (w64 (by omega) (by omega))).mono (fun τ _ h => cvi (σ := τ) (by first | omega | exact (Int.natCast_mul _ _).symm) h))
      · intro ax tx hs okx sm d0 d1 d2
        have e1 : At (Ty.nat (k + 1)) tx ax (.tmp 44) := d0 rfl
        have e0 : At (Ty.nat k) tx ax (.tmp 43) := d1 rfl
        exact run_plain rfl (y_assign e1)
      intro a16 s12 D12
      have ok14 := D12.ok
      have F14 := F12.step0 D12.stp
      have q46 : At (Ty.lst Ty.int r) s12 a16 (.tmp 1) := D12.kt q42 rfl
      have q47 : At (Ty.lst Ty.int B) s12 a16 (.tmp 6) := D12.kt q43 rfl
      have q48 : At (Ty.nat (k + 1)) s12 a16 (.tmp 9) := D12.done 2
      clear D12
      exact tn ⟨B.length - ((k+1)), by omega, s12, (k+1), rfl, F14, ok14, (cvi (by (first | rfl | omega | (simp_all; done) | (simp_all; omega))) q48), q46, q47, by omega, all_next hq2 (lk_go (by omega) (by rw [hix] at c4; omega)), rfl⟩
    ·
     have hke : k = B.length := (by omega)
     refine wp_exit ?_
     refine tx ?_
     refine tx ?_
     refine bx ?_
     refine tn ?_
     refine wp_seq ?_
     refine reg (a := a13) (σ := s9) rfl (fun i_ => List.getD [(Ty.pr (Ty.bool true))] i_ Pr.any) ok11 rfl ⟨?_, trivial⟩ ?_
     · intro ax tx hs okx sm
       exact run_plain rfl (y_assign rfl)
     intro a17 s13 D13
     have ok15 := D13.ok
     have F15 := F11.step0 D13.stp
     have q49 : At (Ty.bool true) s13 a17 (.tmp 4) := D13.done 0
     clear D13
     refine tn ?_
     refine wp_ret ?_
     exact retL1 rfl ok15 F15 (cvb (by (exact (lk_all hie hke hq hq2).symm)) q49)


set_option maxHeartbeats 4000000 in
set_option maxRecDepth 100000 in
theorem rMusic_fn (n : Int) (ts : List ByteArray) (rows : List (List Int)) (σ : GW)  (v0 v1 v2 : Value) (hv0 : Ty.has (Ty.int n) σ v0) (hv1 : Ty.has (Ty.lst Ty.str ts) σ v1) (hv2 : Ty.has (Ty.lst Ty.ints rows) σ v2)  (hn64 : -9223372036854775808 ≤ n ∧ n ≤ 9223372036854775807) (hts : ∀ t ∈ ts, t.size ≤ 17592186044416) :
    FnC Try.prog 31 #[v0, v1, v2] σ (Ty.tup2 (Ty.lst Ty.int (if musMay n ts rows = 0 then musL ts rows else [])) (Ty.int (musMay n ts rows))) := by
 refine fn_intro0 Try.func31 rfl Try.ntmps31 (Nat.le_of_ble_eq_true rfl) (fun s0 a0 hle F0 ok0 hargs => ?_)
 have p0 : At (Ty.int n) s0 a0 (.tmp 0) := by have e := hargs 0 _ rfl; show Ty.has _ _ _; rw [e]; exact Ty.up _ hle hv0
 have p1 : At (Ty.lst Ty.str ts) s0 a0 (.tmp 1) := by have e := hargs 1 _ rfl; show Ty.has _ _ _; rw [e]; exact Ty.up _ hle hv1
 have b1 := sl_le p1
 have p2 : At (Ty.lst Ty.ints rows) s0 a0 (.tmp 2) := by have e := hargs 2 _ rfl; show Ty.has _ _ _; rw [e]; exact Ty.up _ hle hv2
 have b2 := sl_le p2
 clear hargs
 refine wp_seq ?_
 refine reg (a := a0) (σ := s0) rfl (fun i_ => List.getD [(Ty.pr (Ty.val (Value.slice none 0 0))), (Ty.pr (Ty.int (0 : Int)))] i_ Pr.any) ok0 rfl ⟨?_, ?_, trivial⟩ ?_
 · intro ax tx hs okx sm
   exact run_plain rfl (y_assign rfl)
 · intro ax tx hs okx sm d0
   have e0 : At (Ty.val (Value.slice none 0 0)) tx ax (.tmp 6) := d0 rfl
   exact run_plain rfl (y_assign rfl)
 intro a1 s1 D1
 have ok1 := D1.ok
 have F1 := F0.step0 D1.stp
 have q1 : At (Ty.int n) s1 a1 (.tmp 0) := D1.kt p0 rfl
 have q2 : At (Ty.lst Ty.str ts) s1 a1 (.tmp 1) := D1.kt p1 rfl
 have q3 : At (Ty.lst Ty.ints rows) s1 a1 (.tmp 2) := D1.kt p2 rfl
 clear D1
 refine tn ?_
 refine wp_seq ?_
 refine wp_seq ?_
 refine reg (a := a1) (σ := s1) rfl (fun i_ => List.getD [(Ty.pr (Ty.lst Ty.str ts)), (Ty.pr (Ty.nat (List.length ts))), (Ty.pr (Ty.bool (decide ((50 : Int) < (((List.length ts) : Nat) : Int))))), (Ty.pr (Ty.bool (decide ((50 : Int) < (((List.length ts) : Nat) : Int))))), (Ty.pr (Ty.grd ((decide ((50 : Int) < (((List.length ts) : Nat) : Int))) = false) (Ty.lst Ty.ints rows))), (Ty.pr (Ty.grd ((decide ((50 : Int) < (((List.length ts) : Nat) : Int))) = false) (Ty.nat (List.length rows)))), (Ty.pr (Ty.grd ((decide ((50 : Int) < (((List.length ts) : Nat) : Int))) = false) (Ty.bool (decide ((20001 : Int) < (((List.length rows) : Nat) : Int)))))), (Ty.pr (Ty.bool ((decide ((50 : Int) < (((List.length ts) : Nat) : Int))) || (decide ((20001 : Int) < (((List.length rows) : Nat) : Int))))))] i_ Pr.any) ok1 rfl ⟨?_, ?_, ?_, ?_, ?_, ?_, ?_, ?_, trivial⟩ ?_
 · intro ax tx hs okx sm
   exact run_plain rfl (y_move (kp (sm 1 rfl) hs q2))
 · intro ax tx hs okx sm d0
   have e0 : At (Ty.lst Ty.str ts) tx ax (.tmp 17) := d0 rfl
   exact run_plain rfl (y_len Try.underlying55 e0)
 · intro ax tx hs okx sm d0
   have e1 : At (Ty.nat (List.length ts)) tx ax (.tmp 18) := d0 rfl
   exact run_plain rfl (y_gtr e1 rfl)
 · intro ax tx hs okx sm d0
   have e2 : At (Ty.bool (decide ((50 : Int) < (((List.length ts) : Nat) : Int)))) tx ax (.tmp 19) := d0 rfl
   exact run_plain rfl (y_move e2)
 · intro ax tx hs okx sm d0
   have e3 : At (Ty.bool (decide ((50 : Int) < (((List.length ts) : Nat) : Int)))) tx ax (.tmp 20) := d0 rfl
   refine run_guard (T := (Ty.lst Ty.ints rows)) okx rfl rfl (by decide) e3 (fun hg => ?_)
   have hp := of_decide_eq_false hg
   exact y_move (kp (sm 2 rfl) hs q3)
 · intro ax tx hs okx sm d0 d1
   have e4 : At (Ty.grd ((decide ((50 : Int) < (((List.length ts) : Nat) : Int))) = false) (Ty.lst Ty.ints rows)) tx ax (.tmp 21) := d0 rfl
   have e3 : At (Ty.bool (decide ((50 : Int) < (((List.length ts) : Nat) : Int)))) tx ax (.tmp 20) := d1 rfl
   refine run_guard (T := (Ty.nat (List.length rows))) okx rfl rfl (by decide) e3 (fun hg => ?_)
   have hp := of_decide_eq_false hg
   exact y_len Try.underlying33 (e4.1 hg)
 · intro ax tx hs okx sm d0 d1
   have e5 : At (Ty.grd ((decide ((50 : Int) < (((List.length ts) : Nat) : Int))) = false) (Ty.nat (List.length rows))) tx ax (.tmp 22) := d0 rfl
   have e3 : At (Ty.bool (decide ((50 : Int) < (((List.length ts) : Nat) : Int)))) tx ax (.tmp 20) := d1 rfl
   refine run_guard (T := (Ty.bool (decide ((20001 : Int) < (((List.length rows) : Nat) : Int))))) okx rfl rfl (by decide) e3 (fun hg => ?_)
   have hp := of_decide_eq_false hg
   exact y_gtr (e5.1 hg) rfl
 · intro ax tx hs okx sm d0 d1
   have e3 : At (Ty.bool (decide ((50 : Int) < (((List.length ts) : Nat) : Int)))) tx ax (.tmp 20) := d0 rfl
   have e6 : At (Ty.grd ((decide ((50 : Int) < (((List.length ts) : Nat) : Int))) = false) (Ty.bool (decide ((20001 : Int) < (((List.length rows) : Nat) : Int))))) tx ax (.tmp 23) := d1 rfl
   exact run_plain rfl (y_pick_or e3 rfl e6)
 intro a2 s2 D2
 have ok2 := D2.ok
 have F2 := F1.step0 D2.stp
 have q4 : At (Ty.int n) s2 a2 (.tmp 0) := D2.kt q1 rfl
 have q5 : At (Ty.lst Ty.str ts) s2 a2 (.tmp 1) := D2.kt q2 rfl
 have q6 : At (Ty.lst Ty.ints rows) s2 a2 (.tmp 2) := D2.kt q3 rfl
 have q7 : At (Ty.bool ((decide ((50 : Int) < (((List.length ts) : Nat) : Int))) || (decide ((20001 : Int) < (((List.length rows) : Nat) : Int))))) s2 a2 (.tmp 24) := D2.done 7
 clear D2
 refine tn ?_
 refine cond_t q7 (fun c1 => ?_) (fun c1 => ?_)
 ·
  simp only [Bool.or_eq_true, decide_eq_true_eq] at c1; have hm := mus_lim (n := n) (ts := ts) (rows := rows) (by omega)
  refine wp_seq ?_
  refine reg (a := a2) (σ := s2) rfl (fun i_ => List.getD [(Ty.pr (Ty.val (Value.slice none 0 0))), (Ty.pr (Ty.int (3 : Int)))] i_ Pr.any) ok2 rfl ⟨?_, ?_, trivial⟩ ?_
  · intro ax tx hs okx sm
    exact run_plain rfl (y_assign rfl)
  · intro ax tx hs okx sm d0 d1
    have e0 : At (Ty.val (Value.slice none 0 0)) tx ax (.tmp 6) := d0 rfl
    exact run_plain rfl (y_assign rfl)
  intro a3 s3 D3
  have ok3 := D3.ok
  have F3 := F2.step0 D3.stp
  have q8 : At (Ty.val (Value.slice none 0 0)) s3 a3 (.tmp 6) := D3.done 0
  have q9 : At (Ty.int (3 : Int)) s3 a3 (.tmp 7) := D3.done 1
  clear D3
  refine tn ?_
  refine wp_ret ?_
  refine tr ?_
  exact retL2 rfl ok3 F3 (hasT2 (nil_lst (by (rw [if_neg (by rw [hm]; decide)])) q8) (cvi (by (exact hm.symm)) q9))
 ·
  obtain ⟨d1, d2⟩ := Bool.or_eq_false_iff.mp c1
  replace d1 := of_decide_eq_false d1
  replace d2 := of_decide_eq_false d2
  simp only [Bool.or_eq_false_iff, decide_eq_false_iff_not] at c1; have hx1 : ¬ (50 < ts.length ∨ 20001 < rows.length) := (by omega)
  refine wp_skip ?_
  refine tn ?_
  refine wp_seq ?_
  refine wp_seq ?_
  refine reg (a := a2) (σ := s2) rfl (fun i_ => List.getD [(Ty.pr (Ty.int (0 : Int)))] i_ Pr.any) ok2 rfl ⟨?_, trivial⟩ ?_
  · intro ax tx hs okx sm
    exact run_plain rfl (y_assign rfl)
  intro a4 s4 D4
  have ok4 := D4.ok
  have F4 := F2.step0 D4.stp
  have q10 : At (Ty.int n) s4 a4 (.tmp 0) := D4.kt q4 rfl
  have q11 : At (Ty.lst Ty.str ts) s4 a4 (.tmp 1) := D4.kt q5 rfl
  have q12 : At (Ty.lst Ty.ints rows) s4 a4 (.tmp 2) := D4.kt q6 rfl
  have q13 : At (Ty.int (0 : Int)) s4 a4 (.tmp 8) := D4.done 0
  clear D4
  refine tn ?_
  refine wp_block ?_
  refine loop (fun n1 a5 w1 => ∃ (t1 : GW) (i : Nat), t1.w = w1 ∧ FromL [] s0 t1 ∧ Ok 90 a5 ∧ At (Ty.nat i) t1 a5 (.tmp 8) ∧ At (Ty.int n) t1 a5 (.tmp 0) ∧ At (Ty.lst Ty.str ts) t1 a5 (.tmp 1) ∧ At (Ty.lst Ty.ints rows) t1 a5 (.tmp 2) ∧ (i ≤ ts.length) ∧ (texMay n (ts.drop i) = texMay n ts) ∧ n1 = ts.length - i) (ts.length - (0)) ?_ ?_
  ·
   exact ⟨s4, 0, rfl, F4, ok4, (cvi (by (first | rfl | omega | (simp_all; done) | (simp_all; omega))) q13), q10, q11, q12, by omega, rfl, rfl⟩
  ·
   rintro n2 a6 w2 ⟨t2, i, rfl, F5, ok5, q14, q15, q16, q17, hi, ht, rfl⟩
   refine wp_seq ?_
   refine wp_seq ?_
   refine reg (a := a6) (σ := t2) rfl (fun i_ => List.getD [(Ty.pr (Ty.nat i)), (Ty.pr (Ty.lst Ty.str ts)), (Ty.pr (Ty.nat (List.length ts))), (Ty.pr (Ty.bool (decide (((i : Nat) : Int) < (((List.length ts) : Nat) : Int)))))] i_ Pr.any) ok5 rfl ⟨?_, ?_, ?_, ?_, trivial⟩ ?_
   · intro ax tx hs okx sm
     exact run_plain rfl (y_move (kp (sm 8 rfl) hs q14))
   · intro ax tx hs okx sm
     exact run_plain rfl (y_move (kp (sm 1 rfl) hs q16))
   · intro ax tx hs okx sm d0
     have e1 : At (Ty.lst Ty.str ts) tx ax (.tmp 26) := d0 rfl
     exact run_plain rfl (y_len Try.underlying55 e1)
   · intro ax tx hs okx sm d0 d1
     have e0 : At (Ty.nat i) tx ax (.tmp 25) := d0 rfl
     have e2 : At (Ty.nat (List.length ts)) tx ax (.tmp 27) := d1 rfl
     exact run_plain rfl (y_lss e0 e2)
   intro a7 s5 D5
   have ok6 := D5.ok
   have F6 := F5.step0 D5.stp
   have q18 : At (Ty.nat i) s5 a7 (.tmp 8) := D5.kt q14 rfl
   have q19 : At (Ty.int n) s5 a7 (.tmp 0) := D5.kt q15 rfl
   have q20 : At (Ty.lst Ty.str ts) s5 a7 (.tmp 1) := D5.kt q16 rfl
   have q21 : At (Ty.lst Ty.ints rows) s5 a7 (.tmp 2) := D5.kt q17 rfl
   have q22 : At (Ty.bool (decide (((i : Nat) : Int) < (((List.length ts) : Nat) : Int)))) s5 a7 (.tmp 28) := D5.done 3
   clear D5
   refine tn ?_
   refine cond_p (p := (((i : Nat) : Int) < (((List.length ts) : Nat) : Int))) q22 (fun c2 => ?_) (fun c2 => ?_)
   ·
    have htz := hts _ (mem_getD ByteArray.empty (show i < ts.length by omega)); rw [drop_cons ts ByteArray.empty (show i < ts.length by omega)] at ht
    refine wp_skip ?_
    refine tn ?_
    refine wp_seq ?_
    refine wp_block ?_
    refine wp_seq ?_
    refine reg (a := a7) (σ := s5) rfl (fun i_ => List.getD [(Ty.pr (Ty.int n)), (Ty.pr (Ty.lst Ty.str ts)), (Ty.pr (Ty.nat i)), (Ty.pr (Ty.ref [(Ty.val (Value.string (ts.getD i ByteArray.empty)))])), (Ty.pr (Ty.val (Value.string (ts.getD i ByteArray.empty)))), (Ty.pr (Ty.int (patMay n (runsL ((ts.getD i ByteArray.empty)))))), (Ty.pr (Ty.int (patMay n (runsL ((ts.getD i ByteArray.empty))))))] i_ Pr.any) ok6 rfl ⟨?_, ?_, ?_, ?_, ?_, ?_, ?_, trivial⟩ ?_
    · intro ax tx hs okx sm
      exact run_plain rfl (y_move (kp (sm 0 rfl) hs q19))
    · intro ax tx hs okx sm
      exact run_plain rfl (y_move (kp (sm 1 rfl) hs q20))
    · intro ax tx hs okx sm
      exact run_plain rfl (y_move (kp (sm 8 rfl) hs q18))
    · intro ax tx hs okx sm d0 d1
      have e1 : At (Ty.lst Ty.str ts) tx ax (.tmp 32) := d0 rfl
      have e2 : At (Ty.nat i) tx ax (.tmp 33) := d1 rfl
      exact run_plain rfl (y_index1 Try.underlying55 Try.inf9 e1 e2 (by omega) (lst_get Ty.str ts ByteArray.empty i (by omega)))
    · intro ax tx hs okx sm d0
      have e3 : At (Ty.ref [(Ty.val (Value.string (ts.getD i ByteArray.empty)))]) tx ax (.tmp 34) := d0 rfl
      exact run_plain rfl (y_load Try.underlying9 rfl e3 rfl)
    · intro ax tx hs okx sm d0 d1
      have e0 : At (Ty.int n) tx ax (.tmp 31) := d0 rfl
      have e4 : At (Ty.val (Value.string (ts.getD i ByteArray.empty))) tx ax (.tmp 35) := d1 rfl
      exact run_plain rfl (y_call #[ax.eval (.tmp 31), ax.eval (.tmp 35)] Try.func32 rfl rfl (by simp only [List.map_toArray, List.map_cons, List.map_nil]) (rPatternMay_fn (n) ((ts.getD i ByteArray.empty)) _ _ _ e0 e4 (by omega) (by omega)))
    · intro ax tx hs okx sm d0 d1 d2 d3 d4 d5 d6 d7
      have e5 : At (Ty.int (patMay n (runsL ((ts.getD i ByteArray.empty))))) tx ax (.tmp 36) := d0 rfl
      have e0 : At (Ty.int n) tx ax (.tmp 31) := d2 rfl
      have e1 : At (Ty.lst Ty.str ts) tx ax (.tmp 32) := d3 rfl
      have e2 : At (Ty.nat i) tx ax (.tmp 33) := d4 rfl
      have e3 : At (Ty.ref [(Ty.val (Value.string (ts.getD i ByteArray.empty)))]) tx ax (.tmp 34) := d5 rfl
      have e4 : At (Ty.val (Value.string (ts.getD i ByteArray.empty))) tx ax (.tmp 35) := d6 rfl
      exact run_plain rfl (y_assign e5)
    intro a8 s6 D6
    have ok7 := D6.ok
    have F7 := F6.step0 D6.stp
    have q23 : At (Ty.nat i) s6 a8 (.tmp 8) := D6.kt q18 rfl
    have q24 : At (Ty.int n) s6 a8 (.tmp 0) := D6.kt q19 rfl
    have q25 : At (Ty.lst Ty.str ts) s6 a8 (.tmp 1) := D6.kt q20 rfl
    have q26 : At (Ty.lst Ty.ints rows) s6 a8 (.tmp 2) := D6.kt q21 rfl
    have q27 : At (Ty.int (patMay n (runsL ((ts.getD i ByteArray.empty))))) s6 a8 (.tmp 9) := D6.done 6
    clear D6
    refine tn ?_
    refine wp_seq ?_
    refine reg (a := a8) (σ := s6) rfl (fun i_ => List.getD [(Ty.pr (Ty.int (patMay n (runsL ((ts.getD i ByteArray.empty)))))), (Ty.pr (Ty.bool (decide ((patMay n (runsL ((ts.getD i ByteArray.empty)))) ≠ (0 : Int)))))] i_ Pr.any) ok7 rfl ⟨?_, ?_, trivial⟩ ?_
    · intro ax tx hs okx sm
      exact run_plain rfl (y_move (kp (sm 9 rfl) hs q27))
    · intro ax tx hs okx sm d0
      have e0 : At (Ty.int (patMay n (runsL ((ts.getD i ByteArray.empty))))) tx ax (.tmp 37) := d0 rfl
      exact run_plain rfl (y_neq e0 rfl)
    intro a9 s7 D7
    have ok8 := D7.ok
    have F8 := F7.step0 D7.stp
    have q28 : At (Ty.nat i) s7 a9 (.tmp 8) := D7.kt q23 rfl
    have q29 : At (Ty.int n) s7 a9 (.tmp 0) := D7.kt q24 rfl
    have q30 : At (Ty.lst Ty.str ts) s7 a9 (.tmp 1) := D7.kt q25 rfl
    have q31 : At (Ty.lst Ty.ints rows) s7 a9 (.tmp 2) := D7.kt q26 rfl
    have q32 : At (Ty.int (patMay n (runsL ((ts.getD i ByteArray.empty))))) s7 a9 (.tmp 9) := D7.kt q27 rfl
    have q33 : At (Ty.bool (decide ((patMay n (runsL ((ts.getD i ByteArray.empty)))) ≠ (0 : Int)))) s7 a9 (.tmp 38) := D7.done 1
    clear D7
    refine tn ?_
    refine cond_p (p := ((patMay n (runsL ((ts.getD i ByteArray.empty)))) ≠ (0 : Int))) q33 (fun c3 => ?_) (fun c3 => ?_)
    ·
     have he := tex_stop ht c3; have hm : musMay n ts rows = patMay n (runsL (ts.getD i ByteArray.empty)) := (by rw [mus_tex hx1 (by rw [he]; exact c3), he])
     refine wp_seq ?_
     refine reg (a := a9) (σ := s7) rfl (fun i_ => List.getD [(Ty.pr (Ty.int (patMay n (runsL ((ts.getD i ByteArray.empty)))))), (Ty.pr (Ty.val (Value.slice none 0 0))), (Ty.pr (Ty.int (patMay n (runsL ((ts.getD i ByteArray.empty))))))] i_ Pr.any) ok8 rfl ⟨?_, ?_, ?_, trivial⟩ ?_
     · intro ax tx hs okx sm d0
       exact run_plain rfl (y_move (kp (sm 9 rfl) hs q32))
     · intro ax tx hs okx sm d0
       exact run_plain rfl (y_assign rfl)
     · intro ax tx hs okx sm d0 d1 d2 d3
       have e0 : At (Ty.int (patMay n (runsL ((ts.getD i ByteArray.empty))))) tx ax (.tmp 39) := d0 rfl
       have e1 : At (Ty.val (Value.slice none 0 0)) tx ax (.tmp 6) := d1 rfl
       exact run_plain rfl (y_assign e0)
     intro a10 s8 D8
     have ok9 := D8.ok
     have F9 := F8.step0 D8.stp
     have q34 : At (Ty.val (Value.slice none 0 0)) s8 a10 (.tmp 6) := D8.done 1
     have q35 : At (Ty.int (patMay n (runsL ((ts.getD i ByteArray.empty))))) s8 a10 (.tmp 7) := D8.done 2
     clear D8
     refine tn ?_
     refine wp_ret ?_
     refine br ?_
     refine tr ?_
     refine tr ?_
     refine br ?_
     refine tr ?_
     exact retL2 rfl ok9 F9 (hasT2 (nil_lst (by (rw [if_neg (by rw [hm]; exact c3)])) q34) (cvi (by (exact hm.symm)) q35))
    ·
     refine wp_skip ?_
     refine bn ?_
     refine tn ?_
     refine reg (a := a9) (σ := s7) rfl (fun i_ => List.getD [(Ty.pr (Ty.nat i)), (Ty.pr (Ty.nat (i + 1))), (Ty.pr (Ty.nat (i + 1)))] i_ Pr.any) ok8 rfl ⟨?_, ?_, ?_, trivial⟩ ?_
     · intro ax tx hs okx sm
       exact run_plain rfl (y_move (kp (sm 8 rfl) hs q28))
     · intro ax tx hs okx sm d0
       have e0 : At (Ty.nat i) tx ax (.tmp 29) := d0 rfl
       exact run_plain rfl ((y_add e0 rfl (w64 (by omega) (by omega))).mono (fun τ _ h => cvi (σ := τ) (by first | omega | exact (Int.natCast_mul _ _).symm) h))
     · intro ax tx hs okx sm d0 d1 d2
       have e1 : At (Ty.nat (i + 1)) tx ax (.tmp 30) := d0 rfl
       have e0 : At (Ty.nat i) tx ax (.tmp 29) := d1 rfl
       exact run_plain rfl (y_assign e1)
     intro a11 s9 D9
     have ok10 := D9.ok
     have F10 := F8.step0 D9.stp
     have q36 : At (Ty.int n) s9 a11 (.tmp 0) := D9.kt q29 rfl
     have q37 : At (Ty.lst Ty.str ts) s9 a11 (.tmp 1) := D9.kt q30 rfl
     have q38 : At (Ty.lst Ty.ints rows) s9 a11 (.tmp 2) := D9.kt q31 rfl
     have q39 : At (Ty.nat (i + 1)) s9 a11 (.tmp 8) := D9.done 2
     clear D9
     exact tn ⟨ts.length - ((i+1)), by omega, s9, (i+1), rfl, F10, ok10, (cvi (by (first | rfl | omega | (simp_all; done) | (simp_all; omega))) q39), q36, q37, q38, by omega, tex_go ht c3, rfl⟩
   ·
    rw [List.drop_eq_nil_of_le (by omega)] at ht; have ht0 : texMay n ts = 0 := ht.symm; have hta := tex_all ht0
    refine wp_exit ?_
    refine tx ?_
    refine tx ?_
    refine bx ?_
    refine tn ?_
    refine wp_seq ?_
    refine wp_seq ?_
    refine reg (a := a7) (σ := s5) rfl (fun i_ => List.getD [(Ty.pr (Ty.int (0 : Int)))] i_ Pr.any) ok6 rfl ⟨?_, trivial⟩ ?_
    · intro ax tx hs okx sm
      exact run_plain rfl (y_assign rfl)
    intro a12 s10 D10
    have ok11 := D10.ok
    have F11 := F6.step0 D10.stp
    have q40 : At (Ty.int n) s10 a12 (.tmp 0) := D10.kt q19 rfl
    have q41 : At (Ty.lst Ty.str ts) s10 a12 (.tmp 1) := D10.kt q20 rfl
    have q42 : At (Ty.lst Ty.ints rows) s10 a12 (.tmp 2) := D10.kt q21 rfl
    have q43 : At (Ty.int (0 : Int)) s10 a12 (.tmp 10) := D10.done 0
    clear D10
    refine tn ?_
    refine wp_block ?_
    refine loop (fun n3 a13 w3 => ∃ (t3 : GW) (j : Nat), t3.w = w3 ∧ FromL [] s0 t3 ∧ Ok 90 a13 ∧ At (Ty.nat j) t3 a13 (.tmp 10) ∧ At (Ty.int n) t3 a13 (.tmp 0) ∧ At (Ty.lst Ty.str ts) t3 a13 (.tmp 1) ∧ At (Ty.lst Ty.ints rows) t3 a13 (.tmp 2) ∧ (j ≤ rows.length) ∧ (rowsMay n (rows.drop j) = rowsMay n rows) ∧ n3 = rows.length - j) (rows.length - (0)) ?_ ?_
    ·
     exact ⟨s10, 0, rfl, F11, ok11, (cvi (by (first | rfl | omega | (simp_all; done) | (simp_all; omega))) q43), q40, q41, q42, by omega, rfl, rfl⟩
    ·
     rintro n4 a14 w4 ⟨t4, j, rfl, F12, ok12, q44, q45, q46, q47, hj, hr, rfl⟩
     refine wp_seq ?_
     refine wp_seq ?_
     refine reg (a := a14) (σ := t4) rfl (fun i_ => List.getD [(Ty.pr (Ty.nat j)), (Ty.pr (Ty.lst Ty.ints rows)), (Ty.pr (Ty.nat (List.length rows))), (Ty.pr (Ty.bool (decide (((j : Nat) : Int) < (((List.length rows) : Nat) : Int)))))] i_ Pr.any) ok12 rfl ⟨?_, ?_, ?_, ?_, trivial⟩ ?_
     · intro ax tx hs okx sm
       exact run_plain rfl (y_move (kp (sm 10 rfl) hs q44))
     · intro ax tx hs okx sm
       exact run_plain rfl (y_move (kp (sm 2 rfl) hs q47))
     · intro ax tx hs okx sm d0
       have e1 : At (Ty.lst Ty.ints rows) tx ax (.tmp 41) := d0 rfl
       exact run_plain rfl (y_len Try.underlying33 e1)
     · intro ax tx hs okx sm d0 d1
       have e0 : At (Ty.nat j) tx ax (.tmp 40) := d0 rfl
       have e2 : At (Ty.nat (List.length rows)) tx ax (.tmp 42) := d1 rfl
       exact run_plain rfl (y_lss e0 e2)
     intro a15 s11 D11
     have ok13 := D11.ok
     have F13 := F12.step0 D11.stp
     have q48 : At (Ty.nat j) s11 a15 (.tmp 10) := D11.kt q44 rfl
     have q49 : At (Ty.int n) s11 a15 (.tmp 0) := D11.kt q45 rfl
     have q50 : At (Ty.lst Ty.str ts) s11 a15 (.tmp 1) := D11.kt q46 rfl
     have q51 : At (Ty.lst Ty.ints rows) s11 a15 (.tmp 2) := D11.kt q47 rfl
     have q52 : At (Ty.bool (decide (((j : Nat) : Int) < (((List.length rows) : Nat) : Int)))) s11 a15 (.tmp 43) := D11.done 3
     clear D11
     refine tn ?_
     refine cond_p (p := (((j : Nat) : Int) < (((List.length rows) : Nat) : Int))) q52 (fun c4 => ?_) (fun c4 => ?_)
     ·
      rw [drop_cons rows [] (show j < rows.length by omega)] at hr
      refine wp_skip ?_
      refine tn ?_
      refine wp_seq ?_
      refine wp_block ?_
      refine wp_seq ?_
      refine reg (a := a15) (σ := s11) rfl (fun i_ => List.getD [(Ty.pr (Ty.lst Ty.ints rows)), (Ty.pr (Ty.nat j)), (Ty.pr (Ty.ref [(Ty.lst Ty.int (rows.getD j []))])), (Ty.pr (Ty.lst Ty.int (rows.getD j []))), (Ty.pr (Ty.int (rowMay ((rows.getD j []))))), (Ty.pr (Ty.int (rowMay ((rows.getD j [])))))] i_ Pr.any) ok13 rfl ⟨?_, ?_, ?_, ?_, ?_, ?_, trivial⟩ ?_
      · intro ax tx hs okx sm
        exact run_plain rfl (y_move (kp (sm 2 rfl) hs q51))
      · intro ax tx hs okx sm
        exact run_plain rfl (y_move (kp (sm 10 rfl) hs q48))
      · intro ax tx hs okx sm d0 d1
        have e0 : At (Ty.lst Ty.ints rows) tx ax (.tmp 46) := d0 rfl
        have e1 : At (Ty.nat j) tx ax (.tmp 47) := d1 rfl
        exact run_plain rfl (y_index1 Try.underlying33 Try.inf34 e0 e1 (by omega) (lst_get Ty.ints rows [] j (by omega)))
      · intro ax tx hs okx sm d0
        have e2 : At (Ty.ref [(Ty.lst Ty.int (rows.getD j []))]) tx ax (.tmp 48) := d0 rfl
        exact run_plain rfl (y_load Try.underlying34 rfl e2 rfl)
      · intro ax tx hs okx sm d0
        have e3 : At (Ty.lst Ty.int (rows.getD j [])) tx ax (.tmp 49) := d0 rfl
        exact run_plain rfl (y_call #[ax.eval (.tmp 49)] Try.func38 rfl rfl (by simp only [List.map_toArray, List.map_cons, List.map_nil]) (rRowMay_fn ((rows.getD j [])) _ _ e3 ))
      · intro ax tx hs okx sm d0 d1 d2 d3 d4 d5 d6
        have e4 : At (Ty.int (rowMay ((rows.getD j [])))) tx ax (.tmp 50) := d0 rfl
        have e0 : At (Ty.lst Ty.ints rows) tx ax (.tmp 46) := d2 rfl
        have e1 : At (Ty.nat j) tx ax (.tmp 47) := d3 rfl
        have e2 : At (Ty.ref [(Ty.lst Ty.int (rows.getD j []))]) tx ax (.tmp 48) := d4 rfl
        have e3 : At (Ty.lst Ty.int (rows.getD j [])) tx ax (.tmp 49) := d5 rfl
        exact run_plain rfl (y_assign e4)
      intro a16 s12 D12
      have ok14 := D12.ok
      have F14 := F13.step0 D12.stp
      have q53 : At (Ty.nat j) s12 a16 (.tmp 10) := D12.kt q48 rfl
      have q54 : At (Ty.int n) s12 a16 (.tmp 0) := D12.kt q49 rfl
      have q55 : At (Ty.lst Ty.str ts) s12 a16 (.tmp 1) := D12.kt q50 rfl
      have q56 : At (Ty.lst Ty.ints rows) s12 a16 (.tmp 2) := D12.kt q51 rfl
      have q57 : At (Ty.int (rowMay ((rows.getD j [])))) s12 a16 (.tmp 11) := D12.done 5
      clear D12
      refine tn ?_
      refine wp_seq ?_
      refine wp_seq ?_
      refine reg (a := a16) (σ := s12) rfl (fun i_ => List.getD [(Ty.pr (Ty.int (rowMay ((rows.getD j []))))), (Ty.pr (Ty.bool (decide ((rowMay ((rows.getD j []))) ≠ (0 : Int)))))] i_ Pr.any) ok14 rfl ⟨?_, ?_, trivial⟩ ?_
      · intro ax tx hs okx sm
        exact run_plain rfl (y_move (kp (sm 11 rfl) hs q57))
      · intro ax tx hs okx sm d0
        have e0 : At (Ty.int (rowMay ((rows.getD j [])))) tx ax (.tmp 51) := d0 rfl
        exact run_plain rfl (y_neq e0 rfl)
      intro a17 s13 D13
      have ok15 := D13.ok
      have F15 := F14.step0 D13.stp
      have q58 : At (Ty.nat j) s13 a17 (.tmp 10) := D13.kt q53 rfl
      have q59 : At (Ty.int n) s13 a17 (.tmp 0) := D13.kt q54 rfl
      have q60 : At (Ty.lst Ty.str ts) s13 a17 (.tmp 1) := D13.kt q55 rfl
      have q61 : At (Ty.lst Ty.ints rows) s13 a17 (.tmp 2) := D13.kt q56 rfl
      have q62 : At (Ty.int (rowMay ((rows.getD j [])))) s13 a17 (.tmp 11) := D13.kt q57 rfl
      have q63 : At (Ty.bool (decide ((rowMay ((rows.getD j []))) ≠ (0 : Int)))) s13 a17 (.tmp 52) := D13.done 1
      clear D13
      refine tn ?_
      refine cond_p (p := ((rowMay ((rows.getD j []))) ≠ (0 : Int))) q63 (fun c5 => ?_) (fun c5 => ?_)
      ·
       have hm : musMay n ts rows = rowMay (rows.getD j []) := (by rw [mus_rows hx1 ht0]; exact rows_stop hr c5)
       refine wp_seq ?_
       refine reg (a := a17) (σ := s13) rfl (fun i_ => List.getD [(Ty.pr (Ty.int (rowMay ((rows.getD j []))))), (Ty.pr (Ty.val (Value.slice none 0 0))), (Ty.pr (Ty.int (rowMay ((rows.getD j [])))))] i_ Pr.any) ok15 rfl ⟨?_, ?_, ?_, trivial⟩ ?_
       · intro ax tx hs okx sm d0
         exact run_plain rfl (y_move (kp (sm 11 rfl) hs q62))
       · intro ax tx hs okx sm d0
         exact run_plain rfl (y_assign rfl)
       · intro ax tx hs okx sm d0 d1 d2 d3
         have e0 : At (Ty.int (rowMay ((rows.getD j [])))) tx ax (.tmp 53) := d0 rfl
         have e1 : At (Ty.val (Value.slice none 0 0)) tx ax (.tmp 6) := d1 rfl
         exact run_plain rfl (y_assign e0)
       intro a18 s14 D14
       have ok16 := D14.ok
       have F16 := F15.step0 D14.stp
       have q64 : At (Ty.val (Value.slice none 0 0)) s14 a18 (.tmp 6) := D14.done 1
       have q65 : At (Ty.int (rowMay ((rows.getD j [])))) s14 a18 (.tmp 7) := D14.done 2
       clear D14
       refine tn ?_
       refine wp_ret ?_
       refine tr ?_
       refine br ?_
       refine tr ?_
       refine tr ?_
       refine br ?_
       refine tr ?_
       exact retL2 rfl ok16 F16 (hasT2 (nil_lst (by (rw [if_neg (by rw [hm]; exact c5)])) q64) (cvi (by (exact hm.symm)) q65))
      ·
       refine wp_skip ?_
       refine tn ?_
       refine wp_seq ?_
       refine reg (a := a17) (σ := s13) rfl (fun i_ => List.getD [(Ty.pr (Ty.lst Ty.ints rows)), (Ty.pr (Ty.nat j)), (Ty.pr (Ty.ref [(Ty.lst Ty.int (rows.getD j []))])), (Ty.pr (Ty.lst Ty.int (rows.getD j []))), (Ty.pr (Ty.nat (List.length (rows.getD j [])))), (Ty.pr (Ty.int n)), (Ty.pr (Ty.bool (decide ((((List.length (rows.getD j [])) : Nat) : Int) ≠ n))))] i_ Pr.any) ok15 rfl ⟨?_, ?_, ?_, ?_, ?_, ?_, ?_, trivial⟩ ?_
       · intro ax tx hs okx sm
         exact run_plain rfl (y_move (kp (sm 2 rfl) hs q61))
       · intro ax tx hs okx sm
         exact run_plain rfl (y_move (kp (sm 10 rfl) hs q58))
       · intro ax tx hs okx sm d0 d1
         have e0 : At (Ty.lst Ty.ints rows) tx ax (.tmp 54) := d0 rfl
         have e1 : At (Ty.nat j) tx ax (.tmp 55) := d1 rfl
         exact run_plain rfl (y_index1 Try.underlying33 Try.inf34 e0 e1 (by omega) (lst_get Ty.ints rows [] j (by omega)))
       · intro ax tx hs okx sm d0
         have e2 : At (Ty.ref [(Ty.lst Ty.int (rows.getD j []))]) tx ax (.tmp 56) := d0 rfl
         exact run_plain rfl (y_load Try.underlying34 rfl e2 rfl)
       · intro ax tx hs okx sm d0
         have e3 : At (Ty.lst Ty.int (rows.getD j [])) tx ax (.tmp 57) := d0 rfl
         exact run_plain rfl (y_len Try.underlying34 e3)
       · intro ax tx hs okx sm
         exact run_plain rfl (y_move (kp (sm 0 rfl) hs q59))
       · intro ax tx hs okx sm d0 d1
         have e4 : At (Ty.nat (List.length (rows.getD j []))) tx ax (.tmp 58) := d0 rfl
         have e5 : At (Ty.int n) tx ax (.tmp 59) := d1 rfl
         exact run_plain rfl (y_neq e4 e5)
       intro a19 s15 D15
       have ok17 := D15.ok
       have F17 := F15.step0 D15.stp
       have q66 : At (Ty.nat j) s15 a19 (.tmp 10) := D15.kt q58 rfl
       have q67 : At (Ty.int n) s15 a19 (.tmp 0) := D15.kt q59 rfl
       have q68 : At (Ty.lst Ty.str ts) s15 a19 (.tmp 1) := D15.kt q60 rfl
       have q69 : At (Ty.lst Ty.ints rows) s15 a19 (.tmp 2) := D15.kt q61 rfl
       have q70 : At (Ty.bool (decide ((((List.length (rows.getD j [])) : Nat) : Int) ≠ n))) s15 a19 (.tmp 60) := D15.done 6
       clear D15
       refine tn ?_
       refine cond_p (p := ((((List.length (rows.getD j [])) : Nat) : Int) ≠ n)) q70 (fun c6 => ?_) (fun c6 => ?_)
       ·
        have hm : musMay n ts rows = 1 := (by rw [mus_rows hx1 ht0]; exact rows_len hr c5 c6)
        refine wp_seq ?_
        refine reg (a := a19) (σ := s15) rfl (fun i_ => List.getD [(Ty.pr (Ty.val (Value.slice none 0 0))), (Ty.pr (Ty.int (1 : Int)))] i_ Pr.any) ok17 rfl ⟨?_, ?_, trivial⟩ ?_
        · intro ax tx hs okx sm
          exact run_plain rfl (y_assign rfl)
        · intro ax tx hs okx sm d0 d1
          have e0 : At (Ty.val (Value.slice none 0 0)) tx ax (.tmp 6) := d0 rfl
          exact run_plain rfl (y_assign rfl)
        intro a20 s16 D16
        have ok18 := D16.ok
        have F18 := F17.step0 D16.stp
        have q71 : At (Ty.val (Value.slice none 0 0)) s16 a20 (.tmp 6) := D16.done 0
        have q72 : At (Ty.int (1 : Int)) s16 a20 (.tmp 7) := D16.done 1
        clear D16
        refine tn ?_
        refine wp_ret ?_
        refine br ?_
        refine tr ?_
        refine tr ?_
        refine br ?_
        refine tr ?_
        exact retL2 rfl ok18 F18 (hasT2 (nil_lst (by (rw [if_neg (by rw [hm]; decide)])) q71) (cvi (by (exact hm.symm)) q72))
       ·
        refine wp_skip ?_
        refine bn ?_
        refine tn ?_
        refine reg (a := a19) (σ := s15) rfl (fun i_ => List.getD [(Ty.pr (Ty.nat j)), (Ty.pr (Ty.nat (j + 1))), (Ty.pr (Ty.nat (j + 1)))] i_ Pr.any) ok17 rfl ⟨?_, ?_, ?_, trivial⟩ ?_
        · intro ax tx hs okx sm
          exact run_plain rfl (y_move (kp (sm 10 rfl) hs q66))
        · intro ax tx hs okx sm d0
          have e0 : At (Ty.nat j) tx ax (.tmp 44) := d0 rfl
          exact run_plain rfl ((y_add e0 rfl (w64 (by omega) (by omega))).mono (fun τ _ h => cvi (σ := τ) (by first | omega | exact (Int.natCast_mul _ _).symm) h))
        · intro ax tx hs okx sm d0 d1 d2
          have e1 : At (Ty.nat (j + 1)) tx ax (.tmp 45) := d0 rfl
          have e0 : At (Ty.nat j) tx ax (.tmp 44) := d1 rfl
          exact run_plain rfl (y_assign e1)
        intro a21 s17 D17
        have ok19 := D17.ok
        have F19 := F17.step0 D17.stp
        have q73 : At (Ty.int n) s17 a21 (.tmp 0) := D17.kt q67 rfl
        have q74 : At (Ty.lst Ty.str ts) s17 a21 (.tmp 1) := D17.kt q68 rfl
        have q75 : At (Ty.lst Ty.ints rows) s17 a21 (.tmp 2) := D17.kt q69 rfl
        have q76 : At (Ty.nat (j + 1)) s17 a21 (.tmp 10) := D17.done 2
        clear D17
        exact tn ⟨rows.length - ((j+1)), by omega, s17, (j+1), rfl, F19, ok19, (cvi (by (first | rfl | omega | (simp_all; done) | (simp_all; omega))) q76), q73, q74, q75, by omega, rows_go hr c5 c6, rfl⟩
     ·
      rw [List.drop_eq_nil_of_le (by omega)] at hr; have hr0 : rowsMay n rows = 0 := hr.symm; have hra := rows_all hr0; have hm : musMay n ts rows = 0 := (by rw [mus_rows hx1 ht0, hr0])
      refine wp_exit ?_
      refine tx ?_
      refine tx ?_
      refine bx ?_
      refine tn ?_
      refine wp_seq ?_
      refine reg (a := a15) (σ := s11) rfl (fun i_ => List.getD [(Ty.pr (Ty.val (Value.slice none 0 0)))] i_ Pr.any) ok13 rfl ⟨?_, trivial⟩ ?_
      · intro ax tx hs okx sm
        exact run_plain rfl (y_assign rfl)
      intro a22 s18 D18
      have ok20 := D18.ok
      have F20 := F13.step0 D18.stp
      have q77 : At (Ty.lst Ty.str ts) s18 a22 (.tmp 1) := D18.kt q50 rfl
      have q78 : At (Ty.lst Ty.ints rows) s18 a22 (.tmp 2) := D18.kt q51 rfl
      have q79 : At (Ty.val (Value.slice none 0 0)) s18 a22 (.tmp 12) := D18.done 0
      clear D18
      refine tn ?_
      refine wp_seq ?_
      refine wp_seq ?_
      refine reg (a := a22) (σ := s18) rfl (fun i_ => List.getD [(Ty.pr (Ty.int (0 : Int)))] i_ Pr.any) ok20 rfl ⟨?_, trivial⟩ ?_
      · intro ax tx hs okx sm
        exact run_plain rfl (y_assign rfl)
      intro a23 s19 D19
      have ok21 := D19.ok
      have F21 := F20.step0 D19.stp
      have q80 : At (Ty.lst Ty.str ts) s19 a23 (.tmp 1) := D19.kt q77 rfl
      have q81 : At (Ty.lst Ty.ints rows) s19 a23 (.tmp 2) := D19.kt q78 rfl
      have q82 : At (Ty.val (Value.slice none 0 0)) s19 a23 (.tmp 12) := D19.kt q79 rfl
      have q83 : At (Ty.int (0 : Int)) s19 a23 (.tmp 13) := D19.done 0
      clear D19
      refine tn ?_
      refine wp_block ?_
      have o1 : Own s19 6 3 1 (Value.slice none 0 0) 0 (List.map Ty.int ([] : List Int)) := Own.nil _ _ _ _
      refine loop (fun n5 a24 w5 => ∃ (t5 : GW) (i : Nat) (x12_2 : Value), t5.w = w5 ∧ FromL [] s0 t5 ∧ Ok 90 a24 ∧ At (Ty.nat i) t5 a24 (.tmp 13) ∧ At (Ty.val x12_2) t5 a24 (.tmp 12) ∧ At (Ty.lst Ty.str ts) t5 a24 (.tmp 1) ∧ At (Ty.lst Ty.ints rows) t5 a24 (.tmp 2) ∧ Own t5 6 3 1 x12_2 (List.length (musL (ts.take i) rows)) (List.map Ty.int (musL (ts.take i) rows)) ∧ (i ≤ ts.length) ∧ n5 = ts.length - i) (ts.length - (0)) ?_ ?_
      ·
       exact ⟨s19, 0, (Value.slice none 0 0), rfl, F21, ok21, (cvi (by (first | rfl | omega | (simp_all; done) | (simp_all; omega))) q83), q82, q80, q81, (cvo (by (rfl)) (by (rfl)) o1), by omega, rfl⟩
      ·
       rintro n6 a25 w6 ⟨t6, i, x12_2, rfl, F22, ok22, q84, q85, q86, q87, o2, hi, rfl⟩
       have hml := musL_len (ts.take i) rows
       have htl := List.length_take_le i ts
       refine wp_seq ?_
       refine wp_seq ?_
       refine reg (a := a25) (σ := t6) rfl (fun i_ => List.getD [(Ty.pr (Ty.nat i)), (Ty.pr (Ty.lst Ty.str ts)), (Ty.pr (Ty.nat (List.length ts))), (Ty.pr (Ty.bool (decide (((i : Nat) : Int) < (((List.length ts) : Nat) : Int)))))] i_ Pr.any) ok22 rfl ⟨?_, ?_, ?_, ?_, trivial⟩ ?_
       · intro ax tx hs okx sm
         exact run_plain rfl (y_move (kp (sm 13 rfl) hs q84))
       · intro ax tx hs okx sm
         exact run_plain rfl (y_move (kp (sm 1 rfl) hs q86))
       · intro ax tx hs okx sm d0
         have e1 : At (Ty.lst Ty.str ts) tx ax (.tmp 62) := d0 rfl
         exact run_plain rfl (y_len Try.underlying55 e1)
       · intro ax tx hs okx sm d0 d1
         have e0 : At (Ty.nat i) tx ax (.tmp 61) := d0 rfl
         have e2 : At (Ty.nat (List.length ts)) tx ax (.tmp 63) := d1 rfl
         exact run_plain rfl (y_lss e0 e2)
       intro a26 s20 D20
       have ok23 := D20.ok
       have F23 := F22.step0 D20.stp
       have q88 : At (Ty.nat i) s20 a26 (.tmp 13) := D20.kt q84 rfl
       have q89 : At (Ty.val x12_2) s20 a26 (.tmp 12) := D20.kt q85 rfl
       have q90 : At (Ty.lst Ty.str ts) s20 a26 (.tmp 1) := D20.kt q86 rfl
       have q91 : At (Ty.lst Ty.ints rows) s20 a26 (.tmp 2) := D20.kt q87 rfl
       have o3 := Own.k0 o2 D20.stp
       have q92 : At (Ty.bool (decide (((i : Nat) : Int) < (((List.length ts) : Nat) : Int)))) s20 a26 (.tmp 64) := D20.done 3
       clear D20
       refine tn ?_
       refine cond_p (p := (((i : Nat) : Int) < (((List.length ts) : Nat) : Int))) q92 (fun c7 => ?_) (fun c7 => ?_)
       ·
        have htz := hts _ (mem_getD ByteArray.empty (show i < ts.length by omega)); have htp := hta _ (mem_getD ByteArray.empty (show i < ts.length by omega)); have hlp := like_pre htp
        refine wp_skip ?_
        refine tn ?_
        refine wp_seq ?_
        refine wp_block ?_
        refine wp_seq ?_
        refine reg (a := a26) (σ := s20) rfl (fun i_ => List.getD [(Ty.pr (Ty.int (0 : Int)))] i_ Pr.any) ok23 rfl ⟨?_, trivial⟩ ?_
        · intro ax tx hs okx sm
          exact run_plain rfl (y_assign rfl)
        intro a27 s21 D21
        have ok24 := D21.ok
        have F24 := F23.step0 D21.stp
        have q93 : At (Ty.nat i) s21 a27 (.tmp 13) := D21.kt q88 rfl
        have q94 : At (Ty.val x12_2) s21 a27 (.tmp 12) := D21.kt q89 rfl
        have q95 : At (Ty.lst Ty.str ts) s21 a27 (.tmp 1) := D21.kt q90 rfl
        have q96 : At (Ty.lst Ty.ints rows) s21 a27 (.tmp 2) := D21.kt q91 rfl
        have o4 := Own.k0 o3 D21.stp
        have q97 : At (Ty.int (0 : Int)) s21 a27 (.tmp 14) := D21.done 0
        clear D21
        refine tn ?_
        refine wp_seq ?_
        refine wp_seq ?_
        refine reg (a := a27) (σ := s21) rfl (fun i_ => List.getD [(Ty.pr (Ty.int (0 : Int)))] i_ Pr.any) ok24 rfl ⟨?_, trivial⟩ ?_
        · intro ax tx hs okx sm
          exact run_plain rfl (y_assign rfl)
        intro a28 s22 D22
        have ok25 := D22.ok
        have F25 := F24.step0 D22.stp
        have q98 : At (Ty.nat i) s22 a28 (.tmp 13) := D22.kt q93 rfl
        have q99 : At (Ty.val x12_2) s22 a28 (.tmp 12) := D22.kt q94 rfl
        have q100 : At (Ty.lst Ty.str ts) s22 a28 (.tmp 1) := D22.kt q95 rfl
        have q101 : At (Ty.lst Ty.ints rows) s22 a28 (.tmp 2) := D22.kt q96 rfl
        have q102 : At (Ty.int (0 : Int)) s22 a28 (.tmp 14) := D22.kt q97 rfl
        have o5 := Own.k0 o4 D22.stp
        have q103 : At (Ty.int (0 : Int)) s22 a28 (.tmp 15) := D22.done 0
        clear D22
        refine tn ?_
        refine wp_block ?_
        refine loop (fun n7 a29 w7 => ∃ (t7 : GW) (j : Nat), t7.w = w7 ∧ FromL [] s0 t7 ∧ Ok 90 a29 ∧ At (Ty.nat j) t7 a29 (.tmp 15) ∧ At (Ty.nat (cntL (ts.getD i ByteArray.empty) (rows.take j))) t7 a29 (.tmp 14) ∧ At (Ty.nat i) t7 a29 (.tmp 13) ∧ At (Ty.val x12_2) t7 a29 (.tmp 12) ∧ At (Ty.lst Ty.str ts) t7 a29 (.tmp 1) ∧ At (Ty.lst Ty.ints rows) t7 a29 (.tmp 2) ∧ Own t7 6 3 1 x12_2 (List.length (musL (ts.take i) rows)) (List.map Ty.int (musL (ts.take i) rows)) ∧ (j ≤ rows.length) ∧ n7 = rows.length - j) (rows.length - (0)) ?_ ?_
        ·
         exact ⟨s22, 0, rfl, F25, ok25, (cvi (by (first | rfl | omega | (simp_all; done) | (simp_all; omega))) q103), (cvi (by (rfl)) q102), q98, q99, q100, q101, o5, by omega, rfl⟩
        ·
         rintro n8 a30 w8 ⟨t8, j, rfl, F26, ok26, q104, q105, q106, q107, q108, q109, o6, hj, rfl⟩
         have hcl := cntL_le (ts.getD i ByteArray.empty) (rows.take j)
         have hrl := List.length_take_le j rows
         refine wp_seq ?_
         refine wp_seq ?_
         refine reg (a := a30) (σ := t8) rfl (fun i_ => List.getD [(Ty.pr (Ty.nat j)), (Ty.pr (Ty.lst Ty.ints rows)), (Ty.pr (Ty.nat (List.length rows))), (Ty.pr (Ty.bool (decide (((j : Nat) : Int) < (((List.length rows) : Nat) : Int)))))] i_ Pr.any) ok26 rfl ⟨?_, ?_, ?_, ?_, trivial⟩ ?_
         · intro ax tx hs okx sm
           exact run_plain rfl (y_move (kp (sm 15 rfl) hs q104))
         · intro ax tx hs okx sm
           exact run_plain rfl (y_move (kp (sm 2 rfl) hs q109))
         · intro ax tx hs okx sm d0
           have e1 : At (Ty.lst Ty.ints rows) tx ax (.tmp 68) := d0 rfl
           exact run_plain rfl (y_len Try.underlying33 e1)
         · intro ax tx hs okx sm d0 d1
           have e0 : At (Ty.nat j) tx ax (.tmp 67) := d0 rfl
           have e2 : At (Ty.nat (List.length rows)) tx ax (.tmp 69) := d1 rfl
           exact run_plain rfl (y_lss e0 e2)
         intro a31 s23 D23
         have ok27 := D23.ok
         have F27 := F26.step0 D23.stp
         have q110 : At (Ty.nat j) s23 a31 (.tmp 15) := D23.kt q104 rfl
         have q111 : At (Ty.nat (cntL (ts.getD i ByteArray.empty) (rows.take j))) s23 a31 (.tmp 14) := D23.kt q105 rfl
         have q112 : At (Ty.nat i) s23 a31 (.tmp 13) := D23.kt q106 rfl
         have q113 : At (Ty.val x12_2) s23 a31 (.tmp 12) := D23.kt q107 rfl
         have q114 : At (Ty.lst Ty.str ts) s23 a31 (.tmp 1) := D23.kt q108 rfl
         have q115 : At (Ty.lst Ty.ints rows) s23 a31 (.tmp 2) := D23.kt q109 rfl
         have o7 := Own.k0 o6 D23.stp
         have q116 : At (Ty.bool (decide (((j : Nat) : Int) < (((List.length rows) : Nat) : Int)))) s23 a31 (.tmp 70) := D23.done 3
         clear D23
         refine tn ?_
         refine cond_p (p := (((j : Nat) : Int) < (((List.length rows) : Nat) : Int))) q116 (fun c8 => ?_) (fun c8 => ?_)
         ·
          have hrj := hra _ (mem_getD [] (show j < rows.length by omega)); have hlw := like_wants htp hrj.2
          refine wp_skip ?_
          refine tn ?_
          refine wp_seq ?_
          refine wp_block ?_
          refine wp_seq ?_
          refine reg (a := a31) (σ := s23) rfl (fun i_ => List.getD [(Ty.pr (Ty.lst Ty.str ts)), (Ty.pr (Ty.nat i)), (Ty.pr (Ty.ref [(Ty.val (Value.string (ts.getD i ByteArray.empty)))])), (Ty.pr (Ty.val (Value.string (ts.getD i ByteArray.empty)))), (Ty.pr (Ty.lst Ty.ints rows)), (Ty.pr (Ty.nat j)), (Ty.pr (Ty.ref [(Ty.lst Ty.int (rows.getD j []))])), (Ty.pr (Ty.lst Ty.int (rows.getD j []))), (Ty.pr (Ty.bool (likeB (List.map bellQ (frR (runsL ((ts.getD i ByteArray.empty))))) (List.map bellQ (bkR (runsL ((ts.getD i ByteArray.empty))))) ((rows.getD j []))))), (Ty.pr (Ty.bool (likeB (List.map bellQ (frR (runsL ((ts.getD i ByteArray.empty))))) (List.map bellQ (bkR (runsL ((ts.getD i ByteArray.empty))))) ((rows.getD j [])))))] i_ Pr.any) ok27 rfl ⟨?_, ?_, ?_, ?_, ?_, ?_, ?_, ?_, ?_, ?_, trivial⟩ ?_
          · intro ax tx hs okx sm
            exact run_plain rfl (y_move (kp (sm 1 rfl) hs q114))
          · intro ax tx hs okx sm
            exact run_plain rfl (y_move (kp (sm 13 rfl) hs q112))
          · intro ax tx hs okx sm d0 d1
            have e0 : At (Ty.lst Ty.str ts) tx ax (.tmp 73) := d0 rfl
            have e1 : At (Ty.nat i) tx ax (.tmp 74) := d1 rfl
            exact run_plain rfl (y_index1 Try.underlying55 Try.inf9 e0 e1 (by omega) (lst_get Ty.str ts ByteArray.empty i (by omega)))
          · intro ax tx hs okx sm d0
            have e2 : At (Ty.ref [(Ty.val (Value.string (ts.getD i ByteArray.empty)))]) tx ax (.tmp 75) := d0 rfl
            exact run_plain rfl (y_load Try.underlying9 rfl e2 rfl)
          · intro ax tx hs okx sm
            exact run_plain rfl (y_move (kp (sm 2 rfl) hs q115))
          · intro ax tx hs okx sm
            exact run_plain rfl (y_move (kp (sm 15 rfl) hs q110))
          · intro ax tx hs okx sm d0 d1
            have e4 : At (Ty.lst Ty.ints rows) tx ax (.tmp 77) := d0 rfl
            have e5 : At (Ty.nat j) tx ax (.tmp 78) := d1 rfl
            exact run_plain rfl (y_index1 Try.underlying33 Try.inf34 e4 e5 (by omega) (lst_get Ty.ints rows [] j (by omega)))
          · intro ax tx hs okx sm d0
            have e6 : At (Ty.ref [(Ty.lst Ty.int (rows.getD j []))]) tx ax (.tmp 79) := d0 rfl
            exact run_plain rfl (y_load Try.underlying34 rfl e6 rfl)
          · intro ax tx hs okx sm d0 d1
            have e3 : At (Ty.val (Value.string (ts.getD i ByteArray.empty))) tx ax (.tmp 76) := d0 rfl
            have e7 : At (Ty.lst Ty.int (rows.getD j [])) tx ax (.tmp 80) := d1 rfl
            exact run_plain rfl (y_call #[ax.eval (.tmp 76), ax.eval (.tmp 80)] Try.func36 rfl rfl (by simp only [List.map_toArray, List.map_cons, List.map_nil]) (rLike_fn ((ts.getD i ByteArray.empty)) ((rows.getD j [])) _ _ _ e3 e7 (by omega) (by omega) (by omega)))
          · intro ax tx hs okx sm d0 d1 d2 d3 d4 d5 d6 d7 d8 d9 d10
            have e8 : At (Ty.bool (likeB (List.map bellQ (frR (runsL ((ts.getD i ByteArray.empty))))) (List.map bellQ (bkR (runsL ((ts.getD i ByteArray.empty))))) ((rows.getD j [])))) tx ax (.tmp 81) := d0 rfl
            have e0 : At (Ty.lst Ty.str ts) tx ax (.tmp 73) := d2 rfl
            have e1 : At (Ty.nat i) tx ax (.tmp 74) := d3 rfl
            have e2 : At (Ty.ref [(Ty.val (Value.string (ts.getD i ByteArray.empty)))]) tx ax (.tmp 75) := d4 rfl
            have e3 : At (Ty.val (Value.string (ts.getD i ByteArray.empty))) tx ax (.tmp 76) := d5 rfl
            have e4 : At (Ty.lst Ty.ints rows) tx ax (.tmp 77) := d6 rfl
            have e5 : At (Ty.nat j) tx ax (.tmp 78) := d7 rfl
            have e6 : At (Ty.ref [(Ty.lst Ty.int (rows.getD j []))]) tx ax (.tmp 79) := d8 rfl
            have e7 : At (Ty.lst Ty.int (rows.getD j [])) tx ax (.tmp 80) := d9 rfl
            exact run_plain rfl (y_assign e8)
          intro a32 s24 D24
          have ok28 := D24.ok
          have F28 := F27.step0 D24.stp
          have q117 : At (Ty.nat j) s24 a32 (.tmp 15) := D24.kt q110 rfl
          have q118 : At (Ty.nat (cntL (ts.getD i ByteArray.empty) (rows.take j))) s24 a32 (.tmp 14) := D24.kt q111 rfl
          have q119 : At (Ty.nat i) s24 a32 (.tmp 13) := D24.kt q112 rfl
          have q120 : At (Ty.val x12_2) s24 a32 (.tmp 12) := D24.kt q113 rfl
          have q121 : At (Ty.lst Ty.str ts) s24 a32 (.tmp 1) := D24.kt q114 rfl
          have q122 : At (Ty.lst Ty.ints rows) s24 a32 (.tmp 2) := D24.kt q115 rfl
          have o8 := Own.k0 o7 D24.stp
          have q123 : At (Ty.bool (likeB (List.map bellQ (frR (runsL ((ts.getD i ByteArray.empty))))) (List.map bellQ (bkR (runsL ((ts.getD i ByteArray.empty))))) ((rows.getD j [])))) s24 a32 (.tmp 16) := D24.done 9
          clear D24
          refine tn ?_
          refine wp_seq ?_
          refine reg (a := a32) (σ := s24) rfl (fun i_ => List.getD [(Ty.pr (Ty.bool (likeB (List.map bellQ (frR (runsL ((ts.getD i ByteArray.empty))))) (List.map bellQ (bkR (runsL ((ts.getD i ByteArray.empty))))) ((rows.getD j [])))))] i_ Pr.any) ok28 rfl ⟨?_, trivial⟩ ?_
          · intro ax tx hs okx sm
            exact run_plain rfl (y_move (kp (sm 16 rfl) hs q123))
          intro a33 s25 D25
          have ok29 := D25.ok
          have F29 := F28.step0 D25.stp
          have q124 : At (Ty.nat j) s25 a33 (.tmp 15) := D25.kt q117 rfl
          have q125 : At (Ty.nat (cntL (ts.getD i ByteArray.empty) (rows.take j))) s25 a33 (.tmp 14) := D25.kt q118 rfl
          have q126 : At (Ty.nat i) s25 a33 (.tmp 13) := D25.kt q119 rfl
          have q127 : At (Ty.val x12_2) s25 a33 (.tmp 12) := D25.kt q120 rfl
          have q128 : At (Ty.lst Ty.str ts) s25 a33 (.tmp 1) := D25.kt q121 rfl
          have q129 : At (Ty.lst Ty.ints rows) s25 a33 (.tmp 2) := D25.kt q122 rfl
          have o9 := Own.k0 o8 D25.stp
          have q130 : At (Ty.bool (likeB (List.map bellQ (frR (runsL ((ts.getD i ByteArray.empty))))) (List.map bellQ (bkR (runsL ((ts.getD i ByteArray.empty))))) ((rows.getD j [])))) s25 a33 (.tmp 82) := D25.done 0
          clear D25
          refine tn ?_
          refine cond_t q130 (fun c9 => ?_) (fun c9 => ?_)
          ·
           refine reg (a := a33) (σ := s25) rfl (fun i_ => List.getD [(Ty.pr (Ty.nat (cntL (ts.getD i ByteArray.empty) (rows.take j)))), (Ty.pr (Ty.nat ((cntL (ts.getD i ByteArray.empty) (rows.take j)) + 1))), (Ty.pr (Ty.nat ((cntL (ts.getD i ByteArray.empty) (rows.take j)) + 1)))] i_ Pr.any) ok29 rfl ⟨?_, ?_, ?_, trivial⟩ ?_
           · intro ax tx hs okx sm
             exact run_plain rfl (y_move (kp (sm 14 rfl) hs q125))
           · intro ax tx hs okx sm d0
             have e0 : At (Ty.nat (cntL (ts.getD i ByteArray.empty) (rows.take j))) tx ax (.tmp 83) := d0 rfl
             exact run_plain rfl ((y_add e0 rfl (w64 (by omega) (by omega))).mono (fun τ _ h => cvi (σ := τ) (by first | omega | exact (Int.natCast_mul _ _).symm) h))
           · intro ax tx hs okx sm d0 d1 d2
             have e1 : At (Ty.nat ((cntL (ts.getD i ByteArray.empty) (rows.take j)) + 1)) tx ax (.tmp 84) := d0 rfl
             have e0 : At (Ty.nat (cntL (ts.getD i ByteArray.empty) (rows.take j))) tx ax (.tmp 83) := d1 rfl
             exact run_plain rfl (y_assign e1)
           intro a34 s26 D26
           have ok30 := D26.ok
           have F30 := F29.step0 D26.stp
           have q131 : At (Ty.nat j) s26 a34 (.tmp 15) := D26.kt q124 rfl
           have q132 : At (Ty.nat i) s26 a34 (.tmp 13) := D26.kt q126 rfl
           have q133 : At (Ty.val x12_2) s26 a34 (.tmp 12) := D26.kt q127 rfl
           have q134 : At (Ty.lst Ty.str ts) s26 a34 (.tmp 1) := D26.kt q128 rfl
           have q135 : At (Ty.lst Ty.ints rows) s26 a34 (.tmp 2) := D26.kt q129 rfl
           have o10 := Own.k0 o9 D26.stp
           have q136 : At (Ty.nat ((cntL (ts.getD i ByteArray.empty) (rows.take j)) + 1)) s26 a34 (.tmp 14) := D26.done 2
           clear D26
           refine bn ?_
           refine tn ?_
           refine reg (a := a34) (σ := s26) rfl (fun i_ => List.getD [(Ty.pr (Ty.nat j)), (Ty.pr (Ty.nat (j + 1))), (Ty.pr (Ty.nat (j + 1)))] i_ Pr.any) ok30 rfl ⟨?_, ?_, ?_, trivial⟩ ?_
           · intro ax tx hs okx sm
             exact run_plain rfl (y_move (kp (sm 15 rfl) hs q131))
           · intro ax tx hs okx sm d0
             have e0 : At (Ty.nat j) tx ax (.tmp 71) := d0 rfl
             exact run_plain rfl ((y_add e0 rfl (w64 (by omega) (by omega))).mono (fun τ _ h => cvi (σ := τ) (by first | omega | exact (Int.natCast_mul _ _).symm) h))
           · intro ax tx hs okx sm d0 d1 d2
             have e1 : At (Ty.nat (j + 1)) tx ax (.tmp 72) := d0 rfl
             have e0 : At (Ty.nat j) tx ax (.tmp 71) := d1 rfl
             exact run_plain rfl (y_assign e1)
           intro a35 s27 D27
           have ok31 := D27.ok
           have F31 := F30.step0 D27.stp
           have q137 : At (Ty.nat i) s27 a35 (.tmp 13) := D27.kt q132 rfl
           have q138 : At (Ty.val x12_2) s27 a35 (.tmp 12) := D27.kt q133 rfl
           have q139 : At (Ty.lst Ty.str ts) s27 a35 (.tmp 1) := D27.kt q134 rfl
           have q140 : At (Ty.lst Ty.ints rows) s27 a35 (.tmp 2) := D27.kt q135 rfl
           have q141 : At (Ty.nat ((cntL (ts.getD i ByteArray.empty) (rows.take j)) + 1)) s27 a35 (.tmp 14) := D27.kt q136 rfl
           have o11 := Own.k0 o10 D27.stp
           have q142 : At (Ty.nat (j + 1)) s27 a35 (.tmp 15) := D27.done 2
           clear D27
           exact tn ⟨rows.length - ((j+1)), by omega, s27, (j+1), rfl, F31, ok31, (cvi (by (first | rfl | omega | (simp_all; done) | (simp_all; omega))) q142), (cvi (by (rw [cnt_yes (by omega) c9])) q141), q137, q138, q139, q140, o11, by omega, rfl⟩
          ·
           refine wp_skip ?_
           refine bn ?_
           refine tn ?_
           refine reg (a := a33) (σ := s25) rfl (fun i_ => List.getD [(Ty.pr (Ty.nat j)), (Ty.pr (Ty.nat (j + 1))), (Ty.pr (Ty.nat (j + 1)))] i_ Pr.any) ok29 rfl ⟨?_, ?_, ?_, trivial⟩ ?_
           · intro ax tx hs okx sm
             exact run_plain rfl (y_move (kp (sm 15 rfl) hs q124))
           · intro ax tx hs okx sm d0
             have e0 : At (Ty.nat j) tx ax (.tmp 71) := d0 rfl
             exact run_plain rfl ((y_add e0 rfl (w64 (by omega) (by omega))).mono (fun τ _ h => cvi (σ := τ) (by first | omega | exact (Int.natCast_mul _ _).symm) h))
           · intro ax tx hs okx sm d0 d1 d2
             have e1 : At (Ty.nat (j + 1)) tx ax (.tmp 72) := d0 rfl
             have e0 : At (Ty.nat j) tx ax (.tmp 71) := d1 rfl
             exact run_plain rfl (y_assign e1)
           intro a36 s28 D28
           have ok32 := D28.ok
           have F32 := F29.step0 D28.stp
           have q143 : At (Ty.nat (cntL (ts.getD i ByteArray.empty) (rows.take j))) s28 a36 (.tmp 14) := D28.kt q125 rfl
           have q144 : At (Ty.nat i) s28 a36 (.tmp 13) := D28.kt q126 rfl
           have q145 : At (Ty.val x12_2) s28 a36 (.tmp 12) := D28.kt q127 rfl
           have q146 : At (Ty.lst Ty.str ts) s28 a36 (.tmp 1) := D28.kt q128 rfl
           have q147 : At (Ty.lst Ty.ints rows) s28 a36 (.tmp 2) := D28.kt q129 rfl
           have o12 := Own.k0 o9 D28.stp
           have q148 : At (Ty.nat (j + 1)) s28 a36 (.tmp 15) := D28.done 2
           clear D28
           exact tn ⟨rows.length - ((j+1)), by omega, s28, (j+1), rfl, F32, ok32, (cvi (by (first | rfl | omega | (simp_all; done) | (simp_all; omega))) q148), (cvi (by (rw [cnt_no (by omega) c9])) q143), q144, q145, q146, q147, o12, by omega, rfl⟩
         ·
          have hje : rows.take j = rows := List.take_of_length_le (by omega)
          refine wp_exit ?_
          refine tx ?_
          refine tx ?_
          refine bx ?_
          refine tn ?_
          refine reg2 (a := a31) (σ := s23) rfl 3 (fun i_ => List.getD [(Ty.pr (Ty.val x12_2)), (Ty.pr (Ty.nat (cntL (ts.getD i ByteArray.empty) (rows.take j)))), (Ty.pr (Ty.sl 1 1 [(Ty.nat (cntL (ts.getD i ByteArray.empty) (rows.take j)))]))] i_ Pr.any) ok27 rfl (by decide) rfl ⟨?_, ?_, ?_, trivial⟩ ?_
          · intro ax tx hs okx sm
            exact run_plain rfl (y_move (kp (sm 12 rfl) hs q113))
          · intro ax tx hs okx sm
            exact run_plain rfl (y_move (kp (sm 14 rfl) hs q111))
          · intro ax tx hs okx sm d0
            have e1 : At (Ty.nat (cntL (ts.getD i ByteArray.empty) (rows.take j))) tx ax (.tmp 86) := d0 rfl
            exact run_plain rfl (y_build1o Try.underlying34 Try.inf3 rfl (one_val rfl) e1)
          intro a37 s29 D29
          have ok33 := D29.ok
          have F33 := F27.step0 D29.stp
          have q149 : At (Ty.nat i) s29 a37 (.tmp 13) := D29.kt q112 rfl
          have q150 : At (Ty.val x12_2) s29 a37 (.tmp 12) := D29.kt q113 rfl
          have q151 : At (Ty.lst Ty.str ts) s29 a37 (.tmp 1) := D29.kt q114 rfl
          have q152 : At (Ty.lst Ty.ints rows) s29 a37 (.tmp 2) := D29.kt q115 rfl
          have o13 := Own.k0 o7 D29.stp
          have q153 : At (Ty.val x12_2) s29 a37 (.tmp 85) := D29.done 0 (by decide)
          have q154 : At (Ty.sl 1 1 [(Ty.nat (cntL (ts.getD i ByteArray.empty) (rows.take j)))]) s29 a37 (.tmp 87) := D29.done 2 (by decide)
          have b3 := sl_le q154
          clear D29
          refine tailL (L := [6]) (R := (fun v τ => Own τ 6 3 1 v ((List.length (musL (ts.take i) rows)) + 1) ((List.map Ty.int (musL (ts.take i) rows)) ++ [(Ty.nat (cntL (ts.getD i ByteArray.empty) (rows.take j)))]))) rfl rfl (by decide) ok33 (YldM.toL (m_append Try.underlying34 Try.inf3 (by decide) rfl (by decide) (al (R := (Pr.own 6 3 1 (List.length (musL (ts.take i) rows)) (List.map Ty.int (musL (ts.take i) rows)))) q153 o13) q154 (by intro U hU; simp at hU; subst hU; exact one_val rfl) (by omega) (by omega))) (fun a38 s30 hs1 ok34 r1 sm1 => ?_)
          have F34 := F33.stepL hs1 (by decide)
          have q155 : At (Ty.nat i) s30 a38 (.tmp 13) := kpL hs1 (by decide) (sm1 13 (by decide)) q149
          have q156 : At (Ty.val x12_2) s30 a38 (.tmp 12) := kpL hs1 (by decide) (sm1 12 (by decide)) q150
          have q157 : At (Ty.lst Ty.str ts) s30 a38 (.tmp 1) := kpL hs1 (by decide) (sm1 1 (by decide)) q151
          have q158 : At (Ty.lst Ty.ints rows) s30 a38 (.tmp 2) := kpL hs1 (by decide) (sm1 2 (by decide)) q152
          obtain ⟨x1, hx1⟩ : ∃ x, a38.eval (.tmp 88) = x := ⟨_, rfl⟩
          have q159 : At (Ty.val x1) s30 a38 (.tmp 88) := hx1
          have o14 : Own s30 6 3 1 x1 (List.length ((musL (ts.take i) rows) ++ [(((cntL (ts.getD i ByteArray.empty) (rows.take j)) : Nat) : Int)])) (List.map Ty.int ((musL (ts.take i) rows) ++ [(((cntL (ts.getD i ByteArray.empty) (rows.take j)) : Nat) : Int)])) := al2 (R := (Pr.own 6 3 1 (List.length ((musL (ts.take i) rows) ++ [(((cntL (ts.getD i ByteArray.empty) (rows.take j)) : Nat) : Int)])) (List.map Ty.int ((musL (ts.take i) rows) ++ [(((cntL (ts.getD i ByteArray.empty) (rows.take j)) : Nat) : Int)])))) hx1 (cvo (by simp) (by first | (rw [List.map_append]; rfl) | simp) r1)
          clear r1
          refine tailL (L := []) (R := (fun v τ => Pr.has (Ty.pr (Ty.val x1)) τ v)) rfl rfl (by decide) ok34 (Yld.toL (y_assign q159)) (fun a39 s31 hs2 ok35 r2 sm2 => ?_)
          have F35 := F34.stepL hs2 (by decide)
          have q160 : At (Ty.nat i) s31 a39 (.tmp 13) := kpL hs2 (by decide) (sm2 13 (by decide)) q155
          have q161 : At (Ty.lst Ty.str ts) s31 a39 (.tmp 1) := kpL hs2 (by decide) (sm2 1 (by decide)) q157
          have q162 : At (Ty.lst Ty.ints rows) s31 a39 (.tmp 2) := kpL hs2 (by decide) (sm2 2 (by decide)) q158
          have o15 := Own.keepL o14 hs2 (by decide) (by decide)
          have q163 : At (Ty.val x1) s31 a39 (.tmp 12) := r2
          clear r2
          refine wpList_nil ?_
          refine bn ?_
          refine tn ?_
          refine reg (a := a39) (σ := s31) rfl (fun i_ => List.getD [(Ty.pr (Ty.nat i)), (Ty.pr (Ty.nat (i + 1))), (Ty.pr (Ty.nat (i + 1)))] i_ Pr.any) ok35 rfl ⟨?_, ?_, ?_, trivial⟩ ?_
          · intro ax tx hs okx sm
            exact run_plain rfl (y_move (kp (sm 13 rfl) hs q160))
          · intro ax tx hs okx sm d0
            have e0 : At (Ty.nat i) tx ax (.tmp 65) := d0 rfl
            exact run_plain rfl ((y_add e0 rfl (w64 (by omega) (by omega))).mono (fun τ _ h => cvi (σ := τ) (by first | omega | exact (Int.natCast_mul _ _).symm) h))
          · intro ax tx hs okx sm d0 d1 d2
            have e1 : At (Ty.nat (i + 1)) tx ax (.tmp 66) := d0 rfl
            have e0 : At (Ty.nat i) tx ax (.tmp 65) := d1 rfl
            exact run_plain rfl (y_assign e1)
          intro a40 s32 D30
          have ok36 := D30.ok
          have F36 := F35.step0 D30.stp
          have q164 : At (Ty.lst Ty.str ts) s32 a40 (.tmp 1) := D30.kt q161 rfl
          have q165 : At (Ty.lst Ty.ints rows) s32 a40 (.tmp 2) := D30.kt q162 rfl
          have q166 : At (Ty.val x1) s32 a40 (.tmp 12) := D30.kt q163 rfl
          have o16 := Own.k0 o15 D30.stp
          have q167 : At (Ty.nat (i + 1)) s32 a40 (.tmp 13) := D30.done 2
          clear D30
          exact tn ⟨ts.length - ((i+1)), by omega, s32, (i+1), x1, rfl, F36, ok36, (cvi (by (first | rfl | omega | (simp_all; done) | (simp_all; omega))) q167), q166, q164, q165, (cvo (by (rw [musL_succ ts rows (by omega), hje])) (by (rw [musL_succ ts rows (by omega), hje])) o16), by omega, rfl⟩
       ·
        have hie : i = ts.length := (by omega)
        refine wp_exit ?_
        refine tx ?_
        refine tx ?_
        refine bx ?_
        refine tn ?_
        refine wp_seq ?_
        refine reg (a := a26) (σ := s20) rfl (fun i_ => List.getD [(Ty.pr (Ty.val x12_2)), (Ty.pr (Ty.val x12_2)), (Ty.pr (Ty.int (0 : Int)))] i_ Pr.any) ok23 rfl ⟨?_, ?_, ?_, trivial⟩ ?_
        · intro ax tx hs okx sm
          exact run_plain rfl (y_move (kp (sm 12 rfl) hs q89))
        · intro ax tx hs okx sm d0 d1
          have e0 : At (Ty.val x12_2) tx ax (.tmp 89) := d0 rfl
          exact run_plain rfl (y_assign e0)
        · intro ax tx hs okx sm d0 d1 d2
          have e1 : At (Ty.val x12_2) tx ax (.tmp 6) := d0 rfl
          have e0 : At (Ty.val x12_2) tx ax (.tmp 89) := d1 rfl
          exact run_plain rfl (y_assign rfl)
        intro a41 s33 D31
        have ok37 := D31.ok
        have F37 := F23.step0 D31.stp
        have o17 := Own.k0 o3 D31.stp
        have q168 : At (Ty.val x12_2) s33 a41 (.tmp 6) := D31.done 1
        have q169 : At (Ty.int (0 : Int)) s33 a41 (.tmp 7) := D31.done 2
        clear D31
        refine tn ?_
        refine wp_ret ?_
        obtain ⟨t9, e1, h1, q170⟩ := Own.seal o17 (by decide)
        rw [← e1]
        have F38 := F37.step h1 (by decide)
        have q171 : At (Ty.lst Ty.int (musL (ts.take i) rows)) t9 a41 (.tmp 6) := by have e : a41.eval (.tmp 6) = x12_2 := q168; show Ty.has _ _ _; rw [e]; exact q170
        have q172 := Ty.up (Ty.int (0 : Int)) (h1.le (by decide)) q169
        exact retL2 rfl ok37 F38 (hasT2 (cvt (by (rw [if_pos hm, hie, List.take_length])) q171) (cvi (by (exact hm.symm)) q172))


set_option maxRecDepth 100000 in
theorem rsame_fn (xs : List Int) (ys : List Int) (σ : GW) (v0 v1 : Value) (hv0 : Ty.has (Ty.lst Ty.int xs) σ v0) (hv1 : Ty.has (Ty.lst Ty.int ys) σ v1)  :
    FnC Try.prog 25 #[v0, v1] σ (Ty.bool (decide (xs = ys))) := by
 refine fn_intro Try.func25 rfl Try.ntmps25 (Nat.le_of_ble_eq_true rfl) (fun s0 a0 hle F0 ok0 hargs => ?_)
 have p0 : At (Ty.lst Ty.int xs) s0 a0 (.tmp 0) := by have e := hargs 0 _ rfl; show Ty.has _ _ _; rw [e]; exact Ty.up _ hle hv0
 have b1 := sl_le p0
 have p1 : At (Ty.lst Ty.int ys) s0 a0 (.tmp 1) := by have e := hargs 1 _ rfl; show Ty.has _ _ _; rw [e]; exact Ty.up _ hle hv1
 have b2 := sl_le p1
 clear hargs
 refine wp_seq ?_
 refine reg (a := a0) (σ := s0) rfl (fun i_ => List.getD [(Ty.pr (Ty.bool false))] i_ Pr.any) ok0 rfl ⟨?_, trivial⟩ ?_
 · intro ax tx hs okx sm
   exact run_plain rfl (y_assign rfl)
 intro a1 s1 D1
 have ok1 := D1.ok
 have F1 := F0.step0 D1.stp
 have q1 : At (Ty.lst Ty.int xs) s1 a1 (.tmp 0) := D1.kt p0 rfl
 have q2 : At (Ty.lst Ty.int ys) s1 a1 (.tmp 1) := D1.kt p1 rfl
 clear D1
 refine tn ?_
 refine wp_seq ?_
 refine wp_seq ?_
 refine reg (a := a1) (σ := s1) rfl (fun i_ => List.getD [(Ty.pr (Ty.lst Ty.int xs)), (Ty.pr (Ty.nat (List.length xs))), (Ty.pr (Ty.lst Ty.int ys)), (Ty.pr (Ty.nat (List.length ys))), (Ty.pr (Ty.bool (decide ((((List.length xs) : Nat) : Int) ≠ (((List.length ys) : Nat) : Int)))))] i_ Pr.any) ok1 rfl ⟨?_, ?_, ?_, ?_, ?_, trivial⟩ ?_
 · intro ax tx hs okx sm
   exact run_plain rfl (y_move (kp (sm 0 rfl) hs q1))
 · intro ax tx hs okx sm d0
   have e0 : At (Ty.lst Ty.int xs) tx ax (.tmp 6) := d0 rfl
   exact run_plain rfl (y_len Try.underlying34 e0)
 · intro ax tx hs okx sm
   exact run_plain rfl (y_move (kp (sm 1 rfl) hs q2))
 · intro ax tx hs okx sm d0
   have e2 : At (Ty.lst Ty.int ys) tx ax (.tmp 8) := d0 rfl
   exact run_plain rfl (y_len Try.underlying34 e2)
 · intro ax tx hs okx sm d0 d1
   have e1 : At (Ty.nat (List.length xs)) tx ax (.tmp 7) := d0 rfl
   have e3 : At (Ty.nat (List.length ys)) tx ax (.tmp 9) := d1 rfl
   exact run_plain rfl (y_neq e1 e3)
 intro a2 s2 D2
 have ok2 := D2.ok
 have F2 := F1.step0 D2.stp
 have q3 : At (Ty.lst Ty.int xs) s2 a2 (.tmp 0) := D2.kt q1 rfl
 have q4 : At (Ty.lst Ty.int ys) s2 a2 (.tmp 1) := D2.kt q2 rfl
 have q5 : At (Ty.bool (decide ((((List.length xs) : Nat) : Int) ≠ (((List.length ys) : Nat) : Int)))) s2 a2 (.tmp 10) := D2.done 4
 clear D2
 refine tn ?_
 refine cond_p (p := ((((List.length xs) : Nat) : Int) ≠ (((List.length ys) : Nat) : Int))) q5 (fun c1 => ?_) (fun c1 => ?_)
 ·
  refine wp_seq ?_
  refine reg (a := a2) (σ := s2) rfl (fun i_ => List.getD [(Ty.pr (Ty.bool false))] i_ Pr.any) ok2 rfl ⟨?_, trivial⟩ ?_
  · intro ax tx hs okx sm
    exact run_plain rfl (y_assign rfl)
  intro a3 s3 D3
  have ok3 := D3.ok
  have F3 := F2.step0 D3.stp
  have q6 : At (Ty.bool false) s3 a3 (.tmp 4) := D3.done 0
  clear D3
  refine tn ?_
  refine wp_ret ?_
  refine tr ?_
  exact ret1 rfl ok3 F3 (cvb (by (rw [decide_eq_false]; intro e; subst e; omega)) q6)
 ·
  refine wp_skip ?_
  refine tn ?_
  refine wp_seq ?_
  refine wp_seq ?_
  refine reg (a := a2) (σ := s2) rfl (fun i_ => List.getD [(Ty.pr (Ty.int (0 : Int)))] i_ Pr.any) ok2 rfl ⟨?_, trivial⟩ ?_
  · intro ax tx hs okx sm
    exact run_plain rfl (y_assign rfl)
  intro a4 s4 D4
  have ok4 := D4.ok
  have F4 := F2.step0 D4.stp
  have q7 : At (Ty.lst Ty.int xs) s4 a4 (.tmp 0) := D4.kt q3 rfl
  have q8 : At (Ty.lst Ty.int ys) s4 a4 (.tmp 1) := D4.kt q4 rfl
  have q9 : At (Ty.int (0 : Int)) s4 a4 (.tmp 5) := D4.done 0
  clear D4
  refine tn ?_
  refine wp_block ?_
  refine loop (fun n1 a5 w1 => ∃ (t1 : GW) (k : Nat), t1.w = w1 ∧ From s0 t1 ∧ Ok 26 a5 ∧ At (Ty.nat k) t1 a5 (.tmp 5) ∧ At (Ty.lst Ty.int xs) t1 a5 (.tmp 0) ∧ At (Ty.lst Ty.int ys) t1 a5 (.tmp 1) ∧ (k ≤ xs.length) ∧ (xs.length = ys.length) ∧ (∀ j, j < k → xs.getD j 0 = ys.getD j 0) ∧ n1 = xs.length - k) (xs.length - (0)) ?_ ?_
  ·
   exact ⟨s4, 0, rfl, F4, ok4, (cvi (by (first | rfl | omega | (simp_all; done) | (simp_all; omega))) q9), q7, q8, by omega, by omega, fun j hj => absurd hj (Nat.not_lt_zero j), rfl⟩
  ·
   rintro n2 a6 w2 ⟨t2, k, rfl, F5, ok5, q10, q11, q12, hk, hl, heq, rfl⟩
   refine wp_seq ?_
   refine wp_seq ?_
   refine reg (a := a6) (σ := t2) rfl (fun i_ => List.getD [(Ty.pr (Ty.nat k)), (Ty.pr (Ty.lst Ty.int xs)), (Ty.pr (Ty.nat (List.length xs))), (Ty.pr (Ty.bool (decide (((k : Nat) : Int) < (((List.length xs) : Nat) : Int)))))] i_ Pr.any) ok5 rfl ⟨?_, ?_, ?_, ?_, trivial⟩ ?_
   · intro ax tx hs okx sm
     exact run_plain rfl (y_move (kp (sm 5 rfl) hs q10))
   · intro ax tx hs okx sm
     exact run_plain rfl (y_move (kp (sm 0 rfl) hs q11))
   · intro ax tx hs okx sm d0
     have e1 : At (Ty.lst Ty.int xs) tx ax (.tmp 12) := d0 rfl
     exact run_plain rfl (y_len Try.underlying34 e1)
   · intro ax tx hs okx sm d0 d1
     have e0 : At (Ty.nat k) tx ax (.tmp 11) := d0 rfl
     have e2 : At (Ty.nat (List.length xs)) tx ax (.tmp 13) := d1 rfl
     exact run_plain rfl (y_lss e0 e2)
   intro a7 s5 D5
   have ok6 := D5.ok
   have F6 := F5.step0 D5.stp
   have q13 : At (Ty.nat k) s5 a7 (.tmp 5) := D5.kt q10 rfl
   have q14 : At (Ty.lst Ty.int xs) s5 a7 (.tmp 0) := D5.kt q11 rfl
   have q15 : At (Ty.lst Ty.int ys) s5 a7 (.tmp 1) := D5.kt q12 rfl
   have q16 : At (Ty.bool (decide (((k : Nat) : Int) < (((List.length xs) : Nat) : Int)))) s5 a7 (.tmp 14) := D5.done 3
   clear D5
   refine tn ?_
   refine cond_p (p := (((k : Nat) : Int) < (((List.length xs) : Nat) : Int))) q16 (fun c2 => ?_) (fun c2 => ?_)
   ·
    refine wp_skip ?_
    refine tn ?_
    refine wp_seq ?_
    refine wp_block ?_
    refine wp_seq ?_
    refine reg (a := a7) (σ := s5) rfl (fun i_ => List.getD [(Ty.pr (Ty.lst Ty.int xs)), (Ty.pr (Ty.nat k)), (Ty.pr (Ty.ref [(Ty.int (xs.getD k 0))])), (Ty.pr (Ty.int (xs.getD k 0))), (Ty.pr (Ty.lst Ty.int ys)), (Ty.pr (Ty.nat k)), (Ty.pr (Ty.ref [(Ty.int (ys.getD k 0))])), (Ty.pr (Ty.int (ys.getD k 0))), (Ty.pr (Ty.bool (decide ((xs.getD k 0) ≠ (ys.getD k 0)))))] i_ Pr.any) ok6 rfl ⟨?_, ?_, ?_, ?_, ?_, ?_, ?_, ?_, ?_, trivial⟩ ?_
    · intro ax tx hs okx sm
      exact run_plain rfl (y_move (kp (sm 0 rfl) hs q14))
    · intro ax tx hs okx sm
      exact run_plain rfl (y_move (kp (sm 5 rfl) hs q13))
    · intro ax tx hs okx sm d0 d1
      have e0 : At (Ty.lst Ty.int xs) tx ax (.tmp 17) := d0 rfl
      have e1 : At (Ty.nat k) tx ax (.tmp 18) := d1 rfl
      exact run_plain rfl (y_index1 Try.underlying34 Try.inf3 e0 e1 (by omega) (lst_get Ty.int xs 0 k (by omega)))
    · intro ax tx hs okx sm d0
      have e2 : At (Ty.ref [(Ty.int (xs.getD k 0))]) tx ax (.tmp 19) := d0 rfl
      exact run_plain rfl (y_load Try.underlying3 rfl e2 rfl)
    · intro ax tx hs okx sm
      exact run_plain rfl (y_move (kp (sm 1 rfl) hs q15))
    · intro ax tx hs okx sm
      exact run_plain rfl (y_move (kp (sm 5 rfl) hs q13))
    · intro ax tx hs okx sm d0 d1
      have e4 : At (Ty.lst Ty.int ys) tx ax (.tmp 21) := d0 rfl
      have e5 : At (Ty.nat k) tx ax (.tmp 22) := d1 rfl
      exact run_plain rfl (y_index1 Try.underlying34 Try.inf3 e4 e5 (by omega) (lst_get Ty.int ys 0 k (by omega)))
    · intro ax tx hs okx sm d0
      have e6 : At (Ty.ref [(Ty.int (ys.getD k 0))]) tx ax (.tmp 23) := d0 rfl
      exact run_plain rfl (y_load Try.underlying3 rfl e6 rfl)
    · intro ax tx hs okx sm d0 d1
      have e3 : At (Ty.int (xs.getD k 0)) tx ax (.tmp 20) := d0 rfl
      have e7 : At (Ty.int (ys.getD k 0)) tx ax (.tmp 24) := d1 rfl
      exact run_plain rfl (y_neq e3 e7)
    intro a8 s6 D6
    have ok7 := D6.ok
    have F7 := F6.step0 D6.stp
    have q17 : At (Ty.nat k) s6 a8 (.tmp 5) := D6.kt q13 rfl
    have q18 : At (Ty.lst Ty.int xs) s6 a8 (.tmp 0) := D6.kt q14 rfl
    have q19 : At (Ty.lst Ty.int ys) s6 a8 (.tmp 1) := D6.kt q15 rfl
    have q20 : At (Ty.bool (decide ((xs.getD k 0) ≠ (ys.getD k 0)))) s6 a8 (.tmp 25) := D6.done 8
    clear D6
    refine tn ?_
    refine cond_p (p := ((xs.getD k 0) ≠ (ys.getD k 0))) q20 (fun c3 => ?_) (fun c3 => ?_)
    ·
     refine wp_seq ?_
     refine reg (a := a8) (σ := s6) rfl (fun i_ => List.getD [(Ty.pr (Ty.bool false))] i_ Pr.any) ok7 rfl ⟨?_, trivial⟩ ?_
     · intro ax tx hs okx sm
       exact run_plain rfl (y_assign rfl)
     intro a9 s7 D7
     have ok8 := D7.ok
     have F8 := F7.step0 D7.stp
     have q21 : At (Ty.bool false) s7 a9 (.tmp 4) := D7.done 0
     clear D7
     refine tn ?_
     refine wp_ret ?_
     refine br ?_
     refine tr ?_
     refine tr ?_
     refine br ?_
     refine tr ?_
     exact ret1 rfl ok8 F8 (cvb (by (exact (decide_eq_false (fun e => by subst e; simp_all)).symm)) q21)
    ·
     refine wp_skip ?_
     refine bn ?_
     refine tn ?_
     refine reg (a := a8) (σ := s6) rfl (fun i_ => List.getD [(Ty.pr (Ty.nat k)), (Ty.pr (Ty.int (((k : Nat) : Int) + (1 : Int)))), (Ty.pr (Ty.int (((k : Nat) : Int) + (1 : Int))))] i_ Pr.any) ok7 rfl ⟨?_, ?_, ?_, trivial⟩ ?_
     · intro ax tx hs okx sm
       exact run_plain rfl (y_move (kp (sm 5 rfl) hs q17))
     · intro ax tx hs okx sm d0
       have e0 : At (Ty.nat k) tx ax (.tmp 15) := d0 rfl
       exact run_plain rfl (y_add e0 rfl (w64 (by omega) (by omega)))
     · intro ax tx hs okx sm d0 d1 d2
       have e1 : At (Ty.int (((k : Nat) : Int) + (1 : Int))) tx ax (.tmp 16) := d0 rfl
       have e0 : At (Ty.nat k) tx ax (.tmp 15) := d1 rfl
       exact run_plain rfl (y_assign e1)
     intro a10 s8 D8
     have ok9 := D8.ok
     have F9 := F7.step0 D8.stp
     have q22 : At (Ty.lst Ty.int xs) s8 a10 (.tmp 0) := D8.kt q18 rfl
     have q23 : At (Ty.lst Ty.int ys) s8 a10 (.tmp 1) := D8.kt q19 rfl
     have q24 : At (Ty.int (((k : Nat) : Int) + (1 : Int))) s8 a10 (.tmp 5) := D8.done 2
     clear D8
     exact tn ⟨xs.length - ((k+1)), by omega, s8, (k+1), rfl, F9, ok9, (cvi (by (first | rfl | omega | (simp_all; done) | (simp_all; omega))) q24), q22, q23, by omega, by omega, all_snoc heq (by assumption), rfl⟩
   ·
    refine wp_exit ?_
    refine tx ?_
    refine tx ?_
    refine bx ?_
    refine tn ?_
    refine wp_seq ?_
    refine reg (a := a7) (σ := s5) rfl (fun i_ => List.getD [(Ty.pr (Ty.bool true))] i_ Pr.any) ok6 rfl ⟨?_, trivial⟩ ?_
    · intro ax tx hs okx sm
      exact run_plain rfl (y_assign rfl)
    intro a11 s9 D9
    have ok10 := D9.ok
    have F10 := F6.step0 D9.stp
    have q25 : At (Ty.bool true) s9 a11 (.tmp 4) := D9.done 0
    clear D9
    refine tn ?_
    refine wp_ret ?_
    exact ret1 rfl ok10 F10 (cvb (by (exact (decide_eq_true (list_ext (by omega) (fun j hj => heq j (by omega)))).symm)) q25)


set_option maxHeartbeats 4000000 in
set_option maxRecDepth 100000 in
theorem rowAll_fn (n : Nat) (σ : GW)  (v0 : Value) (hv0 : Ty.has (Ty.nat n) σ v0)  (hn : n ≤ 12) :
    FnC Try.prog 84 #[v0] σ (Ty.nat (fct n)) := by
 refine fn_intro0 Try.func84 rfl Try.ntmps84 (Nat.le_of_ble_eq_true rfl) (fun s0 a0 hle F0 ok0 hargs => ?_)
 have p0 : At (Ty.nat n) s0 a0 (.tmp 0) := by have e := hargs 0 _ rfl; show Ty.has _ _ _; rw [e]; exact Ty.up _ hle hv0
 clear hargs
 refine wp_seq ?_
 refine reg (a := a0) (σ := s0) rfl (fun i_ => List.getD [(Ty.pr (Ty.int (0 : Int)))] i_ Pr.any) ok0 rfl ⟨?_, trivial⟩ ?_
 · intro ax tx hs okx sm
   exact run_plain rfl (y_assign rfl)
 intro a1 s1 D1
 have ok1 := D1.ok
 have F1 := F0.step0 D1.stp
 have q1 : At (Ty.nat n) s1 a1 (.tmp 0) := D1.kt p0 rfl
 clear D1
 refine tn ?_
 refine wp_seq ?_
 refine reg (a := a1) (σ := s1) rfl (fun i_ => List.getD [(Ty.pr (Ty.int (1 : Int)))] i_ Pr.any) ok1 rfl ⟨?_, trivial⟩ ?_
 · intro ax tx hs okx sm
   exact run_plain rfl (y_assign rfl)
 intro a2 s2 D2
 have ok2 := D2.ok
 have F2 := F1.step0 D2.stp
 have q2 : At (Ty.nat n) s2 a2 (.tmp 0) := D2.kt q1 rfl
 have q3 : At (Ty.int (1 : Int)) s2 a2 (.tmp 3) := D2.done 0
 clear D2
 refine tn ?_
 refine wp_seq ?_
 refine wp_seq ?_
 refine reg (a := a2) (σ := s2) rfl (fun i_ => List.getD [(Ty.pr (Ty.int (2 : Int)))] i_ Pr.any) ok2 rfl ⟨?_, trivial⟩ ?_
 · intro ax tx hs okx sm
   exact run_plain rfl (y_assign rfl)
 intro a3 s3 D3
 have ok3 := D3.ok
 have F3 := F2.step0 D3.stp
 have q4 : At (Ty.nat n) s3 a3 (.tmp 0) := D3.kt q2 rfl
 have q5 : At (Ty.int (1 : Int)) s3 a3 (.tmp 3) := D3.kt q3 rfl
 have q6 : At (Ty.int (2 : Int)) s3 a3 (.tmp 4) := D3.done 0
 clear D3
 refine tn ?_
 refine wp_block ?_
 refine loop (fun n1 a4 w1 => ∃ (t1 : GW) (j : Nat), t1.w = w1 ∧ FromL [] s0 t1 ∧ Ok 14 a4 ∧ At (Ty.nat (fct j)) t1 a4 (.tmp 3) ∧ At (Ty.nat (j + 1)) t1 a4 (.tmp 4) ∧ At (Ty.nat n) t1 a4 (.tmp 0) ∧ (1 ≤ j) ∧ (j ≤ n ∨ j = 1) ∧ n1 = n + 1 - j) (n + 1 - (1)) ?_ ?_
 ·
  exact ⟨s3, 1, rfl, F3, ok3, (cvi (by (rfl)) q5), (cvi (by (rfl)) q6), q4, by omega, by omega, rfl⟩
 ·
  rintro n2 a5 w2 ⟨t2, j, rfl, F4, ok4, q7, q8, q9, hj, hj2, rfl⟩
  refine wp_seq ?_
  refine wp_seq ?_
  refine reg (a := a5) (σ := t2) rfl (fun i_ => List.getD [(Ty.pr (Ty.nat (j + 1))), (Ty.pr (Ty.nat n)), (Ty.pr (Ty.bool (decide ((((j + 1) : Nat) : Int) ≤ ((n : Nat) : Int)))))] i_ Pr.any) ok4 rfl ⟨?_, ?_, ?_, trivial⟩ ?_
  · intro ax tx hs okx sm
    exact run_plain rfl (y_move (kp (sm 4 rfl) hs q8))
  · intro ax tx hs okx sm
    exact run_plain rfl (y_move (kp (sm 0 rfl) hs q9))
  · intro ax tx hs okx sm d0 d1
    have e0 : At (Ty.nat (j + 1)) tx ax (.tmp 5) := d0 rfl
    have e1 : At (Ty.nat n) tx ax (.tmp 6) := d1 rfl
    exact run_plain rfl (y_leq e0 e1)
  intro a6 s4 D4
  have ok5 := D4.ok
  have F5 := F4.step0 D4.stp
  have q10 : At (Ty.nat (fct j)) s4 a6 (.tmp 3) := D4.kt q7 rfl
  have q11 : At (Ty.nat (j + 1)) s4 a6 (.tmp 4) := D4.kt q8 rfl
  have q12 : At (Ty.nat n) s4 a6 (.tmp 0) := D4.kt q9 rfl
  have q13 : At (Ty.bool (decide ((((j + 1) : Nat) : Int) ≤ ((n : Nat) : Int)))) s4 a6 (.tmp 7) := D4.done 2
  clear D4
  refine tn ?_
  refine cond_p (p := ((((j + 1) : Nat) : Int) ≤ ((n : Nat) : Int))) q13 (fun c1 => ?_) (fun c1 => ?_)
  ·
   have hm : ((fct j : Nat) : Int) * ((j + 1 : Nat) : Int) ≤ 479001600 ∧ 0 ≤ ((fct j : Nat) : Int) * ((j + 1 : Nat) : Int) := (by have := fct_le12 (n := j + 1) (by omega); rw [fct, Nat.mul_comm] at this; rw [← Int.natCast_mul]; omega)
   refine wp_skip ?_
   refine tn ?_
   refine wp_seq ?_
   refine wp_block ?_
   refine reg (a := a6) (σ := s4) rfl (fun i_ => List.getD [(Ty.pr (Ty.nat (fct j))), (Ty.pr (Ty.nat (j + 1))), (Ty.pr (Ty.nat ((fct j) * (j + 1)))), (Ty.pr (Ty.nat ((fct j) * (j + 1))))] i_ Pr.any) ok5 rfl ⟨?_, ?_, ?_, ?_, trivial⟩ ?_
   · intro ax tx hs okx sm
     exact run_plain rfl (y_move (kp (sm 3 rfl) hs q10))
   · intro ax tx hs okx sm
     exact run_plain rfl (y_move (kp (sm 4 rfl) hs q11))
   · intro ax tx hs okx sm d0 d1
     have e0 : At (Ty.nat (fct j)) tx ax (.tmp 10) := d0 rfl
     have e1 : At (Ty.nat (j + 1)) tx ax (.tmp 11) := d1 rfl
     exact run_plain rfl ((y_mul e0 e1 (w64 (by omega) (by omega))).mono (fun τ _ h => cvi (σ := τ) (by first | omega | exact (Int.natCast_mul _ _).symm) h))
   · intro ax tx hs okx sm d0 d1 d2 d3
     have e2 : At (Ty.nat ((fct j) * (j + 1))) tx ax (.tmp 12) := d0 rfl
     have e0 : At (Ty.nat (fct j)) tx ax (.tmp 10) := d1 rfl
     have e1 : At (Ty.nat (j + 1)) tx ax (.tmp 11) := d2 rfl
     exact run_plain rfl (y_assign e2)
   intro a7 s5 D5
   have ok6 := D5.ok
   have F6 := F5.step0 D5.stp
   have q14 : At (Ty.nat (j + 1)) s5 a7 (.tmp 4) := D5.kt q11 rfl
   have q15 : At (Ty.nat n) s5 a7 (.tmp 0) := D5.kt q12 rfl
   have q16 : At (Ty.nat ((fct j) * (j + 1))) s5 a7 (.tmp 3) := D5.done 3
   clear D5
   refine bn ?_
   refine tn ?_
   refine reg (a := a7) (σ := s5) rfl (fun i_ => List.getD [(Ty.pr (Ty.nat (j + 1))), (Ty.pr (Ty.nat ((j + 1) + 1))), (Ty.pr (Ty.nat ((j + 1) + 1)))] i_ Pr.any) ok6 rfl ⟨?_, ?_, ?_, trivial⟩ ?_
   · intro ax tx hs okx sm
     exact run_plain rfl (y_move (kp (sm 4 rfl) hs q14))
   · intro ax tx hs okx sm d0
     have e0 : At (Ty.nat (j + 1)) tx ax (.tmp 8) := d0 rfl
     exact run_plain rfl ((y_add e0 rfl (w64 (by omega) (by omega))).mono (fun τ _ h => cvi (σ := τ) (by first | omega | exact (Int.natCast_mul _ _).symm) h))
   · intro ax tx hs okx sm d0 d1 d2
     have e1 : At (Ty.nat ((j + 1) + 1)) tx ax (.tmp 9) := d0 rfl
     have e0 : At (Ty.nat (j + 1)) tx ax (.tmp 8) := d1 rfl
     exact run_plain rfl (y_assign e1)
   intro a8 s6 D6
   have ok7 := D6.ok
   have F7 := F6.step0 D6.stp
   have q17 : At (Ty.nat n) s6 a8 (.tmp 0) := D6.kt q15 rfl
   have q18 : At (Ty.nat ((fct j) * (j + 1))) s6 a8 (.tmp 3) := D6.kt q16 rfl
   have q19 : At (Ty.nat ((j + 1) + 1)) s6 a8 (.tmp 4) := D6.done 2
   clear D6
   exact tn ⟨n + 1 - ((j + 1)), by omega, s6, (j + 1), rfl, F7, ok7, (cvi (by (rw [fct, Nat.mul_comm])) q18), (cvi (by (omega)) q19), q17, by omega, by omega, rfl⟩
  ·
   refine wp_exit ?_
   refine tx ?_
   refine tx ?_
   refine bx ?_
   refine tn ?_
   refine wp_seq ?_
   refine reg (a := a6) (σ := s4) rfl (fun i_ => List.getD [(Ty.pr (Ty.nat (fct j))), (Ty.pr (Ty.nat (fct j)))] i_ Pr.any) ok5 rfl ⟨?_, ?_, trivial⟩ ?_
   · intro ax tx hs okx sm
     exact run_plain rfl (y_move (kp (sm 3 rfl) hs q10))
   · intro ax tx hs okx sm d0 d1
     have e0 : At (Ty.nat (fct j)) tx ax (.tmp 13) := d0 rfl
     exact run_plain rfl (y_assign e0)
   intro a9 s7 D7
   have ok8 := D7.ok
   have F8 := F5.step0 D7.stp
   have q20 : At (Ty.nat (fct j)) s7 a9 (.tmp 2) := D7.done 1
   clear D7
   refine tn ?_
   refine wp_ret ?_
   exact retL1 rfl ok8 F8 (cvi (by (rw [fct_all hj hj2 (by omega)])) q20)


end Go.Proofs.Ytlhnpkaohfoicaa
