/- The functions that the law TruthMade reaches, each by its contract. Part 8. -/
import Derived.Test.YtbilebfnanlgfaaTruthMadeW7
namespace Go.Proofs.Ytbilebfnanlgfaa
open Go.KL

set_option maxHeartbeats 4000000 in
set_option maxRecDepth 100000 in
theorem rOrdered_fn : ∀ (d : Nat) (l : List (List Int)) (σ : GW)  (v0 : Value) (hv0 : Ty.has (Ty.lst Ty.ints l) σ v0)  (hd : d = l.length) (hl : l.length ≤ 1000000), FnC Try.prog 66 #[v0] σ (Ty.lst Ty.ints (ordS l)) := by
 intro d
 induction d using Nat.strongRecOn with
 | _ d ih =>
 intro l σ v0 hv0 hd hl
 refine fn_intro0 Try.func66 rfl Try.ntmps66 (Nat.le_of_ble_eq_true rfl) (fun s0 a0 hle F0 ok0 hargs => ?_)
 have p0 : At (Ty.lst Ty.ints l) s0 a0 (.tmp 0) := by have e := hargs 0 _ rfl; show Ty.has _ _ _; rw [e]; exact Ty.up _ hle hv0
 have b1 := sl_le p0
 clear hargs; refine wp_seq ?_
 refine rg a0 s0 [(Ty.val (Value.slice none 0 0))] ok0 ⟨?_, trivial⟩ ?_
 · intro G H I J O; exact rP (y_assign rfl)
 intro a1 s1 D1; have ok1 := D1.ok; have F1 := F0.step0 D1.stp; have q1 := D1.kt p0 rfl; clear D1; refine tn ?_; refine wp_seq ?_; refine wp_seq ?_
 refine rg a1 s1 [(Ty.lst Ty.ints l), (Ty.nat (List.length l)), (Ty.bool (decide ((((List.length l) : Nat) : Int) < (2 : Int))))] ok1 ⟨?_, ?_, ?_, trivial⟩ ?_
 · intro G H I J O; exact rP (y_move (kp (O 0 rfl) I q1))
 · intro G H I J O d0; exact rP (y_len Try.underlying29 (ed d0 rfl rfl rfl))
 · intro G H I J O d0; exact rP (y_lss (ed d0 rfl rfl rfl) rfl)
 intro a2 s2 D2; have ok2 := D2.ok; have F2 := F1.step0 D2.stp; have q2 := D2.kt q1 rfl; have q3 := D2.dn 2 rfl rfl; clear D2; refine tn ?_
 refine cond_p (p := ((((List.length l) : Nat) : Int) < (2 : Int))) q3 (fun c1 => ?_) (fun c1 => ?_)
 ·
  refine wp_seq ?_
  refine rg a2 s2 [(Ty.lst Ty.ints l), (Ty.lst Ty.ints l)] ok2 ⟨?_, ?_, trivial⟩ ?_
  · intro G H I J O; exact rP (y_move (kp (O 0 rfl) I q2))
  · intro G H I J O d0 d1; exact rP (y_assign (ed d0 rfl rfl rfl))
  intro a3 s3 D3; have ok3 := D3.ok; have F3 := F2.step0 D3.stp; have q4 := D3.dn 1 rfl rfl; clear D3; refine tn ?_; refine wp_ret ?_; refine tr ?_
  exact retL1 rfl ok3 F3 (cvt (by (rw [ordS_small (l := l) (by omega)])) q4)
 ·
  have htl : (List.take (l.length / 2) l).length = l.length / 2 := (by rw [List.length_take]; omega); have hdl : (List.drop (l.length / 2) l).length = l.length - l.length / 2 := List.length_drop; obtain ⟨A, hA⟩ : ∃ A, A = ordS (List.take (l.length / 2) l) := ⟨_, rfl⟩; obtain ⟨B, hB⟩ : ∃ B, B = ordS (List.drop (l.length / 2) l) := ⟨_, rfl⟩; have hAl : A.length = l.length / 2 := (by rw [hA, ordS_len, htl]); have hBl : B.length = l.length - l.length / 2 := (by rw [hB, ordS_len, hdl]); have hT : List.merge A B leL = ordS l := (by rw [hA, hB]; exact (ordS_big (l := l) (by omega)).symm)
  refine wp_skip ?_; refine tn ?_; refine wp_seq ?_
  refine rg a2 s2 [(Ty.lst Ty.ints l), (Ty.lst Ty.ints l), (Ty.nat (List.length l)), (Ty.nat ((List.length l) / 2)), (Ty.lst Ty.ints (l.take ((List.length l) / 2))), (Ty.lst Ty.ints A), (Ty.lst Ty.ints A)] ok2 ⟨?_, ?_, ?_, ?_, ?_, ?_, ?_, trivial⟩ ?_
  · intro G H I J O; exact rP (y_move (kp (O 0 rfl) I q2))
  · intro G H I J O; exact rP (y_move (kp (O 0 rfl) I q2))
  · intro G H I J O d0; exact rP (y_len Try.underlying29 (ed d0 rfl rfl rfl))
  · intro G H I J O d0; exact rP (y_quoN (ed d0 rfl rfl rfl) (toN (σ := H) rfl (by omega)) (by omega) (by omega))
  · intro G H I J O d0 d1; exact rP (y_take Try.underlying29 Try.inf23 (ed d0 rfl rfl rfl) (ed d1 rfl rfl rfl) (by omega))
  · intro G H I J O d0; exact rP ((y_call #[G.eval (.tmp 16)] Try.func66 rfl rfl (by simp only [List.map_toArray, List.map_cons, List.map_nil]) (ih (((l.take ((List.length l) / 2))).length) (by omega) ((l.take ((List.length l) / 2))) _ _ (ed d0 rfl rfl rfl) (by first | omega | assumption) (by first | omega | assumption))).mono (fun τ _ h => cvt (σ := τ) (T := (Ty.lst Ty.ints (ordS ((l.take ((List.length l) / 2)))))) (U := (Ty.lst Ty.ints A)) (by rw [hA]) h))
  · intro G H I J O d0 d1 d2 d3 d4 d5 d6 d7; exact rP (y_assign (ed d0 rfl rfl rfl))
  intro a4 s4 D4; have ok4 := D4.ok; have F4 := F2.step0 D4.stp; have q5 := D4.kt q2 rfl; have q6 := D4.dn 6 rfl rfl; clear D4; refine tn ?_; refine wp_seq ?_
  refine rg a4 s4 [(Ty.lst Ty.ints l), (Ty.lst Ty.ints l), (Ty.nat (List.length l)), (Ty.nat ((List.length l) / 2)), (Ty.lst Ty.ints (l.drop ((List.length l) / 2))), (Ty.lst Ty.ints B), (Ty.lst Ty.ints B)] ok4 ⟨?_, ?_, ?_, ?_, ?_, ?_, ?_, trivial⟩ ?_
  · intro G H I J O; exact rP (y_move (kp (O 0 rfl) I q5))
  · intro G H I J O; exact rP (y_move (kp (O 0 rfl) I q5))
  · intro G H I J O d0; exact rP (y_len Try.underlying29 (ed d0 rfl rfl rfl))
  · intro G H I J O d0; exact rP (y_quoN (ed d0 rfl rfl rfl) (toN (σ := H) rfl (by omega)) (by omega) (by omega))
  · intro G H I J O d0 d1; exact rP (y_drop Try.underlying29 Try.inf23 (ed d0 rfl rfl rfl) (ed d1 rfl rfl rfl) (by omega))
  · intro G H I J O d0; exact rP ((y_call #[G.eval (.tmp 22)] Try.func66 rfl rfl (by simp only [List.map_toArray, List.map_cons, List.map_nil]) (ih (((l.drop ((List.length l) / 2))).length) (by omega) ((l.drop ((List.length l) / 2))) _ _ (ed d0 rfl rfl rfl) (by first | omega | assumption) (by first | omega | assumption))).mono (fun τ _ h => cvt (σ := τ) (T := (Ty.lst Ty.ints (ordS ((l.drop ((List.length l) / 2)))))) (U := (Ty.lst Ty.ints B)) (by rw [hB]) h))
  · intro G H I J O d0 d1 d2 d3 d4 d5 d6 d7; exact rP (y_assign (ed d0 rfl rfl rfl))
  intro a5 s5 D5; have ok5 := D5.ok; have F5 := F4.step0 D5.stp; have q7 := D5.kt q6 rfl; have q8 := D5.dn 6 rfl rfl; clear D5; refine tn ?_; refine wp_seq ?_
  refine rg a5 s5 [(Ty.val (Value.slice none 0 0))] ok5 ⟨?_, trivial⟩ ?_
  · intro G H I J O; exact rP (y_assign rfl)
  intro a6 s6 D6; have ok6 := D6.ok; have F6 := F5.step0 D6.stp; have q9 := D6.kt q7 rfl; have q10 := D6.kt q8 rfl; have q11 := D6.dn 0 rfl rfl; clear D6; refine tn ?_; refine wp_seq ?_
  refine rg a6 s6 [(Ty.int (0 : Int))] ok6 ⟨?_, trivial⟩ ?_
  · intro G H I J O; exact rP (y_assign rfl)
  intro a7 s7 D7; have ok7 := D7.ok; have F7 := F6.step0 D7.stp; have q12 := D7.kt q9 rfl; have q13 := D7.kt q10 rfl; have q14 := D7.kt q11 rfl; have q15 := D7.dn 0 rfl rfl; clear D7; refine tn ?_; refine wp_seq ?_
  refine rg a7 s7 [(Ty.int (0 : Int))] ok7 ⟨?_, trivial⟩ ?_
  · intro G H I J O; exact rP (y_assign rfl)
  intro a8 s8 D8; have ok8 := D8.ok; have F8 := F7.step0 D8.stp; have q16 := D8.kt q12 rfl; have q17 := D8.kt q13 rfl; have q18 := D8.kt q14 rfl; have q19 := D8.kt q15 rfl; have q20 := D8.dn 0 rfl rfl; clear D8; refine tn ?_; refine wp_seq ?_; refine wp_block ?_
  have o1 : Own s8 5 23 1 (Value.slice none 0 0) 0 (List.map Ty.ints ([] : List (List Int))) := Own.nil _ _ _ _
  refine loop (fun n1 a9 w1 => ∃ (t1 : GW) (i : Nat) (k : Nat) (out : List (List Int)) (x5_0 : Value), t1.w = w1 ∧ FromL [] s0 t1 ∧ Ok 75 a9 ∧ At (Ty.nat i) t1 a9 (.tmp 6) ∧ At (Ty.nat k) t1 a9 (.tmp 7) ∧ At (Ty.val x5_0) t1 a9 (.tmp 5) ∧ At (Ty.lst Ty.ints A) t1 a9 (.tmp 3) ∧ At (Ty.lst Ty.ints B) t1 a9 (.tmp 4) ∧ Own t1 5 23 1 x5_0 (List.length out) (List.map Ty.ints out) ∧ (out ++ List.merge (A.drop i) (B.drop k) leL = ordS l) ∧ (i ≤ A.length) ∧ (k ≤ B.length) ∧ (out.length = i + k) ∧ n1 = (A.length + B.length) - (i + k)) ((A.length + B.length) - ((0) + (0))) ?_ ?_
  ·
   exact ⟨s8, 0, 0, ([] : List (List Int)), (Value.slice none 0 0), rfl, F8, ok8, (cvi (by (rfl)) q19), (cvi (by (rfl)) q20), q18, q16, q17, (cvo (by (simp)) (by (simp)) o1), by rw [List.nil_append]; exact hT, by omega, by omega, rfl, rfl⟩
  ·
   rintro n2 a10 w2 ⟨t2, i, k, out, x5_0, rfl, F9, ok9, q21, q22, q23, q24, q25, o2, ho, hi, hk, hol, rfl⟩
   refine wp_seq ?_; refine wp_seq ?_
   refine reg (a := a10) (σ := t2) rfl (fun i_ => List.getD [(Ty.pr (Ty.nat i)), (Ty.pr (Ty.lst Ty.ints A)), (Ty.pr (Ty.nat (List.length A))), (Ty.pr (Ty.bool (decide (((i : Nat) : Int) < (((List.length A) : Nat) : Int))))), (Ty.pr (Ty.bool (decide (((i : Nat) : Int) < (((List.length A) : Nat) : Int))))), (Ty.pr (Ty.grd ((decide (((i : Nat) : Int) < (((List.length A) : Nat) : Int))) = false) (Ty.nat k))), (Ty.pr (Ty.grd ((decide (((i : Nat) : Int) < (((List.length A) : Nat) : Int))) = false) (Ty.lst Ty.ints B))), (Ty.pr (Ty.grd ((decide (((i : Nat) : Int) < (((List.length A) : Nat) : Int))) = false) (Ty.nat (List.length B)))), (Ty.pr (Ty.grd ((decide (((i : Nat) : Int) < (((List.length A) : Nat) : Int))) = false) (Ty.bool (decide (((k : Nat) : Int) < (((List.length B) : Nat) : Int)))))), (Ty.pr (Ty.bool ((decide (((i : Nat) : Int) < (((List.length A) : Nat) : Int))) || (decide (((k : Nat) : Int) < (((List.length B) : Nat) : Int))))))] i_ Pr.any) ok9 rfl ⟨?_, ?_, ?_, ?_, ?_, ?_, ?_, ?_, ?_, ?_, trivial⟩ ?_
   · intro G H I J O; exact rP (y_move (kp (O 6 rfl) I q21))
   · intro G H I J O; exact rP (y_move (kp (O 3 rfl) I q24))
   · intro G H I J O d0; exact rP (y_len Try.underlying29 (ed d0 rfl rfl rfl))
   · intro G H I J O d0 d1; exact rP (y_lss (ed d0 rfl rfl rfl) (ed d1 rfl rfl rfl))
   · intro G H I J O d0; exact rP (y_move (ed d0 rfl rfl rfl))
   · intro G H I J O d0
     refine run_guard J rfl rfl (by decide) (ed d0 rfl rfl rfl) (fun hg => ?_)
     have hp := of_decide_eq_false hg
     exact y_move (kp (O 7 rfl) I q22)
   · intro G H I J O d0
     refine run_guard J rfl rfl (by decide) (ed d0 rfl rfl rfl) (fun hg => ?_)
     have hp := of_decide_eq_false hg
     exact y_move (kp (O 4 rfl) I q25)
   · intro G H I J O d0 d1
     refine run_guard J rfl rfl (by decide) (ed d1 rfl rfl rfl) (fun hg => ?_)
     have hp := of_decide_eq_false hg
     exact y_len Try.underlying29 ((ed d0 rfl rfl rfl).1 hg)
   · intro G H I J O d0 d1 d2
     refine run_guard J rfl rfl (by decide) (ed d2 rfl rfl rfl) (fun hg => ?_)
     have hp := of_decide_eq_false hg
     exact y_lss ((ed d0 rfl rfl rfl).1 hg) ((ed d1 rfl rfl rfl).1 hg)
   · intro G H I J O d0 d1; exact rP (y_pick_or (ed d0 rfl rfl rfl) rfl (ed d1 rfl rfl rfl))
   intro a11 s9 D9; have ok10 := D9.ok; have F10 := F9.step0 D9.stp; have q26 := D9.kt q21 rfl; have q27 := D9.kt q22 rfl; have q28 := D9.kt q23 rfl; have q29 := D9.kt q24 rfl; have q30 := D9.kt q25 rfl; have o3 := Own.k0 o2 D9.stp; have q31 := D9.dn 9 rfl rfl; clear D9; refine tn ?_
   refine cond_t q31 (fun c2 => ?_) (fun c2 => ?_)
   ·
    have hq2 : i < A.length ∨ k < B.length := (by simp only [Bool.or_eq_true, decide_eq_true_eq] at c2; omega)
    refine wp_skip ?_; refine tn ?_; refine wp_block ?_; refine wp_seq ?_
    refine rg a11 s9 [(Ty.nat i), (Ty.lst Ty.ints A), (Ty.nat (List.length A)), (Ty.bool (decide (((i : Nat) : Int) < (((List.length A) : Nat) : Int)))), (Ty.bool (decide (((i : Nat) : Int) < (((List.length A) : Nat) : Int)))), (Ty.grd ((decide (((i : Nat) : Int) < (((List.length A) : Nat) : Int))) = true) (Ty.nat k)), (Ty.grd ((decide (((i : Nat) : Int) < (((List.length A) : Nat) : Int))) = true) (Ty.lst Ty.ints B)), (Ty.grd ((decide (((i : Nat) : Int) < (((List.length A) : Nat) : Int))) = true) (Ty.nat (List.length B))), (Ty.grd ((decide (((i : Nat) : Int) < (((List.length A) : Nat) : Int))) = true) (Ty.bool (decide (((k : Nat) : Int) = (((List.length B) : Nat) : Int))))), (Ty.grd ((decide (((i : Nat) : Int) < (((List.length A) : Nat) : Int))) = true) (Ty.bool (decide (((k : Nat) : Int) = (((List.length B) : Nat) : Int))))), (Ty.grd (((decide (((i : Nat) : Int) < (((List.length A) : Nat) : Int))) = true) ∧ (decide (((k : Nat) : Int) = (((List.length B) : Nat) : Int))) = false) (Ty.lst Ty.ints B)), (Ty.grd (((decide (((i : Nat) : Int) < (((List.length A) : Nat) : Int))) = true) ∧ (decide (((k : Nat) : Int) = (((List.length B) : Nat) : Int))) = false) (Ty.nat k)), (Ty.grd (((decide (((i : Nat) : Int) < (((List.length A) : Nat) : Int))) = true) ∧ (decide (((k : Nat) : Int) = (((List.length B) : Nat) : Int))) = false) (Ty.ref [(Ty.lst Ty.int (B.getD k []))])), (Ty.grd (((decide (((i : Nat) : Int) < (((List.length A) : Nat) : Int))) = true) ∧ (decide (((k : Nat) : Int) = (((List.length B) : Nat) : Int))) = false) (Ty.lst Ty.int (B.getD k []))), (Ty.grd (((decide (((i : Nat) : Int) < (((List.length A) : Nat) : Int))) = true) ∧ (decide (((k : Nat) : Int) = (((List.length B) : Nat) : Int))) = false) (Ty.lst Ty.ints A)), (Ty.grd (((decide (((i : Nat) : Int) < (((List.length A) : Nat) : Int))) = true) ∧ (decide (((k : Nat) : Int) = (((List.length B) : Nat) : Int))) = false) (Ty.nat i)), (Ty.grd (((decide (((i : Nat) : Int) < (((List.length A) : Nat) : Int))) = true) ∧ (decide (((k : Nat) : Int) = (((List.length B) : Nat) : Int))) = false) (Ty.ref [(Ty.lst Ty.int (A.getD i []))])), (Ty.grd (((decide (((i : Nat) : Int) < (((List.length A) : Nat) : Int))) = true) ∧ (decide (((k : Nat) : Int) = (((List.length B) : Nat) : Int))) = false) (Ty.lst Ty.int (A.getD i []))), (Ty.grd (((decide (((i : Nat) : Int) < (((List.length A) : Nat) : Int))) = true) ∧ (decide (((k : Nat) : Int) = (((List.length B) : Nat) : Int))) = false) (Ty.bool (belowL ((B.getD k [])) ((A.getD i []))))), (Ty.grd (((decide (((i : Nat) : Int) < (((List.length A) : Nat) : Int))) = true) ∧ (decide (((k : Nat) : Int) = (((List.length B) : Nat) : Int))) = false) (Ty.bool (!(belowL ((B.getD k [])) ((A.getD i [])))))), (Ty.grd ((decide (((i : Nat) : Int) < (((List.length A) : Nat) : Int))) = true) (Ty.bool ((decide (((k : Nat) : Int) = (((List.length B) : Nat) : Int))) || (!(belowL ((B.getD k [])) ((A.getD i []))))))), (Ty.bool ((decide (((i : Nat) : Int) < (((List.length A) : Nat) : Int))) && ((decide (((k : Nat) : Int) = (((List.length B) : Nat) : Int))) || (!(belowL ((B.getD k [])) ((A.getD i [])))))))] ok10 ⟨?_, ?_, ?_, ?_, ?_, ?_, ?_, ?_, ?_, ?_, ?_, ?_, ?_, ?_, ?_, ?_, ?_, ?_, ?_, ?_, ?_, ?_, trivial⟩ ?_
    · intro G H I J O; exact rP (y_move (kp (O 6 rfl) I q26))
    · intro G H I J O; exact rP (y_move (kp (O 3 rfl) I q29))
    · intro G H I J O d0; exact rP (y_len Try.underlying29 (ed d0 rfl rfl rfl))
    · intro G H I J O d0 d1; exact rP (y_lss (ed d0 rfl rfl rfl) (ed d1 rfl rfl rfl))
    · intro G H I J O d0; exact rP (y_move (ed d0 rfl rfl rfl))
    · intro G H I J O d0
      refine run_guard J rfl rfl (by decide) (ed d0 rfl rfl rfl) (fun hg => ?_)
      have hp := of_decide_eq_true hg
      exact y_move (kp (O 7 rfl) I q27)
    · intro G H I J O d0
      refine run_guard J rfl rfl (by decide) (ed d0 rfl rfl rfl) (fun hg => ?_)
      have hp := of_decide_eq_true hg
      exact y_move (kp (O 4 rfl) I q30)
    · intro G H I J O d0 d1
      refine run_guard J rfl rfl (by decide) (ed d1 rfl rfl rfl) (fun hg => ?_)
      have hp := of_decide_eq_true hg
      exact y_len Try.underlying29 ((ed d0 rfl rfl rfl).1 hg)
    · intro G H I J O d0 d1 d2
      refine run_guard J rfl rfl (by decide) (ed d2 rfl rfl rfl) (fun hg => ?_)
      have hp := of_decide_eq_true hg
      exact y_eql ((ed d0 rfl rfl rfl).1 hg) ((ed d1 rfl rfl rfl).1 hg)
    · intro G H I J O d0 d1 d2
      refine run_guard J rfl rfl (by decide) (ed d1 rfl rfl rfl) (fun hg => ?_)
      have hp := of_decide_eq_true hg
      exact y_move ((ed d0 rfl rfl rfl).1 hg)
    · intro G H I J O d0
      refine run_guard2 J rfl rfl (by decide) (ed d0 rfl rfl rfl) (fun hg => ?_)
      have hp := of_decide_eq_false hg.2
      have hp0 := hg.1; try simp only [Bool.and_eq_true, Bool.or_eq_true, decide_eq_true_eq, decide_eq_false_iff_not] at hp0
      exact y_move (kp (O 4 rfl) I q30)
    · intro G H I J O d0
      refine run_guard2 J rfl rfl (by decide) (ed d0 rfl rfl rfl) (fun hg => ?_)
      have hp := of_decide_eq_false hg.2
      have hp0 := hg.1; try simp only [Bool.and_eq_true, Bool.or_eq_true, decide_eq_true_eq, decide_eq_false_iff_not] at hp0
      exact y_move (kp (O 7 rfl) I q27)
    · intro G H I J O d0 d1 d2
      refine run_guard2 J rfl rfl (by decide) (ed d2 rfl rfl rfl) (fun hg => ?_)
      have hp := of_decide_eq_false hg.2
      have hp0 := hg.1; try simp only [Bool.and_eq_true, Bool.or_eq_true, decide_eq_true_eq, decide_eq_false_iff_not] at hp0
      exact y_index1 Try.underlying29 Try.inf23 ((ed d0 rfl rfl rfl).1 hg) ((ed d1 rfl rfl rfl).1 hg) (by omega) (lst_get Ty.ints B [] k (by omega))
    · intro G H I J O d0 d1
      refine run_guard2 J rfl rfl (by decide) (ed d1 rfl rfl rfl) (fun hg => ?_)
      have hp := of_decide_eq_false hg.2
      have hp0 := hg.1; try simp only [Bool.and_eq_true, Bool.or_eq_true, decide_eq_true_eq, decide_eq_false_iff_not] at hp0
      exact y_load Try.underlying23 rfl ((ed d0 rfl rfl rfl).1 hg) rfl
    · intro G H I J O d0
      refine run_guard2 J rfl rfl (by decide) (ed d0 rfl rfl rfl) (fun hg => ?_)
      have hp := of_decide_eq_false hg.2
      have hp0 := hg.1; try simp only [Bool.and_eq_true, Bool.or_eq_true, decide_eq_true_eq, decide_eq_false_iff_not] at hp0
      exact y_move (kp (O 3 rfl) I q29)
    · intro G H I J O d0
      refine run_guard2 J rfl rfl (by decide) (ed d0 rfl rfl rfl) (fun hg => ?_)
      have hp := of_decide_eq_false hg.2
      have hp0 := hg.1; try simp only [Bool.and_eq_true, Bool.or_eq_true, decide_eq_true_eq, decide_eq_false_iff_not] at hp0
      exact y_move (kp (O 6 rfl) I q26)
    · intro G H I J O d0 d1 d2
      refine run_guard2 J rfl rfl (by decide) (ed d2 rfl rfl rfl) (fun hg => ?_)
      have hp := of_decide_eq_false hg.2
      have hp0 := hg.1; try simp only [Bool.and_eq_true, Bool.or_eq_true, decide_eq_true_eq, decide_eq_false_iff_not] at hp0
      exact y_index1 Try.underlying29 Try.inf23 ((ed d0 rfl rfl rfl).1 hg) ((ed d1 rfl rfl rfl).1 hg) (by omega) (lst_get Ty.ints A [] i (by omega))
    · intro G H I J O d0 d1
      refine run_guard2 J rfl rfl (by decide) (ed d1 rfl rfl rfl) (fun hg => ?_)
      have hp := of_decide_eq_false hg.2
      have hp0 := hg.1; try simp only [Bool.and_eq_true, Bool.or_eq_true, decide_eq_true_eq, decide_eq_false_iff_not] at hp0
      exact y_load Try.underlying23 rfl ((ed d0 rfl rfl rfl).1 hg) rfl
    · intro G H I J O d0 d1 d2 d3
      refine run_guard2 J rfl rfl (by decide) (ed d2 rfl rfl rfl) (fun hg => ?_)
      have hp := of_decide_eq_false hg.2
      have hp0 := hg.1; try simp only [Bool.and_eq_true, Bool.or_eq_true, decide_eq_true_eq, decide_eq_false_iff_not] at hp0
      exact y_call #[G.eval (.tmp 47), G.eval (.tmp 51)] Try.func39 rfl rfl (by simp only [List.map_toArray, List.map_cons, List.map_nil]) (rBelow_fn ((B.getD k [])) ((A.getD i [])) _ _ _ ((ed d0 rfl rfl rfl).1 hg) ((ed d1 rfl rfl rfl).1 hg) )
    · intro G H I J O d0 d1
      refine run_guard2 J rfl rfl (by decide) (ed d1 rfl rfl rfl) (fun hg => ?_)
      have hp := of_decide_eq_false hg.2
      have hp0 := hg.1; try simp only [Bool.and_eq_true, Bool.or_eq_true, decide_eq_true_eq, decide_eq_false_iff_not] at hp0
      exact y_not ((ed d0 rfl rfl rfl).1 hg)
    · intro G H I J O d0 d1 d2
      refine run_guard J rfl rfl (by decide) (ed d2 rfl rfl rfl) (fun hg => ?_)
      have hp := of_decide_eq_true hg
      exact y_pick_or ((ed d0 rfl rfl rfl).1 hg) rfl (grd_part hg (ed d1 rfl rfl rfl))
    · intro G H I J O d0 d1; exact rP (y_pick_and (ed d0 rfl rfl rfl) (ed d1 rfl rfl rfl) rfl)
    intro a12 s10 D10; have ok11 := D10.ok; have F11 := F10.step0 D10.stp; have q32 := D10.kt q26 rfl; have q33 := D10.kt q27 rfl; have q34 := D10.kt q28 rfl; have q35 := D10.kt q29 rfl; have q36 := D10.kt q30 rfl; have o4 := Own.k0 o3 D10.stp; have q37 := D10.dn 21 rfl rfl; clear D10; refine tn ?_
    refine cond_t q37 (fun c3 => ?_) (fun c3 => ?_)
    ·
     obtain ⟨d1, d2⟩ := Bool.and_eq_true_iff.mp c3
     replace d1 := of_decide_eq_true d1
     simp only [Bool.and_eq_true, Bool.or_eq_true, Bool.not_eq_true', decide_eq_true_eq] at c3; have hiA : i < A.length := (by omega); have hx : B.length ≤ k ∨ belowL (B.getD k []) (A.getD i []) = false := (by rcases c3 with ⟨_, h_ | h_⟩; exact .inl (by omega); exact .inr h_)
     refine wp_seq ?_
     refine reg2 (a := a12) (σ := s10) rfl 6 (fun i_ => List.getD [(Ty.pr (Ty.val x5_0)), (Ty.pr (Ty.lst Ty.ints A)), (Ty.pr (Ty.nat i)), (Ty.pr (Ty.ref [(Ty.lst Ty.int (A.getD i []))])), (Ty.pr (Ty.lst Ty.int (A.getD i []))), (Ty.pr (Ty.sl 1 1 [(Ty.lst Ty.int (A.getD i []))]))] i_ Pr.any) ok11 rfl (by decide) rfl ⟨?_, ?_, ?_, ?_, ?_, ?_, trivial⟩ ?_
     · intro G H I J O; exact rP (y_move (kp (O 5 rfl) I q34))
     · intro G H I J O; exact rP (y_move (kp (O 3 rfl) I q35))
     · intro G H I J O; exact rP (y_move (kp (O 6 rfl) I q32))
     · intro G H I J O d0 d1; exact rP (y_index1 Try.underlying29 Try.inf23 (ed d0 rfl rfl rfl) (ed d1 rfl rfl rfl) (by omega) (lst_get Ty.ints A [] i (by omega)))
     · intro G H I J O d0; exact rP (y_load Try.underlying23 rfl (ed d0 rfl rfl rfl) rfl)
     · intro G H I J O d0; exact rP (y_build1o Try.underlying29 Try.inf23 rfl (one_sl) (ed d0 rfl rfl rfl))
     intro a13 s11 D11; have ok12 := D11.ok; have F12 := F11.step0 D11.stp; have q38 := D11.kt q32 rfl; have q39 := D11.kt q33 rfl; have q40 := D11.kt q34 rfl; have q41 := D11.kt q35 rfl; have q42 := D11.kt q36 rfl; have o5 := Own.k0 o4 D11.stp
     have q43 : At (Ty.val x5_0) s11 a13 (.tmp 56) := D11.done 0 (by decide)
     have q44 := D11.dn 5 (by decide) rfl rfl
     have b2 := sl_le q44
     clear D11
     refine tailL (L := [5]) (R := (fun v τ => Own τ 5 23 1 v ((List.length out) + 1) ((List.map Ty.ints out) ++ [(Ty.lst Ty.int (A.getD i []))]))) rfl rfl (by decide) ok12 (YldM.toL (m_append Try.underlying29 Try.inf23 (by decide) rfl (by decide) (al (R := (Pr.own 5 23 1 (List.length out) (List.map Ty.ints out))) q43 o5) q44 (by intro U hU; simp at hU; subst hU; exact one_sl) (by omega) (by omega))) (fun a14 s12 hs1 ok13 r1 sm1 => ?_)
     have F13 := F12.stepL hs1 (by decide); have q45 := kpL hs1 (by decide) (sm1 6 (by decide)) q38; have q46 := kpL hs1 (by decide) (sm1 7 (by decide)) q39; have q47 := kpL hs1 (by decide) (sm1 5 (by decide)) q40; have q48 := kpL hs1 (by decide) (sm1 3 (by decide)) q41; have q49 := kpL hs1 (by decide) (sm1 4 (by decide)) q42
     obtain ⟨x1, hx1⟩ : ∃ x, a14.eval (.tmp 62) = x := ⟨_, rfl⟩
     have q50 : At (Ty.val x1) s12 a14 (.tmp 62) := hx1
     have o6 : Own s12 5 23 1 x1 (List.length (out ++ [(A.getD i [])])) (List.map Ty.ints (out ++ [(A.getD i [])])) := al2 (R := (Pr.own 5 23 1 (List.length (out ++ [(A.getD i [])])) (List.map Ty.ints (out ++ [(A.getD i [])])))) hx1 (cvo (by simp) (by first | (rw [List.map_append]; rfl) | simp) r1)
     clear r1
     refine tailL (L := []) (R := (fun v τ => Pr.has (Ty.pr (Ty.val x1)) τ v)) rfl rfl (by decide) ok13 (Yld.toL (y_assign q50)) (fun a15 s13 hs2 ok14 r2 sm2 => ?_)
     have F14 := F13.stepL hs2 (by decide); have q51 := kpL hs2 (by decide) (sm2 6 (by decide)) q45; have q52 := kpL hs2 (by decide) (sm2 7 (by decide)) q46; have q53 := kpL hs2 (by decide) (sm2 3 (by decide)) q48; have q54 := kpL hs2 (by decide) (sm2 4 (by decide)) q49; have o7 := Own.keepL o6 hs2 (by decide) (by decide)
     have q55 : At (Ty.val x1) s13 a15 (.tmp 5) := r2
     clear r2; refine wpList_nil ?_; refine tn ?_
     refine rg a15 s13 [(Ty.nat i), (Ty.nat (i + 1)), (Ty.nat (i + 1))] ok14 ⟨?_, ?_, ?_, trivial⟩ ?_
     · intro G H I J O; exact rP (y_move (kp (O 6 rfl) I q51))
     · intro G H I J O d0; exact rP ((y_add (ed d0 rfl rfl rfl) rfl (w64 (by omega) (by omega))).mono (fun τ _ h => cvi (σ := τ) (by first | omega | exact (Int.natCast_mul _ _).symm) h))
     · intro G H I J O d0 d1 d2; exact rP (y_assign (ed d0 rfl rfl rfl))
     intro a16 s14 D12; have ok15 := D12.ok; have F15 := F14.step0 D12.stp; have q56 := D12.kt q52 rfl; have q57 := D12.kt q53 rfl; have q58 := D12.kt q54 rfl; have q59 := D12.kt q55 rfl; have o8 := Own.k0 o7 D12.stp; have q60 := D12.dn 2 rfl rfl; clear D12; refine bn ?_
     exact tn ⟨(A.length + B.length) - (((i + 1)) + k), by omega, s14, (i + 1), k, (out ++ [(A.getD i [])]), x1, rfl, F15, ok15, (cvi (by (first | rfl | omega | (simp_all; done) | (simp_all; omega))) q60), q56, q59, q57, q58, (cvo (by (simp)) (by (simp)) o8), out_left ho (by omega) hx, by omega, by omega, by rw [List.length_append, List.length_singleton]; omega, rfl⟩
    ·
     simp only [Bool.and_eq_false_iff, Bool.or_eq_false_iff, Bool.not_eq_false', decide_eq_false_iff_not] at c3; have hkB : k < B.length := (by omega); have hx : A.length ≤ i ∨ belowL (B.getD k []) (A.getD i []) = true := (by rcases c3 with h_ | ⟨_, h_⟩; exact .inl (by omega); exact .inr h_)
     refine wp_seq ?_
     refine reg2 (a := a12) (σ := s10) rfl 6 (fun i_ => List.getD [(Ty.pr (Ty.val x5_0)), (Ty.pr (Ty.lst Ty.ints B)), (Ty.pr (Ty.nat k)), (Ty.pr (Ty.ref [(Ty.lst Ty.int (B.getD k []))])), (Ty.pr (Ty.lst Ty.int (B.getD k []))), (Ty.pr (Ty.sl 1 1 [(Ty.lst Ty.int (B.getD k []))]))] i_ Pr.any) ok11 rfl (by decide) rfl ⟨?_, ?_, ?_, ?_, ?_, ?_, trivial⟩ ?_
     · intro G H I J O; exact rP (y_move (kp (O 5 rfl) I q34))
     · intro G H I J O; exact rP (y_move (kp (O 4 rfl) I q36))
     · intro G H I J O; exact rP (y_move (kp (O 7 rfl) I q33))
     · intro G H I J O d0 d1; exact rP (y_index1 Try.underlying29 Try.inf23 (ed d0 rfl rfl rfl) (ed d1 rfl rfl rfl) (by omega) (lst_get Ty.ints B [] k (by omega)))
     · intro G H I J O d0; exact rP (y_load Try.underlying23 rfl (ed d0 rfl rfl rfl) rfl)
     · intro G H I J O d0; exact rP (y_build1o Try.underlying29 Try.inf23 rfl (one_sl) (ed d0 rfl rfl rfl))
     intro a17 s15 D13; have ok16 := D13.ok; have F16 := F11.step0 D13.stp; have q61 := D13.kt q32 rfl; have q62 := D13.kt q33 rfl; have q63 := D13.kt q34 rfl; have q64 := D13.kt q35 rfl; have q65 := D13.kt q36 rfl; have o9 := Own.k0 o4 D13.stp
     have q66 : At (Ty.val x5_0) s15 a17 (.tmp 65) := D13.done 0 (by decide)
     have q67 := D13.dn 5 (by decide) rfl rfl
     have b3 := sl_le q67
     clear D13
     refine tailL (L := [5]) (R := (fun v τ => Own τ 5 23 1 v ((List.length out) + 1) ((List.map Ty.ints out) ++ [(Ty.lst Ty.int (B.getD k []))]))) rfl rfl (by decide) ok16 (YldM.toL (m_append Try.underlying29 Try.inf23 (by decide) rfl (by decide) (al (R := (Pr.own 5 23 1 (List.length out) (List.map Ty.ints out))) q66 o9) q67 (by intro U hU; simp at hU; subst hU; exact one_sl) (by omega) (by omega))) (fun a18 s16 hs3 ok17 r3 sm3 => ?_)
     have F17 := F16.stepL hs3 (by decide); have q68 := kpL hs3 (by decide) (sm3 6 (by decide)) q61; have q69 := kpL hs3 (by decide) (sm3 7 (by decide)) q62; have q70 := kpL hs3 (by decide) (sm3 5 (by decide)) q63; have q71 := kpL hs3 (by decide) (sm3 3 (by decide)) q64; have q72 := kpL hs3 (by decide) (sm3 4 (by decide)) q65
     obtain ⟨x2, hx2⟩ : ∃ x, a18.eval (.tmp 71) = x := ⟨_, rfl⟩
     have q73 : At (Ty.val x2) s16 a18 (.tmp 71) := hx2
     have o10 : Own s16 5 23 1 x2 (List.length (out ++ [(B.getD k [])])) (List.map Ty.ints (out ++ [(B.getD k [])])) := al2 (R := (Pr.own 5 23 1 (List.length (out ++ [(B.getD k [])])) (List.map Ty.ints (out ++ [(B.getD k [])])))) hx2 (cvo (by simp) (by first | (rw [List.map_append]; rfl) | simp) r3)
     clear r3
     refine tailL (L := []) (R := (fun v τ => Pr.has (Ty.pr (Ty.val x2)) τ v)) rfl rfl (by decide) ok17 (Yld.toL (y_assign q73)) (fun a19 s17 hs4 ok18 r4 sm4 => ?_)
     have F18 := F17.stepL hs4 (by decide); have q74 := kpL hs4 (by decide) (sm4 6 (by decide)) q68; have q75 := kpL hs4 (by decide) (sm4 7 (by decide)) q69; have q76 := kpL hs4 (by decide) (sm4 3 (by decide)) q71; have q77 := kpL hs4 (by decide) (sm4 4 (by decide)) q72; have o11 := Own.keepL o10 hs4 (by decide) (by decide)
     have q78 : At (Ty.val x2) s17 a19 (.tmp 5) := r4
     clear r4; refine wpList_nil ?_; refine tn ?_
     refine rg a19 s17 [(Ty.nat k), (Ty.nat (k + 1)), (Ty.nat (k + 1))] ok18 ⟨?_, ?_, ?_, trivial⟩ ?_
     · intro G H I J O; exact rP (y_move (kp (O 7 rfl) I q75))
     · intro G H I J O d0; exact rP ((y_add (ed d0 rfl rfl rfl) rfl (w64 (by omega) (by omega))).mono (fun τ _ h => cvi (σ := τ) (by first | omega | exact (Int.natCast_mul _ _).symm) h))
     · intro G H I J O d0 d1 d2; exact rP (y_assign (ed d0 rfl rfl rfl))
     intro a20 s18 D14; have ok19 := D14.ok; have F19 := F18.step0 D14.stp; have q79 := D14.kt q74 rfl; have q80 := D14.kt q76 rfl; have q81 := D14.kt q77 rfl; have q82 := D14.kt q78 rfl; have o12 := Own.k0 o11 D14.stp; have q83 := D14.dn 2 rfl rfl; clear D14; refine bn ?_
     exact tn ⟨(A.length + B.length) - (i + ((k + 1))), by omega, s18, i, (k + 1), (out ++ [(B.getD k [])]), x2, rfl, F19, ok19, q79, (cvi (by (first | rfl | omega | (simp_all; done) | (simp_all; omega))) q83), q82, q80, q81, (cvo (by (simp)) (by (simp)) o12), out_right ho (by omega) hx, by omega, by omega, by rw [List.length_append, List.length_singleton]; omega, rfl⟩
   ·
    obtain ⟨d3, d4⟩ := Bool.or_eq_false_iff.mp c2
    replace d3 := of_decide_eq_false d3
    replace d4 := of_decide_eq_false d4
    have hq2 : A.length ≤ i ∧ B.length ≤ k := (by simp only [Bool.or_eq_false_iff, decide_eq_false_iff_not] at c2; omega)
    refine wp_exit ?_; refine tx ?_; refine tx ?_; refine bx ?_; refine tn ?_; refine wp_seq ?_
    refine rg a11 s9 [(Ty.val x5_0), (Ty.val x5_0)] ok10 ⟨?_, ?_, trivial⟩ ?_
    · intro G H I J O; exact rP (y_move (kp (O 5 rfl) I q28))
    · intro G H I J O d0 d1; exact rP (y_assign (ed d0 rfl rfl rfl))
    intro a21 s19 D15; have ok20 := D15.ok; have F20 := F10.step0 D15.stp; have o13 := Own.k0 o3 D15.stp
    have q84 : At (Ty.val x5_0) s19 a21 (.tmp 2) := D15.done 1
    clear D15; refine tn ?_; refine wp_ret ?_
    obtain ⟨t3, e1, h1, q85⟩ := Own.seal o13 (by decide)
    rw [← e1]
    have F21 := F20.step h1 (by decide)
    have q86 : At (Ty.lst Ty.ints out) t3 a21 (.tmp 2) := by have e : a21.eval (.tmp 2) = x5_0 := q84; show Ty.has _ _ _; rw [e]; exact q85
    exact retL1 rfl ok20 F21 (cvt (by (rw [out_end ho (by omega) (by omega)])) q86)


set_option maxRecDepth 100000 in
theorem rsame_fn (xs : List Int) (ys : List Int) (σ : GW) (v0 v1 : Value) (hv0 : Ty.has (Ty.lst Ty.int xs) σ v0) (hv1 : Ty.has (Ty.lst Ty.int ys) σ v1)  :
    FnC Try.prog 14 #[v0, v1] σ (Ty.bool (decide (xs = ys))) := by
 refine fn_intro Try.func14 rfl Try.ntmps14 (Nat.le_of_ble_eq_true rfl) (fun s0 a0 hle F0 ok0 hargs => ?_)
 have p0 : At (Ty.lst Ty.int xs) s0 a0 (.tmp 0) := by have e := hargs 0 _ rfl; show Ty.has _ _ _; rw [e]; exact Ty.up _ hle hv0
 have b1 := sl_le p0
 have p1 : At (Ty.lst Ty.int ys) s0 a0 (.tmp 1) := by have e := hargs 1 _ rfl; show Ty.has _ _ _; rw [e]; exact Ty.up _ hle hv1
 have b2 := sl_le p1
 clear hargs; refine wp_seq ?_
 refine rg a0 s0 [(Ty.bool false)] ok0 ⟨?_, trivial⟩ ?_
 · intro G H I J O; exact rP (y_assign rfl)
 intro a1 s1 D1; have ok1 := D1.ok; have F1 := F0.step0 D1.stp; have q1 := D1.kt p0 rfl; have q2 := D1.kt p1 rfl; clear D1; refine tn ?_; refine wp_seq ?_; refine wp_seq ?_
 refine rg a1 s1 [(Ty.lst Ty.int xs), (Ty.nat (List.length xs)), (Ty.lst Ty.int ys), (Ty.nat (List.length ys)), (Ty.bool (decide ((((List.length xs) : Nat) : Int) ≠ (((List.length ys) : Nat) : Int))))] ok1 ⟨?_, ?_, ?_, ?_, ?_, trivial⟩ ?_
 · intro G H I J O; exact rP (y_move (kp (O 0 rfl) I q1))
 · intro G H I J O d0; exact rP (y_len Try.underlying23 (ed d0 rfl rfl rfl))
 · intro G H I J O; exact rP (y_move (kp (O 1 rfl) I q2))
 · intro G H I J O d0; exact rP (y_len Try.underlying23 (ed d0 rfl rfl rfl))
 · intro G H I J O d0 d1; exact rP (y_neq (ed d0 rfl rfl rfl) (ed d1 rfl rfl rfl))
 intro a2 s2 D2; have ok2 := D2.ok; have F2 := F1.step0 D2.stp; have q3 := D2.kt q1 rfl; have q4 := D2.kt q2 rfl; have q5 := D2.dn 4 rfl rfl; clear D2; refine tn ?_
 refine cond_p (p := ((((List.length xs) : Nat) : Int) ≠ (((List.length ys) : Nat) : Int))) q5 (fun c1 => ?_) (fun c1 => ?_)
 ·
  refine wp_seq ?_
  refine rg a2 s2 [(Ty.bool false)] ok2 ⟨?_, trivial⟩ ?_
  · intro G H I J O; exact rP (y_assign rfl)
  intro a3 s3 D3; have ok3 := D3.ok; have F3 := F2.step0 D3.stp; have q6 := D3.dn 0 rfl rfl; clear D3; refine tn ?_; refine wp_ret ?_; refine tr ?_
  exact ret1 rfl ok3 F3 (cvb (by (rw [decide_eq_false]; intro e; subst e; omega)) q6)
 ·
  refine wp_skip ?_; refine tn ?_; refine wp_seq ?_; refine wp_seq ?_
  refine rg a2 s2 [(Ty.int (0 : Int))] ok2 ⟨?_, trivial⟩ ?_
  · intro G H I J O; exact rP (y_assign rfl)
  intro a4 s4 D4; have ok4 := D4.ok; have F4 := F2.step0 D4.stp; have q7 := D4.kt q3 rfl; have q8 := D4.kt q4 rfl; have q9 := D4.dn 0 rfl rfl; clear D4; refine tn ?_; refine wp_block ?_
  refine loop (fun n1 a5 w1 => ∃ (t1 : GW) (k : Nat), t1.w = w1 ∧ From s0 t1 ∧ Ok 26 a5 ∧ At (Ty.nat k) t1 a5 (.tmp 5) ∧ At (Ty.lst Ty.int xs) t1 a5 (.tmp 0) ∧ At (Ty.lst Ty.int ys) t1 a5 (.tmp 1) ∧ (k ≤ xs.length) ∧ (xs.length = ys.length) ∧ (∀ j, j < k → xs.getD j 0 = ys.getD j 0) ∧ n1 = xs.length - k) (xs.length - (0)) ?_ ?_
  ·
   exact ⟨s4, 0, rfl, F4, ok4, (cvi (by (first | rfl | omega | (simp_all; done) | (simp_all; omega))) q9), q7, q8, by omega, by omega, fun j hj => absurd hj (Nat.not_lt_zero j), rfl⟩
  ·
   rintro n2 a6 w2 ⟨t2, k, rfl, F5, ok5, q10, q11, q12, hk, hl, heq, rfl⟩
   refine wp_seq ?_; refine wp_seq ?_
   refine reg (a := a6) (σ := t2) rfl (fun i_ => List.getD [(Ty.pr (Ty.nat k)), (Ty.pr (Ty.lst Ty.int xs)), (Ty.pr (Ty.nat (List.length xs))), (Ty.pr (Ty.bool (decide (((k : Nat) : Int) < (((List.length xs) : Nat) : Int)))))] i_ Pr.any) ok5 rfl ⟨?_, ?_, ?_, ?_, trivial⟩ ?_
   · intro G H I J O; exact rP (y_move (kp (O 5 rfl) I q10))
   · intro G H I J O; exact rP (y_move (kp (O 0 rfl) I q11))
   · intro G H I J O d0; exact rP (y_len Try.underlying23 (ed d0 rfl rfl rfl))
   · intro G H I J O d0 d1; exact rP (y_lss (ed d0 rfl rfl rfl) (ed d1 rfl rfl rfl))
   intro a7 s5 D5; have ok6 := D5.ok; have F6 := F5.step0 D5.stp; have q13 := D5.kt q10 rfl; have q14 := D5.kt q11 rfl; have q15 := D5.kt q12 rfl; have q16 := D5.dn 3 rfl rfl; clear D5; refine tn ?_
   refine cond_p (p := (((k : Nat) : Int) < (((List.length xs) : Nat) : Int))) q16 (fun c2 => ?_) (fun c2 => ?_)
   ·
    refine wp_skip ?_; refine tn ?_; refine wp_seq ?_; refine wp_block ?_; refine wp_seq ?_
    refine rg a7 s5 [(Ty.lst Ty.int xs), (Ty.nat k), (Ty.ref [(Ty.int (xs.getD k 0))]), (Ty.int (xs.getD k 0)), (Ty.lst Ty.int ys), (Ty.nat k), (Ty.ref [(Ty.int (ys.getD k 0))]), (Ty.int (ys.getD k 0)), (Ty.bool (decide ((xs.getD k 0) ≠ (ys.getD k 0))))] ok6 ⟨?_, ?_, ?_, ?_, ?_, ?_, ?_, ?_, ?_, trivial⟩ ?_
    · intro G H I J O; exact rP (y_move (kp (O 0 rfl) I q14))
    · intro G H I J O; exact rP (y_move (kp (O 5 rfl) I q13))
    · intro G H I J O d0 d1; exact rP (y_index1 Try.underlying23 Try.inf3 (ed d0 rfl rfl rfl) (ed d1 rfl rfl rfl) (by omega) (lst_get Ty.int xs 0 k (by omega)))
    · intro G H I J O d0; exact rP (y_load Try.underlying3 rfl (ed d0 rfl rfl rfl) rfl)
    · intro G H I J O; exact rP (y_move (kp (O 1 rfl) I q15))
    · intro G H I J O; exact rP (y_move (kp (O 5 rfl) I q13))
    · intro G H I J O d0 d1; exact rP (y_index1 Try.underlying23 Try.inf3 (ed d0 rfl rfl rfl) (ed d1 rfl rfl rfl) (by omega) (lst_get Ty.int ys 0 k (by omega)))
    · intro G H I J O d0; exact rP (y_load Try.underlying3 rfl (ed d0 rfl rfl rfl) rfl)
    · intro G H I J O d0 d1; exact rP (y_neq (ed d0 rfl rfl rfl) (ed d1 rfl rfl rfl))
    intro a8 s6 D6; have ok7 := D6.ok; have F7 := F6.step0 D6.stp; have q17 := D6.kt q13 rfl; have q18 := D6.kt q14 rfl; have q19 := D6.kt q15 rfl; have q20 := D6.dn 8 rfl rfl; clear D6; refine tn ?_
    refine cond_p (p := ((xs.getD k 0) ≠ (ys.getD k 0))) q20 (fun c3 => ?_) (fun c3 => ?_)
    ·
     refine wp_seq ?_
     refine rg a8 s6 [(Ty.bool false)] ok7 ⟨?_, trivial⟩ ?_
     · intro G H I J O; exact rP (y_assign rfl)
     intro a9 s7 D7; have ok8 := D7.ok; have F8 := F7.step0 D7.stp; have q21 := D7.dn 0 rfl rfl; clear D7; refine tn ?_; refine wp_ret ?_; refine br ?_; refine tr ?_; refine tr ?_; refine br ?_; refine tr ?_
     exact ret1 rfl ok8 F8 (cvb (by (exact (decide_eq_false (fun e => by subst e; simp_all)).symm)) q21)
    ·
     refine wp_skip ?_; refine bn ?_; refine tn ?_
     refine rg a8 s6 [(Ty.nat k), (Ty.int (((k : Nat) : Int) + (1 : Int))), (Ty.int (((k : Nat) : Int) + (1 : Int)))] ok7 ⟨?_, ?_, ?_, trivial⟩ ?_
     · intro G H I J O; exact rP (y_move (kp (O 5 rfl) I q17))
     · intro G H I J O d0; exact rP (y_add (ed d0 rfl rfl rfl) rfl (w64 (by omega) (by omega)))
     · intro G H I J O d0 d1 d2; exact rP (y_assign (ed d0 rfl rfl rfl))
     intro a10 s8 D8; have ok9 := D8.ok; have F9 := F7.step0 D8.stp; have q22 := D8.kt q18 rfl; have q23 := D8.kt q19 rfl; have q24 := D8.dn 2 rfl rfl; clear D8
     exact tn ⟨xs.length - ((k+1)), by omega, s8, (k+1), rfl, F9, ok9, (cvi (by (first | rfl | omega | (simp_all; done) | (simp_all; omega))) q24), q22, q23, by omega, by omega, all_snoc heq (by assumption), rfl⟩
   ·
    refine wp_exit ?_; refine tx ?_; refine tx ?_; refine bx ?_; refine tn ?_; refine wp_seq ?_
    refine rg a7 s5 [(Ty.bool true)] ok6 ⟨?_, trivial⟩ ?_
    · intro G H I J O; exact rP (y_assign rfl)
    intro a11 s9 D9; have ok10 := D9.ok; have F10 := F6.step0 D9.stp; have q25 := D9.dn 0 rfl rfl; clear D9; refine tn ?_; refine wp_ret ?_
    exact ret1 rfl ok10 F10 (cvb (by (exact (decide_eq_true (list_ext (by omega) (fun j hj => heq j (by omega)))).symm)) q25)


set_option maxHeartbeats 4000000 in
set_option maxRecDepth 100000 in
theorem rFalse_fn (nm : ByteArray) (n : Int) (l : List (List Int)) (σ : GW)  (v0 : Value) (hv0 : Ty.has (Ty.agg [(Ty.val (Value.string nm)), (Ty.int n), (Ty.lst Ty.ints l)]) σ v0)  (hnm : nm.size ≤ 1099511627776) (hn : -9223372036854775808 ≤ n ∧ n ≤ 9223372036854775807) (h0 : methMay nm n l = 0) :
    FnC Try.prog 27 #[v0] σ (Ty.tup2 (Ty.lst Ty.ints (onceL (enTo ((fromL (roundsL n.toNat) l).take l.length) ((fromL (roundsL n.toNat) l).take l.length).length ((fromL (roundsL n.toNat) l).take l.length).length))) (Ty.bool (sfTo ((fromL (roundsL n.toNat) l).take l.length) ((fromL (roundsL n.toNat) l).take l.length).length ((fromL (roundsL n.toNat) l).take l.length).length))) := by
 obtain ⟨hmo, hnn⟩ := methMay_ok' h0
 have hn1 := hmo.n1
 have hn2 := hmo.n2
 have hl1 := hmo.l1
 have hl2 := hmo.l2
 have hrl := roundsL_len n.toNat
 have hokl : ∀ k, k < l.length → okL 0 (l.getD k []) ((roundsL n.toNat).length) := by rw [hrl]; exact hmo.ok
 obtain ⟨RT, hRT⟩ : ∃ RT, RT = ((fromL (roundsL n.toNat) l).take l.length) := ⟨_, rfl⟩
 have hfl := fromL_len (roundsL n.toNat) l
 have hRl : RT.length = l.length := (by rw [hRT, List.length_take]; omega)
 have hrw : ∀ i, i < RT.length → IsRow (RT.getD i []) ∧ (RT.getD i []).length = n.toNat := (fun i hi => by (rw [hRT, getD_takeD [] (by omega), fromL_get (by omega)]; exact curL_row (by omega) (by omega) hmo.ok i (by omega)))
 have hmm : RT.length * RT.length ≤ 200 * 200 := Nat.mul_le_mul (by omega) (by omega)
 refine fn_intro0 Try.func27 rfl Try.ntmps27 (Nat.le_of_ble_eq_true rfl) (fun s0 a0 hle F0 ok0 hargs => ?_)
 have p0 : At (Ty.agg [(Ty.val (Value.string nm)), (Ty.int n), (Ty.lst Ty.ints l)]) s0 a0 (.tmp 0) := by have e := hargs 0 _ rfl; show Ty.has _ _ _; rw [e]; exact Ty.up _ hle hv0
 clear hargs; refine wp_seq ?_
 refine rg a0 s0 [(Ty.ref [(Ty.val (Value.string nm)), (Ty.int n), (Ty.lst Ty.ints l)]), (Ty.val (Value.slice none 0 0)), (Ty.bool false)] ok0 ⟨?_, ?_, ?_, trivial⟩ ?_
 · intro G H I J O; exact rP (y_boxagg (kp (O 0 rfl) I p0))
 · intro G H I J O; exact rP (y_assign rfl)
 · intro G H I J O d0; exact rP (y_assign rfl)
 intro a1 s1 D1; have ok1 := D1.ok; have F1 := F0.step0 D1.stp; have q1 := D1.dn 0 rfl rfl; clear D1; refine tn ?_; refine wp_seq ?_
 refine rg a1 s1 [(Ty.ref [(Ty.int n), (Ty.lst Ty.ints l)]), (Ty.int n), (Ty.lst Ty.int (roundsL ((n).toNat))), (Ty.ref [(Ty.lst Ty.ints l)]), (Ty.lst Ty.ints l), (Ty.lst Ty.ints (fromL ((roundsL ((n).toNat))) l)), (Ty.lst Ty.ints (fromL ((roundsL ((n).toNat))) l))] ok1 ⟨?_, ?_, ?_, ?_, ?_, ?_, ?_, trivial⟩ ?_
 · intro G H I J O; exact rP (y_field Try.fld31_1 Try.inf3 (by decide) (kp (O 1 rfl) I q1) rfl)
 · intro G H I J O d0; exact rP (y_load Try.underlying3 rfl (ed d0 rfl rfl rfl) rfl)
 · intro G H I J O d0; exact rP (y_call #[G.eval (.tmp 13)] Try.func64 rfl rfl (by simp only [List.map_toArray, List.map_cons, List.map_nil]) (rRounds_fn ((n).toNat) _ _ (cvi (σ := H) (by omega) (ed d0 rfl rfl rfl)) (by omega)))
 · intro G H I J O; exact rP (y_field Try.fld31_2 Try.inf29 (by decide) (kp (O 1 rfl) I q1) rfl)
 · intro G H I J O d0; exact rP (y_load Try.underlying29 rfl (ed d0 rfl rfl rfl) rfl)
 · intro G H I J O d0 d1 d2; exact rP (y_call #[G.eval (.tmp 14), G.eval (.tmp 16)] Try.func63 rfl rfl (by simp only [List.map_toArray, List.map_cons, List.map_nil]) (rFrom_fn ((roundsL ((n).toNat))) (l) _ _ _ (ed d0 rfl rfl rfl) (ed d1 rfl rfl rfl) (by first | omega | assumption) (by first | omega | assumption) (by first | omega | assumption)))
 · intro G H I J O d0 d1 d2 d3 d4 d5 d6 d7; exact rP (y_assign (ed d0 rfl rfl rfl))
 intro a2 s2 D2; have ok2 := D2.ok; have F2 := F1.step0 D2.stp; have q2 := D2.dn 6 rfl rfl; clear D2; refine tn ?_; refine wp_seq ?_
 refine rg a2 s2 [(Ty.lst Ty.ints (fromL ((roundsL ((n).toNat))) l)), (Ty.lst Ty.ints (fromL ((roundsL ((n).toNat))) l)), (Ty.nat (List.length (fromL ((roundsL ((n).toNat))) l))), (Ty.nat ((List.length (fromL ((roundsL ((n).toNat))) l)) - 1)), (Ty.lst Ty.ints ((fromL ((roundsL ((n).toNat))) l).take ((List.length (fromL ((roundsL ((n).toNat))) l)) - 1))), (Ty.lst Ty.ints ((fromL ((roundsL ((n).toNat))) l).take ((List.length (fromL ((roundsL ((n).toNat))) l)) - 1)))] ok2 ⟨?_, ?_, ?_, ?_, ?_, ?_, trivial⟩ ?_
 · intro G H I J O; exact rP (y_move (kp (O 4 rfl) I q2))
 · intro G H I J O; exact rP (y_move (kp (O 4 rfl) I q2))
 · intro G H I J O d0; exact rP (y_len Try.underlying29 (ed d0 rfl rfl rfl))
 · intro G H I J O d0; exact rP ((y_sub (ed d0 rfl rfl rfl) rfl (w64 (by omega) (by omega))).mono (fun τ _ h => cvi (σ := τ) (by omega) h))
 · intro G H I J O d0 d1; exact rP (y_take Try.underlying29 Try.inf23 (ed d0 rfl rfl rfl) (ed d1 rfl rfl rfl) (by omega))
 · intro G H I J O d0 d1 d2 d3 d4 d5; exact rP (y_assign (ed d0 rfl rfl rfl))
 intro a3 s3 D3; have ok3 := D3.ok; have F3 := F2.step0 D3.stp; have q3 := D3.dn 5 rfl rfl; clear D3
 have q4 : At (Ty.lst Ty.ints RT) s3 a3 (.tmp 4) := (cvt (by (rw [hRT, hfl]; rfl)) q3)
 refine tn ?_; refine wp_seq ?_
 refine rg a3 s3 [(Ty.bool false)] ok3 ⟨?_, trivial⟩ ?_
 · intro G H I J O; exact rP (y_assign rfl)
 intro a4 s4 D4; have ok4 := D4.ok; have F4 := F3.step0 D4.stp; have q5 := D4.kt q4 rfl; have q6 := D4.dn 0 rfl rfl; clear D4; refine tn ?_; refine wp_seq ?_
 refine rg a4 s4 [(Ty.val (Value.slice none 0 0))] ok4 ⟨?_, trivial⟩ ?_
 · intro G H I J O; exact rP (y_assign rfl)
 intro a5 s5 D5; have ok5 := D5.ok; have F5 := F4.step0 D5.stp; have q7 := D5.kt q5 rfl; have q8 := D5.kt q6 rfl; have q9 := D5.dn 0 rfl rfl; clear D5; refine tn ?_; refine wp_seq ?_; refine wp_seq ?_
 refine rg a5 s5 [(Ty.int (0 : Int))] ok5 ⟨?_, trivial⟩ ?_
 · intro G H I J O; exact rP (y_assign rfl)
 intro a6 s6 D6; have ok6 := D6.ok; have F6 := F5.step0 D6.stp; have q10 := D6.kt q7 rfl; have q11 := D6.kt q8 rfl; have q12 := D6.kt q9 rfl; have q13 := D6.dn 0 rfl rfl; clear D6; refine tn ?_; refine wp_block ?_
 have o1 : Own s6 5 23 1 (Value.slice none 0 0) 0 (List.map Ty.ints ([] : List (List Int))) := Own.nil _ _ _ _
 refine loop (fun n1 a7 w1 => ∃ (t1 : GW) (i : Nat) (x6_0 : Value), t1.w = w1 ∧ FromL [] s0 t1 ∧ Ok 90 a7 ∧ At (Ty.nat i) t1 a7 (.tmp 7) ∧ At (Ty.bool (sfTo RT RT.length i)) t1 a7 (.tmp 5) ∧ At (Ty.val x6_0) t1 a7 (.tmp 6) ∧ At (Ty.lst Ty.ints RT) t1 a7 (.tmp 4) ∧ Own t1 5 23 1 x6_0 (List.length (enTo RT RT.length i)) (List.map Ty.ints (enTo RT RT.length i)) ∧ (i ≤ RT.length) ∧ n1 = RT.length - i) (RT.length - (0)) ?_ ?_
 ·
  exact ⟨s6, 0, (Value.slice none 0 0), rfl, F6, ok6, (cvi (by (first | rfl | omega | (simp_all; done) | (simp_all; omega))) q13), (cvb (by (rfl)) q11), q12, q10, (cvo (by (rfl)) (by (rfl)) o1), by omega, rfl⟩
 ·
  rintro n2 a8 w2 ⟨t2, i, x6_0, rfl, F7, ok7, q14, q15, q16, q17, o2, hi, rfl⟩
  refine wp_seq ?_; refine wp_seq ?_
  refine reg (a := a8) (σ := t2) rfl (fun i_ => List.getD [(Ty.pr (Ty.nat i)), (Ty.pr (Ty.lst Ty.ints RT)), (Ty.pr (Ty.nat (List.length RT))), (Ty.pr (Ty.bool (decide (((i : Nat) : Int) < (((List.length RT) : Nat) : Int)))))] i_ Pr.any) ok7 rfl ⟨?_, ?_, ?_, ?_, trivial⟩ ?_
  · intro G H I J O; exact rP (y_move (kp (O 7 rfl) I q14))
  · intro G H I J O; exact rP (y_move (kp (O 4 rfl) I q17))
  · intro G H I J O d0; exact rP (y_len Try.underlying29 (ed d0 rfl rfl rfl))
  · intro G H I J O d0 d1; exact rP (y_lss (ed d0 rfl rfl rfl) (ed d1 rfl rfl rfl))
  intro a9 s7 D7; have ok8 := D7.ok; have F8 := F7.step0 D7.stp; have q18 := D7.kt q14 rfl; have q19 := D7.kt q15 rfl; have q20 := D7.kt q16 rfl; have q21 := D7.kt q17 rfl; have o3 := Own.k0 o2 D7.stp; have q22 := D7.dn 3 rfl rfl; clear D7; refine tn ?_
  refine cond_p (p := (((i : Nat) : Int) < (((List.length RT) : Nat) : Int))) q22 (fun c1 => ?_) (fun c1 => ?_)
  ·
   refine wp_skip ?_; refine tn ?_; refine wp_seq ?_; refine wp_block ?_; refine wp_seq ?_
   refine rg a9 s7 [(Ty.int (0 : Int))] ok8 ⟨?_, trivial⟩ ?_
   · intro G H I J O; exact rP (y_assign rfl)
   intro a10 s8 D8; have ok9 := D8.ok; have F9 := F8.step0 D8.stp; have q23 := D8.kt q18 rfl; have q24 := D8.kt q19 rfl; have q25 := D8.kt q20 rfl; have q26 := D8.kt q21 rfl; have o4 := Own.k0 o3 D8.stp; have q27 := D8.dn 0 rfl rfl; clear D8; refine tn ?_; refine wp_block ?_
   refine loop (fun n3 a11 w3 => ∃ (t3 : GW) (k : Nat) (x6_1 : Value), t3.w = w3 ∧ FromL [] s0 t3 ∧ Ok 90 a11 ∧ At (Ty.nat k) t3 a11 (.tmp 8) ∧ At (Ty.bool (sfTo RT RT.length i || sfRow RT i k)) t3 a11 (.tmp 5) ∧ At (Ty.val x6_1) t3 a11 (.tmp 6) ∧ At (Ty.nat i) t3 a11 (.tmp 7) ∧ At (Ty.lst Ty.ints RT) t3 a11 (.tmp 4) ∧ Own t3 5 23 1 x6_1 (List.length (enTo RT RT.length i ++ enRow RT i k)) (List.map Ty.ints (enTo RT RT.length i ++ enRow RT i k)) ∧ (k ≤ RT.length) ∧ n3 = RT.length - k) (RT.length - (0)) ?_ ?_
   ·
    exact ⟨s8, 0, x6_0, rfl, F9, ok9, (cvi (by (first | rfl | omega | (simp_all; done) | (simp_all; omega))) q27), (cvb (by (rw [sfRow_zero, Bool.or_false])) q24), q25, q23, q26, (cvo (by (rw [enRow_zero, List.append_nil])) (by (rw [enRow_zero, List.append_nil])) o4), by omega, rfl⟩
   ·
    rintro n4 a12 w4 ⟨t4, k, x6_1, rfl, F10, ok10, q28, q29, q30, q31, q32, o5, hk, rfl⟩
    have hel1 := enTo_len (rows := RT) (m := RT.length) i
    have hel2 := enRow_len (rows := RT) (i := i) (k := k)
    have hell : (enTo RT RT.length i ++ enRow RT i k).length = (enTo RT RT.length i).length + (enRow RT i k).length := List.length_append
    refine wp_seq ?_; refine wp_seq ?_
    refine reg (a := a12) (σ := t4) rfl (fun i_ => List.getD [(Ty.pr (Ty.nat k)), (Ty.pr (Ty.lst Ty.ints RT)), (Ty.pr (Ty.nat (List.length RT))), (Ty.pr (Ty.bool (decide (((k : Nat) : Int) < (((List.length RT) : Nat) : Int)))))] i_ Pr.any) ok10 rfl ⟨?_, ?_, ?_, ?_, trivial⟩ ?_
    · intro G H I J O; exact rP (y_move (kp (O 8 rfl) I q28))
    · intro G H I J O; exact rP (y_move (kp (O 4 rfl) I q32))
    · intro G H I J O d0; exact rP (y_len Try.underlying29 (ed d0 rfl rfl rfl))
    · intro G H I J O d0 d1; exact rP (y_lss (ed d0 rfl rfl rfl) (ed d1 rfl rfl rfl))
    intro a13 s9 D9; have ok11 := D9.ok; have F11 := F10.step0 D9.stp; have q33 := D9.kt q28 rfl; have q34 := D9.kt q29 rfl; have q35 := D9.kt q30 rfl; have q36 := D9.kt q31 rfl; have q37 := D9.kt q32 rfl; have o6 := Own.k0 o5 D9.stp; have q38 := D9.dn 3 rfl rfl; clear D9; refine tn ?_
    refine cond_p (p := (((k : Nat) : Int) < (((List.length RT) : Nat) : Int))) q38 (fun c2 => ?_) (fun c2 => ?_)
    ·
     obtain ⟨hri, hli⟩ := hrw i (by omega); obtain ⟨hrk, hlk⟩ := hrw k (by omega); obtain ⟨hu1, hu2⟩ := undo_row hrk; have hul := undoL_len (RT.getD k []); have hbd_ : ∀ j, j < (undoL (RT.getD k [])).length → 0 ≤ (undoL (RT.getD k [])).getD j 0 ∧ (undoL (RT.getD k [])).getD j 0 < ((RT.getD i []).length : Int) := (fun j hj => by have := hu1.bds j hj; omega); have hln := hri.le; have hHr : IsRow (hhL RT i k) ∧ (hhL RT i k).length = n.toNat := hh_row hri hrk (by omega) hlk; have hHl := hHr.2; have hikm : i * RT.length + RT.length ≤ RT.length * RT.length := (by rw [← Nat.succ_mul]; exact Nat.mul_le_mul_right _ (by omega)); have hHr1 := hHr.1
     refine wp_skip ?_; refine tn ?_; refine wp_seq ?_; refine wp_block ?_; refine wp_seq ?_
     refine rg a13 s9 [(Ty.lst Ty.ints RT), (Ty.nat i), (Ty.ref [(Ty.lst Ty.int (RT.getD i []))]), (Ty.lst Ty.int (RT.getD i [])), (Ty.lst Ty.ints RT), (Ty.nat k), (Ty.ref [(Ty.lst Ty.int (RT.getD k []))]), (Ty.lst Ty.int (RT.getD k [])), (Ty.lst Ty.int (undoL ((RT.getD k [])))), (Ty.lst Ty.int (hhL RT i k)), (Ty.lst Ty.int (hhL RT i k))] ok11 ⟨?_, ?_, ?_, ?_, ?_, ?_, ?_, ?_, ?_, ?_, ?_, trivial⟩ ?_
     · intro G H I J O; exact rP (y_move (kp (O 4 rfl) I q37))
     · intro G H I J O; exact rP (y_move (kp (O 7 rfl) I q36))
     · intro G H I J O d0 d1; exact rP (y_index1 Try.underlying29 Try.inf23 (ed d0 rfl rfl rfl) (ed d1 rfl rfl rfl) (by omega) (lst_get Ty.ints RT [] i (by omega)))
     · intro G H I J O d0; exact rP (y_load Try.underlying23 rfl (ed d0 rfl rfl rfl) rfl)
     · intro G H I J O; exact rP (y_move (kp (O 4 rfl) I q37))
     · intro G H I J O; exact rP (y_move (kp (O 8 rfl) I q33))
     · intro G H I J O d0 d1; exact rP (y_index1 Try.underlying29 Try.inf23 (ed d0 rfl rfl rfl) (ed d1 rfl rfl rfl) (by omega) (lst_get Ty.ints RT [] k (by omega)))
     · intro G H I J O d0; exact rP (y_load Try.underlying23 rfl (ed d0 rfl rfl rfl) rfl)
     · intro G H I J O d0; exact rP (y_call #[G.eval (.tmp 42)] Try.func42 rfl rfl (by simp only [List.map_toArray, List.map_cons, List.map_nil]) (rUndo_fn ((RT.getD k [])) _ _ (ed d0 rfl rfl rfl) (by assumption)))
     · intro G H I J O d0 d1 d2; exact rP ((y_call #[G.eval (.tmp 38), G.eval (.tmp 43)] Try.func65 rfl rfl (by simp only [List.map_toArray, List.map_cons, List.map_nil]) (rBy_fn ((RT.getD i [])) ((undoL ((RT.getD k [])))) _ _ _ (ed d0 rfl rfl rfl) (ed d1 rfl rfl rfl) (by first | assumption | omega) (by first | assumption | omega))).mono (fun τ _ h => cvt (σ := τ) (T := (Ty.lst Ty.int (byL ((RT.getD i [])) ((undoL ((RT.getD k []))))))) (U := (Ty.lst Ty.int (hhL RT i k))) (by rfl) h))
     · intro G H I J O d0 d1 d2 d3 d4 d5 d6 d7 d8 d9 d10 d11; exact rP (y_assign (ed d0 rfl rfl rfl))
     intro a14 s10 D10; have ok12 := D10.ok; have F12 := F11.step0 D10.stp; have q39 := D10.kt q33 rfl; have q40 := D10.kt q34 rfl; have q41 := D10.kt q35 rfl; have q42 := D10.kt q36 rfl; have q43 := D10.kt q37 rfl; have o7 := Own.k0 o6 D10.stp; have q44 := D10.dn 10 rfl rfl; clear D10; refine tn ?_; refine wp_seq ?_
     refine rg a14 s10 [(Ty.lst Ty.int (hhL RT i k)), (Ty.nat (rankL ((hhL RT i k)))), (Ty.bool (decide ((((rankL ((hhL RT i k))) : Nat) : Int) = (0 : Int))))] ok12 ⟨?_, ?_, ?_, trivial⟩ ?_
     · intro G H I J O; exact rP (y_move (kp (O 9 rfl) I q44))
     · intro G H I J O d0; exact rP (y_call #[G.eval (.tmp 45)] Try.func41 rfl rfl (by simp only [List.map_toArray, List.map_cons, List.map_nil]) (rRank_fn ((hhL RT i k)) _ _ (ed d0 rfl rfl rfl) (by first | omega | assumption)))
     · intro G H I J O d0; exact rP (y_eql (ed d0 rfl rfl rfl) rfl)
     intro a15 s11 D11; have ok13 := D11.ok; have F13 := F12.step0 D11.stp; have q45 := D11.kt q39 rfl; have q46 := D11.kt q40 rfl; have q47 := D11.kt q41 rfl; have q48 := D11.kt q42 rfl; have q49 := D11.kt q43 rfl; have q50 := D11.kt q44 rfl; have o8 := Own.k0 o7 D11.stp; have q51 := D11.dn 2 rfl rfl; clear D11; refine tn ?_
     refine cond_p (p := ((((rankL ((hhL RT i k))) : Nat) : Int) = (0 : Int))) q51 (fun c3 => ?_) (fun c3 => ?_)
     ·
      have hz : rankL (hhL RT i k) = 0 := (by omega)
      refine rg a15 s11 [(Ty.bool (sfTo RT RT.length i || sfRow RT i k)), (Ty.bool (sfTo RT RT.length i || sfRow RT i k)), (Ty.grd ((sfTo RT RT.length i || sfRow RT i k) = false) (Ty.nat i)), (Ty.grd ((sfTo RT RT.length i || sfRow RT i k) = false) (Ty.nat k)), (Ty.grd ((sfTo RT RT.length i || sfRow RT i k) = false) (Ty.bool (decide (((i : Nat) : Int) ≠ ((k : Nat) : Int))))), (Ty.bool ((sfTo RT RT.length i || sfRow RT i k) || (decide (((i : Nat) : Int) ≠ ((k : Nat) : Int))))), (Ty.bool ((sfTo RT RT.length i || sfRow RT i k) || (decide (((i : Nat) : Int) ≠ ((k : Nat) : Int)))))] ok13 ⟨?_, ?_, ?_, ?_, ?_, ?_, ?_, trivial⟩ ?_
      · intro G H I J O; exact rP (y_move (kp (O 5 rfl) I q46))
      · intro G H I J O d0; exact rP (y_move (ed d0 rfl rfl rfl))
      · intro G H I J O d0
        refine run_guard J rfl rfl (by decide) (ed d0 rfl rfl rfl) (fun hg => ?_)
        exact y_move (kp (O 7 rfl) I q48)
      · intro G H I J O d0
        refine run_guard J rfl rfl (by decide) (ed d0 rfl rfl rfl) (fun hg => ?_)
        exact y_move (kp (O 8 rfl) I q45)
      · intro G H I J O d0 d1 d2
        refine run_guard J rfl rfl (by decide) (ed d2 rfl rfl rfl) (fun hg => ?_)
        exact y_neq ((ed d0 rfl rfl rfl).1 hg) ((ed d1 rfl rfl rfl).1 hg)
      · intro G H I J O d0 d1; exact rP (y_pick_or (ed d0 rfl rfl rfl) rfl (ed d1 rfl rfl rfl))
      · intro G H I J O d0 d1 d2 d3 d4 d5 d6 d7; exact rP (y_assign (ed d0 rfl rfl rfl))
      intro a16 s12 D12; have ok14 := D12.ok; have F14 := F13.step0 D12.stp; have q52 := D12.kt q45 rfl; have q53 := D12.kt q47 rfl; have q54 := D12.kt q48 rfl; have q55 := D12.kt q49 rfl; have o9 := Own.k0 o8 D12.stp; have q56 := D12.dn 6 rfl rfl; clear D12; refine bn ?_; refine tn ?_
      refine rg a16 s12 [(Ty.nat k), (Ty.nat (k + 1)), (Ty.nat (k + 1))] ok14 ⟨?_, ?_, ?_, trivial⟩ ?_
      · intro G H I J O; exact rP (y_move (kp (O 8 rfl) I q52))
      · intro G H I J O d0; exact rP ((y_add (ed d0 rfl rfl rfl) rfl (w64 (by omega) (by omega))).mono (fun τ _ h => cvi (σ := τ) (by first | omega | exact (Int.natCast_mul _ _).symm) h))
      · intro G H I J O d0 d1 d2; exact rP (y_assign (ed d0 rfl rfl rfl))
      intro a17 s13 D13; have ok15 := D13.ok; have F15 := F14.step0 D13.stp; have q57 := D13.kt q53 rfl; have q58 := D13.kt q54 rfl; have q59 := D13.kt q55 rfl; have q60 := D13.kt q56 rfl; have o10 := Own.k0 o9 D13.stp; have q61 := D13.dn 2 rfl rfl; clear D13
      exact tn ⟨RT.length - ((k+1)), by omega, s13, (k+1), x6_1, rfl, F15, ok15, (cvi (by (first | rfl | omega | (simp_all; done) | (simp_all; omega))) q61), (cvb (by (rw [sfRow_yes hz, Bool.or_assoc])) q60), q57, q58, q59, (cvo (by (rw [enRow_no hz])) (by (rw [enRow_no hz])) o10), by omega, rfl⟩
     ·
      have hz : ¬ rankL (hhL RT i k) = 0 := (by omega)
      refine reg2 (a := a15) (σ := s11) rfl 3 (fun i_ => List.getD [(Ty.pr (Ty.val x6_1)), (Ty.pr (Ty.lst Ty.int (hhL RT i k))), (Ty.pr (Ty.sl 1 1 [(Ty.lst Ty.int (hhL RT i k))]))] i_ Pr.any) ok13 rfl (by decide) rfl ⟨?_, ?_, ?_, trivial⟩ ?_
      · intro G H I J O; exact rP (y_move (kp (O 6 rfl) I q47))
      · intro G H I J O; exact rP (y_move (kp (O 9 rfl) I q50))
      · intro G H I J O d0; exact rP (y_build1o Try.underlying29 Try.inf23 rfl (one_sl) (ed d0 rfl rfl rfl))
      intro a18 s14 D14; have ok16 := D14.ok; have F16 := F13.step0 D14.stp; have q62 := D14.kt q45 rfl; have q63 := D14.kt q46 rfl; have q64 := D14.kt q47 rfl; have q65 := D14.kt q48 rfl; have q66 := D14.kt q49 rfl; have o11 := Own.k0 o8 D14.stp
      have q67 : At (Ty.val x6_1) s14 a18 (.tmp 54) := D14.done 0 (by decide)
      have q68 := D14.dn 2 (by decide) rfl rfl
      have b1 := sl_le q68
      clear D14
      refine tailL (L := [5]) (R := (fun v τ => Own τ 5 23 1 v ((List.length (enTo RT RT.length i ++ enRow RT i k)) + 1) ((List.map Ty.ints (enTo RT RT.length i ++ enRow RT i k)) ++ [(Ty.lst Ty.int (hhL RT i k))]))) rfl rfl (by decide) ok16 (YldM.toL (m_append Try.underlying29 Try.inf23 (by decide) rfl (by decide) (al (R := (Pr.own 5 23 1 (List.length (enTo RT RT.length i ++ enRow RT i k)) (List.map Ty.ints (enTo RT RT.length i ++ enRow RT i k)))) q67 o11) q68 (by intro U hU; simp at hU; subst hU; exact one_sl) (by omega) (by omega))) (fun a19 s15 hs1 ok17 r1 sm1 => ?_)
      have F17 := F16.stepL hs1 (by decide); have q69 := kpL hs1 (by decide) (sm1 8 (by decide)) q62; have q70 := kpL hs1 (by decide) (sm1 5 (by decide)) q63; have q71 := kpL hs1 (by decide) (sm1 6 (by decide)) q64; have q72 := kpL hs1 (by decide) (sm1 7 (by decide)) q65; have q73 := kpL hs1 (by decide) (sm1 4 (by decide)) q66
      obtain ⟨x1, hx1⟩ : ∃ x, a19.eval (.tmp 57) = x := ⟨_, rfl⟩
      have q74 : At (Ty.val x1) s15 a19 (.tmp 57) := hx1
      have o12 : Own s15 5 23 1 x1 (List.length ((enTo RT RT.length i ++ enRow RT i k) ++ [(hhL RT i k)])) (List.map Ty.ints ((enTo RT RT.length i ++ enRow RT i k) ++ [(hhL RT i k)])) := al2 (R := (Pr.own 5 23 1 (List.length ((enTo RT RT.length i ++ enRow RT i k) ++ [(hhL RT i k)])) (List.map Ty.ints ((enTo RT RT.length i ++ enRow RT i k) ++ [(hhL RT i k)])))) hx1 (cvo (by first | (simp; done) | (simp; omega)) (by first | (rw [List.map_append]; rfl) | simp) r1)
      clear r1
      refine tailL (L := []) (R := (fun v τ => Pr.has (Ty.pr (Ty.val x1)) τ v)) rfl rfl (by decide) ok17 (Yld.toL (y_assign q74)) (fun a20 s16 hs2 ok18 r2 sm2 => ?_)
      have F18 := F17.stepL hs2 (by decide); have q75 := kpL hs2 (by decide) (sm2 8 (by decide)) q69; have q76 := kpL hs2 (by decide) (sm2 5 (by decide)) q70; have q77 := kpL hs2 (by decide) (sm2 7 (by decide)) q72; have q78 := kpL hs2 (by decide) (sm2 4 (by decide)) q73; have o13 := Own.keepL o12 hs2 (by decide) (by decide)
      have q79 : At (Ty.val x1) s16 a20 (.tmp 6) := r2
      clear r2; refine wpList_nil ?_; refine bn ?_; refine tn ?_
      refine rg a20 s16 [(Ty.nat k), (Ty.nat (k + 1)), (Ty.nat (k + 1))] ok18 ⟨?_, ?_, ?_, trivial⟩ ?_
      · intro G H I J O; exact rP (y_move (kp (O 8 rfl) I q75))
      · intro G H I J O d0; exact rP ((y_add (ed d0 rfl rfl rfl) rfl (w64 (by omega) (by omega))).mono (fun τ _ h => cvi (σ := τ) (by first | omega | exact (Int.natCast_mul _ _).symm) h))
      · intro G H I J O d0 d1 d2; exact rP (y_assign (ed d0 rfl rfl rfl))
      intro a21 s17 D15; have ok19 := D15.ok; have F19 := F18.step0 D15.stp; have q80 := D15.kt q76 rfl; have q81 := D15.kt q77 rfl; have q82 := D15.kt q78 rfl; have q83 := D15.kt q79 rfl; have o14 := Own.k0 o13 D15.stp; have q84 := D15.dn 2 rfl rfl; clear D15
      exact tn ⟨RT.length - ((k+1)), by omega, s17, (k+1), x1, rfl, F19, ok19, (cvi (by (first | rfl | omega | (simp_all; done) | (simp_all; omega))) q84), (cvb (by (rw [sfRow_no hz])) q80), q83, q81, q82, (cvo (by (rw [enRow_yes hz, List.append_assoc])) (by (rw [enRow_yes hz, List.append_assoc])) o14), by omega, rfl⟩
    ·
     refine wp_exit ?_; refine tx ?_; refine tx ?_; refine bx ?_; refine bn ?_; refine tn ?_
     refine rg a13 s9 [(Ty.nat i), (Ty.nat (i + 1)), (Ty.nat (i + 1))] ok11 ⟨?_, ?_, ?_, trivial⟩ ?_
     · intro G H I J O; exact rP (y_move (kp (O 7 rfl) I q36))
     · intro G H I J O d0; exact rP ((y_add (ed d0 rfl rfl rfl) rfl (w64 (by omega) (by omega))).mono (fun τ _ h => cvi (σ := τ) (by first | omega | exact (Int.natCast_mul _ _).symm) h))
     · intro G H I J O d0 d1 d2; exact rP (y_assign (ed d0 rfl rfl rfl))
     intro a22 s18 D16; have ok20 := D16.ok; have F20 := F11.step0 D16.stp; have q85 := D16.kt q34 rfl; have q86 := D16.kt q35 rfl; have q87 := D16.kt q37 rfl; have o15 := Own.k0 o6 D16.stp; have q88 := D16.dn 2 rfl rfl; clear D16
     exact tn ⟨RT.length - ((i+1)), by omega, s18, (i+1), x6_1, rfl, F20, ok20, (cvi (by (first | rfl | omega | (simp_all; done) | (simp_all; omega))) q88), (cvb (by (rw [sfTo_succ, show k = RT.length by omega])) q85), q86, q87, (cvo (by (rw [enTo_succ, show k = RT.length by omega])) (by (rw [enTo_succ, show k = RT.length by omega])) o15), by omega, rfl⟩
  ·
   refine wp_exit ?_; refine tx ?_; refine tx ?_; refine bx ?_; refine tn ?_; refine wp_seq ?_
   have hie : i = RT.length := by omega
   have hel1 := enTo_len (rows := RT) (m := RT.length) i
   have him : i * RT.length ≤ RT.length * RT.length := Nat.mul_le_mul_right _ (by omega)
   obtain ⟨E, hE⟩ : ∃ E, E = ordS (enTo RT RT.length i) := ⟨_, rfl⟩
   have hEl : E.length = (enTo RT RT.length i).length := by rw [hE, ordS_len]
   obtain ⟨t5, e1, h1, q89⟩ := Own.seal o3 (by decide)
   rw [← e1]
   have F21 := F8.step h1 (by decide); have q90 := Ty.up (Ty.nat i) (h1.le (by decide)) q18; have q91 := Ty.up (Ty.bool (sfTo RT RT.length i)) (h1.le (by decide)) q19
   have q92 : At (Ty.lst Ty.ints (enTo RT RT.length i)) t5 a9 (.tmp 6) := by have e : a9.eval (.tmp 6) = x6_0 := q20; show Ty.has _ _ _; rw [e]; exact q89
   have q93 := Ty.up (Ty.lst Ty.ints RT) (h1.le (by decide)) q21; have q94 := Ty.up (Ty.bool (decide (((i : Nat) : Int) < (((List.length RT) : Nat) : Int)))) (h1.le (by decide)) q22
   refine reg (a := a9) (σ := t5) rfl (fun i_ => List.getD [(Ty.pr (Ty.lst Ty.ints (enTo RT RT.length i))), (Ty.pr (Ty.lst Ty.ints E)), (Ty.pr (Ty.lst Ty.ints E))] i_ Pr.any) ok8 rfl ⟨?_, ?_, ?_, trivial⟩ ?_
   · intro G H I J O; exact rP (y_move (kp (O 6 rfl) I q92))
   · intro G H I J O d0; exact rP ((y_call #[G.eval (.tmp 58)] Try.func66 rfl rfl (by simp only [List.map_toArray, List.map_cons, List.map_nil]) (rOrdered_fn (((enTo RT RT.length i)).length) ((enTo RT RT.length i)) _ _ (ed d0 rfl rfl rfl) (by first | omega | assumption) (by first | omega | assumption))).mono (fun τ _ h => cvt (σ := τ) (T := (Ty.lst Ty.ints (ordS ((enTo RT RT.length i))))) (U := (Ty.lst Ty.ints E)) (by rw [hE]) h))
   · intro G H I J O d0 d1 d2 d3; exact rP (y_assign (ed d0 rfl rfl rfl))
   intro a23 s19 D17; have ok21 := D17.ok; have F22 := F21.step0 D17.stp; have q95 := D17.kt q91 rfl; have q96 := D17.dn 2 rfl rfl; clear D17; refine tn ?_; refine wp_seq ?_
   refine rg a23 s19 [(Ty.val (Value.slice none 0 0))] ok21 ⟨?_, trivial⟩ ?_
   · intro G H I J O; exact rP (y_assign rfl)
   intro a24 s20 D18; have ok22 := D18.ok; have F23 := F22.step0 D18.stp; have q97 := D18.kt q95 rfl; have q98 := D18.kt q96 rfl; have q99 := D18.dn 0 rfl rfl; clear D18; refine tn ?_; refine wp_seq ?_; refine wp_seq ?_
   refine rg a24 s20 [(Ty.int (0 : Int))] ok22 ⟨?_, trivial⟩ ?_
   · intro G H I J O; exact rP (y_assign rfl)
   intro a25 s21 D19; have ok23 := D19.ok; have F24 := F23.step0 D19.stp; have q100 := D19.kt q97 rfl; have q101 := D19.kt q98 rfl; have q102 := D19.kt q99 rfl; have q103 := D19.dn 0 rfl rfl; clear D19; refine tn ?_; refine wp_block ?_
   have o16 : Own s21 6 23 1 (Value.slice none 0 0) 0 (List.map Ty.ints ([] : List (List Int))) := Own.nil _ _ _ _
   refine loop (fun n5 a26 w5 => ∃ (t6 : GW) (j : Nat) (x10_2 : Value), t6.w = w5 ∧ FromL [] s0 t6 ∧ Ok 90 a26 ∧ At (Ty.nat j) t6 a26 (.tmp 11) ∧ At (Ty.val x10_2) t6 a26 (.tmp 10) ∧ At (Ty.bool (sfTo RT RT.length i)) t6 a26 (.tmp 5) ∧ At (Ty.lst Ty.ints E) t6 a26 (.tmp 6) ∧ Own t6 6 23 1 x10_2 (List.length (onceTo E j)) (List.map Ty.ints (onceTo E j)) ∧ (j ≤ E.length) ∧ n5 = E.length - j) (E.length - (0)) ?_ ?_
   ·
    exact ⟨s21, 0, (Value.slice none 0 0), rfl, F24, ok23, (cvi (by (first | rfl | omega | (simp_all; done) | (simp_all; omega))) q103), q102, q100, q101, (cvo (by (rfl)) (by (rfl)) o16), by omega, rfl⟩
   ·
    rintro n6 a27 w6 ⟨t7, j, x10_2, rfl, F25, ok24, q104, q105, q106, q107, o17, hj, rfl⟩
    have hol := onceTo_len E j
    refine wp_seq ?_; refine wp_seq ?_
    refine reg (a := a27) (σ := t7) rfl (fun i_ => List.getD [(Ty.pr (Ty.nat j)), (Ty.pr (Ty.lst Ty.ints E)), (Ty.pr (Ty.nat (List.length E))), (Ty.pr (Ty.bool (decide (((j : Nat) : Int) < (((List.length E) : Nat) : Int)))))] i_ Pr.any) ok24 rfl ⟨?_, ?_, ?_, ?_, trivial⟩ ?_
    · intro G H I J O; exact rP (y_move (kp (O 11 rfl) I q104))
    · intro G H I J O; exact rP (y_move (kp (O 6 rfl) I q107))
    · intro G H I J O d0; exact rP (y_len Try.underlying29 (ed d0 rfl rfl rfl))
    · intro G H I J O d0 d1; exact rP (y_lss (ed d0 rfl rfl rfl) (ed d1 rfl rfl rfl))
    intro a28 s22 D20; have ok25 := D20.ok; have F26 := F25.step0 D20.stp; have q108 := D20.kt q104 rfl; have q109 := D20.kt q105 rfl; have q110 := D20.kt q106 rfl; have q111 := D20.kt q107 rfl; have o18 := Own.k0 o17 D20.stp; have q112 := D20.dn 3 rfl rfl; clear D20; refine tn ?_
    refine cond_p (p := (((j : Nat) : Int) < (((List.length E) : Nat) : Int))) q112 (fun c4 => ?_) (fun c4 => ?_)
    ·
     refine wp_skip ?_; refine tn ?_; refine wp_seq ?_; refine wp_block ?_; refine wp_seq ?_
     refine rg a28 s22 [(Ty.nat j), (Ty.bool (decide (((j : Nat) : Int) = (0 : Int)))), (Ty.bool (decide (((j : Nat) : Int) = (0 : Int)))), (Ty.grd ((decide (((j : Nat) : Int) = (0 : Int))) = false) (Ty.lst Ty.ints E)), (Ty.grd ((decide (((j : Nat) : Int) = (0 : Int))) = false) (Ty.nat j)), (Ty.grd ((decide (((j : Nat) : Int) = (0 : Int))) = false) (Ty.ref [(Ty.lst Ty.int (E.getD j []))])), (Ty.grd ((decide (((j : Nat) : Int) = (0 : Int))) = false) (Ty.lst Ty.int (E.getD j []))), (Ty.grd ((decide (((j : Nat) : Int) = (0 : Int))) = false) (Ty.lst Ty.ints E)), (Ty.grd ((decide (((j : Nat) : Int) = (0 : Int))) = false) (Ty.nat j)), (Ty.grd ((decide (((j : Nat) : Int) = (0 : Int))) = false) (Ty.nat (j - 1))), (Ty.grd ((decide (((j : Nat) : Int) = (0 : Int))) = false) (Ty.ref [(Ty.lst Ty.int (E.getD (j - 1) []))])), (Ty.grd ((decide (((j : Nat) : Int) = (0 : Int))) = false) (Ty.lst Ty.int (E.getD (j - 1) []))), (Ty.grd ((decide (((j : Nat) : Int) = (0 : Int))) = false) (Ty.bool (decide (((E.getD j [])) = ((E.getD (j - 1) [])))))), (Ty.grd ((decide (((j : Nat) : Int) = (0 : Int))) = false) (Ty.bool (!(decide (((E.getD j [])) = ((E.getD (j - 1) []))))))), (Ty.bool ((decide (((j : Nat) : Int) = (0 : Int))) || (!(decide (((E.getD j [])) = ((E.getD (j - 1) [])))))))] ok25 ⟨?_, ?_, ?_, ?_, ?_, ?_, ?_, ?_, ?_, ?_, ?_, ?_, ?_, ?_, ?_, trivial⟩ ?_
     · intro G H I J O; exact rP (y_move (kp (O 11 rfl) I q108))
     · intro G H I J O d0; exact rP (y_eql (ed d0 rfl rfl rfl) rfl)
     · intro G H I J O d0; exact rP (y_move (ed d0 rfl rfl rfl))
     · intro G H I J O d0
       refine run_guard J rfl rfl (by decide) (ed d0 rfl rfl rfl) (fun hg => ?_)
       have hp := of_decide_eq_false hg
       exact y_move (kp (O 6 rfl) I q111)
     · intro G H I J O d0
       refine run_guard J rfl rfl (by decide) (ed d0 rfl rfl rfl) (fun hg => ?_)
       have hp := of_decide_eq_false hg
       exact y_move (kp (O 11 rfl) I q108)
     · intro G H I J O d0 d1 d2
       refine run_guard J rfl rfl (by decide) (ed d2 rfl rfl rfl) (fun hg => ?_)
       have hp := of_decide_eq_false hg
       exact y_index1 Try.underlying29 Try.inf23 ((ed d0 rfl rfl rfl).1 hg) ((ed d1 rfl rfl rfl).1 hg) (by omega) (lst_get Ty.ints E [] j (by omega))
     · intro G H I J O d0 d1
       refine run_guard J rfl rfl (by decide) (ed d1 rfl rfl rfl) (fun hg => ?_)
       have hp := of_decide_eq_false hg
       exact y_load Try.underlying23 rfl ((ed d0 rfl rfl rfl).1 hg) rfl
     · intro G H I J O d0
       refine run_guard J rfl rfl (by decide) (ed d0 rfl rfl rfl) (fun hg => ?_)
       have hp := of_decide_eq_false hg
       exact y_move (kp (O 6 rfl) I q111)
     · intro G H I J O d0
       refine run_guard J rfl rfl (by decide) (ed d0 rfl rfl rfl) (fun hg => ?_)
       have hp := of_decide_eq_false hg
       exact y_move (kp (O 11 rfl) I q108)
     · intro G H I J O d0 d1
       refine run_guard J rfl rfl (by decide) (ed d1 rfl rfl rfl) (fun hg => ?_)
       have hp := of_decide_eq_false hg
       exact (y_sub ((ed d0 rfl rfl rfl).1 hg) rfl (w64 (by omega) (by omega))).mono (fun τ _ h => cvi (σ := τ) (by omega) h)
     · intro G H I J O d0 d1 d2
       refine run_guard J rfl rfl (by decide) (ed d2 rfl rfl rfl) (fun hg => ?_)
       have hp := of_decide_eq_false hg
       exact y_index1 Try.underlying29 Try.inf23 ((ed d0 rfl rfl rfl).1 hg) ((ed d1 rfl rfl rfl).1 hg) (by omega) (lst_get Ty.ints E [] (j - 1) (by omega))
     · intro G H I J O d0 d1
       refine run_guard J rfl rfl (by decide) (ed d1 rfl rfl rfl) (fun hg => ?_)
       have hp := of_decide_eq_false hg
       exact y_load Try.underlying23 rfl ((ed d0 rfl rfl rfl).1 hg) rfl
     · intro G H I J O d0 d1 d2 d3
       refine run_guard J rfl rfl (by decide) (ed d2 rfl rfl rfl) (fun hg => ?_)
       have hp := of_decide_eq_false hg
       exact y_call #[G.eval (.tmp 72), G.eval (.tmp 77)] Try.func14 rfl rfl (by simp only [List.map_toArray, List.map_cons, List.map_nil]) (rsame_fn ((E.getD j [])) ((E.getD (j - 1) [])) _ _ _ ((ed d0 rfl rfl rfl).1 hg) ((ed d1 rfl rfl rfl).1 hg) )
     · intro G H I J O d0 d1
       refine run_guard J rfl rfl (by decide) (ed d1 rfl rfl rfl) (fun hg => ?_)
       have hp := of_decide_eq_false hg
       exact y_not ((ed d0 rfl rfl rfl).1 hg)
     · intro G H I J O d0 d1; exact rP (y_pick_or (ed d0 rfl rfl rfl) rfl (ed d1 rfl rfl rfl))
     intro a29 s23 D21; have ok26 := D21.ok; have F27 := F26.step0 D21.stp; have q113 := D21.kt q108 rfl; have q114 := D21.kt q109 rfl; have q115 := D21.kt q110 rfl; have q116 := D21.kt q111 rfl; have o19 := Own.k0 o18 D21.stp; have q117 := D21.dn 14 rfl rfl; clear D21; refine tn ?_
     refine cond_t q117 (fun c5 => ?_) (fun c5 => ?_)
     ·
      simp only [Bool.or_eq_true, decide_eq_true_eq, Bool.not_eq_true', decide_eq_false_iff_not] at c5; have hx : j = 0 ∨ E.getD j [] ≠ E.getD (j - 1) [] := (by rcases c5 with h_ | h_; exact .inl (by omega); exact .inr h_)
      refine reg2 (a := a29) (σ := s23) rfl 6 (fun i_ => List.getD [(Ty.pr (Ty.val x10_2)), (Ty.pr (Ty.lst Ty.ints E)), (Ty.pr (Ty.nat j)), (Ty.pr (Ty.ref [(Ty.lst Ty.int (E.getD j []))])), (Ty.pr (Ty.lst Ty.int (E.getD j []))), (Ty.pr (Ty.sl 1 1 [(Ty.lst Ty.int (E.getD j []))]))] i_ Pr.any) ok26 rfl (by decide) rfl ⟨?_, ?_, ?_, ?_, ?_, ?_, trivial⟩ ?_
      · intro G H I J O; exact rP (y_move (kp (O 10 rfl) I q114))
      · intro G H I J O; exact rP (y_move (kp (O 6 rfl) I q116))
      · intro G H I J O; exact rP (y_move (kp (O 11 rfl) I q113))
      · intro G H I J O d0 d1; exact rP (y_index1 Try.underlying29 Try.inf23 (ed d0 rfl rfl rfl) (ed d1 rfl rfl rfl) (by omega) (lst_get Ty.ints E [] j (by omega)))
      · intro G H I J O d0; exact rP (y_load Try.underlying23 rfl (ed d0 rfl rfl rfl) rfl)
      · intro G H I J O d0; exact rP (y_build1o Try.underlying29 Try.inf23 rfl (one_sl) (ed d0 rfl rfl rfl))
      intro a30 s24 D22; have ok27 := D22.ok; have F28 := F27.step0 D22.stp; have q118 := D22.kt q113 rfl; have q119 := D22.kt q114 rfl; have q120 := D22.kt q115 rfl; have q121 := D22.kt q116 rfl; have o20 := Own.k0 o19 D22.stp
      have q122 : At (Ty.val x10_2) s24 a30 (.tmp 81) := D22.done 0 (by decide)
      have q123 := D22.dn 5 (by decide) rfl rfl
      have b2 := sl_le q123
      clear D22
      refine tailL (L := [6]) (R := (fun v τ => Own τ 6 23 1 v ((List.length (onceTo E j)) + 1) ((List.map Ty.ints (onceTo E j)) ++ [(Ty.lst Ty.int (E.getD j []))]))) rfl rfl (by decide) ok27 (YldM.toL (m_append Try.underlying29 Try.inf23 (by decide) rfl (by decide) (al (R := (Pr.own 6 23 1 (List.length (onceTo E j)) (List.map Ty.ints (onceTo E j)))) q122 o20) q123 (by intro U hU; simp at hU; subst hU; exact one_sl) (by omega) (by omega))) (fun a31 s25 hs3 ok28 r3 sm3 => ?_)
      have F29 := F28.stepL hs3 (by decide); have q124 := kpL hs3 (by decide) (sm3 11 (by decide)) q118; have q125 := kpL hs3 (by decide) (sm3 10 (by decide)) q119; have q126 := kpL hs3 (by decide) (sm3 5 (by decide)) q120; have q127 := kpL hs3 (by decide) (sm3 6 (by decide)) q121
      obtain ⟨x2, hx2⟩ : ∃ x, a31.eval (.tmp 87) = x := ⟨_, rfl⟩
      have q128 : At (Ty.val x2) s25 a31 (.tmp 87) := hx2
      have o21 : Own s25 6 23 1 x2 (List.length ((onceTo E j) ++ [(E.getD j [])])) (List.map Ty.ints ((onceTo E j) ++ [(E.getD j [])])) := al2 (R := (Pr.own 6 23 1 (List.length ((onceTo E j) ++ [(E.getD j [])])) (List.map Ty.ints ((onceTo E j) ++ [(E.getD j [])])))) hx2 (cvo (by simp) (by first | (rw [List.map_append]; rfl) | simp) r3)
      clear r3
      refine tailL (L := []) (R := (fun v τ => Pr.has (Ty.pr (Ty.val x2)) τ v)) rfl rfl (by decide) ok28 (Yld.toL (y_assign q128)) (fun a32 s26 hs4 ok29 r4 sm4 => ?_)
      have F30 := F29.stepL hs4 (by decide); have q129 := kpL hs4 (by decide) (sm4 11 (by decide)) q124; have q130 := kpL hs4 (by decide) (sm4 5 (by decide)) q126; have q131 := kpL hs4 (by decide) (sm4 6 (by decide)) q127; have o22 := Own.keepL o21 hs4 (by decide) (by decide)
      have q132 : At (Ty.val x2) s26 a32 (.tmp 10) := r4
      clear r4; refine wpList_nil ?_; refine bn ?_; refine tn ?_
      refine rg a32 s26 [(Ty.nat j), (Ty.nat (j + 1)), (Ty.nat (j + 1))] ok29 ⟨?_, ?_, ?_, trivial⟩ ?_
      · intro G H I J O; exact rP (y_move (kp (O 11 rfl) I q129))
      · intro G H I J O d0; exact rP ((y_add (ed d0 rfl rfl rfl) rfl (w64 (by omega) (by omega))).mono (fun τ _ h => cvi (σ := τ) (by first | omega | exact (Int.natCast_mul _ _).symm) h))
      · intro G H I J O d0 d1 d2; exact rP (y_assign (ed d0 rfl rfl rfl))
      intro a33 s27 D23; have ok30 := D23.ok; have F31 := F30.step0 D23.stp; have q133 := D23.kt q130 rfl; have q134 := D23.kt q131 rfl; have q135 := D23.kt q132 rfl; have o23 := Own.k0 o22 D23.stp; have q136 := D23.dn 2 rfl rfl; clear D23
      exact tn ⟨E.length - ((j+1)), by omega, s27, (j+1), x2, rfl, F31, ok30, (cvi (by (first | rfl | omega | (simp_all; done) | (simp_all; omega))) q136), q135, q133, q134, (cvo (by (rw [onceTo, if_pos hx])) (by (rw [onceTo, if_pos hx])) o23), by omega, rfl⟩
     ·
      obtain ⟨d1, d2⟩ := Bool.or_eq_false_iff.mp c5
      replace d1 := of_decide_eq_false d1
      simp only [Bool.or_eq_false_iff, Bool.not_eq_false', decide_eq_true_eq, decide_eq_false_iff_not] at c5; have hx : ¬ (j = 0 ∨ E.getD j [] ≠ E.getD (j - 1) []) := (by rintro (h_ | h_); exact c5.1 (by omega); exact h_ c5.2)
      refine wp_skip ?_; refine bn ?_; refine tn ?_
      refine rg a29 s23 [(Ty.nat j), (Ty.nat (j + 1)), (Ty.nat (j + 1))] ok26 ⟨?_, ?_, ?_, trivial⟩ ?_
      · intro G H I J O; exact rP (y_move (kp (O 11 rfl) I q113))
      · intro G H I J O d0; exact rP ((y_add (ed d0 rfl rfl rfl) rfl (w64 (by omega) (by omega))).mono (fun τ _ h => cvi (σ := τ) (by first | omega | exact (Int.natCast_mul _ _).symm) h))
      · intro G H I J O d0 d1 d2; exact rP (y_assign (ed d0 rfl rfl rfl))
      intro a34 s28 D24; have ok31 := D24.ok; have F32 := F27.step0 D24.stp; have q137 := D24.kt q114 rfl; have q138 := D24.kt q115 rfl; have q139 := D24.kt q116 rfl; have o24 := Own.k0 o19 D24.stp; have q140 := D24.dn 2 rfl rfl; clear D24
      exact tn ⟨E.length - ((j+1)), by omega, s28, (j+1), x10_2, rfl, F32, ok31, (cvi (by (first | rfl | omega | (simp_all; done) | (simp_all; omega))) q140), q137, q138, q139, (cvo (by (rw [onceTo, if_neg hx])) (by (rw [onceTo, if_neg hx])) o24), by omega, rfl⟩
    ·
     refine wp_exit ?_; refine tx ?_; refine tx ?_; refine bx ?_; refine tn ?_; refine wp_seq ?_
     refine rg a28 s22 [(Ty.val x10_2), (Ty.bool (sfTo RT RT.length i)), (Ty.val x10_2), (Ty.bool (sfTo RT RT.length i))] ok25 ⟨?_, ?_, ?_, ?_, trivial⟩ ?_
     · intro G H I J O; exact rP (y_move (kp (O 10 rfl) I q109))
     · intro G H I J O d0; exact rP (y_move (kp (O 5 rfl) I q110))
     · intro G H I J O d0 d1 d2; exact rP (y_assign (ed d0 rfl rfl rfl))
     · intro G H I J O d0 d1 d2 d3 d4; exact rP (y_assign (ed d0 rfl rfl rfl))
     intro a35 s29 D25; have ok32 := D25.ok; have F33 := F26.step0 D25.stp; have o25 := Own.k0 o18 D25.stp
     have q141 : At (Ty.val x10_2) s29 a35 (.tmp 2) := D25.done 2
     have q142 := D25.dn 3 rfl rfl; clear D25; refine tn ?_; refine wp_ret ?_
     obtain ⟨t8, e2, h2, q143⟩ := Own.seal o25 (by decide)
     rw [← e2]
     have F34 := F33.step h2 (by decide)
     have q144 : At (Ty.lst Ty.ints (onceTo E j)) t8 a35 (.tmp 2) := by have e : a35.eval (.tmp 2) = x10_2 := q141; show Ty.has _ _ _; rw [e]; exact q143
     have q145 := Ty.up (Ty.bool (sfTo RT RT.length i)) (h2.le (by decide)) q142
     exact retL2 rfl ok32 F34 (hasT2 (cvt (by (unfold onceL; rw [← hRT, show j = E.length by omega, hE, hie])) q144) (cvb (by (rw [← hRT, hie])) q145))


set_option maxHeartbeats 4000000 in
set_option maxRecDepth 100000 in
theorem rSameAll_fn (a : List (List Int)) (b : List (List Int)) (σ : GW)  (v0 v1 : Value) (hv0 : Ty.has (Ty.lst Ty.ints a) σ v0) (hv1 : Ty.has (Ty.lst Ty.ints b) σ v1)   :
    FnC Try.prog 17 #[v0, v1] σ (Ty.bool (decide (a = b))) := by
 refine fn_intro0 Try.func17 rfl Try.ntmps17 (Nat.le_of_ble_eq_true rfl) (fun s0 a0 hle F0 ok0 hargs => ?_)
 have p0 : At (Ty.lst Ty.ints a) s0 a0 (.tmp 0) := by have e := hargs 0 _ rfl; show Ty.has _ _ _; rw [e]; exact Ty.up _ hle hv0
 have b1 := sl_le p0
 have p1 : At (Ty.lst Ty.ints b) s0 a0 (.tmp 1) := by have e := hargs 1 _ rfl; show Ty.has _ _ _; rw [e]; exact Ty.up _ hle hv1
 have b2 := sl_le p1
 clear hargs; refine wp_seq ?_
 refine rg a0 s0 [(Ty.bool false)] ok0 ⟨?_, trivial⟩ ?_
 · intro G H I J O; exact rP (y_assign rfl)
 intro a1 s1 D1; have ok1 := D1.ok; have F1 := F0.step0 D1.stp; have q1 := D1.kt p0 rfl; have q2 := D1.kt p1 rfl; clear D1; refine tn ?_; refine wp_seq ?_; refine wp_seq ?_
 refine rg a1 s1 [(Ty.lst Ty.ints a), (Ty.nat (List.length a)), (Ty.lst Ty.ints b), (Ty.nat (List.length b)), (Ty.bool (decide ((((List.length a) : Nat) : Int) ≠ (((List.length b) : Nat) : Int))))] ok1 ⟨?_, ?_, ?_, ?_, ?_, trivial⟩ ?_
 · intro G H I J O; exact rP (y_move (kp (O 0 rfl) I q1))
 · intro G H I J O d0; exact rP (y_len Try.underlying29 (ed d0 rfl rfl rfl))
 · intro G H I J O; exact rP (y_move (kp (O 1 rfl) I q2))
 · intro G H I J O d0; exact rP (y_len Try.underlying29 (ed d0 rfl rfl rfl))
 · intro G H I J O d0 d1; exact rP (y_neq (ed d0 rfl rfl rfl) (ed d1 rfl rfl rfl))
 intro a2 s2 D2; have ok2 := D2.ok; have F2 := F1.step0 D2.stp; have q3 := D2.kt q1 rfl; have q4 := D2.kt q2 rfl; have q5 := D2.dn 4 rfl rfl; clear D2; refine tn ?_
 refine cond_p (p := ((((List.length a) : Nat) : Int) ≠ (((List.length b) : Nat) : Int))) q5 (fun c1 => ?_) (fun c1 => ?_)
 ·
  refine wp_seq ?_
  refine rg a2 s2 [(Ty.bool false)] ok2 ⟨?_, trivial⟩ ?_
  · intro G H I J O; exact rP (y_assign rfl)
  intro a3 s3 D3; have ok3 := D3.ok; have F3 := F2.step0 D3.stp; have q6 := D3.dn 0 rfl rfl; clear D3; refine tn ?_; refine wp_ret ?_; refine tr ?_
  exact retL1 rfl ok3 F3 (cvb (by (rw [decide_eq_false]; intro e; subst e; omega)) q6)
 ·
  refine wp_skip ?_; refine tn ?_; refine wp_seq ?_; refine wp_seq ?_
  refine rg a2 s2 [(Ty.int (0 : Int))] ok2 ⟨?_, trivial⟩ ?_
  · intro G H I J O; exact rP (y_assign rfl)
  intro a4 s4 D4; have ok4 := D4.ok; have F4 := F2.step0 D4.stp; have q7 := D4.kt q3 rfl; have q8 := D4.kt q4 rfl; have q9 := D4.dn 0 rfl rfl; clear D4; refine tn ?_; refine wp_block ?_
  refine loop (fun n1 a5 w1 => ∃ (t1 : GW) (k : Nat), t1.w = w1 ∧ FromL [] s0 t1 ∧ Ok 29 a5 ∧ At (Ty.nat k) t1 a5 (.tmp 5) ∧ At (Ty.lst Ty.ints a) t1 a5 (.tmp 0) ∧ At (Ty.lst Ty.ints b) t1 a5 (.tmp 1) ∧ (k ≤ a.length) ∧ (a.length = b.length) ∧ (∀ j, j < k → a.getD j [] = b.getD j []) ∧ n1 = a.length - k) (a.length - (0)) ?_ ?_
  ·
   exact ⟨s4, 0, rfl, F4, ok4, (cvi (by (first | rfl | omega | (simp_all; done) | (simp_all; omega))) q9), q7, q8, by omega, by omega, fun j hj => absurd hj (Nat.not_lt_zero j), rfl⟩
  ·
   rintro n2 a6 w2 ⟨t2, k, rfl, F5, ok5, q10, q11, q12, hk, hl, heq, rfl⟩
   refine wp_seq ?_; refine wp_seq ?_
   refine reg (a := a6) (σ := t2) rfl (fun i_ => List.getD [(Ty.pr (Ty.nat k)), (Ty.pr (Ty.lst Ty.ints a)), (Ty.pr (Ty.nat (List.length a))), (Ty.pr (Ty.bool (decide (((k : Nat) : Int) < (((List.length a) : Nat) : Int)))))] i_ Pr.any) ok5 rfl ⟨?_, ?_, ?_, ?_, trivial⟩ ?_
   · intro G H I J O; exact rP (y_move (kp (O 5 rfl) I q10))
   · intro G H I J O; exact rP (y_move (kp (O 0 rfl) I q11))
   · intro G H I J O d0; exact rP (y_len Try.underlying29 (ed d0 rfl rfl rfl))
   · intro G H I J O d0 d1; exact rP (y_lss (ed d0 rfl rfl rfl) (ed d1 rfl rfl rfl))
   intro a7 s5 D5; have ok6 := D5.ok; have F6 := F5.step0 D5.stp; have q13 := D5.kt q10 rfl; have q14 := D5.kt q11 rfl; have q15 := D5.kt q12 rfl; have q16 := D5.dn 3 rfl rfl; clear D5; refine tn ?_
   refine cond_p (p := (((k : Nat) : Int) < (((List.length a) : Nat) : Int))) q16 (fun c2 => ?_) (fun c2 => ?_)
   ·
    refine wp_skip ?_; refine tn ?_; refine wp_seq ?_; refine wp_block ?_; refine wp_seq ?_
    refine rg a7 s5 [(Ty.lst Ty.ints a), (Ty.nat k), (Ty.ref [(Ty.lst Ty.int (a.getD k []))]), (Ty.lst Ty.int (a.getD k [])), (Ty.lst Ty.ints b), (Ty.nat k), (Ty.ref [(Ty.lst Ty.int (b.getD k []))]), (Ty.lst Ty.int (b.getD k [])), (Ty.bool (decide (((a.getD k [])) = ((b.getD k []))))), (Ty.bool (decide (((a.getD k [])) = ((b.getD k [])))))] ok6 ⟨?_, ?_, ?_, ?_, ?_, ?_, ?_, ?_, ?_, ?_, trivial⟩ ?_
    · intro G H I J O; exact rP (y_move (kp (O 0 rfl) I q14))
    · intro G H I J O; exact rP (y_move (kp (O 5 rfl) I q13))
    · intro G H I J O d0 d1; exact rP (y_index1 Try.underlying29 Try.inf23 (ed d0 rfl rfl rfl) (ed d1 rfl rfl rfl) (by omega) (lst_get Ty.ints a [] k (by omega)))
    · intro G H I J O d0; exact rP (y_load Try.underlying23 rfl (ed d0 rfl rfl rfl) rfl)
    · intro G H I J O; exact rP (y_move (kp (O 1 rfl) I q15))
    · intro G H I J O; exact rP (y_move (kp (O 5 rfl) I q13))
    · intro G H I J O d0 d1; exact rP (y_index1 Try.underlying29 Try.inf23 (ed d0 rfl rfl rfl) (ed d1 rfl rfl rfl) (by omega) (lst_get Ty.ints b [] k (by omega)))
    · intro G H I J O d0; exact rP (y_load Try.underlying23 rfl (ed d0 rfl rfl rfl) rfl)
    · intro G H I J O d0 d1; exact rP (y_call #[G.eval (.tmp 21), G.eval (.tmp 25)] Try.func14 rfl rfl (by simp only [List.map_toArray, List.map_cons, List.map_nil]) (rsame_fn ((a.getD k [])) ((b.getD k [])) _ _ _ (ed d0 rfl rfl rfl) (ed d1 rfl rfl rfl) ))
    · intro G H I J O d0 d1 d2 d3 d4 d5 d6 d7 d8 d9 d10; exact rP (y_assign (ed d0 rfl rfl rfl))
    intro a8 s6 D6; have ok7 := D6.ok; have F7 := F6.step0 D6.stp; have q17 := D6.kt q13 rfl; have q18 := D6.kt q14 rfl; have q19 := D6.kt q15 rfl; have q20 := D6.dn 9 rfl rfl; clear D6; refine tn ?_; refine wp_seq ?_
    refine rg a8 s6 [(Ty.bool (decide (((a.getD k [])) = ((b.getD k []))))), (Ty.bool (!(decide (((a.getD k [])) = ((b.getD k []))))))] ok7 ⟨?_, ?_, trivial⟩ ?_
    · intro G H I J O; exact rP (y_move (kp (O 6 rfl) I q20))
    · intro G H I J O d0; exact rP (y_not (ed d0 rfl rfl rfl))
    intro a9 s7 D7; have ok8 := D7.ok; have F8 := F7.step0 D7.stp; have q21 := D7.kt q17 rfl; have q22 := D7.kt q18 rfl; have q23 := D7.kt q19 rfl; have q24 := D7.dn 1 rfl rfl; clear D7; refine tn ?_
    refine cond_t q24 (fun c3 => ?_) (fun c3 => ?_)
    ·
     refine wp_seq ?_
     refine rg a9 s7 [(Ty.bool false)] ok8 ⟨?_, trivial⟩ ?_
     · intro G H I J O; exact rP (y_assign rfl)
     intro a10 s8 D8; have ok9 := D8.ok; have F9 := F8.step0 D8.stp; have q25 := D8.dn 0 rfl rfl; clear D8; refine tn ?_; refine wp_ret ?_; refine br ?_; refine tr ?_; refine tr ?_; refine br ?_; refine tr ?_
     exact retL1 rfl ok9 F9 (cvb (by (exact (decide_eq_false (fun e => by subst e; simp at c3)).symm)) q25)
    ·
     refine wp_skip ?_; refine bn ?_; refine tn ?_
     refine rg a9 s7 [(Ty.nat k), (Ty.int (((k : Nat) : Int) + (1 : Int))), (Ty.int (((k : Nat) : Int) + (1 : Int)))] ok8 ⟨?_, ?_, ?_, trivial⟩ ?_
     · intro G H I J O; exact rP (y_move (kp (O 5 rfl) I q21))
     · intro G H I J O d0; exact rP (y_add (ed d0 rfl rfl rfl) rfl (w64 (by omega) (by omega)))
     · intro G H I J O d0 d1 d2; exact rP (y_assign (ed d0 rfl rfl rfl))
     intro a11 s9 D9; have ok10 := D9.ok; have F10 := F8.step0 D9.stp; have q26 := D9.kt q22 rfl; have q27 := D9.kt q23 rfl; have q28 := D9.dn 2 rfl rfl; clear D9
     exact tn ⟨a.length - ((k+1)), by omega, s9, (k+1), rfl, F10, ok10, (cvi (by (first | rfl | omega | (simp_all; done) | (simp_all; omega))) q28), q26, q27, by omega, by omega, all_snocs heq (by simpa using c3), rfl⟩
   ·
    refine wp_exit ?_; refine tx ?_; refine tx ?_; refine bx ?_; refine tn ?_; refine wp_seq ?_
    refine rg a7 s5 [(Ty.bool true)] ok6 ⟨?_, trivial⟩ ?_
    · intro G H I J O; exact rP (y_assign rfl)
    intro a12 s10 D10; have ok11 := D10.ok; have F11 := F6.step0 D10.stp; have q29 := D10.dn 0 rfl rfl; clear D10; refine tn ?_; refine wp_ret ?_
    exact retL1 rfl ok11 F11 (cvb (by (exact (decide_eq_true (lists_ext (by omega) (fun j hj => heq j (by omega)))).symm)) q29)


set_option maxHeartbeats 4000000 in
set_option maxRecDepth 100000 in
theorem rEnds_fn (nm : ByteArray) (n : Int) (l : List (List Int)) (sx : Int) (lx : List (List Int)) (σ : GW)  (v0 v1 : Value) (hv0 : Ty.has (Ty.agg [(Ty.val (Value.string nm)), (Ty.int n), (Ty.lst Ty.ints l)]) σ v0) (hv1 : Ty.has (Ty.agg [(Ty.val (Value.int .i32 sx)), (Ty.lst Ty.ints lx)]) σ v1)  (hx : lx.length ≤ l.length) (hl2 : l.length ≤ 200) :
    FnC Try.prog 67 #[v0, v1] σ (Ty.lst Ty.ints (endsL l (sx, lx))) := by
 have htk : (List.take (l.length - lx.length) l).length = l.length - lx.length := by rw [List.length_take]; omega
 refine fn_intro0 Try.func67 rfl Try.ntmps67 (Nat.le_of_ble_eq_true rfl) (fun s0 a0 hle F0 ok0 hargs => ?_)
 have p0 : At (Ty.agg [(Ty.val (Value.string nm)), (Ty.int n), (Ty.lst Ty.ints l)]) s0 a0 (.tmp 0) := by have e := hargs 0 _ rfl; show Ty.has _ _ _; rw [e]; exact Ty.up _ hle hv0
 have p1 : At (Ty.agg [(Ty.val (Value.int .i32 sx)), (Ty.lst Ty.ints lx)]) s0 a0 (.tmp 1) := by have e := hargs 1 _ rfl; show Ty.has _ _ _; rw [e]; exact Ty.up _ hle hv1
 clear hargs; refine wp_seq ?_
 refine rg a0 s0 [(Ty.ref [(Ty.val (Value.string nm)), (Ty.int n), (Ty.lst Ty.ints l)]), (Ty.ref [(Ty.val (Value.int .i32 sx)), (Ty.lst Ty.ints lx)]), (Ty.val (Value.slice none 0 0))] ok0 ⟨?_, ?_, ?_, trivial⟩ ?_
 · intro G H I J O; exact rP (y_boxagg (kp (O 0 rfl) I p0))
 · intro G H I J O; exact rP (y_boxagg (kp (O 1 rfl) I p1))
 · intro G H I J O; exact rP (y_assign rfl)
 intro a1 s1 D1; have ok1 := D1.ok; have F1 := F0.step0 D1.stp; have q1 := D1.dn 0 rfl rfl; have q2 := D1.dn 1 rfl rfl; clear D1; refine tn ?_; refine wp_seq ?_
 refine rg a1 s1 [(Ty.ref [(Ty.lst Ty.ints l)]), (Ty.lst Ty.ints l), (Ty.nat (List.length l)), (Ty.ref [(Ty.lst Ty.ints lx)]), (Ty.lst Ty.ints lx), (Ty.nat (List.length lx)), (Ty.nat ((List.length l) - (List.length lx))), (Ty.nat ((List.length l) - (List.length lx)))] ok1 ⟨?_, ?_, ?_, ?_, ?_, ?_, ?_, ?_, trivial⟩ ?_
 · intro G H I J O; exact rP (y_field Try.fld31_2 Try.inf29 (by decide) (kp (O 2 rfl) I q1) rfl)
 · intro G H I J O d0; exact rP (y_load Try.underlying29 rfl (ed d0 rfl rfl rfl) rfl)
 · intro G H I J O d0; exact rP (y_len Try.underlying29 (ed d0 rfl rfl rfl))
 · intro G H I J O; exact rP (y_field Try.fld56_1 Try.inf29 (by decide) (kp (O 3 rfl) I q2) rfl)
 · intro G H I J O d0; exact rP (y_load Try.underlying29 rfl (ed d0 rfl rfl rfl) rfl)
 · intro G H I J O d0; exact rP (y_len Try.underlying29 (ed d0 rfl rfl rfl))
 · intro G H I J O d0 d1; exact rP ((y_sub (ed d0 rfl rfl rfl) (ed d1 rfl rfl rfl) (w64 (by omega) (by omega))).mono (fun τ _ h => cvi (σ := τ) (by omega) h))
 · intro G H I J O d0 d1 d2 d3 d4 d5 d6 d7; exact rP (y_assign (ed d0 rfl rfl rfl))
 intro a2 s2 D2; have ok2 := D2.ok; have F2 := F1.step0 D2.stp; have q3 := D2.kt q1 rfl; have q4 := D2.kt q2 rfl; have q5 := D2.dn 7 rfl rfl; clear D2; refine tn ?_; refine wp_seq ?_
 refine reg2 (a := a2) (σ := s2) rfl 8 (fun i_ => List.getD [(Pr.own0 7 23), (Ty.pr (Ty.ref [(Ty.lst Ty.ints l)])), (Ty.pr (Ty.lst Ty.ints l)), (Ty.pr (Ty.nat ((List.length l) - (List.length lx)))), (Ty.pr (Ty.lst Ty.ints (l.take ((List.length l) - (List.length lx))))), (Pr.own 7 23 1 (List.length (l.take ((List.length l) - (List.length lx)))) (List.map Ty.ints (l.take ((List.length l) - (List.length lx))))), (Ty.pr (Ty.ref [(Ty.lst Ty.ints lx)])), (Ty.pr (Ty.lst Ty.ints lx))] i_ Pr.any) ok2 rfl (by decide) rfl ⟨?_, ?_, ?_, ?_, ?_, ?_, ?_, ?_, trivial⟩ ?_
 · intro G H I J O; exact rP (y_lit00 (k := 7) Try.underlying29 Try.inf23)
 · intro G H I J O; exact rP (y_field Try.fld31_2 Try.inf29 (by decide) (kp (O 2 rfl) I q3) rfl)
 · intro G H I J O d0; exact rP (y_load Try.underlying29 rfl (ed d0 rfl rfl rfl) rfl)
 · intro G H I J O; exact rP (y_move (kp (O 5 rfl) I q5))
 · intro G H I J O d0 d1; exact rP (y_take Try.underlying29 Try.inf23 (ed d0 rfl rfl rfl) (ed d1 rfl rfl rfl) (by omega))
 · intro G H I J O d0 d1
   have e0 : (Pr.own0 7 23).has H (G.eval (.tmp 13)) := d0 rfl
   exact rP (y_append0 Try.underlying29 Try.inf23 (by decide) rfl e0 (ed d1 rfl rfl rfl) (one_map (fun _ => one_sl)) (by omega) (by omega))
 · intro G H I J O; exact rP (y_field Try.fld56_1 Try.inf29 (by decide) (kp (O 3 rfl) I q4) rfl)
 · intro G H I J O d0; exact rP (y_load Try.underlying29 rfl (ed d0 rfl rfl rfl) rfl)
 intro a3 s3 D3; have ok3 := D3.ok; have F3 := F2.step0 D3.stp
 obtain ⟨x1, hx1⟩ : ∃ x, a3.eval (.tmp 18) = x := ⟨_, rfl⟩
 have q6 : At (Ty.val x1) s3 a3 (.tmp 18) := hx1
 have o1 : Own s3 7 23 1 x1 (List.length (l.take ((List.length l) - (List.length lx)))) (List.map Ty.ints (l.take ((List.length l) - (List.length lx)))) := al2 (R := (Pr.own 7 23 1 (List.length (l.take ((List.length l) - (List.length lx)))) (List.map Ty.ints (l.take ((List.length l) - (List.length lx)))))) hx1 (D3.done 5 (by decide))
 have q7 := D3.dn 7 (by decide) rfl rfl
 have b1 := sl_le q7
 clear D3
 refine tailL (L := [7]) (R := (fun v τ => Own τ 7 23 1 v ((List.length (l.take ((List.length l) - (List.length lx)))) + (List.length lx)) ((List.map Ty.ints (l.take ((List.length l) - (List.length lx)))) ++ (List.map Ty.ints lx)))) rfl rfl (by decide) ok3 (YldM.toL (m_append Try.underlying29 Try.inf23 (by decide) rfl (by decide) (al (R := (Pr.own 7 23 1 (List.length (l.take ((List.length l) - (List.length lx)))) (List.map Ty.ints (l.take ((List.length l) - (List.length lx)))))) q6 o1) q7 (one_map (fun _ => one_sl)) (by omega) (by omega))) (fun a4 s4 hs1 ok4 r1 sm1 => ?_)
 have F4 := F3.stepL hs1 (by decide)
 obtain ⟨x2, hx2⟩ : ∃ x, a4.eval (.tmp 21) = x := ⟨_, rfl⟩
 have q8 : At (Ty.val x2) s4 a4 (.tmp 21) := hx2
 have o2 : Own s4 7 23 1 x2 (List.length ((l.take ((List.length l) - (List.length lx))) ++ lx)) (List.map Ty.ints ((l.take ((List.length l) - (List.length lx))) ++ lx)) := al2 (R := (Pr.own 7 23 1 (List.length ((l.take ((List.length l) - (List.length lx))) ++ lx)) (List.map Ty.ints ((l.take ((List.length l) - (List.length lx))) ++ lx)))) hx2 (cvo (by simp) (by first | (rw [List.map_append]; rfl) | simp) r1)
 clear r1
 refine tailL (L := []) (R := (fun v τ => Pr.has (Ty.pr (Ty.val x2)) τ v)) rfl rfl (by decide) ok4 (Yld.toL (y_assign q8)) (fun a5 s5 hs2 ok5 r2 sm2 => ?_)
 have F5 := F4.stepL hs2 (by decide); have o3 := Own.keepL o2 hs2 (by decide) (by decide)
 have q9 : At (Ty.val x2) s5 a5 (.tmp 4) := r2
 clear r2; refine wpList_nil ?_; refine tn ?_; refine wp_ret ?_
 obtain ⟨t1, e1, h1, q10⟩ := Own.seal o3 (by decide)
 rw [← e1]
 have F6 := F5.step h1 (by decide)
 have q11 : At (Ty.lst Ty.ints ((l.take ((List.length l) - (List.length lx))) ++ lx)) t1 a5 (.tmp 4) := by have e : a5.eval (.tmp 4) = x2 := q9; show Ty.has _ _ _; rw [e]; exact q10
 exact retL1 rfl ok5 F6 (cvt (by (first | rfl | omega | (simp_all; done) | (simp_all; omega))) q11)


set_option maxHeartbeats 4000000 in
set_option maxRecDepth 100000 in
theorem rTouchRows_fn (nm : ByteArray) (n : Int) (l : List (List Int)) (cs : List BCall) (leads : List Int) (σ : GW)  (v0 v1 v2 : Value) (hv0 : Ty.has (Ty.agg [(Ty.val (Value.string nm)), (Ty.int n), (Ty.lst Ty.ints l)]) σ v0) (hv1 : Ty.has (Ty.lstc 2 callC cs) σ v1) (hv2 : Ty.has (Ty.lst Ty.int leads) σ v2)  (h0 : touchMay nm n l cs leads = 0) :
    FnC Try.prog 29 #[v0, v1, v2] σ (Ty.lst Ty.ints (tRows n.toNat l cs leads leads.length)) := by
 obtain ⟨hok, hnn, hlo, hlh, hin, hlim⟩ := touchMay_ok h0; have hl1 := hok.meth.l1; have hl2 := hok.meth.l2; have hn1 := hok.meth.n1; have hn2 := hok.meth.n2
 refine fn_intro0 Try.func29 rfl Try.ntmps29 (Nat.le_of_ble_eq_true rfl) (fun s0 a0 hle F0 ok0 hargs => ?_)
 have p0 : At (Ty.agg [(Ty.val (Value.string nm)), (Ty.int n), (Ty.lst Ty.ints l)]) s0 a0 (.tmp 0) := by have e := hargs 0 _ rfl; show Ty.has _ _ _; rw [e]; exact Ty.up _ hle hv0
 have p1 : At (Ty.lstc 2 callC cs) s0 a0 (.tmp 1) := by have e := hargs 1 _ rfl; show Ty.has _ _ _; rw [e]; exact Ty.up _ hle hv1
 have b1 := sl_le p1
 have p2 : At (Ty.lst Ty.int leads) s0 a0 (.tmp 2) := by have e := hargs 2 _ rfl; show Ty.has _ _ _; rw [e]; exact Ty.up _ hle hv2
 have b2 := sl_le p2
 clear hargs; refine wp_seq ?_
 refine rg a0 s0 [(Ty.ref [(Ty.val (Value.string nm)), (Ty.int n), (Ty.lst Ty.ints l)]), (Ty.val (Value.slice none 0 0))] ok0 ⟨?_, ?_, trivial⟩ ?_
 · intro G H I J O; exact rP (y_boxagg (kp (O 0 rfl) I p0))
 · intro G H I J O; exact rP (y_assign rfl)
 intro a1 s1 D1; have ok1 := D1.ok; have F1 := F0.step0 D1.stp; have q1 := D1.kt p1 rfl; have q2 := D1.kt p2 rfl; have q3 := D1.dn 0 rfl rfl; clear D1; refine tn ?_; refine wp_seq ?_
 refine reg2 (a := a1) (σ := s1) rfl 4 (fun i_ => List.getD [(Ty.pr (Ty.ref [(Ty.int n), (Ty.lst Ty.ints l)])), (Ty.pr (Ty.int n)), (Ty.pr (Ty.lst Ty.int (roundsL ((n).toNat)))), (Pr.own 5 23 1 1 (List.map Ty.ints [(roundsL ((n).toNat))]))] i_ Pr.any) ok1 rfl (by decide) rfl ⟨?_, ?_, ?_, ?_, trivial⟩ ?_
 · intro G H I J O; exact rP (y_field Try.fld31_1 Try.inf3 (by decide) (kp (O 3 rfl) I q3) rfl)
 · intro G H I J O d0; exact rP (y_load Try.underlying3 rfl (ed d0 rfl rfl rfl) rfl)
 · intro G H I J O d0; exact rP (y_call #[G.eval (.tmp 11)] Try.func64 rfl rfl (by simp only [List.map_toArray, List.map_cons, List.map_nil]) (rRounds_fn ((n).toNat) _ _ (cvi (σ := H) (by omega) (ed d0 rfl rfl rfl)) (by omega)))
 · intro G H I J O d0; exact rP ((y_lit1 (k := 5) Try.underlying29 Try.inf23 rfl (one_sl) (ed d0 rfl rfl rfl)).mono (fun _ _ h => cvo (by simp) (by simp) h))
 intro a2 s2 D2; have ok2 := D2.ok; have F2 := F1.step0 D2.stp; have q4 := D2.kt q1 rfl; have q5 := D2.kt q2 rfl; have q6 := D2.kt q3 rfl
 obtain ⟨x1, hx1⟩ : ∃ x, a2.eval (.tmp 13) = x := ⟨_, rfl⟩
 have q7 : At (Ty.val x1) s2 a2 (.tmp 13) := hx1
 have o1 : Own s2 5 23 1 x1 1 (List.map Ty.ints [(roundsL ((n).toNat))]) := al2 (R := (Pr.own 5 23 1 1 (List.map Ty.ints [(roundsL ((n).toNat))]))) hx1 (D2.done 3 (by decide))
 clear D2
 refine tailL (L := []) (R := (fun v τ => Pr.has (Ty.pr (Ty.val x1)) τ v)) rfl rfl (by decide) ok2 (Yld.toL (y_assign q7)) (fun a3 s3 hs1 ok3 r1 sm1 => ?_)
 have F3 := F2.stepL hs1 (by decide); have q8 := kpL hs1 (by decide) (sm1 1 (by decide)) q4; have q9 := kpL hs1 (by decide) (sm1 2 (by decide)) q5; have q10 := kpL hs1 (by decide) (sm1 3 (by decide)) q6; have o2 := Own.keepL o1 hs1 (by decide) (by decide)
 have q11 : At (Ty.val x1) s3 a3 (.tmp 7) := r1
 clear r1; refine wpList_nil ?_; refine tn ?_; refine wp_seq ?_; refine wp_seq ?_
 refine rg a3 s3 [(Ty.int (0 : Int))] ok3 ⟨?_, trivial⟩ ?_
 · intro G H I J O; exact rP (y_assign rfl)
 intro a4 s4 D3; have ok4 := D3.ok; have F4 := F3.step0 D3.stp; have q12 := D3.kt q8 rfl; have q13 := D3.kt q9 rfl; have q14 := D3.kt q10 rfl; have q15 := D3.kt q11 rfl; have o3 := Own.k0 o2 D3.stp; have q16 := D3.dn 0 rfl rfl; clear D3; refine tn ?_; refine wp_block ?_
 refine loop (fun n1 a5 w1 => ∃ (t1 : GW) (k : Nat) (x7_0 : Value), t1.w = w1 ∧ FromL [] s0 t1 ∧ Ok 41 a5 ∧ At (Ty.nat k) t1 a5 (.tmp 8) ∧ At (Ty.val x7_0) t1 a5 (.tmp 7) ∧ At (Ty.lstc 2 callC cs) t1 a5 (.tmp 1) ∧ At (Ty.lst Ty.int leads) t1 a5 (.tmp 2) ∧ At (Ty.ref [(Ty.val (Value.string nm)), (Ty.int n), (Ty.lst Ty.ints l)]) t1 a5 (.tmp 3) ∧ Own t1 5 23 1 x7_0 (List.length (tRows n.toNat l cs leads k)) (List.map Ty.ints (tRows n.toNat l cs leads k)) ∧ (k ≤ leads.length) ∧ n1 = leads.length - k) (leads.length - (0)) ?_ ?_
 ·
  exact ⟨s4, 0, x1, rfl, F4, ok4, (cvi (by (first | rfl | omega | (simp_all; done) | (simp_all; omega))) q16), q15, q12, q13, q14, (cvo (by (rfl)) (by (rfl)) o3), by omega, rfl⟩
 ·
  rintro n2 a6 w2 ⟨t2, k, x7_0, rfl, F5, ok5, q17, q18, q19, q20, q21, o4, hk, rfl⟩
  have htl := tRows_len hok hin k hk
  refine wp_seq ?_; refine wp_seq ?_
  refine reg (a := a6) (σ := t2) rfl (fun i_ => List.getD [(Ty.pr (Ty.nat k)), (Ty.pr (Ty.lst Ty.int leads)), (Ty.pr (Ty.nat (List.length leads))), (Ty.pr (Ty.bool (decide (((k : Nat) : Int) < (((List.length leads) : Nat) : Int)))))] i_ Pr.any) ok5 rfl ⟨?_, ?_, ?_, ?_, trivial⟩ ?_
  · intro G H I J O; exact rP (y_move (kp (O 8 rfl) I q17))
  · intro G H I J O; exact rP (y_move (kp (O 2 rfl) I q20))
  · intro G H I J O d0; exact rP (y_len Try.underlying23 (ed d0 rfl rfl rfl))
  · intro G H I J O d0 d1; exact rP (y_lss (ed d0 rfl rfl rfl) (ed d1 rfl rfl rfl))
  intro a7 s5 D4; have ok6 := D4.ok; have F6 := F5.step0 D4.stp; have q22 := D4.kt q17 rfl; have q23 := D4.kt q18 rfl; have q24 := D4.kt q19 rfl; have q25 := D4.kt q20 rfl; have q26 := D4.kt q21 rfl; have o5 := Own.k0 o4 D4.stp; have q27 := D4.dn 3 rfl rfl; clear D4; refine tn ?_
  refine cond_p (p := (((k : Nat) : Int) < (((List.length leads) : Nat) : Int))) q27 (fun c1 => ?_) (fun c1 => ?_)
  ·
   have hkl : k < leads.length := (by omega); obtain ⟨hk0, hkc⟩ := hin k hkl; obtain ⟨E, hE⟩ : ∃ E, E = leadE l cs leads k := ⟨_, rfl⟩; have hsh := hok.short (leads.getD k 0).toNat (by omega); obtain ⟨hHr, hHl⟩ := tHd_row hok hin k (by omega); have hR : ((tRows n.toNat l cs leads k).getD ((((((tRows n.toNat l cs leads k).length : Nat) : Int) - (1 : Int))).toNat) []) = tHd n.toNat l cs leads k := (by rw [htl, show ((((k * l.length + 1 : Nat) : Int) - (1 : Int))).toNat = k * l.length by omega]; exact tRows_last hok hin k (by omega)); have hRl : ((tRows n.toNat l cs leads k).getD ((((((tRows n.toNat l cs leads k).length : Nat) : Int) - (1 : Int))).toNat) []).length = n.toNat := (by rw [hR, hHl]); have hokE : ∀ j, j < E.length → okL 0 (E.getD j []) ((tRows n.toNat l cs leads k).getD ((((((tRows n.toNat l cs leads k).length : Nat) : Int) - (1 : Int))).toNat) []).length := (by rw [hRl, hE]; exact leadE_ok hok hin hkl); have hEl : E.length = l.length := (by rw [hE]; exact leadE_len hok hin hkl); have hfl := fromL_len (tHd n.toNat l cs leads k) E; have hfd : ((fromL (tHd n.toNat l cs leads k) E).drop 1).length = E.length := (by rw [List.length_drop, hfl]; omega); have hkm : k * l.length ≤ 400 * 200 := Nat.mul_le_mul (by omega) hl2
   refine wp_skip ?_; refine tn ?_; refine wp_seq ?_; refine wp_block ?_; refine wp_seq ?_
   refine rg a7 s5 [(Ty.val x7_0), (Ty.val x7_0), (Ty.nat (List.length (tRows n.toNat l cs leads k))), (Ty.int ((((List.length (tRows n.toNat l cs leads k)) : Nat) : Int) - (1 : Int))), (Ty.val (cellPtr x7_0 (((((List.length (tRows n.toNat l cs leads k)) : Nat) : Int) - (1 : Int))).toNat)), (Ty.lst Ty.int ((tRows n.toNat l cs leads k).getD (((((List.length (tRows n.toNat l cs leads k)) : Nat) : Int) - (1 : Int))).toNat [])), (Ty.agg [(Ty.val (Value.string nm)), (Ty.int n), (Ty.lst Ty.ints l)]), (Ty.lstc 2 callC cs), (Ty.lst Ty.int leads), (Ty.nat k), (Ty.ref [(Ty.int (leads.getD k 0))]), (Ty.int (leads.getD k 0)), (Ty.ref [(Ty.val (Value.int .i32 ((cs.getD ((leads.getD k 0)).toNat D0)).1)), (Ty.lst Ty.ints ((cs.getD ((leads.getD k 0)).toNat D0)).2)]), (Ty.agg [(Ty.val (Value.int .i32 ((cs.getD ((leads.getD k 0)).toNat D0)).1)), (Ty.lst Ty.ints ((cs.getD ((leads.getD k 0)).toNat D0)).2)]), (Ty.lst Ty.ints E), (Ty.lst Ty.ints (fromL (tHd n.toNat l cs leads k) E)), (Ty.lst Ty.ints (fromL (tHd n.toNat l cs leads k) E))] ok6 ⟨?_, ?_, ?_, ?_, ?_, ?_, ?_, ?_, ?_, ?_, ?_, ?_, ?_, ?_, ?_, ?_, ?_, trivial⟩ ?_
   · intro G H I J O; exact rP (y_move (kp (O 7 rfl) I q23))
   · intro G H I J O; exact rP (y_move (kp (O 7 rfl) I q23))
   · intro G H I J O d0; exact rP (own_len Try.underlying29 (al (R := (Pr.own 5 23 1 (List.length (tRows n.toNat l cs leads k)) (List.map Ty.ints (tRows n.toNat l cs leads k)))) (ed d0 rfl rfl rfl) (Own.k0 o5 I)))
   · intro G H I J O d0; exact rP (y_sub (ed d0 rfl rfl rfl) rfl (w64 (by omega) (by omega)))
   · intro G H I J O d0 d1; exact rP (own_index1 (i := ((((List.length (tRows n.toNat l cs leads k)) : Nat) : Int) - (1 : Int))) Try.underlying29 Try.inf23 (Own.k0 o5 I) (ed d0 rfl rfl rfl) (ed d1 rfl rfl rfl) (by omega) (by omega))
   · intro G H I J O d0; exact rP (own_load Try.underlying23 rfl (Own.k0 o5 I) (ed d0 rfl rfl rfl) (lst_get Ty.ints (tRows n.toNat l cs leads k) [] (((((List.length (tRows n.toNat l cs leads k)) : Nat) : Int) - (1 : Int))).toNat (by omega)))
   · intro G H I J O; exact rP (y_loadagg Try.underlying31 Try.inf31 (kp (O 3 rfl) I q26))
   · intro G H I J O; exact rP (y_move (kp (O 1 rfl) I q24))
   · intro G H I J O; exact rP (y_move (kp (O 2 rfl) I q25))
   · intro G H I J O; exact rP (y_move (kp (O 8 rfl) I q22))
   · intro G H I J O d0 d1; exact rP (y_index1 Try.underlying23 Try.inf3 (ed d0 rfl rfl rfl) (ed d1 rfl rfl rfl) (by omega) (lst_get Ty.int leads 0 k (by omega)))
   · intro G H I J O d0; exact rP (y_load Try.underlying3 rfl (ed d0 rfl rfl rfl) rfl)
   · intro G H I J O d0 d1; exact rP (y_indexc (i := (leads.getD k 0)) D0 Try.underlying22 Try.inf56 (ed d0 rfl rfl rfl) (ed d1 rfl rfl rfl) (by omega) (by omega) (by decide) (fun _ => rfl))
   · intro G H I J O d0; exact rP (y_loadagg Try.underlying56 Try.inf56 (ed d0 rfl rfl rfl))
   · intro G H I J O d0 d1; exact rP ((y_call #[G.eval (.tmp 26), G.eval (.tmp 33)] Try.func67 rfl rfl (by simp only [List.map_toArray, List.map_cons, List.map_nil]) (rEnds_fn (nm) (n) (l) (((cs.getD ((leads.getD k 0)).toNat D0)).1) (((cs.getD ((leads.getD k 0)).toNat D0)).2) _ _ _ (ed d0 rfl rfl rfl) (ed d1 rfl rfl rfl) (by first | omega | assumption) (by first | omega | assumption))).mono (fun τ _ h => cvt (σ := τ) (T := (Ty.lst Ty.ints (endsL l ((((cs.getD ((leads.getD k 0)).toNat D0)).1), (((cs.getD ((leads.getD k 0)).toNat D0)).2))))) (U := (Ty.lst Ty.ints E)) (by rw [hE]; rfl) h))
   · intro G H I J O d0 d1 d2; exact rP ((y_call #[G.eval (.tmp 25), G.eval (.tmp 34)] Try.func63 rfl rfl (by simp only [List.map_toArray, List.map_cons, List.map_nil]) (rFrom_fn (((tRows n.toNat l cs leads k).getD (((((List.length (tRows n.toNat l cs leads k)) : Nat) : Int) - (1 : Int))).toNat [])) (E) _ _ _ (ed d0 rfl rfl rfl) (ed d1 rfl rfl rfl) (by first | omega | assumption) (by first | omega | assumption) (by first | omega | assumption))).mono (fun τ _ h => cvt (σ := τ) (T := (Ty.lst Ty.ints (fromL (((tRows n.toNat l cs leads k).getD (((((List.length (tRows n.toNat l cs leads k)) : Nat) : Int) - (1 : Int))).toNat [])) (E)))) (U := (Ty.lst Ty.ints (fromL (tHd n.toNat l cs leads k) E))) (by rw [hR]) h))
   · intro G H I J O d0 d1 d2 d3 d4 d5 d6 d7 d8 d9 d10 d11 d12 d13 d14 d15 d16 d17; exact rP (y_assign (ed d0 rfl rfl rfl))
   intro a8 s6 D5; have ok7 := D5.ok; have F7 := F6.step0 D5.stp; have q28 := D5.kt q22 rfl; have q29 := D5.kt q23 rfl; have q30 := D5.kt q24 rfl; have q31 := D5.kt q25 rfl; have q32 := D5.kt q26 rfl; have o6 := Own.k0 o5 D5.stp; have q33 := D5.dn 16 rfl rfl; clear D5; refine tn ?_
   refine reg2 (a := a8) (σ := s6) rfl 3 (fun i_ => List.getD [(Ty.pr (Ty.val x7_0)), (Ty.pr (Ty.lst Ty.ints (fromL (tHd n.toNat l cs leads k) E))), (Ty.pr (Ty.lst Ty.ints ((fromL (tHd n.toNat l cs leads k) E).drop 1)))] i_ Pr.any) ok7 rfl (by decide) rfl ⟨?_, ?_, ?_, trivial⟩ ?_
   · intro G H I J O; exact rP (y_move (kp (O 7 rfl) I q29))
   · intro G H I J O; exact rP (y_move (kp (O 9 rfl) I q33))
   · intro G H I J O d0; exact rP (y_drop Try.underlying29 Try.inf23 (ed d0 rfl rfl rfl) (toN (σ := H) rfl (by omega)) (by omega))
   intro a9 s7 D6; have ok8 := D6.ok; have F8 := F7.step0 D6.stp; have q34 := D6.kt q28 rfl; have q35 := D6.kt q29 rfl; have q36 := D6.kt q30 rfl; have q37 := D6.kt q31 rfl; have q38 := D6.kt q32 rfl; have o7 := Own.k0 o6 D6.stp
   have q39 : At (Ty.val x7_0) s7 a9 (.tmp 36) := D6.done 0 (by decide)
   have q40 := D6.dn 2 (by decide) rfl rfl
   have b3 := sl_le q40
   clear D6
   refine tailL (L := [5]) (R := (fun v τ => Own τ 5 23 1 v ((List.length (tRows n.toNat l cs leads k)) + (List.length ((fromL (tHd n.toNat l cs leads k) E).drop 1))) ((List.map Ty.ints (tRows n.toNat l cs leads k)) ++ (List.map Ty.ints ((fromL (tHd n.toNat l cs leads k) E).drop 1))))) rfl rfl (by decide) ok8 (YldM.toL (m_append Try.underlying29 Try.inf23 (by decide) rfl (by decide) (al (R := (Pr.own 5 23 1 (List.length (tRows n.toNat l cs leads k)) (List.map Ty.ints (tRows n.toNat l cs leads k)))) q39 o7) q40 (one_map (fun _ => one_sl)) (by omega) (by omega))) (fun a10 s8 hs2 ok9 r2 sm2 => ?_)
   have F9 := F8.stepL hs2 (by decide); have q41 := kpL hs2 (by decide) (sm2 8 (by decide)) q34; have q42 := kpL hs2 (by decide) (sm2 7 (by decide)) q35; have q43 := kpL hs2 (by decide) (sm2 1 (by decide)) q36; have q44 := kpL hs2 (by decide) (sm2 2 (by decide)) q37; have q45 := kpL hs2 (by decide) (sm2 3 (by decide)) q38
   obtain ⟨x2, hx2⟩ : ∃ x, a10.eval (.tmp 39) = x := ⟨_, rfl⟩
   have q46 : At (Ty.val x2) s8 a10 (.tmp 39) := hx2
   have o8 : Own s8 5 23 1 x2 (List.length ((tRows n.toNat l cs leads k) ++ ((fromL (tHd n.toNat l cs leads k) E).drop 1))) (List.map Ty.ints ((tRows n.toNat l cs leads k) ++ ((fromL (tHd n.toNat l cs leads k) E).drop 1))) := al2 (R := (Pr.own 5 23 1 (List.length ((tRows n.toNat l cs leads k) ++ ((fromL (tHd n.toNat l cs leads k) E).drop 1))) (List.map Ty.ints ((tRows n.toNat l cs leads k) ++ ((fromL (tHd n.toNat l cs leads k) E).drop 1))))) hx2 (cvo (by simp) (by first | (rw [List.map_append]; rfl) | simp) r2)
   clear r2
   refine tailL (L := []) (R := (fun v τ => Pr.has (Ty.pr (Ty.val x2)) τ v)) rfl rfl (by decide) ok9 (Yld.toL (y_assign q46)) (fun a11 s9 hs3 ok10 r3 sm3 => ?_)
   have F10 := F9.stepL hs3 (by decide); have q47 := kpL hs3 (by decide) (sm3 8 (by decide)) q41; have q48 := kpL hs3 (by decide) (sm3 1 (by decide)) q43; have q49 := kpL hs3 (by decide) (sm3 2 (by decide)) q44; have q50 := kpL hs3 (by decide) (sm3 3 (by decide)) q45; have o9 := Own.keepL o8 hs3 (by decide) (by decide)
   have q51 : At (Ty.val x2) s9 a11 (.tmp 7) := r3
   clear r3; refine wpList_nil ?_; refine bn ?_; refine tn ?_
   refine rg a11 s9 [(Ty.nat k), (Ty.nat (k + 1)), (Ty.nat (k + 1))] ok10 ⟨?_, ?_, ?_, trivial⟩ ?_
   · intro G H I J O; exact rP (y_move (kp (O 8 rfl) I q47))
   · intro G H I J O d0; exact rP ((y_add (ed d0 rfl rfl rfl) rfl (w64 (by omega) (by omega))).mono (fun τ _ h => cvi (σ := τ) (by first | omega | exact (Int.natCast_mul _ _).symm) h))
   · intro G H I J O d0 d1 d2; exact rP (y_assign (ed d0 rfl rfl rfl))
   intro a12 s10 D7; have ok11 := D7.ok; have F11 := F10.step0 D7.stp; have q52 := D7.kt q48 rfl; have q53 := D7.kt q49 rfl; have q54 := D7.kt q50 rfl; have q55 := D7.kt q51 rfl; have o10 := Own.k0 o9 D7.stp; have q56 := D7.dn 2 rfl rfl; clear D7
   exact tn ⟨leads.length - ((k+1)), by omega, s10, (k+1), x2, rfl, F11, ok11, (cvi (by (first | rfl | omega | (simp_all; done) | (simp_all; omega))) q56), q55, q52, q53, q54, (cvo (by (rw [tRows, ← hE])) (by (rw [tRows, ← hE])) o10), by omega, rfl⟩
  ·
   refine wp_exit ?_; refine tx ?_; refine tx ?_; refine bx ?_; refine tn ?_; refine wp_seq ?_
   refine rg a7 s5 [(Ty.val x7_0), (Ty.val x7_0)] ok6 ⟨?_, ?_, trivial⟩ ?_
   · intro G H I J O; exact rP (y_move (kp (O 7 rfl) I q23))
   · intro G H I J O d0 d1; exact rP (y_assign (ed d0 rfl rfl rfl))
   intro a13 s11 D8; have ok12 := D8.ok; have F12 := F6.step0 D8.stp; have o11 := Own.k0 o5 D8.stp
   have q57 : At (Ty.val x7_0) s11 a13 (.tmp 6) := D8.done 1
   clear D8; refine tn ?_; refine wp_ret ?_
   obtain ⟨t3, e1, h1, q58⟩ := Own.seal o11 (by decide)
   rw [← e1]
   have F13 := F12.step h1 (by decide)
   have q59 : At (Ty.lst Ty.ints (tRows n.toNat l cs leads k)) t3 a13 (.tmp 6) := by have e : a13.eval (.tmp 6) = x7_0 := q57; show Ty.has _ _ _; rw [e]; exact q58
   exact retL1 rfl ok12 F13 (cvt (by (rw [show k = leads.length by omega])) q59)


end Go.Proofs.Ytbilebfnanlgfaa
