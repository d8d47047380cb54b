/- The functions that the law TopMirror reaches, each by its contract. Part 2. -/
import Derived.Test.YtlhnpkaohfoicaaTopMirrorW1
namespace Go.Proofs.Ytlhnpkaohfoicaa
open Go.KL
theorem Try.inf96 : Info Try.prog 96 (.agg #[.string ByteArray.empty, .int .i64 0, .slice none 0 0]) 3 48 := by unfold Info; kernel_rfl
set_option maxHeartbeats 4000000 in
set_option maxRecDepth 100000 in
theorem mirrored_fn (nm : ByteArray) (n : Int) (l : List (List Int)) (σ : GW)  (v0 : Value) (hv0 : Ty.has (Ty.agg [(Ty.val (Value.string nm)), (Ty.int n), (Ty.lst Ty.ints l)]) σ v0)  (hnm : nm.size ≤ 1099511627776) (hn : -9223372036854775808 ≤ n ∧ n ≤ 9223372036854775807) :
    FnC Try.prog 64 #[v0] σ (Ty.tup2 (Ty.bool (if methMay nm n l = 0 then mirB l else false)) (Ty.int (methMay nm n l))) := by
 refine fn_intro0 Try.func64 rfl Try.ntmps64 (Nat.le_of_ble_eq_true rfl) (fun s0 a0 hle F0 ok0 hargs => ?_)
 have p0 : At (Ty.agg [(Ty.val (Value.string nm)), (Ty.int n), (Ty.lst Ty.ints l)]) s0 a0 (.tmp 0) := by have e := hargs 0 _ rfl; show Ty.has _ _ _; rw [e]; exact Ty.up _ hle hv0
 clear hargs
 refine wp_seq ?_
 refine reg (a := a0) (σ := s0) rfl (fun i_ => List.getD [(Ty.pr (Ty.ref [(Ty.val (Value.string nm)), (Ty.int n), (Ty.lst Ty.ints l)])), (Ty.pr (Ty.bool false)), (Ty.pr (Ty.int (0 : Int)))] i_ Pr.any) ok0 rfl ⟨?_, ?_, ?_, trivial⟩ ?_
 · intro ax tx hs okx sm
   exact run_plain rfl (y_boxagg (kp (sm 0 rfl) hs p0))
 · intro ax tx hs okx sm
   exact run_plain rfl (y_assign rfl)
 · intro ax tx hs okx sm d0
   have e1 : At (Ty.bool false) tx ax (.tmp 2) := d0 rfl
   exact run_plain rfl (y_assign rfl)
 intro a1 s1 D1
 have ok1 := D1.ok
 have F1 := F0.step0 D1.stp
 have q1 : At (Ty.ref [(Ty.val (Value.string nm)), (Ty.int n), (Ty.lst Ty.ints l)]) s1 a1 (.tmp 1) := D1.done 0
 clear D1
 refine tn ?_
 refine wp_seq ?_
 refine wp_seq ?_
 refine reg (a := a1) (σ := s1) rfl (fun i_ => List.getD [(Ty.pr (Ty.agg [(Ty.val (Value.string nm)), (Ty.int n), (Ty.lst Ty.ints l)])), (Ty.pr (Ty.int (methMay nm n l))), (Ty.pr (Ty.int (methMay nm n l)))] i_ Pr.any) ok1 rfl ⟨?_, ?_, ?_, trivial⟩ ?_
 · intro ax tx hs okx sm
   exact run_plain rfl (y_loadagg Try.underlying96 Try.inf96 (kp (sm 1 rfl) hs q1))
 · intro ax tx hs okx sm d0
   have e0 : At (Ty.agg [(Ty.val (Value.string nm)), (Ty.int n), (Ty.lst Ty.ints l)]) tx ax (.tmp 8) := d0 rfl
   exact run_plain rfl (y_call #[ax.eval (.tmp 8)] Try.func104 rfl rfl (by simp only [List.map_toArray, List.map_cons, List.map_nil]) (mCheck_fn (nm) (n) (l) _ _ e0 (by first | omega | assumption) (by first | omega | assumption)))
 · intro ax tx hs okx sm d0 d1 d2 d3
   have e1 : At (Ty.int (methMay nm n l)) tx ax (.tmp 9) := d0 rfl
   have e0 : At (Ty.agg [(Ty.val (Value.string nm)), (Ty.int n), (Ty.lst Ty.ints l)]) tx ax (.tmp 8) := d2 rfl
   exact run_plain rfl (y_assign e1)
 intro a2 s2 D2
 have ok2 := D2.ok
 have F2 := F1.step0 D2.stp
 have q2 : At (Ty.ref [(Ty.val (Value.string nm)), (Ty.int n), (Ty.lst Ty.ints l)]) s2 a2 (.tmp 1) := D2.kt q1 rfl
 have q3 : At (Ty.int (methMay nm n l)) s2 a2 (.tmp 4) := D2.done 2
 clear D2
 refine tn ?_
 refine wp_seq ?_
 refine reg (a := a2) (σ := s2) rfl (fun i_ => List.getD [(Ty.pr (Ty.int (methMay nm n l))), (Ty.pr (Ty.bool (decide ((methMay nm n l) ≠ (0 : Int)))))] i_ Pr.any) ok2 rfl ⟨?_, ?_, trivial⟩ ?_
 · intro ax tx hs okx sm
   exact run_plain rfl (y_move (kp (sm 4 rfl) hs q3))
 · intro ax tx hs okx sm d0
   have e0 : At (Ty.int (methMay nm n l)) tx ax (.tmp 10) := d0 rfl
   exact run_plain rfl (y_neq e0 rfl)
 intro a3 s3 D3
 have ok3 := D3.ok
 have F3 := F2.step0 D3.stp
 have q4 : At (Ty.ref [(Ty.val (Value.string nm)), (Ty.int n), (Ty.lst Ty.ints l)]) s3 a3 (.tmp 1) := D3.kt q2 rfl
 have q5 : At (Ty.int (methMay nm n l)) s3 a3 (.tmp 4) := D3.kt q3 rfl
 have q6 : At (Ty.bool (decide ((methMay nm n l) ≠ (0 : Int)))) s3 a3 (.tmp 11) := D3.done 1
 clear D3
 refine tn ?_
 refine cond_p (p := ((methMay nm n l) ≠ (0 : Int))) q6 (fun c1 => ?_) (fun c1 => ?_)
 ·
  refine wp_seq ?_
  refine reg (a := a3) (σ := s3) rfl (fun i_ => List.getD [(Ty.pr (Ty.int (methMay nm n l))), (Ty.pr (Ty.bool false)), (Ty.pr (Ty.int (methMay nm n l)))] i_ Pr.any) ok3 rfl ⟨?_, ?_, ?_, trivial⟩ ?_
  · intro ax tx hs okx sm d0
    exact run_plain rfl (y_move (kp (sm 4 rfl) hs q5))
  · intro ax tx hs okx sm d0
    exact run_plain rfl (y_assign rfl)
  · intro ax tx hs okx sm d0 d1 d2 d3
    have e0 : At (Ty.int (methMay nm n l)) tx ax (.tmp 12) := d0 rfl
    have e1 : At (Ty.bool false) tx ax (.tmp 2) := d1 rfl
    exact run_plain rfl (y_assign e0)
  intro a4 s4 D4
  have ok4 := D4.ok
  have F4 := F3.step0 D4.stp
  have q7 : At (Ty.bool false) s4 a4 (.tmp 2) := D4.done 1
  have q8 : At (Ty.int (methMay nm n l)) s4 a4 (.tmp 3) := D4.done 2
  clear D4
  refine tn ?_
  refine wp_ret ?_
  refine tr ?_
  exact retL2 rfl ok4 F4 (hasT2 (cvb (by (rw [if_neg c1])) q7) q8)
 ·
  have h0 := Classical.not_not.1 c1; obtain ⟨hmo, hnn⟩ := methMay_ok' h0; have hm1 := hmo.n1; have hm2 := hmo.n2; have hml := hmo.l2; have hml1 := hmo.l1; have hrl := roundsL_len n.toNat; have hfl := fromL_len (roundsL n.toNat) l; obtain ⟨hhr, hhl⟩ := hmo.head; have hrm := rowMay_ok.2 hhr; have hol := ordTo_le hhr _ (Nat.le_refl _); obtain ⟨X, hX⟩ : ∃ X, X = l.take (l.length - 1) := ⟨_, rfl⟩; have hXl : X.length = l.length - 1 := by rw [hX, cut_len]
  refine wp_skip ?_
  refine tn ?_
  refine wp_seq ?_
  refine reg (a := a3) (σ := s3) rfl (fun i_ => List.getD [(Ty.pr (Ty.ref [(Ty.lst Ty.ints l)])), (Ty.pr (Ty.lst Ty.ints l)), (Ty.pr (Ty.ref [(Ty.lst Ty.ints l)])), (Ty.pr (Ty.lst Ty.ints l)), (Ty.pr (Ty.nat (List.length l))), (Ty.pr (Ty.int ((((List.length l) : Nat) : Int) - (1 : Int)))), (Ty.pr (Ty.lst Ty.ints (l.take (((((List.length l) : Nat) : Int) - (1 : Int))).toNat))), (Ty.pr (Ty.lst Ty.ints (l.take (((((List.length l) : Nat) : Int) - (1 : Int))).toNat)))] i_ Pr.any) ok3 rfl ⟨?_, ?_, ?_, ?_, ?_, ?_, ?_, ?_, trivial⟩ ?_
  · intro ax tx hs okx sm
    exact run_plain rfl (y_field Try.fld96_2 Try.inf33 (by decide) (kp (sm 1 rfl) hs q4) rfl)
  · intro ax tx hs okx sm d0
    have e0 : At (Ty.ref [(Ty.lst Ty.ints l)]) tx ax (.tmp 13) := d0 rfl
    exact run_plain rfl (y_load Try.underlying33 rfl e0 rfl)
  · intro ax tx hs okx sm
    exact run_plain rfl (y_field Try.fld96_2 Try.inf33 (by decide) (kp (sm 1 rfl) hs q4) rfl)
  · intro ax tx hs okx sm d0
    have e2 : At (Ty.ref [(Ty.lst Ty.ints l)]) tx ax (.tmp 15) := d0 rfl
    exact run_plain rfl (y_load Try.underlying33 rfl e2 rfl)
  · intro ax tx hs okx sm d0
    have e3 : At (Ty.lst Ty.ints l) tx ax (.tmp 16) := d0 rfl
    exact run_plain rfl (y_len Try.underlying33 e3)
  · intro ax tx hs okx sm d0
    have e4 : At (Ty.nat (List.length l)) tx ax (.tmp 17) := d0 rfl
    exact run_plain rfl (y_sub e4 rfl (w64 (by omega) (by omega)))
  · intro ax tx hs okx sm d0 d1
    have e1 : At (Ty.lst Ty.ints l) tx ax (.tmp 14) := d0 rfl
    have e5 : At (Ty.int ((((List.length l) : Nat) : Int) - (1 : Int))) tx ax (.tmp 18) := d1 rfl
    exact run_plain rfl (y_take Try.underlying33 Try.inf34 e1 (toN (σ := tx) e5 (by omega)) (by omega))
  · intro ax tx hs okx sm d0 d1 d2 d3 d4 d5 d6 d7
    have e6 : At (Ty.lst Ty.ints (l.take (((((List.length l) : Nat) : Int) - (1 : Int))).toNat)) tx ax (.tmp 19) := d0 rfl
    have e0 : At (Ty.ref [(Ty.lst Ty.ints l)]) tx ax (.tmp 13) := d1 rfl
    have e1 : At (Ty.lst Ty.ints l) tx ax (.tmp 14) := d2 rfl
    have e2 : At (Ty.ref [(Ty.lst Ty.ints l)]) tx ax (.tmp 15) := d3 rfl
    have e3 : At (Ty.lst Ty.ints l) tx ax (.tmp 16) := d4 rfl
    have e4 : At (Ty.nat (List.length l)) tx ax (.tmp 17) := d5 rfl
    have e5 : At (Ty.int ((((List.length l) : Nat) : Int) - (1 : Int))) tx ax (.tmp 18) := d6 rfl
    exact run_plain rfl (y_assign e6)
  intro a5 s5 D5
  have ok5 := D5.ok
  have F5 := F3.step0 D5.stp
  have q9 : At (Ty.lst Ty.ints (l.take (((((List.length l) : Nat) : Int) - (1 : Int))).toNat)) s5 a5 (.tmp 5) := D5.done 7
  clear D5
  have q10 : At (Ty.lst Ty.ints X) s5 a5 (.tmp 5) := (cvt (by (rw [hX, show ((((List.length l : Nat) : Int) - (1 : Int))).toNat = l.length - 1 by omega])) q9)
  refine tn ?_
  refine wp_seq ?_
  refine wp_seq ?_
  refine reg (a := a5) (σ := s5) rfl (fun i_ => List.getD [(Ty.pr (Ty.lst Ty.ints X)), (Ty.pr (Ty.nat (List.length X))), (Ty.pr (Ty.int (0 : Int)))] i_ Pr.any) ok5 rfl ⟨?_, ?_, ?_, trivial⟩ ?_
  · intro ax tx hs okx sm
    exact run_plain rfl (y_move (kp (sm 5 rfl) hs q10))
  · intro ax tx hs okx sm d0
    have e0 : At (Ty.lst Ty.ints X) tx ax (.tmp 20) := d0 rfl
    exact run_plain rfl (y_len Try.underlying33 e0)
  · intro ax tx hs okx sm
    exact run_plain rfl (y_move rfl)
  intro a6 s6 D6
  have ok6 := D6.ok
  have F6 := F5.step0 D6.stp
  have q11 : At (Ty.lst Ty.ints X) s6 a6 (.tmp 5) := D6.kt q10 rfl
  have q12 : At (Ty.lst Ty.ints X) s6 a6 (.tmp 20) := D6.done 0
  have q13 : At (Ty.nat (List.length X)) s6 a6 (.tmp 21) := D6.done 1
  have q14 : At (Ty.int (0 : Int)) s6 a6 (.tmp 22) := D6.done 2
  clear D6
  refine tn ?_
  refine wp_block ?_
  refine loop (fun n1 a7 w1 => ∃ (t1 : GW) (k : Nat), t1.w = w1 ∧ FromL [] s0 t1 ∧ Ok 39 a7 ∧ At (Ty.nat k) t1 a7 (.tmp 22) ∧ At (Ty.lst Ty.ints X) t1 a7 (.tmp 5) ∧ At (Ty.lst Ty.ints X) t1 a7 (.tmp 20) ∧ At (Ty.nat (List.length X)) t1 a7 (.tmp 21) ∧ (k ≤ X.length) ∧ (∀ j, j < k → l.getD j [] = l.getD (l.length - 2 - j) []) ∧ n1 = X.length - k) (X.length - (0)) ?_ ?_
  ·
   exact ⟨s6, 0, rfl, F6, ok6, (cvi (by (first | rfl | omega | (simp_all; done) | (simp_all; omega))) q14), q11, q12, q13, by omega, fun j hj => absurd hj (Nat.not_lt_zero j), rfl⟩
  ·
   rintro n2 a8 w2 ⟨t2, k, rfl, F7, ok7, q15, q16, q17, q18, hk, heq, rfl⟩
   refine wp_seq ?_
   refine reg (a := a8) (σ := t2) rfl (fun i_ => List.getD [(Ty.pr (Ty.bool (decide (((k : Nat) : Int) < (((List.length X) : Nat) : Int)))))] i_ Pr.any) ok7 rfl ⟨?_, trivial⟩ ?_
   · intro ax tx hs okx sm
     exact run_plain rfl (y_lss (kp (sm 22 rfl) hs q15) (kp (sm 21 rfl) hs q18))
   intro a9 s7 D7
   have ok8 := D7.ok
   have F8 := F7.step0 D7.stp
   have q19 : At (Ty.nat k) s7 a9 (.tmp 22) := D7.kt q15 rfl
   have q20 : At (Ty.lst Ty.ints X) s7 a9 (.tmp 5) := D7.kt q16 rfl
   have q21 : At (Ty.lst Ty.ints X) s7 a9 (.tmp 20) := D7.kt q17 rfl
   have q22 : At (Ty.nat (List.length X)) s7 a9 (.tmp 21) := D7.kt q18 rfl
   have q23 : At (Ty.bool (decide (((k : Nat) : Int) < (((List.length X) : Nat) : Int)))) s7 a9 (.tmp 23) := D7.done 0
   clear D7
   refine tn ?_
   refine wp_seq ?_
   refine cond_p (p := (((k : Nat) : Int) < (((List.length X) : Nat) : Int))) q23 (fun c2 => ?_) (fun c2 => ?_)
   ·
    refine wp_skip ?_
    refine tn ?_
    refine wp_seq ?_
    refine wp_block ?_
    refine wp_seq ?_
    refine reg (a := a9) (σ := s7) rfl (fun i_ => List.getD [(Ty.pr (Ty.nat k)), (Ty.pr (Ty.ref [(Ty.lst Ty.int (X.getD k []))])), (Ty.pr (Ty.lst Ty.int (X.getD k []))), (Ty.pr (Ty.nat k)), (Ty.pr (Ty.lst Ty.int (X.getD k [])))] i_ Pr.any) ok8 rfl ⟨?_, ?_, ?_, ?_, ?_, trivial⟩ ?_
    · intro ax tx hs okx sm
      exact run_plain rfl (y_move (kp (sm 22 rfl) hs q19))
    · intro ax tx hs okx sm
      exact run_plain rfl (y_index1 Try.underlying33 Try.inf34 (kp (sm 20 rfl) hs q21) (kp (sm 22 rfl) hs q19) (by omega) (lst_get Ty.ints X [] k (by omega)))
    · intro ax tx hs okx sm d0
      have e1 : At (Ty.ref [(Ty.lst Ty.int (X.getD k []))]) tx ax (.tmp 25) := d0 rfl
      exact run_plain rfl (y_load Try.underlying34 rfl e1 rfl)
    · intro ax tx hs okx sm d0 d1 d2 d3
      have e0 : At (Ty.nat k) tx ax (.tmp 24) := d0 rfl
      have e1 : At (Ty.ref [(Ty.lst Ty.int (X.getD k []))]) tx ax (.tmp 25) := d2 rfl
      have e2 : At (Ty.lst Ty.int (X.getD k [])) tx ax (.tmp 26) := d3 rfl
      exact run_plain rfl (y_assign e0)
    · intro ax tx hs okx sm d0 d1 d2 d3 d4 d5
      have e2 : At (Ty.lst Ty.int (X.getD k [])) tx ax (.tmp 26) := d0 rfl
      have e3 : At (Ty.nat k) tx ax (.tmp 6) := d1 rfl
      have e0 : At (Ty.nat k) tx ax (.tmp 24) := d2 rfl
      have e1 : At (Ty.ref [(Ty.lst Ty.int (X.getD k []))]) tx ax (.tmp 25) := d3 rfl
      exact run_plain rfl (y_assign e2)
    intro a10 s8 D8
    have ok9 := D8.ok
    have F9 := F8.step0 D8.stp
    have q24 : At (Ty.nat k) s8 a10 (.tmp 22) := D8.kt q19 rfl
    have q25 : At (Ty.lst Ty.ints X) s8 a10 (.tmp 5) := D8.kt q20 rfl
    have q26 : At (Ty.lst Ty.ints X) s8 a10 (.tmp 20) := D8.kt q21 rfl
    have q27 : At (Ty.nat (List.length X)) s8 a10 (.tmp 21) := D8.kt q22 rfl
    have q28 : At (Ty.nat k) s8 a10 (.tmp 6) := D8.done 3
    have q29 : At (Ty.lst Ty.int (X.getD k [])) s8 a10 (.tmp 7) := D8.done 4
    clear D8
    refine tn ?_
    refine wp_seq ?_
    refine reg (a := a10) (σ := s8) rfl (fun i_ => List.getD [(Ty.pr (Ty.lst Ty.int (X.getD k []))), (Ty.pr (Ty.lst Ty.ints X)), (Ty.pr (Ty.lst Ty.ints X)), (Ty.pr (Ty.nat (List.length X))), (Ty.pr (Ty.int ((((List.length X) : Nat) : Int) - (1 : Int)))), (Ty.pr (Ty.nat k)), (Ty.pr (Ty.int (((((List.length X) : Nat) : Int) - (1 : Int)) - ((k : Nat) : Int)))), (Ty.pr (Ty.ref [(Ty.lst Ty.int (X.getD ((((((List.length X) : Nat) : Int) - (1 : Int)) - ((k : Nat) : Int))).toNat []))])), (Ty.pr (Ty.lst Ty.int (X.getD ((((((List.length X) : Nat) : Int) - (1 : Int)) - ((k : Nat) : Int))).toNat []))), (Ty.pr (Ty.bool (decide (((X.getD k [])) = ((X.getD ((((((List.length X) : Nat) : Int) - (1 : Int)) - ((k : Nat) : Int))).toNat [])))))), (Ty.pr (Ty.bool (!(decide (((X.getD k [])) = ((X.getD ((((((List.length X) : Nat) : Int) - (1 : Int)) - ((k : Nat) : Int))).toNat [])))))))] i_ Pr.any) ok9 rfl ⟨?_, ?_, ?_, ?_, ?_, ?_, ?_, ?_, ?_, ?_, ?_, trivial⟩ ?_
    · intro ax tx hs okx sm
      exact run_plain rfl (y_move (kp (sm 7 rfl) hs q29))
    · intro ax tx hs okx sm
      exact run_plain rfl (y_move (kp (sm 5 rfl) hs q25))
    · intro ax tx hs okx sm
      exact run_plain rfl (y_move (kp (sm 5 rfl) hs q25))
    · intro ax tx hs okx sm d0
      have e2 : At (Ty.lst Ty.ints X) tx ax (.tmp 29) := d0 rfl
      exact run_plain rfl (y_len Try.underlying33 e2)
    · intro ax tx hs okx sm d0
      have e3 : At (Ty.nat (List.length X)) tx ax (.tmp 30) := d0 rfl
      exact run_plain rfl (y_sub e3 rfl (w64 (by omega) (by omega)))
    · intro ax tx hs okx sm
      exact run_plain rfl (y_move (kp (sm 6 rfl) hs q28))
    · intro ax tx hs okx sm d0 d1
      have e4 : At (Ty.int ((((List.length X) : Nat) : Int) - (1 : Int))) tx ax (.tmp 31) := d0 rfl
      have e5 : At (Ty.nat k) tx ax (.tmp 32) := d1 rfl
      exact run_plain rfl (y_sub e4 e5 (w64 (by omega) (by omega)))
    · intro ax tx hs okx sm d0 d1
      have e1 : At (Ty.lst Ty.ints X) tx ax (.tmp 28) := d0 rfl
      have e6 : At (Ty.int (((((List.length X) : Nat) : Int) - (1 : Int)) - ((k : Nat) : Int))) tx ax (.tmp 33) := d1 rfl
      exact run_plain rfl (y_index1 Try.underlying33 Try.inf34 e1 e6 (by omega) (lst_get Ty.ints X [] ((((((List.length X) : Nat) : Int) - (1 : Int)) - ((k : Nat) : Int))).toNat (by omega)))
    · intro ax tx hs okx sm d0
      have e7 : At (Ty.ref [(Ty.lst Ty.int (X.getD ((((((List.length X) : Nat) : Int) - (1 : Int)) - ((k : Nat) : Int))).toNat []))]) tx ax (.tmp 34) := d0 rfl
      exact run_plain rfl (y_load Try.underlying34 rfl e7 rfl)
    · intro ax tx hs okx sm d0 d1
      have e0 : At (Ty.lst Ty.int (X.getD k [])) tx ax (.tmp 27) := d0 rfl
      have e8 : At (Ty.lst Ty.int (X.getD ((((((List.length X) : Nat) : Int) - (1 : Int)) - ((k : Nat) : Int))).toNat [])) tx ax (.tmp 35) := d1 rfl
      exact run_plain rfl (y_call #[ax.eval (.tmp 27), ax.eval (.tmp 35)] Try.func105 rfl rfl (by simp only [List.map_toArray, List.map_cons, List.map_nil]) (equal_fn ((X.getD k [])) ((X.getD ((((((List.length X) : Nat) : Int) - (1 : Int)) - ((k : Nat) : Int))).toNat [])) _ _ _ e0 e8 ))
    · intro ax tx hs okx sm d0
      have e9 : At (Ty.bool (decide (((X.getD k [])) = ((X.getD ((((((List.length X) : Nat) : Int) - (1 : Int)) - ((k : Nat) : Int))).toNat []))))) tx ax (.tmp 36) := d0 rfl
      exact run_plain rfl (y_not e9)
    intro a11 s9 D9
    have ok10 := D9.ok
    have F10 := F9.step0 D9.stp
    have q30 : At (Ty.nat k) s9 a11 (.tmp 22) := D9.kt q24 rfl
    have q31 : At (Ty.lst Ty.ints X) s9 a11 (.tmp 5) := D9.kt q25 rfl
    have q32 : At (Ty.lst Ty.ints X) s9 a11 (.tmp 20) := D9.kt q26 rfl
    have q33 : At (Ty.nat (List.length X)) s9 a11 (.tmp 21) := D9.kt q27 rfl
    have q34 : At (Ty.bool (!(decide (((X.getD k [])) = ((X.getD ((((((List.length X) : Nat) : Int) - (1 : Int)) - ((k : Nat) : Int))).toNat [])))))) s9 a11 (.tmp 37) := D9.done 10
    clear D9
    refine tn ?_
    refine cond_t q34 (fun c3 => ?_) (fun c3 => ?_)
    ·
     refine wp_seq ?_
     refine reg (a := a11) (σ := s9) rfl (fun i_ => List.getD [(Ty.pr (Ty.bool false)), (Ty.pr (Ty.int (0 : Int)))] i_ Pr.any) ok10 rfl ⟨?_, ?_, trivial⟩ ?_
     · intro ax tx hs okx sm
       exact run_plain rfl (y_assign rfl)
     · intro ax tx hs okx sm d0 d1
       have e0 : At (Ty.bool false) tx ax (.tmp 2) := d0 rfl
       exact run_plain rfl (y_assign rfl)
     intro a12 s10 D10
     have ok11 := D10.ok
     have F11 := F10.step0 D10.stp
     have q35 : At (Ty.bool false) s10 a12 (.tmp 2) := D10.done 0
     have q36 : At (Ty.int (0 : Int)) s10 a12 (.tmp 3) := D10.done 1
     clear D10
     refine tn ?_
     refine wp_ret ?_
     refine br ?_
     refine tr ?_
     refine tr ?_
     refine br ?_
     refine tr ?_
     exact retL2 rfl ok11 F11 (hasT2 (cvb (by (rw [if_pos h0]; exact (mirB_no hX (by omega) c3).symm)) q35) (cvi (by (exact h0.symm)) q36))
    ·
     refine wp_skip ?_
     refine bn ?_
     refine tn ?_
     refine reg (a := a11) (σ := s9) rfl (fun i_ => List.getD [(Ty.pr (Ty.int (((k : Nat) : Int) + (1 : Int)))), (Ty.pr (Ty.int (((k : Nat) : Int) + (1 : Int))))] i_ Pr.any) ok10 rfl ⟨?_, ?_, trivial⟩ ?_
     · intro ax tx hs okx sm
       exact run_plain rfl (y_add (kp (sm 22 rfl) hs q30) rfl (w64 (by omega) (by omega)))
     · intro ax tx hs okx sm d0
       have e0 : At (Ty.int (((k : Nat) : Int) + (1 : Int))) tx ax (.tmp 38) := d0 rfl
       exact run_plain rfl (y_move e0)
     intro a13 s11 D11
     have ok12 := D11.ok
     have F12 := F10.step0 D11.stp
     have q37 : At (Ty.lst Ty.ints X) s11 a13 (.tmp 5) := D11.kt q31 rfl
     have q38 : At (Ty.lst Ty.ints X) s11 a13 (.tmp 20) := D11.kt q32 rfl
     have q39 : At (Ty.nat (List.length X)) s11 a13 (.tmp 21) := D11.kt q33 rfl
     have q40 : At (Ty.int (((k : Nat) : Int) + (1 : Int))) s11 a13 (.tmp 22) := D11.done 1
     clear D11
     exact tn ⟨X.length - ((k+1)), by omega, s11, (k+1), rfl, F12, ok12, (cvi (by (first | rfl | omega | (simp_all; done) | (simp_all; omega))) q40), q37, q38, q39, by omega, mir_snoc hX (by omega) c3 heq, rfl⟩
   ·
    refine wp_exit ?_
    refine tx ?_
    refine tx ?_
    refine bx ?_
    refine tn ?_
    refine wp_seq ?_
    refine reg (a := a9) (σ := s7) rfl (fun i_ => List.getD [(Ty.pr (Ty.bool true)), (Ty.pr (Ty.int (0 : Int)))] i_ Pr.any) ok8 rfl ⟨?_, ?_, trivial⟩ ?_
    · intro ax tx hs okx sm
      exact run_plain rfl (y_assign rfl)
    · intro ax tx hs okx sm d0 d1
      have e0 : At (Ty.bool true) tx ax (.tmp 2) := d0 rfl
      exact run_plain rfl (y_assign rfl)
    intro a14 s12 D12
    have ok13 := D12.ok
    have F13 := F8.step0 D12.stp
    have q41 : At (Ty.bool true) s12 a14 (.tmp 2) := D12.done 0
    have q42 : At (Ty.int (0 : Int)) s12 a14 (.tmp 3) := D12.done 1
    clear D12
    refine tn ?_
    refine wp_ret ?_
    exact retL2 rfl ok13 F13 (hasT2 (cvb (by (rw [if_pos h0]; exact (decide_eq_true (fun j hj => heq j (by omega))).symm)) q41) (cvi (by (exact h0.symm)) q42))


set_option maxRecDepth 100000 in
theorem first_fn (n : Nat) (σ : GW) (v0 : Value) (hv0 : Ty.has (Ty.nat n) σ v0) (hn : n ≤ 1000000) :
    FnC Try.prog 99 #[v0] σ (Ty.lst Ty.int (roundsL n)) := by
 refine fn_intro Try.func99 rfl Try.ntmps99 (Nat.le_of_ble_eq_true rfl) (fun s0 a0 hle F0 ok0 hargs => ?_)
 have p0 : At (Ty.nat n) s0 a0 (.tmp 0) := by have e := hargs 0 _ rfl; show Ty.has _ _ _; rw [e]; exact Ty.up _ hle hv0
 clear hargs
 refine wp_seq ?_
 refine reg (a := a0) (σ := s0) rfl (fun i_ => List.getD [(Ty.pr (Ty.val (Value.slice none 0 0)))] i_ Pr.any) ok0 rfl ⟨?_, trivial⟩ ?_
 · intro ax tx hs okx sm
   exact run_plain rfl (y_assign rfl)
 intro a1 s1 D1
 have ok1 := D1.ok
 have F1 := F0.step0 D1.stp
 have q1 : At (Ty.nat n) s1 a1 (.tmp 0) := D1.kt p0 rfl
 clear D1
 refine tn ?_
 refine wp_seq ?_
 refine reg (a := a1) (σ := s1) rfl (fun i_ => List.getD [(Ty.pr (Ty.nat n)), (Pr.own 11 3 1 n (List.map Ty.int (List.replicate n 0))), (Pr.own 11 3 1 n (List.map Ty.int (List.replicate n 0)))] i_ Pr.any) ok1 rfl ⟨?_, ?_, ?_, trivial⟩ ?_
 · intro ax tx hs okx sm
   exact run_plain rfl (y_move (kp (sm 0 rfl) hs q1))
 · intro ax tx hs okx sm d0 d1
   have e0 : At (Ty.nat n) tx ax (.tmp 5) := d0 rfl
   exact run_plain rfl ((y_make (k := 11) (T := Ty.int 0) (n := n) Try.underlying34 Try.inf3 rfl (fun _ => rfl) e0 e0 (by omega) (by omega)).mono (fun _ _ h => cvo (by simp) (by simp) h))
 · intro ax tx hs okx sm d0 d1 d2
   have e1 : (Pr.own 11 3 1 n (List.map Ty.int (List.replicate n 0))).has tx (ax.eval (.tmp 6)) := d0 rfl
   have e0 : At (Ty.nat n) tx ax (.tmp 5) := d1 rfl
   exact run_plain rfl (y_assign e1)
 intro a2 s2 D2
 have ok2 := D2.ok
 have F2 := F1.step0 D2.stp
 have q2 : (Pr.own 11 3 1 n (List.map Ty.int (List.replicate n 0))).has s2 (a2.eval (.tmp 3)) := D2.done 2
 clear D2
 refine tn ?_
 refine wp_seq ?_
 refine wp_seq ?_
 refine reg (a := a2) (σ := s2) rfl (fun i_ => List.getD [(Ty.pr (Ty.val (a2.eval (.tmp 3)))), (Ty.pr (Ty.nat n)), (Ty.pr (Ty.int (0 : Int)))] i_ Pr.any) ok2 rfl ⟨?_, ?_, ?_, trivial⟩ ?_
 · intro ax tx hs okx sm
   exact run_plain rfl (y_move (sm 3 rfl))
 · intro ax tx hs okx sm d0
   have e0 : At (Ty.val (a2.eval (.tmp 3))) tx ax (.tmp 7) := d0 rfl
   exact run_plain rfl (own_len Try.underlying34 (al e0 ((Pr.own 11 3 1 n (List.map Ty.int (List.replicate n 0))).up hs q2)))
 · intro ax tx hs okx sm
   exact run_plain rfl (y_move rfl)
 intro a3 s3 D3
 have ok3 := D3.ok
 have F3 := F2.step0 D3.stp
 have q3 : (Pr.own 11 3 1 n (List.map Ty.int (List.replicate n 0))).has s3 (a3.eval (.tmp 3)) := D3.ko q2 rfl
 have q4 : At (Ty.nat n) s3 a3 (.tmp 8) := D3.done 1
 have q5 : At (Ty.int (0 : Int)) s3 a3 (.tmp 9) := D3.done 2
 clear D3
 refine tn ?_
 refine wp_block ?_
 refine loop (fun n1 a4 w1 => ∃ (t1 : GW) (k : Nat), t1.w = w1 ∧ From s0 t1 ∧ Ok 18 a4 ∧ At (Ty.nat k) t1 a4 (.tmp 9) ∧ (Pr.own 11 3 1 (List.length (firstTo n k)) (List.map Ty.int (firstTo n k))).has t1 (a4.eval (.tmp 3)) ∧ At (Ty.nat n) t1 a4 (.tmp 8) ∧ (k ≤ n) ∧ n1 = n - k) (n - (0)) ?_ ?_
 ·
  exact ⟨s3, 0, rfl, F3, ok3, (cvi (by (first | rfl | omega | (simp_all; done) | (simp_all; omega))) q5), (cvo (by (simp [firstTo_zero])) (by (simp [firstTo_zero])) q3), q4, by omega, rfl⟩
 ·
  rintro n2 a5 w2 ⟨t2, k, rfl, F4, ok4, q6, q7, q8, hk, rfl⟩
  have hp := firstTo_len n k
  refine wp_seq ?_
  refine reg (a := a5) (σ := t2) rfl (fun i_ => List.getD [(Ty.pr (Ty.bool (decide (((k : Nat) : Int) < ((n : Nat) : Int)))))] i_ Pr.any) ok4 rfl ⟨?_, trivial⟩ ?_
  · intro ax tx hs okx sm
    exact run_plain rfl (y_lss (kp (sm 9 rfl) hs q6) (kp (sm 8 rfl) hs q8))
  intro a6 s4 D4
  have ok5 := D4.ok
  have F5 := F4.step0 D4.stp
  have q9 : At (Ty.nat k) s4 a6 (.tmp 9) := D4.kt q6 rfl
  have q10 : (Pr.own 11 3 1 (List.length (firstTo n k)) (List.map Ty.int (firstTo n k))).has s4 (a6.eval (.tmp 3)) := D4.ko q7 rfl
  have q11 : At (Ty.nat n) s4 a6 (.tmp 8) := D4.kt q8 rfl
  have q12 : At (Ty.bool (decide (((k : Nat) : Int) < ((n : Nat) : Int)))) s4 a6 (.tmp 10) := D4.done 0
  clear D4
  refine tn ?_
  refine wp_seq ?_
  refine cond_p (p := (((k : Nat) : Int) < ((n : Nat) : Int))) q12 (fun c1 => ?_) (fun c1 => ?_)
  ·
   refine wp_skip ?_
   refine tn ?_
   refine wp_seq ?_
   refine wp_block ?_
   refine wp_seq ?_
   refine reg (a := a6) (σ := s4) rfl (fun i_ => List.getD [(Ty.pr (Ty.nat k)), (Ty.pr (Ty.nat k))] i_ Pr.any) ok5 rfl ⟨?_, ?_, trivial⟩ ?_
   · intro ax tx hs okx sm
     exact run_plain rfl (y_move (kp (sm 9 rfl) hs q9))
   · intro ax tx hs okx sm d0 d1
     have e0 : At (Ty.nat k) tx ax (.tmp 11) := d0 rfl
     exact run_plain rfl (y_assign e0)
   intro a7 s5 D5
   have ok6 := D5.ok
   have F6 := F5.step0 D5.stp
   have q13 : At (Ty.nat k) s5 a7 (.tmp 9) := D5.kt q9 rfl
   have q14 : (Pr.own 11 3 1 (List.length (firstTo n k)) (List.map Ty.int (firstTo n k))).has s5 (a7.eval (.tmp 3)) := D5.ko q10 rfl
   have q15 : At (Ty.nat n) s5 a7 (.tmp 8) := D5.kt q11 rfl
   have q16 : At (Ty.nat k) s5 a7 (.tmp 4) := D5.done 1
   clear D5
   refine tn ?_
   refine reg2 (a := a7) (σ := s5) rfl 4 (fun i_ => List.getD [(Ty.pr (Ty.val (a7.eval (.tmp 3)))), (Ty.pr (Ty.nat k)), (Ty.pr (Ty.nat k)), (Ty.pr (Ty.val (cellPtr (a7.eval (.tmp 3)) k)))] i_ Pr.any) ok6 rfl (by decide) rfl ⟨?_, ?_, ?_, ?_, trivial⟩ ?_
   · intro ax tx hs okx sm
     exact run_plain rfl (y_move (sm 3 rfl))
   · intro ax tx hs okx sm
     exact run_plain rfl (y_move (kp (sm 4 rfl) hs q16))
   · intro ax tx hs okx sm
     exact run_plain rfl (y_move (kp (sm 4 rfl) hs q16))
   · intro ax tx hs okx sm d0 d1 d2 d3 d4
     have e0 : At (Ty.val (a7.eval (.tmp 3))) tx ax (.tmp 12) := d0 rfl
     have e1 : At (Ty.nat k) tx ax (.tmp 13) := d1 rfl
     have e2 : At (Ty.nat k) tx ax (.tmp 14) := d4 rfl
     exact run_plain rfl (own_index1 (i := ((k : Nat) : Int)) Try.underlying34 Try.inf3 ((Pr.own 11 3 1 (List.length (firstTo n k)) (List.map Ty.int (firstTo n k))).up hs q14) e0 e1 (by omega) (by omega))
   intro a8 s6 D6
   have ok7 := D6.ok
   have F7 := F6.step0 D6.stp
   have q17 := (Pr.own 11 3 1 (List.length (firstTo n k)) (List.map Ty.int (firstTo n k))).up D6.stp q14
   have q18 : At (Ty.nat k) s6 a8 (.tmp 9) := D6.kt q13 rfl
   have q19 : a8.eval (.tmp 3) = a7.eval (.tmp 3) := D6.same 3 rfl
   have q20 : At (Ty.nat n) s6 a8 (.tmp 8) := D6.kt q15 rfl
   have q21 : At (Ty.nat k) s6 a8 (.tmp 14) := D6.done 2 (by decide)
   have q22 : At (Ty.val (cellPtr (a7.eval (.tmp 3)) k)) s6 a8 (.tmp 15) := D6.done 3 (by decide)
   clear D6
   refine tail_step0 (m := 11) (R := (fun _ τ => Own τ 11 3 1 (a7.eval (.tmp 3)) (List.length (firstTo n k)) ((List.map Ty.int (firstTo n k)).set k (Ty.nat k)))) rfl rfl (m_store Try.inf3 (by decide) q17 q22 (by simp only [List.length_map, List.length_set]; omega) q21 (one_val rfl)) (fun v1 s7 hs1 r1 => ?_)
   have F8 := F7.step hs1 (by decide)
   have q23 : At (Ty.nat k) s7 a8 (.tmp 9) := kpm hs1 (by decide) rfl q18
   have q24 : At (Ty.nat n) s7 a8 (.tmp 8) := kpm hs1 (by decide) rfl q20
   have q25 : At (Ty.nat k) s7 a8 (.tmp 14) := kpm hs1 (by decide) rfl q21
   have q26 : (Pr.own 11 3 1 (List.length ((firstTo n k).set k ((k : Nat) : Int))) (List.map Ty.int ((firstTo n k).set k ((k : Nat) : Int)))).has s7 (a7.eval (.tmp 3)) := (cvo (by simp) (by simp) r1)
   refine wpList_nil ?_
   have q27 : (Pr.own 11 3 1 (List.length ((firstTo n k).set k ((k : Nat) : Int))) (List.map Ty.int ((firstTo n k).set k ((k : Nat) : Int)))).has s7 (a8.eval (.tmp 3)) := al q19 q26
   refine bn ?_
   refine tn ?_
   refine reg (a := a8) (σ := s7) rfl (fun i_ => List.getD [(Ty.pr (Ty.int (((k : Nat) : Int) + (1 : Int)))), (Ty.pr (Ty.int (((k : Nat) : Int) + (1 : Int))))] i_ Pr.any) ok7 rfl ⟨?_, ?_, trivial⟩ ?_
   · intro ax tx hs okx sm
     exact run_plain rfl (y_add (kp (sm 9 rfl) hs q23) rfl (w64 (by omega) (by omega)))
   · intro ax tx hs okx sm d0
     have e0 : At (Ty.int (((k : Nat) : Int) + (1 : Int))) tx ax (.tmp 16) := d0 rfl
     exact run_plain rfl (y_move e0)
   intro a10 s8 D7
   have ok9 := D7.ok
   have F9 := F8.step0 D7.stp
   have q28 : (Pr.own 11 3 1 (List.length ((firstTo n k).set k ((k : Nat) : Int))) (List.map Ty.int ((firstTo n k).set k ((k : Nat) : Int)))).has s8 (a10.eval (.tmp 3)) := D7.ko q27 rfl
   have q29 : At (Ty.nat n) s8 a10 (.tmp 8) := D7.kt q24 rfl
   have q30 : At (Ty.int (((k : Nat) : Int) + (1 : Int))) s8 a10 (.tmp 9) := D7.done 1
   clear D7
   exact tn ⟨n - ((k+1)), by omega, s8, (k+1), rfl, F9, ok9, (cvi (by (first | rfl | omega | (simp_all; done) | (simp_all; omega))) q30), (cvo (by (rw [firstTo_step n k])) (by (rw [firstTo_step n k])) q28), q29, by omega, rfl⟩
  ·
   refine wp_exit ?_
   refine tx ?_
   refine tx ?_
   refine bx ?_
   refine tn ?_
   refine wp_seq ?_
   refine reg (a := a6) (σ := s4) rfl (fun i_ => List.getD [(Ty.pr (Ty.val (a6.eval (.tmp 3)))), (Ty.pr (Ty.val (a6.eval (.tmp 3))))] i_ Pr.any) ok5 rfl ⟨?_, ?_, trivial⟩ ?_
   · intro ax tx hs okx sm
     exact run_plain rfl (y_move (sm 3 rfl))
   · intro ax tx hs okx sm d0 d1
     have e0 : At (Ty.val (a6.eval (.tmp 3))) tx ax (.tmp 17) := d0 rfl
     exact run_plain rfl (y_assign e0)
   intro a11 s9 D8
   have ok10 := D8.ok
   have F10 := F5.step0 D8.stp
   have q31 : (Pr.own 11 3 1 (List.length (firstTo n k)) (List.map Ty.int (firstTo n k))).has s9 (a11.eval (.tmp 2)) := al (show _ = _ from D8.done 1) ((Pr.own 11 3 1 (List.length (firstTo n k)) (List.map Ty.int (firstTo n k))).up D8.stp q10)
   clear D8
   refine tn ?_
   refine wp_ret ?_
   obtain ⟨t3, e1, h1, q32⟩ := Own.seal q31 (by decide)
   rw [← e1]
   have F11 := F10.step h1 (by decide)
   exact ret1 rfl ok10 F11 (cvt (by (obtain rfl : k = n := (by omega); rw [firstTo_all])) q32)


set_option maxRecDepth 100000 in
theorem rounds_fn (n : Nat) (σ : GW) (v0 : Value) (hv0 : Ty.has (Ty.nat n) σ v0) (hn : 1 ≤ n ∧ n ≤ 12) :
    FnC Try.prog 52 #[v0] σ (Ty.tup2 (Ty.lst Ty.int (roundsL n)) (Ty.int (0 : Int))) := by
 refine fn_intro Try.func52 rfl Try.ntmps52 (Nat.le_of_ble_eq_true rfl) (fun s0 a0 hle F0 ok0 hargs => ?_)
 have p0 : At (Ty.nat n) s0 a0 (.tmp 0) := by have e := hargs 0 _ rfl; show Ty.has _ _ _; rw [e]; exact Ty.up _ hle hv0
 clear hargs
 refine wp_seq ?_
 refine reg (a := a0) (σ := s0) rfl (fun i_ => List.getD [(Ty.pr (Ty.val (Value.slice none 0 0))), (Ty.pr (Ty.int (0 : Int)))] i_ Pr.any) ok0 rfl ⟨?_, ?_, trivial⟩ ?_
 · intro ax tx hs okx sm
   exact run_plain rfl (y_assign rfl)
 · intro ax tx hs okx sm d0
   have e0 : At (Ty.val (Value.slice none 0 0)) tx ax (.tmp 2) := d0 rfl
   exact run_plain rfl (y_assign rfl)
 intro a1 s1 D1
 have ok1 := D1.ok
 have F1 := F0.step0 D1.stp
 have q1 : At (Ty.nat n) s1 a1 (.tmp 0) := D1.kt p0 rfl
 clear D1
 refine tn ?_
 refine wp_seq ?_
 refine wp_seq ?_
 refine reg (a := a1) (σ := s1) rfl (fun i_ => List.getD [(Ty.pr (Ty.nat n)), (Ty.pr (Ty.bool (decide (((n : Nat) : Int) < (1 : Int))))), (Ty.pr (Ty.bool (decide (((n : Nat) : Int) < (1 : Int))))), (Ty.pr (Ty.grd ((decide (((n : Nat) : Int) < (1 : Int))) = false) (Ty.nat n))), (Ty.pr (Ty.grd ((decide (((n : Nat) : Int) < (1 : Int))) = false) (Ty.bool (decide ((12 : Int) < ((n : Nat) : Int)))))), (Ty.pr (Ty.bool ((decide (((n : Nat) : Int) < (1 : Int))) || (decide ((12 : Int) < ((n : Nat) : Int))))))] i_ Pr.any) ok1 rfl ⟨?_, ?_, ?_, ?_, ?_, ?_, trivial⟩ ?_
 · intro ax tx hs okx sm
   exact run_plain rfl (y_move (kp (sm 0 rfl) hs q1))
 · intro ax tx hs okx sm d0
   have e0 : At (Ty.nat n) tx ax (.tmp 4) := d0 rfl
   exact run_plain rfl (y_lss e0 rfl)
 · intro ax tx hs okx sm d0
   have e1 : At (Ty.bool (decide (((n : Nat) : Int) < (1 : Int)))) tx ax (.tmp 5) := d0 rfl
   exact run_plain rfl (y_move e1)
 · intro ax tx hs okx sm d0
   have e2 : At (Ty.bool (decide (((n : Nat) : Int) < (1 : Int)))) tx ax (.tmp 6) := d0 rfl
   refine run_guard (T := (Ty.nat n)) okx rfl rfl (by decide) e2 (fun hg => ?_)
   have hp := of_decide_eq_false hg
   exact y_move (kp (sm 0 rfl) hs q1)
 · intro ax tx hs okx sm d0 d1
   have e3 : At (Ty.grd ((decide (((n : Nat) : Int) < (1 : Int))) = false) (Ty.nat n)) tx ax (.tmp 7) := d0 rfl
   have e2 : At (Ty.bool (decide (((n : Nat) : Int) < (1 : Int)))) tx ax (.tmp 6) := d1 rfl
   refine run_guard (T := (Ty.bool (decide ((12 : Int) < ((n : Nat) : Int))))) okx rfl rfl (by decide) e2 (fun hg => ?_)
   have hp := of_decide_eq_false hg
   exact y_gtr (e3.1 hg) rfl
 · intro ax tx hs okx sm d0 d1
   have e2 : At (Ty.bool (decide (((n : Nat) : Int) < (1 : Int)))) tx ax (.tmp 6) := d0 rfl
   have e4 : At (Ty.grd ((decide (((n : Nat) : Int) < (1 : Int))) = false) (Ty.bool (decide ((12 : Int) < ((n : Nat) : Int))))) tx ax (.tmp 8) := d1 rfl
   exact run_plain rfl (y_pick_or e2 rfl e4)
 intro a2 s2 D2
 have ok2 := D2.ok
 have F2 := F1.step0 D2.stp
 have q2 : At (Ty.nat n) s2 a2 (.tmp 0) := D2.kt q1 rfl
 have q3 : At (Ty.bool ((decide (((n : Nat) : Int) < (1 : Int))) || (decide ((12 : Int) < ((n : Nat) : Int))))) s2 a2 (.tmp 9) := D2.done 5
 clear D2
 refine tn ?_
 refine cond_t q3 (fun c1 => ?_) (fun c1 => ?_)
 ·
  exfalso
  simp only [Bool.or_eq_true, decide_eq_true_eq] at c1; omega
 ·
  obtain ⟨d1, d2⟩ := Bool.or_eq_false_iff.mp c1
  replace d1 := of_decide_eq_false d1
  replace d2 := of_decide_eq_false d2
  refine wp_skip ?_
  refine tn ?_
  refine wp_seq ?_
  refine reg (a := a2) (σ := s2) rfl (fun i_ => List.getD [(Ty.pr (Ty.nat n)), (Ty.pr (Ty.lst Ty.int (roundsL n))), (Ty.pr (Ty.lst Ty.int (roundsL n))), (Ty.pr (Ty.int (0 : Int)))] i_ Pr.any) ok2 rfl ⟨?_, ?_, ?_, ?_, trivial⟩ ?_
  · intro ax tx hs okx sm
    exact run_plain rfl (y_move (kp (sm 0 rfl) hs q2))
  · intro ax tx hs okx sm d0
    have e0 : At (Ty.nat n) tx ax (.tmp 10) := d0 rfl
    exact run_plain rfl (y_call #[ax.eval (.tmp 10)] Try.func99 rfl rfl (by simp only [List.map_toArray, List.map_cons, List.map_nil]) (first_fn (n) _ _ e0 (by omega)))
  · intro ax tx hs okx sm d0 d1 d2 d3
    have e1 : At (Ty.lst Ty.int (roundsL n)) tx ax (.tmp 11) := d0 rfl
    have e0 : At (Ty.nat n) tx ax (.tmp 10) := d2 rfl
    exact run_plain rfl (y_assign e1)
  · intro ax tx hs okx sm d0 d1 d2 d3
    have e2 : At (Ty.lst Ty.int (roundsL n)) tx ax (.tmp 2) := d0 rfl
    have e0 : At (Ty.nat n) tx ax (.tmp 10) := d1 rfl
    have e1 : At (Ty.lst Ty.int (roundsL n)) tx ax (.tmp 11) := d2 rfl
    exact run_plain rfl (y_assign rfl)
  intro a3 s3 D3
  have ok3 := D3.ok
  have F3 := F2.step0 D3.stp
  have q4 : At (Ty.lst Ty.int (roundsL n)) s3 a3 (.tmp 2) := D3.done 2
  have q5 : At (Ty.int (0 : Int)) s3 a3 (.tmp 3) := D3.done 3
  clear D3
  refine tn ?_
  refine wp_ret ?_
  exact ret2 rfl ok3 F3 q4 q5


set_option maxRecDepth 100000 in
theorem index_fn (xs : List Int) (x : Int) (σ : GW) (v0 v1 : Value) (hv0 : Ty.has (Ty.lst Ty.int xs) σ v0) (hv1 : Ty.has (Ty.int x) σ v1)  :
    FnC Try.prog 156 #[v0, v1] σ (Ty.int (indexL xs x)) := by
 refine fn_intro Try.func156 rfl Try.ntmps156 (Nat.le_of_ble_eq_true rfl) (fun s0 a0 hle F0 ok0 hargs => ?_)
 have p0 : At (Ty.lst Ty.int xs) s0 a0 (.tmp 0) := by have e := hargs 0 _ rfl; show Ty.has _ _ _; rw [e]; exact Ty.up _ hle hv0
 have b1 := sl_le p0
 have p1 : At (Ty.int x) s0 a0 (.tmp 1) := by have e := hargs 1 _ rfl; show Ty.has _ _ _; rw [e]; exact Ty.up _ hle hv1
 clear hargs
 refine wp_seq ?_
 refine reg (a := a0) (σ := s0) rfl (fun i_ => List.getD [(Ty.pr (Ty.int (0 : Int)))] i_ Pr.any) ok0 rfl ⟨?_, trivial⟩ ?_
 · intro ax tx hs okx sm
   exact run_plain rfl (y_assign rfl)
 intro a1 s1 D1
 have ok1 := D1.ok
 have F1 := F0.step0 D1.stp
 have q1 : At (Ty.lst Ty.int xs) s1 a1 (.tmp 0) := D1.kt p0 rfl
 have q2 : At (Ty.int x) s1 a1 (.tmp 1) := D1.kt p1 rfl
 clear D1
 refine tn ?_
 refine wp_seq ?_
 refine wp_seq ?_
 refine reg (a := a1) (σ := s1) rfl (fun i_ => List.getD [(Ty.pr (Ty.lst Ty.int xs)), (Ty.pr (Ty.nat (List.length xs))), (Ty.pr (Ty.int (0 : Int)))] i_ Pr.any) ok1 rfl ⟨?_, ?_, ?_, trivial⟩ ?_
 · intro ax tx hs okx sm
   exact run_plain rfl (y_move (kp (sm 0 rfl) hs q1))
 · intro ax tx hs okx sm d0
   have e0 : At (Ty.lst Ty.int xs) tx ax (.tmp 6) := d0 rfl
   exact run_plain rfl (y_len Try.underlying34 e0)
 · intro ax tx hs okx sm
   exact run_plain rfl (y_move rfl)
 intro a2 s2 D2
 have ok2 := D2.ok
 have F2 := F1.step0 D2.stp
 have q3 : At (Ty.lst Ty.int xs) s2 a2 (.tmp 0) := D2.kt q1 rfl
 have q4 : At (Ty.int x) s2 a2 (.tmp 1) := D2.kt q2 rfl
 have q5 : At (Ty.nat (List.length xs)) s2 a2 (.tmp 7) := D2.done 1
 have q6 : At (Ty.int (0 : Int)) s2 a2 (.tmp 8) := D2.done 2
 clear D2
 refine tn ?_
 refine wp_block ?_
 refine loop (fun n1 a3 w1 => ∃ (t1 : GW) (k : Nat), t1.w = w1 ∧ From s0 t1 ∧ Ok 19 a3 ∧ At (Ty.nat k) t1 a3 (.tmp 8) ∧ At (Ty.lst Ty.int xs) t1 a3 (.tmp 0) ∧ At (Ty.int x) t1 a3 (.tmp 1) ∧ At (Ty.nat (List.length xs)) t1 a3 (.tmp 7) ∧ (k ≤ xs.length) ∧ (∀ j, j < k → xs.getD j 0 ≠ x) ∧ n1 = xs.length - k) (xs.length - (0)) ?_ ?_
 ·
  exact ⟨s2, 0, rfl, F2, ok2, (cvi (by (first | rfl | omega | (simp_all; done) | (simp_all; omega))) q6), q3, q4, q5, by omega, fun j hj => absurd hj (Nat.not_lt_zero j), rfl⟩
 ·
  rintro n2 a4 w2 ⟨t2, k, rfl, F3, ok3, q7, q8, q9, q10, hk, hno, rfl⟩
  refine wp_seq ?_
  refine reg (a := a4) (σ := t2) rfl (fun i_ => List.getD [(Ty.pr (Ty.bool (decide (((k : Nat) : Int) < (((List.length xs) : Nat) : Int)))))] i_ Pr.any) ok3 rfl ⟨?_, trivial⟩ ?_
  · intro ax tx hs okx sm
    exact run_plain rfl (y_lss (kp (sm 8 rfl) hs q7) (kp (sm 7 rfl) hs q10))
  intro a5 s3 D3
  have ok4 := D3.ok
  have F4 := F3.step0 D3.stp
  have q11 : At (Ty.nat k) s3 a5 (.tmp 8) := D3.kt q7 rfl
  have q12 : At (Ty.lst Ty.int xs) s3 a5 (.tmp 0) := D3.kt q8 rfl
  have q13 : At (Ty.int x) s3 a5 (.tmp 1) := D3.kt q9 rfl
  have q14 : At (Ty.nat (List.length xs)) s3 a5 (.tmp 7) := D3.kt q10 rfl
  have q15 : At (Ty.bool (decide (((k : Nat) : Int) < (((List.length xs) : Nat) : Int)))) s3 a5 (.tmp 9) := D3.done 0
  clear D3
  refine tn ?_
  refine wp_seq ?_
  refine cond_p (p := (((k : Nat) : Int) < (((List.length xs) : Nat) : Int))) q15 (fun c1 => ?_) (fun c1 => ?_)
  ·
   refine wp_skip ?_
   refine tn ?_
   refine wp_seq ?_
   refine wp_block ?_
   refine wp_seq ?_
   refine reg (a := a5) (σ := s3) rfl (fun i_ => List.getD [(Ty.pr (Ty.nat k)), (Ty.pr (Ty.nat k))] i_ Pr.any) ok4 rfl ⟨?_, ?_, trivial⟩ ?_
   · intro ax tx hs okx sm
     exact run_plain rfl (y_move (kp (sm 8 rfl) hs q11))
   · intro ax tx hs okx sm d0 d1
     have e0 : At (Ty.nat k) tx ax (.tmp 10) := d0 rfl
     exact run_plain rfl (y_assign e0)
   intro a6 s4 D4
   have ok5 := D4.ok
   have F5 := F4.step0 D4.stp
   have q16 : At (Ty.nat k) s4 a6 (.tmp 8) := D4.kt q11 rfl
   have q17 : At (Ty.lst Ty.int xs) s4 a6 (.tmp 0) := D4.kt q12 rfl
   have q18 : At (Ty.int x) s4 a6 (.tmp 1) := D4.kt q13 rfl
   have q19 : At (Ty.nat (List.length xs)) s4 a6 (.tmp 7) := D4.kt q14 rfl
   have q20 : At (Ty.nat k) s4 a6 (.tmp 5) := D4.done 1
   clear D4
   refine tn ?_
   refine wp_seq ?_
   refine reg (a := a6) (σ := s4) rfl (fun i_ => List.getD [(Ty.pr (Ty.int x)), (Ty.pr (Ty.lst Ty.int xs)), (Ty.pr (Ty.nat k)), (Ty.pr (Ty.ref [(Ty.int (xs.getD k 0))])), (Ty.pr (Ty.int (xs.getD k 0))), (Ty.pr (Ty.bool (decide (x = (xs.getD k 0)))))] i_ Pr.any) ok5 rfl ⟨?_, ?_, ?_, ?_, ?_, ?_, trivial⟩ ?_
   · intro ax tx hs okx sm
     exact run_plain rfl (y_move (kp (sm 1 rfl) hs q18))
   · intro ax tx hs okx sm
     exact run_plain rfl (y_move (kp (sm 0 rfl) hs q17))
   · intro ax tx hs okx sm
     exact run_plain rfl (y_move (kp (sm 5 rfl) hs q20))
   · intro ax tx hs okx sm d0 d1
     have e1 : At (Ty.lst Ty.int xs) tx ax (.tmp 12) := d0 rfl
     have e2 : At (Ty.nat k) tx ax (.tmp 13) := d1 rfl
     exact run_plain rfl (y_index1 Try.underlying34 Try.inf3 e1 e2 (by omega) (lst_get Ty.int xs 0 k (by omega)))
   · intro ax tx hs okx sm d0
     have e3 : At (Ty.ref [(Ty.int (xs.getD k 0))]) tx ax (.tmp 14) := d0 rfl
     exact run_plain rfl (y_load Try.underlying3 rfl e3 rfl)
   · intro ax tx hs okx sm d0 d1
     have e0 : At (Ty.int x) tx ax (.tmp 11) := d0 rfl
     have e4 : At (Ty.int (xs.getD k 0)) tx ax (.tmp 15) := d1 rfl
     exact run_plain rfl (y_eql e0 e4)
   intro a7 s5 D5
   have ok6 := D5.ok
   have F6 := F5.step0 D5.stp
   have q21 : At (Ty.nat k) s5 a7 (.tmp 8) := D5.kt q16 rfl
   have q22 : At (Ty.lst Ty.int xs) s5 a7 (.tmp 0) := D5.kt q17 rfl
   have q23 : At (Ty.int x) s5 a7 (.tmp 1) := D5.kt q18 rfl
   have q24 : At (Ty.nat (List.length xs)) s5 a7 (.tmp 7) := D5.kt q19 rfl
   have q25 : At (Ty.nat k) s5 a7 (.tmp 5) := D5.kt q20 rfl
   have q26 : At (Ty.bool (decide (x = (xs.getD k 0)))) s5 a7 (.tmp 16) := D5.done 5
   clear D5
   refine tn ?_
   refine cond_p (p := (x = (xs.getD k 0))) q26 (fun c2 => ?_) (fun c2 => ?_)
   ·
    refine wp_seq ?_
    refine reg (a := a7) (σ := s5) rfl (fun i_ => List.getD [(Ty.pr (Ty.nat k)), (Ty.pr (Ty.nat k))] i_ Pr.any) ok6 rfl ⟨?_, ?_, trivial⟩ ?_
    · intro ax tx hs okx sm
      exact run_plain rfl (y_move (kp (sm 5 rfl) hs q25))
    · intro ax tx hs okx sm d0 d1
      have e0 : At (Ty.nat k) tx ax (.tmp 17) := d0 rfl
      exact run_plain rfl (y_assign e0)
    intro a8 s6 D6
    have ok7 := D6.ok
    have F7 := F6.step0 D6.stp
    have q27 : At (Ty.nat k) s6 a8 (.tmp 4) := D6.done 1
    clear D6
    refine tn ?_
    refine wp_ret ?_
    refine br ?_
    refine tr ?_
    refine tr ?_
    refine br ?_
    refine tr ?_
    exact ret1 rfl ok7 F7 (cvi (by (exact (indexL_yes (by omega) (by assumption) hno).symm)) q27)
   ·
    refine wp_skip ?_
    refine bn ?_
    refine tn ?_
    refine reg (a := a7) (σ := s5) rfl (fun i_ => List.getD [(Ty.pr (Ty.int (((k : Nat) : Int) + (1 : Int)))), (Ty.pr (Ty.int (((k : Nat) : Int) + (1 : Int))))] i_ Pr.any) ok6 rfl ⟨?_, ?_, trivial⟩ ?_
    · intro ax tx hs okx sm
      exact run_plain rfl (y_add (kp (sm 8 rfl) hs q21) rfl (w64 (by omega) (by omega)))
    · intro ax tx hs okx sm d0
      have e0 : At (Ty.int (((k : Nat) : Int) + (1 : Int))) tx ax (.tmp 18) := d0 rfl
      exact run_plain rfl (y_move e0)
    intro a9 s7 D7
    have ok8 := D7.ok
    have F8 := F6.step0 D7.stp
    have q28 : At (Ty.lst Ty.int xs) s7 a9 (.tmp 0) := D7.kt q22 rfl
    have q29 : At (Ty.int x) s7 a9 (.tmp 1) := D7.kt q23 rfl
    have q30 : At (Ty.nat (List.length xs)) s7 a9 (.tmp 7) := D7.kt q24 rfl
    have q31 : At (Ty.int (((k : Nat) : Int) + (1 : Int))) s7 a9 (.tmp 8) := D7.done 1
    clear D7
    exact tn ⟨xs.length - ((k+1)), by omega, s7, (k+1), rfl, F8, ok8, (cvi (by (first | rfl | omega | (simp_all; done) | (simp_all; omega))) q31), q28, q29, q30, by omega, fun j hj => by (by_cases e : j = k; subst e; exact fun h => c2 h.symm; exact hno j (by omega)), rfl⟩
  ·
   refine wp_exit ?_
   refine tx ?_
   refine tx ?_
   refine bx ?_
   refine tn ?_
   refine wp_seq ?_
   refine reg (a := a5) (σ := s3) rfl (fun i_ => List.getD [(Ty.pr (Ty.int (-1 : Int)))] i_ Pr.any) ok4 rfl ⟨?_, trivial⟩ ?_
   · intro ax tx hs okx sm
     exact run_plain rfl (y_assign rfl)
   intro a10 s8 D8
   have ok9 := D8.ok
   have F9 := F4.step0 D8.stp
   have q32 : At (Ty.int (-1 : Int)) s8 a10 (.tmp 4) := D8.done 0
   clear D8
   refine tn ?_
   refine wp_ret ?_
   exact ret1 rfl ok9 F9 (cvi (by (exact (indexL_no (fun j hj => hno j (by omega))).symm)) q32)


set_option maxRecDepth 100000 in
theorem contains_fn (xs : List Int) (x : Int) (σ : GW) (v0 v1 : Value) (hv0 : Ty.has (Ty.lst Ty.int xs) σ v0) (hv1 : Ty.has (Ty.int x) σ v1)  :
    FnC Try.prog 136 #[v0, v1] σ (Ty.bool (decide (x ∈ xs))) := by
 refine fn_intro Try.func136 rfl Try.ntmps136 (Nat.le_of_ble_eq_true rfl) (fun s0 a0 hle F0 ok0 hargs => ?_)
 have p0 : At (Ty.lst Ty.int xs) s0 a0 (.tmp 0) := by have e := hargs 0 _ rfl; show Ty.has _ _ _; rw [e]; exact Ty.up _ hle hv0
 have b1 := sl_le p0
 have p1 : At (Ty.int x) s0 a0 (.tmp 1) := by have e := hargs 1 _ rfl; show Ty.has _ _ _; rw [e]; exact Ty.up _ hle hv1
 clear hargs
 refine wp_seq ?_
 refine reg (a := a0) (σ := s0) rfl (fun i_ => List.getD [(Ty.pr (Ty.bool false))] i_ Pr.any) ok0 rfl ⟨?_, trivial⟩ ?_
 · intro ax tx hs okx sm
   exact run_plain rfl (y_assign rfl)
 intro a1 s1 D1
 have ok1 := D1.ok
 have F1 := F0.step0 D1.stp
 have q1 : At (Ty.lst Ty.int xs) s1 a1 (.tmp 0) := D1.kt p0 rfl
 have q2 : At (Ty.int x) s1 a1 (.tmp 1) := D1.kt p1 rfl
 clear D1
 refine tn ?_
 refine wp_seq ?_
 refine reg (a := a1) (σ := s1) rfl (fun i_ => List.getD [(Ty.pr (Ty.lst Ty.int xs)), (Ty.pr (Ty.int x)), (Ty.pr (Ty.int (indexL xs x))), (Ty.pr (Ty.bool (decide ((0 : Int) ≤ (indexL xs x))))), (Ty.pr (Ty.bool (decide ((0 : Int) ≤ (indexL xs x)))))] i_ Pr.any) ok1 rfl ⟨?_, ?_, ?_, ?_, ?_, trivial⟩ ?_
 · intro ax tx hs okx sm
   exact run_plain rfl (y_move (kp (sm 0 rfl) hs q1))
 · intro ax tx hs okx sm
   exact run_plain rfl (y_move (kp (sm 1 rfl) hs q2))
 · intro ax tx hs okx sm d0 d1
   have e0 : At (Ty.lst Ty.int xs) tx ax (.tmp 5) := d0 rfl
   have e1 : At (Ty.int x) tx ax (.tmp 6) := d1 rfl
   exact run_plain rfl (y_call #[ax.eval (.tmp 5), ax.eval (.tmp 6)] Try.func156 rfl rfl (by simp only [List.map_toArray, List.map_cons, List.map_nil]) (index_fn (xs) (x) _ _ _ e0 e1 ))
 · intro ax tx hs okx sm d0
   have e2 : At (Ty.int (indexL xs x)) tx ax (.tmp 7) := d0 rfl
   exact run_plain rfl (y_geq e2 rfl)
 · intro ax tx hs okx sm d0 d1 d2 d3 d4 d5
   have e3 : At (Ty.bool (decide ((0 : Int) ≤ (indexL xs x)))) tx ax (.tmp 8) := d0 rfl
   have e2 : At (Ty.int (indexL xs x)) tx ax (.tmp 7) := d1 rfl
   have e0 : At (Ty.lst Ty.int xs) tx ax (.tmp 5) := d2 rfl
   have e1 : At (Ty.int x) tx ax (.tmp 6) := d3 rfl
   exact run_plain rfl (y_assign e3)
 intro a2 s2 D2
 have ok2 := D2.ok
 have F2 := F1.step0 D2.stp
 have q3 : At (Ty.bool (decide ((0 : Int) ≤ (indexL xs x)))) s2 a2 (.tmp 4) := D2.done 4
 clear D2
 refine tn ?_
 refine wp_ret ?_
 exact ret1 rfl ok2 F2 (cvb (by (rw [decide_eq_decide]; exact indexL_iff)) q3)


set_option maxRecDepth 100000 in
theorem pChange_fn (n : Nat) (l : List Int) (σ : GW) (v0 v1 : Value) (hv0 : Ty.has (Ty.nat n) σ v0) (hv1 : Ty.has (Ty.lst Ty.int l) σ v1) (hn : n ≤ 12) (ho : okL 0 l n) :
    FnC Try.prog 122 #[v0, v1] σ (Ty.lst Ty.int (chgRow n l)) := by
 refine fn_intro Try.func122 rfl Try.ntmps122 (Nat.le_of_ble_eq_true rfl) (fun s0 a0 hle F0 ok0 hargs => ?_)
 have p0 : At (Ty.nat n) s0 a0 (.tmp 0) := by have e := hargs 0 _ rfl; show Ty.has _ _ _; rw [e]; exact Ty.up _ hle hv0
 have p1 : At (Ty.lst Ty.int l) s0 a0 (.tmp 1) := by have e := hargs 1 _ rfl; show Ty.has _ _ _; rw [e]; exact Ty.up _ hle hv1
 have b1 := sl_le p1
 clear hargs
 refine wp_seq ?_
 refine reg (a := a0) (σ := s0) rfl (fun i_ => List.getD [(Ty.pr (Ty.val (Value.slice none 0 0)))] i_ Pr.any) ok0 rfl ⟨?_, trivial⟩ ?_
 · intro ax tx hs okx sm
   exact run_plain rfl (y_assign rfl)
 intro a1 s1 D1
 have ok1 := D1.ok
 have F1 := F0.step0 D1.stp
 have q1 : At (Ty.nat n) s1 a1 (.tmp 0) := D1.kt p0 rfl
 have q2 : At (Ty.lst Ty.int l) s1 a1 (.tmp 1) := D1.kt p1 rfl
 clear D1
 refine tn ?_
 refine wp_seq ?_
 refine reg (a := a1) (σ := s1) rfl (fun i_ => List.getD [(Ty.pr (Ty.nat n)), (Pr.own 11 3 1 n (List.map Ty.int (List.replicate n 0))), (Pr.own 11 3 1 n (List.map Ty.int (List.replicate n 0)))] i_ Pr.any) ok1 rfl ⟨?_, ?_, ?_, trivial⟩ ?_
 · intro ax tx hs okx sm
   exact run_plain rfl (y_move (kp (sm 0 rfl) hs q1))
 · intro ax tx hs okx sm d0 d1
   have e0 : At (Ty.nat n) tx ax (.tmp 7) := d0 rfl
   exact run_plain rfl ((y_make (k := 11) (T := Ty.int 0) (n := n) Try.underlying34 Try.inf3 rfl (fun _ => rfl) e0 e0 (by omega) (by omega)).mono (fun _ _ h => cvo (by simp) (by simp) h))
 · intro ax tx hs okx sm d0 d1 d2
   have e1 : (Pr.own 11 3 1 n (List.map Ty.int (List.replicate n 0))).has tx (ax.eval (.tmp 8)) := d0 rfl
   have e0 : At (Ty.nat n) tx ax (.tmp 7) := d1 rfl
   exact run_plain rfl (y_assign e1)
 intro a2 s2 D2
 have ok2 := D2.ok
 have F2 := F1.step0 D2.stp
 have q3 : At (Ty.nat n) s2 a2 (.tmp 0) := D2.kt q1 rfl
 have q4 : At (Ty.lst Ty.int l) s2 a2 (.tmp 1) := D2.kt q2 rfl
 have q5 : (Pr.own 11 3 1 n (List.map Ty.int (List.replicate n 0))).has s2 (a2.eval (.tmp 5)) := D2.done 2
 clear D2
 refine tn ?_
 refine wp_seq ?_
 refine wp_seq ?_
 refine reg (a := a2) (σ := s2) rfl (fun i_ => List.getD [(Ty.pr (Ty.int (0 : Int)))] i_ Pr.any) ok2 rfl ⟨?_, trivial⟩ ?_
 · intro ax tx hs okx sm
   exact run_plain rfl (y_assign rfl)
 intro a3 s3 D3
 have ok3 := D3.ok
 have F3 := F2.step0 D3.stp
 have q6 : At (Ty.nat n) s3 a3 (.tmp 0) := D3.kt q3 rfl
 have q7 : At (Ty.lst Ty.int l) s3 a3 (.tmp 1) := D3.kt q4 rfl
 have q8 : (Pr.own 11 3 1 n (List.map Ty.int (List.replicate n 0))).has s3 (a3.eval (.tmp 5)) := D3.ko q5 rfl
 have q9 : At (Ty.int (0 : Int)) s3 a3 (.tmp 6) := D3.done 0
 clear D3
 refine tn ?_
 refine wp_block ?_
 refine loop (fun n1 a4 w1 => ∃ (t1 : GW) (xs : List Int) (f : Nat), t1.w = w1 ∧ From s0 t1 ∧ Ok 35 a4 ∧ (Pr.own 11 3 1 (List.length (padTo n xs)) (List.map Ty.int (padTo n xs))).has t1 (a4.eval (.tmp 5)) ∧ At (Ty.nat xs.length) t1 a4 (.tmp 6) ∧ At (Ty.nat n) t1 a4 (.tmp 0) ∧ At (Ty.lst Ty.int l) t1 a4 (.tmp 1) ∧ (AtC n l xs.length) ∧ (n ≤ f + xs.length) ∧ (xs ++ rowF l n f xs.length = chgRow n l) ∧ n1 = n + 1 - xs.length) (n + 1 - (([] : List Int)).length) ?_ ?_
 ·
  exact ⟨s3, ([] : List Int), n, rfl, F3, ok3, (cvo (by (simp [padTo_nil])) (by (simp [padTo_nil])) q8), (cvi (by (first | rfl | omega | (simp_all; done) | (simp_all; omega))) q9), q6, q7, AtC.zero ho, by simp, rfl, rfl⟩
 ·
  rintro n2 a5 w2 ⟨t2, xs, f, rfl, F4, ok4, q10, q11, q12, q13, ha, hf, heq, rfl⟩
  have hal := ha.le
  have hpl := padTo_len hal
  refine wp_seq ?_
  refine wp_seq ?_
  refine reg (a := a5) (σ := t2) rfl (fun i_ => List.getD [(Ty.pr (Ty.nat xs.length)), (Ty.pr (Ty.nat n)), (Ty.pr (Ty.bool (decide (((xs.length : Nat) : Int) < ((n : Nat) : Int)))))] i_ Pr.any) ok4 rfl ⟨?_, ?_, ?_, trivial⟩ ?_
  · intro ax tx hs okx sm
    exact run_plain rfl (y_move (kp (sm 6 rfl) hs q11))
  · intro ax tx hs okx sm
    exact run_plain rfl (y_move (kp (sm 0 rfl) hs q12))
  · intro ax tx hs okx sm d0 d1
    have e0 : At (Ty.nat xs.length) tx ax (.tmp 9) := d0 rfl
    have e1 : At (Ty.nat n) tx ax (.tmp 10) := d1 rfl
    exact run_plain rfl (y_lss e0 e1)
  intro a6 s4 D4
  have ok5 := D4.ok
  have F5 := F4.step0 D4.stp
  have q14 : (Pr.own 11 3 1 (List.length (padTo n xs)) (List.map Ty.int (padTo n xs))).has s4 (a6.eval (.tmp 5)) := D4.ko q10 rfl
  have q15 : At (Ty.nat xs.length) s4 a6 (.tmp 6) := D4.kt q11 rfl
  have q16 : At (Ty.nat n) s4 a6 (.tmp 0) := D4.kt q12 rfl
  have q17 : At (Ty.lst Ty.int l) s4 a6 (.tmp 1) := D4.kt q13 rfl
  have q18 : At (Ty.bool (decide (((xs.length : Nat) : Int) < ((n : Nat) : Int)))) s4 a6 (.tmp 11) := D4.done 2
  clear D4
  refine tn ?_
  refine cond_p (p := (((xs.length : Nat) : Int) < ((n : Nat) : Int))) q18 (fun c1 => ?_) (fun c1 => ?_)
  ·
   refine wp_skip ?_
   refine tn ?_
   refine wp_seq ?_
   refine wp_block ?_
   refine wp_seq ?_
   refine wp_seq ?_
   refine reg (a := a6) (σ := s4) rfl (fun i_ => List.getD [(Ty.pr (Ty.lst Ty.int l)), (Ty.pr (Ty.nat xs.length)), (Ty.pr (Ty.int (((xs.length : Nat) : Int) + (1 : Int)))), (Ty.pr (Ty.bool (decide (((((xs.length : Nat) : Int) + (1 : Int))) ∈ (l)))))] i_ Pr.any) ok5 rfl ⟨?_, ?_, ?_, ?_, trivial⟩ ?_
   · intro ax tx hs okx sm
     exact run_plain rfl (y_move (kp (sm 1 rfl) hs q17))
   · intro ax tx hs okx sm
     exact run_plain rfl (y_move (kp (sm 6 rfl) hs q15))
   · intro ax tx hs okx sm d0
     have e1 : At (Ty.nat xs.length) tx ax (.tmp 15) := d0 rfl
     exact run_plain rfl (y_add e1 rfl (w64 (by omega) (by omega)))
   · intro ax tx hs okx sm d0 d1
     have e0 : At (Ty.lst Ty.int l) tx ax (.tmp 14) := d0 rfl
     have e2 : At (Ty.int (((xs.length : Nat) : Int) + (1 : Int))) tx ax (.tmp 16) := d1 rfl
     exact run_plain rfl (y_call #[ax.eval (.tmp 14), ax.eval (.tmp 16)] Try.func136 rfl rfl (by simp only [List.map_toArray, List.map_cons, List.map_nil]) (contains_fn (l) ((((xs.length : Nat) : Int) + (1 : Int))) _ _ _ e0 e2 ))
   intro a7 s5 D5
   have ok6 := D5.ok
   have F6 := F5.step0 D5.stp
   have q19 : (Pr.own 11 3 1 (List.length (padTo n xs)) (List.map Ty.int (padTo n xs))).has s5 (a7.eval (.tmp 5)) := D5.ko q14 rfl
   have q20 : At (Ty.nat xs.length) s5 a7 (.tmp 6) := D5.kt q15 rfl
   have q21 : At (Ty.nat n) s5 a7 (.tmp 0) := D5.kt q16 rfl
   have q22 : At (Ty.lst Ty.int l) s5 a7 (.tmp 1) := D5.kt q17 rfl
   have q23 : At (Ty.bool (decide (((((xs.length : Nat) : Int) + (1 : Int))) ∈ (l)))) s5 a7 (.tmp 17) := D5.done 3
   clear D5
   refine tn ?_
   refine cond_t q23 (fun c2 => ?_) (fun c2 => ?_)
   ·
    have c2 := of_decide_eq_true c2
    refine wp_seq ?_
    refine reg2 (a := a7) (σ := s5) rfl 4 (fun i_ => List.getD [(Ty.pr (Ty.val (a7.eval (.tmp 5)))), (Ty.pr (Ty.nat xs.length)), (Ty.pr (Ty.nat xs.length)), (Ty.pr (Ty.val (cellPtr (a7.eval (.tmp 5)) xs.length)))] i_ Pr.any) ok6 rfl (by decide) rfl ⟨?_, ?_, ?_, ?_, trivial⟩ ?_
    · intro ax tx hs okx sm
      exact run_plain rfl (y_move (sm 5 rfl))
    · intro ax tx hs okx sm
      exact run_plain rfl (y_move (kp (sm 6 rfl) hs q20))
    · intro ax tx hs okx sm
      exact run_plain rfl (y_move (kp (sm 6 rfl) hs q20))
    · intro ax tx hs okx sm d0 d1 d2 d3 d4
      have e0 : At (Ty.val (a7.eval (.tmp 5))) tx ax (.tmp 18) := d0 rfl
      have e1 : At (Ty.nat xs.length) tx ax (.tmp 19) := d1 rfl
      have e2 : At (Ty.nat xs.length) tx ax (.tmp 20) := d4 rfl
      exact run_plain rfl (own_index1 (i := ((xs.length : Nat) : Int)) Try.underlying34 Try.inf3 ((Pr.own 11 3 1 (List.length (padTo n xs)) (List.map Ty.int (padTo n xs))).up hs q19) e0 e1 (by omega) (by omega))
    intro a8 s6 D6
    have ok7 := D6.ok
    have F7 := F6.step0 D6.stp
    have q24 := (Pr.own 11 3 1 (List.length (padTo n xs)) (List.map Ty.int (padTo n xs))).up D6.stp q19
    have q25 : a8.eval (.tmp 5) = a7.eval (.tmp 5) := D6.same 5 rfl
    have q26 : At (Ty.nat xs.length) s6 a8 (.tmp 6) := D6.kt q20 rfl
    have q27 : At (Ty.nat n) s6 a8 (.tmp 0) := D6.kt q21 rfl
    have q28 : At (Ty.lst Ty.int l) s6 a8 (.tmp 1) := D6.kt q22 rfl
    have q29 : At (Ty.nat xs.length) s6 a8 (.tmp 20) := D6.done 2 (by decide)
    have q30 : At (Ty.val (cellPtr (a7.eval (.tmp 5)) xs.length)) s6 a8 (.tmp 21) := D6.done 3 (by decide)
    clear D6
    refine tail_step0 (m := 11) (R := (fun _ τ => Own τ 11 3 1 (a7.eval (.tmp 5)) (List.length (padTo n xs)) ((List.map Ty.int (padTo n xs)).set xs.length (Ty.nat xs.length)))) rfl rfl (m_store Try.inf3 (by decide) q24 q30 (by simp only [List.length_map, List.length_set]; omega) q29 (one_val rfl)) (fun v1 s7 hs1 r1 => ?_)
    have F8 := F7.step hs1 (by decide)
    have q31 : At (Ty.nat xs.length) s7 a8 (.tmp 6) := kpm hs1 (by decide) rfl q26
    have q32 : At (Ty.nat n) s7 a8 (.tmp 0) := kpm hs1 (by decide) rfl q27
    have q33 : At (Ty.lst Ty.int l) s7 a8 (.tmp 1) := kpm hs1 (by decide) rfl q28
    have q34 : At (Ty.nat xs.length) s7 a8 (.tmp 20) := kpm hs1 (by decide) rfl q29
    have q35 : (Pr.own 11 3 1 (List.length ((padTo n xs).set xs.length ((xs.length : Nat) : Int))) (List.map Ty.int ((padTo n xs).set xs.length ((xs.length : Nat) : Int)))).has s7 (a7.eval (.tmp 5)) := (cvo (by simp) (by simp) r1)
    refine wpList_nil ?_
    have q36 : (Pr.own 11 3 1 (List.length ((padTo n xs).set xs.length ((xs.length : Nat) : Int))) (List.map Ty.int ((padTo n xs).set xs.length ((xs.length : Nat) : Int)))).has s7 (a8.eval (.tmp 5)) := al q25 q35
    refine tn ?_
    refine wp_exit ?_
    refine tx ?_
    refine bx ?_
    refine tn ?_
    refine reg (a := a8) (σ := s7) rfl (fun i_ => List.getD [(Ty.pr (Ty.nat xs.length)), (Ty.pr (Ty.int (((xs.length : Nat) : Int) + (1 : Int)))), (Ty.pr (Ty.int (((xs.length : Nat) : Int) + (1 : Int))))] i_ Pr.any) ok7 rfl ⟨?_, ?_, ?_, trivial⟩ ?_
    · intro ax tx hs okx sm
      exact run_plain rfl (y_move (kp (sm 6 rfl) hs q31))
    · intro ax tx hs okx sm d0
      have e0 : At (Ty.nat xs.length) tx ax (.tmp 12) := d0 rfl
      exact run_plain rfl (y_add e0 rfl (w64 (by omega) (by omega)))
    · intro ax tx hs okx sm d0 d1 d2
      have e1 : At (Ty.int (((xs.length : Nat) : Int) + (1 : Int))) tx ax (.tmp 13) := d0 rfl
      have e0 : At (Ty.nat xs.length) tx ax (.tmp 12) := d1 rfl
      exact run_plain rfl (y_assign e1)
    intro a10 s8 D7
    have ok9 := D7.ok
    have F9 := F8.step0 D7.stp
    have q37 : (Pr.own 11 3 1 (List.length ((padTo n xs).set xs.length ((xs.length : Nat) : Int))) (List.map Ty.int ((padTo n xs).set xs.length ((xs.length : Nat) : Int)))).has s8 (a10.eval (.tmp 5)) := D7.ko q36 rfl
    have q38 : At (Ty.nat n) s8 a10 (.tmp 0) := D7.kt q32 rfl
    have q39 : At (Ty.lst Ty.int l) s8 a10 (.tmp 1) := D7.kt q33 rfl
    have q40 : At (Ty.int (((xs.length : Nat) : Int) + (1 : Int))) s8 a10 (.tmp 6) := D7.done 2
    clear D7
    exact tn ⟨n + 1 - ((xs ++ [((xs.length : Nat) : Int)])).length, by simp; omega, s8, (xs ++ [((xs.length : Nat) : Int)]), (f-1), rfl, F9, ok9, (cvo (by (rw [padTo_set (by omega) _ (by first | rfl | omega)])) (by (rw [padTo_set (by omega) _ (by first | rfl | omega)])) q37), (cvi (by (simp)) q40), q38, q39, by rw [List.length_append]; exact ha.yes c2, by simp; omega, by rw [List.length_append]; exact rowF_yes heq (by omega) hf c2, rfl⟩
   ·
    have c2 := of_decide_eq_false c2; have han := ha.no (by omega) c2
    refine wp_skip ?_
    refine tn ?_
    refine wp_seq ?_
    refine reg2 (a := a7) (σ := s5) rfl 9 (fun i_ => List.getD [(Ty.pr (Ty.val (a7.eval (.tmp 5)))), (Ty.pr (Ty.nat xs.length)), (Ty.pr (Ty.val (a7.eval (.tmp 5)))), (Ty.pr (Ty.nat xs.length)), (Ty.pr (Ty.int (((xs.length : Nat) : Int) + (1 : Int)))), (Ty.pr (Ty.nat xs.length)), (Ty.pr (Ty.int (((xs.length : Nat) : Int) + (1 : Int)))), (Ty.pr (Ty.nat xs.length)), (Ty.pr (Ty.val (cellPtr (a7.eval (.tmp 5)) xs.length)))] i_ Pr.any) ok6 rfl (by decide) rfl ⟨?_, ?_, ?_, ?_, ?_, ?_, ?_, ?_, ?_, trivial⟩ ?_
    · intro ax tx hs okx sm
      exact run_plain rfl (y_move (sm 5 rfl))
    · intro ax tx hs okx sm
      exact run_plain rfl (y_move (kp (sm 6 rfl) hs q20))
    · intro ax tx hs okx sm d0
      exact run_plain rfl (y_move (sm 5 rfl))
    · intro ax tx hs okx sm d0
      exact run_plain rfl (y_move (kp (sm 6 rfl) hs q20))
    · intro ax tx hs okx sm d0 d1
      have e3 : At (Ty.nat xs.length) tx ax (.tmp 25) := d0 rfl
      exact run_plain rfl (y_add e3 rfl (w64 (by omega) (by omega)))
    · intro ax tx hs okx sm
      exact run_plain rfl (y_move (kp (sm 6 rfl) hs q20))
    · intro ax tx hs okx sm d0
      have e5 : At (Ty.nat xs.length) tx ax (.tmp 27) := d0 rfl
      exact run_plain rfl (y_add e5 rfl (w64 (by omega) (by omega)))
    · intro ax tx hs okx sm d0
      exact run_plain rfl (y_move (kp (sm 6 rfl) hs q20))
    · intro ax tx hs okx sm d0 d1 d2 d3 d4 d5 d6 d7 d8 d9
      have e0 : At (Ty.val (a7.eval (.tmp 5))) tx ax (.tmp 22) := d0 rfl
      have e1 : At (Ty.nat xs.length) tx ax (.tmp 23) := d1 rfl
      have e5 : At (Ty.nat xs.length) tx ax (.tmp 27) := d7 rfl
      have e6 : At (Ty.int (((xs.length : Nat) : Int) + (1 : Int))) tx ax (.tmp 28) := d8 rfl
      exact run_plain rfl (own_index1 (i := ((xs.length : Nat) : Int)) Try.underlying34 Try.inf3 ((Pr.own 11 3 1 (List.length (padTo n xs)) (List.map Ty.int (padTo n xs))).up hs q19) e0 e1 (by omega) (by omega))
    intro a11 s9 D8
    have ok10 := D8.ok
    have F10 := F6.step0 D8.stp
    have q41 := (Pr.own 11 3 1 (List.length (padTo n xs)) (List.map Ty.int (padTo n xs))).up D8.stp q19
    have q42 : a11.eval (.tmp 5) = a7.eval (.tmp 5) := D8.same 5 rfl
    have q43 : At (Ty.nat xs.length) s9 a11 (.tmp 6) := D8.kt q20 rfl
    have q44 : At (Ty.nat n) s9 a11 (.tmp 0) := D8.kt q21 rfl
    have q45 : At (Ty.lst Ty.int l) s9 a11 (.tmp 1) := D8.kt q22 rfl
    have q46 : At (Ty.val (a7.eval (.tmp 5))) s9 a11 (.tmp 24) := D8.done 2 (by decide)
    have q47 : At (Ty.int (((xs.length : Nat) : Int) + (1 : Int))) s9 a11 (.tmp 26) := D8.done 4 (by decide)
    have q48 : At (Ty.int (((xs.length : Nat) : Int) + (1 : Int))) s9 a11 (.tmp 28) := D8.done 6 (by decide)
    have q49 : At (Ty.nat xs.length) s9 a11 (.tmp 29) := D8.done 7 (by decide)
    have q50 : At (Ty.val (cellPtr (a7.eval (.tmp 5)) xs.length)) s9 a11 (.tmp 30) := D8.done 8 (by decide)
    clear D8
    refine tail_step0 (m := 11) (R := (fun _ τ => Own τ 11 3 1 (a7.eval (.tmp 5)) (List.length (padTo n xs)) ((List.map Ty.int (padTo n xs)).set xs.length (Ty.int (((xs.length : Nat) : Int) + (1 : Int)))))) rfl rfl (m_store Try.inf3 (by decide) q41 q50 (by simp only [List.length_map, List.length_set]; omega) q48 (one_val rfl)) (fun v2 s10 hs2 r2 => ?_)
    have F11 := F10.step hs2 (by decide)
    have q51 : At (Ty.nat xs.length) s10 a11 (.tmp 6) := kpm hs2 (by decide) rfl q43
    have q52 : At (Ty.nat n) s10 a11 (.tmp 0) := kpm hs2 (by decide) rfl q44
    have q53 : At (Ty.lst Ty.int l) s10 a11 (.tmp 1) := kpm hs2 (by decide) rfl q45
    have q54 : At (Ty.int (((xs.length : Nat) : Int) + (1 : Int))) s10 a11 (.tmp 26) := kpm hs2 (by decide) rfl q47
    have q55 : At (Ty.int (((xs.length : Nat) : Int) + (1 : Int))) s10 a11 (.tmp 28) := kpm hs2 (by decide) rfl q48
    have q56 : At (Ty.nat xs.length) s10 a11 (.tmp 29) := kpm hs2 (by decide) rfl q49
    have q57 : (Pr.own 11 3 1 (List.length ((padTo n xs).set xs.length (((xs.length : Nat) : Int) + (1 : Int)))) (List.map Ty.int ((padTo n xs).set xs.length (((xs.length : Nat) : Int) + (1 : Int))))).has s10 (a7.eval (.tmp 5)) := (cvo (by simp) (by simp) r2)
    refine tail_step (m := 0) (R := (fun v τ => Pr.has (Ty.pr (Ty.val (cellPtr (a7.eval (.tmp 5)) ((((xs.length : Nat) : Int) + (1 : Int))).toNat))) τ v)) rfl rfl (by decide) ok10 (Yld.toM (own_index1 (i := (((xs.length : Nat) : Int) + (1 : Int))) Try.underlying34 Try.inf3 q57 q46 q54 (by omega) (by simp only [List.length_set]; omega))) (fun a13 s11 hs3 ok12 r3 sm3 => ?_)
    have F12 := F11.step hs3 (by decide)
    have q58 := Own.keep q57 hs3 (by decide) (.inl rfl)
    have q59 := (sm3 5 (by decide)).trans q42
    have q60 : At (Ty.nat xs.length) s11 a13 (.tmp 6) := kpm hs3 (by decide) (sm3 6 (by decide)) q51
    have q61 : At (Ty.nat n) s11 a13 (.tmp 0) := kpm hs3 (by decide) (sm3 0 (by decide)) q52
    have q62 : At (Ty.lst Ty.int l) s11 a13 (.tmp 1) := kpm hs3 (by decide) (sm3 1 (by decide)) q53
    have q63 := (sm3 24 (by decide)).trans q46
    have q64 : At (Ty.int (((xs.length : Nat) : Int) + (1 : Int))) s11 a13 (.tmp 26) := kpm hs3 (by decide) (sm3 26 (by decide)) q54
    have q65 : At (Ty.int (((xs.length : Nat) : Int) + (1 : Int))) s11 a13 (.tmp 28) := kpm hs3 (by decide) (sm3 28 (by decide)) q55
    have q66 : At (Ty.nat xs.length) s11 a13 (.tmp 29) := kpm hs3 (by decide) (sm3 29 (by decide)) q56
    have q67 := (sm3 30 (by decide)).trans q50
    have q68 : At (Ty.val (cellPtr (a7.eval (.tmp 5)) ((((xs.length : Nat) : Int) + (1 : Int))).toNat)) s11 a13 (.tmp 31) := r3
    refine tail_step0 (m := 11) (R := (fun _ τ => Own τ 11 3 1 (a7.eval (.tmp 5)) (List.length ((padTo n xs).set xs.length (((xs.length : Nat) : Int) + (1 : Int)))) ((List.map Ty.int ((padTo n xs).set xs.length (((xs.length : Nat) : Int) + (1 : Int)))).set ((((xs.length : Nat) : Int) + (1 : Int))).toNat (Ty.nat xs.length)))) rfl rfl (m_store Try.inf3 (by decide) q58 q68 (by simp only [List.length_map, List.length_set]; omega) q66 (one_val rfl)) (fun v3 s12 hs4 r4 => ?_)
    have F13 := F12.step hs4 (by decide)
    have q69 : At (Ty.nat xs.length) s12 a13 (.tmp 6) := kpm hs4 (by decide) rfl q60
    have q70 : At (Ty.nat n) s12 a13 (.tmp 0) := kpm hs4 (by decide) rfl q61
    have q71 : At (Ty.lst Ty.int l) s12 a13 (.tmp 1) := kpm hs4 (by decide) rfl q62
    have q72 : At (Ty.int (((xs.length : Nat) : Int) + (1 : Int))) s12 a13 (.tmp 26) := kpm hs4 (by decide) rfl q64
    have q73 : At (Ty.int (((xs.length : Nat) : Int) + (1 : Int))) s12 a13 (.tmp 28) := kpm hs4 (by decide) rfl q65
    have q74 : At (Ty.nat xs.length) s12 a13 (.tmp 29) := kpm hs4 (by decide) rfl q66
    have q75 : (Pr.own 11 3 1 (List.length (((padTo n xs).set xs.length (((xs.length : Nat) : Int) + (1 : Int))).set ((((xs.length : Nat) : Int) + (1 : Int))).toNat ((xs.length : Nat) : Int))) (List.map Ty.int (((padTo n xs).set xs.length (((xs.length : Nat) : Int) + (1 : Int))).set ((((xs.length : Nat) : Int) + (1 : Int))).toNat ((xs.length : Nat) : Int)))).has s12 (a7.eval (.tmp 5)) := (cvo (by simp) (by simp) r4)
    refine wpList_nil ?_
    have q76 : (Pr.own 11 3 1 (List.length (((padTo n xs).set xs.length (((xs.length : Nat) : Int) + (1 : Int))).set ((((xs.length : Nat) : Int) + (1 : Int))).toNat ((xs.length : Nat) : Int))) (List.map Ty.int (((padTo n xs).set xs.length (((xs.length : Nat) : Int) + (1 : Int))).set ((((xs.length : Nat) : Int) + (1 : Int))).toNat ((xs.length : Nat) : Int)))).has s12 (a13.eval (.tmp 5)) := al q59 q75
    refine tn ?_
    refine reg (a := a13) (σ := s12) rfl (fun i_ => List.getD [(Ty.pr (Ty.nat xs.length)), (Ty.pr (Ty.int (((xs.length : Nat) : Int) + (1 : Int)))), (Ty.pr (Ty.int (((xs.length : Nat) : Int) + (1 : Int))))] i_ Pr.any) ok12 rfl ⟨?_, ?_, ?_, trivial⟩ ?_
    · intro ax tx hs okx sm
      exact run_plain rfl (y_move (kp (sm 6 rfl) hs q69))
    · intro ax tx hs okx sm d0
      have e0 : At (Ty.nat xs.length) tx ax (.tmp 32) := d0 rfl
      exact run_plain rfl (y_add e0 rfl (w64 (by omega) (by omega)))
    · intro ax tx hs okx sm d0 d1 d2
      have e1 : At (Ty.int (((xs.length : Nat) : Int) + (1 : Int))) tx ax (.tmp 33) := d0 rfl
      have e0 : At (Ty.nat xs.length) tx ax (.tmp 32) := d1 rfl
      exact run_plain rfl (y_assign e1)
    intro a15 s13 D9
    have ok14 := D9.ok
    have F14 := F13.step0 D9.stp
    have q77 : (Pr.own 11 3 1 (List.length (((padTo n xs).set xs.length (((xs.length : Nat) : Int) + (1 : Int))).set ((((xs.length : Nat) : Int) + (1 : Int))).toNat ((xs.length : Nat) : Int))) (List.map Ty.int (((padTo n xs).set xs.length (((xs.length : Nat) : Int) + (1 : Int))).set ((((xs.length : Nat) : Int) + (1 : Int))).toNat ((xs.length : Nat) : Int)))).has s13 (a15.eval (.tmp 5)) := D9.ko q76 rfl
    have q78 : At (Ty.nat n) s13 a15 (.tmp 0) := D9.kt q70 rfl
    have q79 : At (Ty.lst Ty.int l) s13 a15 (.tmp 1) := D9.kt q71 rfl
    have q80 : At (Ty.int (((xs.length : Nat) : Int) + (1 : Int))) s13 a15 (.tmp 6) := D9.done 2
    clear D9
    refine bn ?_
    refine tn ?_
    refine reg (a := a15) (σ := s13) rfl (fun i_ => List.getD [(Ty.pr (Ty.int (((xs.length : Nat) : Int) + (1 : Int)))), (Ty.pr (Ty.int ((((xs.length : Nat) : Int) + (1 : Int)) + (1 : Int)))), (Ty.pr (Ty.int ((((xs.length : Nat) : Int) + (1 : Int)) + (1 : Int))))] i_ Pr.any) ok14 rfl ⟨?_, ?_, ?_, trivial⟩ ?_
    · intro ax tx hs okx sm
      exact run_plain rfl (y_move (kp (sm 6 rfl) hs q80))
    · intro ax tx hs okx sm d0
      have e0 : At (Ty.int (((xs.length : Nat) : Int) + (1 : Int))) tx ax (.tmp 12) := d0 rfl
      exact run_plain rfl (y_add e0 rfl (w64 (by omega) (by omega)))
    · intro ax tx hs okx sm d0 d1 d2
      have e1 : At (Ty.int ((((xs.length : Nat) : Int) + (1 : Int)) + (1 : Int))) tx ax (.tmp 13) := d0 rfl
      have e0 : At (Ty.int (((xs.length : Nat) : Int) + (1 : Int))) tx ax (.tmp 12) := d1 rfl
      exact run_plain rfl (y_assign e1)
    intro a16 s14 D10
    have ok15 := D10.ok
    have F15 := F14.step0 D10.stp
    have q81 : (Pr.own 11 3 1 (List.length (((padTo n xs).set xs.length (((xs.length : Nat) : Int) + (1 : Int))).set ((((xs.length : Nat) : Int) + (1 : Int))).toNat ((xs.length : Nat) : Int))) (List.map Ty.int (((padTo n xs).set xs.length (((xs.length : Nat) : Int) + (1 : Int))).set ((((xs.length : Nat) : Int) + (1 : Int))).toNat ((xs.length : Nat) : Int)))).has s14 (a16.eval (.tmp 5)) := D10.ko q77 rfl
    have q82 : At (Ty.nat n) s14 a16 (.tmp 0) := D10.kt q78 rfl
    have q83 : At (Ty.lst Ty.int l) s14 a16 (.tmp 1) := D10.kt q79 rfl
    have q84 : At (Ty.int ((((xs.length : Nat) : Int) + (1 : Int)) + (1 : Int))) s14 a16 (.tmp 6) := D10.done 2
    clear D10
    exact tn ⟨n + 1 - ((xs ++ [((xs.length : Nat) : Int) + 1, ((xs.length : Nat) : Int)])).length, by simp; omega, s14, (xs ++ [((xs.length : Nat) : Int) + 1, ((xs.length : Nat) : Int)]), (f-1), rfl, F15, ok15, (cvo (by (rw [padTo_set (by omega) _ (by omega), padTo_set (by simp; omega) _ (by simp)]; simp)) (by (rw [padTo_set (by omega) _ (by omega), padTo_set (by simp; omega) _ (by simp)]; simp)) q81), (cvi (by (simp; omega)) q84), q82, q83, by rw [List.length_append]; exact han.2, by simp; omega, by rw [List.length_append]; exact rowF_no heq (by omega) hf c2, rfl⟩
  ·
   refine wp_exit ?_
   refine tx ?_
   refine tx ?_
   refine bx ?_
   refine tn ?_
   refine wp_seq ?_
   refine reg (a := a6) (σ := s4) rfl (fun i_ => List.getD [(Ty.pr (Ty.val (a6.eval (.tmp 5)))), (Ty.pr (Ty.val (a6.eval (.tmp 5))))] i_ Pr.any) ok5 rfl ⟨?_, ?_, trivial⟩ ?_
   · intro ax tx hs okx sm
     exact run_plain rfl (y_move (sm 5 rfl))
   · intro ax tx hs okx sm d0 d1
     have e0 : At (Ty.val (a6.eval (.tmp 5))) tx ax (.tmp 34) := d0 rfl
     exact run_plain rfl (y_assign e0)
   intro a17 s15 D11
   have ok16 := D11.ok
   have F16 := F5.step0 D11.stp
   have q85 : (Pr.own 11 3 1 (List.length (padTo n xs)) (List.map Ty.int (padTo n xs))).has s15 (a17.eval (.tmp 4)) := al (show _ = _ from D11.done 1) ((Pr.own 11 3 1 (List.length (padTo n xs)) (List.map Ty.int (padTo n xs))).up D11.stp q14)
   clear D11
   refine tn ?_
   refine wp_ret ?_
   obtain ⟨t3, e1, h1, q86⟩ := Own.seal q85 (by decide)
   rw [← e1]
   have F17 := F16.step h1 (by decide)
   exact ret1 rfl ok16 F17 (cvt (by (rw [rowF_end (by omega), List.append_nil] at heq; rw [heq, padTo_full (chgRow_len ho)])) q86)


set_option maxRecDepth 100000 in
theorem product_fn (a : List Int) (b : List Int) (σ : GW) (v0 v1 : Value) (hv0 : Ty.has (Ty.lst Ty.int a) σ v0) (hv1 : Ty.has (Ty.lst Ty.int b) σ v1) (hl : a.length = b.length) (hbd : ∀ i, i < b.length → 0 ≤ b.getD i 0 ∧ b.getD i 0 < a.length) (hs : a.length ≤ 1000000) :
    FnC Try.prog 98 #[v0, v1] σ (Ty.lst Ty.int (byL a b)) := by
 refine fn_intro Try.func98 rfl Try.ntmps98 (Nat.le_of_ble_eq_true rfl) (fun s0 a0 hle F0 ok0 hargs => ?_)
 have p0 : At (Ty.lst Ty.int a) s0 a0 (.tmp 0) := by have e := hargs 0 _ rfl; show Ty.has _ _ _; rw [e]; exact Ty.up _ hle hv0
 have b1 := sl_le p0
 have p1 : At (Ty.lst Ty.int b) s0 a0 (.tmp 1) := by have e := hargs 1 _ rfl; show Ty.has _ _ _; rw [e]; exact Ty.up _ hle hv1
 have b2 := sl_le p1
 clear hargs
 refine wp_seq ?_
 refine reg (a := a0) (σ := s0) rfl (fun i_ => List.getD [(Ty.pr (Ty.val (Value.slice none 0 0)))] i_ Pr.any) ok0 rfl ⟨?_, trivial⟩ ?_
 · intro ax tx hs okx sm
   exact run_plain rfl (y_assign rfl)
 intro a1 s1 D1
 have ok1 := D1.ok
 have F1 := F0.step0 D1.stp
 have q1 : At (Ty.lst Ty.int a) s1 a1 (.tmp 0) := D1.kt p0 rfl
 have q2 : At (Ty.lst Ty.int b) s1 a1 (.tmp 1) := D1.kt p1 rfl
 clear D1
 refine tn ?_
 refine wp_seq ?_
 refine reg (a := a1) (σ := s1) rfl (fun i_ => List.getD [(Ty.pr (Ty.lst Ty.int a)), (Ty.pr (Ty.nat (List.length a))), (Pr.own 11 3 1 (List.length a) (List.map Ty.int (List.replicate (List.length a) 0))), (Pr.own 11 3 1 (List.length a) (List.map Ty.int (List.replicate (List.length a) 0)))] i_ Pr.any) ok1 rfl ⟨?_, ?_, ?_, ?_, trivial⟩ ?_
 · intro ax tx hs okx sm
   exact run_plain rfl (y_move (kp (sm 0 rfl) hs q1))
 · intro ax tx hs okx sm d0
   have e0 : At (Ty.lst Ty.int a) tx ax (.tmp 8) := d0 rfl
   exact run_plain rfl (y_len Try.underlying34 e0)
 · intro ax tx hs okx sm d0 d1
   have e1 : At (Ty.nat (List.length a)) tx ax (.tmp 9) := d0 rfl
   exact run_plain rfl ((y_make (k := 11) (T := Ty.int 0) (n := (List.length a)) Try.underlying34 Try.inf3 rfl (fun _ => rfl) e1 e1 (by omega) (by omega)).mono (fun _ _ h => cvo (by simp) (by simp) h))
 · intro ax tx hs okx sm d0 d1 d2 d3
   have e2 : (Pr.own 11 3 1 (List.length a) (List.map Ty.int (List.replicate (List.length a) 0))).has tx (ax.eval (.tmp 10)) := d0 rfl
   have e0 : At (Ty.lst Ty.int a) tx ax (.tmp 8) := d1 rfl
   have e1 : At (Ty.nat (List.length a)) tx ax (.tmp 9) := d2 rfl
   exact run_plain rfl (y_assign e2)
 intro a2 s2 D2
 have ok2 := D2.ok
 have F2 := F1.step0 D2.stp
 have q3 : At (Ty.lst Ty.int a) s2 a2 (.tmp 0) := D2.kt q1 rfl
 have q4 : At (Ty.lst Ty.int b) s2 a2 (.tmp 1) := D2.kt q2 rfl
 have q5 : (Pr.own 11 3 1 (List.length a) (List.map Ty.int (List.replicate (List.length a) 0))).has s2 (a2.eval (.tmp 5)) := D2.done 3
 clear D2
 refine tn ?_
 refine wp_seq ?_
 refine wp_seq ?_
 refine reg (a := a2) (σ := s2) rfl (fun i_ => List.getD [(Ty.pr (Ty.lst Ty.int b)), (Ty.pr (Ty.nat (List.length b))), (Ty.pr (Ty.int (0 : Int)))] i_ Pr.any) ok2 rfl ⟨?_, ?_, ?_, trivial⟩ ?_
 · intro ax tx hs okx sm
   exact run_plain rfl (y_move (kp (sm 1 rfl) hs q4))
 · intro ax tx hs okx sm d0
   have e0 : At (Ty.lst Ty.int b) tx ax (.tmp 11) := d0 rfl
   exact run_plain rfl (y_len Try.underlying34 e0)
 · intro ax tx hs okx sm
   exact run_plain rfl (y_move rfl)
 intro a3 s3 D3
 have ok3 := D3.ok
 have F3 := F2.step0 D3.stp
 have q6 : At (Ty.lst Ty.int a) s3 a3 (.tmp 0) := D3.kt q3 rfl
 have q7 : (Pr.own 11 3 1 (List.length a) (List.map Ty.int (List.replicate (List.length a) 0))).has s3 (a3.eval (.tmp 5)) := D3.ko q5 rfl
 have q8 : At (Ty.lst Ty.int b) s3 a3 (.tmp 11) := D3.done 0
 have q9 : At (Ty.nat (List.length b)) s3 a3 (.tmp 12) := D3.done 1
 have q10 : At (Ty.int (0 : Int)) s3 a3 (.tmp 13) := D3.done 2
 clear D3
 refine tn ?_
 refine wp_block ?_
 refine loop (fun n1 a4 w1 => ∃ (t1 : GW) (k : Nat), t1.w = w1 ∧ From s0 t1 ∧ Ok 27 a4 ∧ At (Ty.nat k) t1 a4 (.tmp 13) ∧ (Pr.own 11 3 1 (List.length (byTo a b k)) (List.map Ty.int (byTo a b k))).has t1 (a4.eval (.tmp 5)) ∧ At (Ty.lst Ty.int a) t1 a4 (.tmp 0) ∧ At (Ty.lst Ty.int b) t1 a4 (.tmp 11) ∧ At (Ty.nat (List.length b)) t1 a4 (.tmp 12) ∧ (k ≤ b.length) ∧ n1 = b.length - k) (b.length - (0)) ?_ ?_
 ·
  exact ⟨s3, 0, rfl, F3, ok3, (cvi (by (first | rfl | omega | (simp_all; done) | (simp_all; omega))) q10), (cvo (by (simp [byTo_zero])) (by (simp [byTo_zero])) q7), q6, q8, q9, by omega, rfl⟩
 ·
  rintro n2 a5 w2 ⟨t2, k, rfl, F4, ok4, q11, q12, q13, q14, q15, hk, rfl⟩
  have hp := byTo_len a b k
  refine wp_seq ?_
  refine reg (a := a5) (σ := t2) rfl (fun i_ => List.getD [(Ty.pr (Ty.bool (decide (((k : Nat) : Int) < (((List.length b) : Nat) : Int)))))] i_ Pr.any) ok4 rfl ⟨?_, trivial⟩ ?_
  · intro ax tx hs okx sm
    exact run_plain rfl (y_lss (kp (sm 13 rfl) hs q11) (kp (sm 12 rfl) hs q15))
  intro a6 s4 D4
  have ok5 := D4.ok
  have F5 := F4.step0 D4.stp
  have q16 : At (Ty.nat k) s4 a6 (.tmp 13) := D4.kt q11 rfl
  have q17 : (Pr.own 11 3 1 (List.length (byTo a b k)) (List.map Ty.int (byTo a b k))).has s4 (a6.eval (.tmp 5)) := D4.ko q12 rfl
  have q18 : At (Ty.lst Ty.int a) s4 a6 (.tmp 0) := D4.kt q13 rfl
  have q19 : At (Ty.lst Ty.int b) s4 a6 (.tmp 11) := D4.kt q14 rfl
  have q20 : At (Ty.nat (List.length b)) s4 a6 (.tmp 12) := D4.kt q15 rfl
  have q21 : At (Ty.bool (decide (((k : Nat) : Int) < (((List.length b) : Nat) : Int)))) s4 a6 (.tmp 14) := D4.done 0
  clear D4
  refine tn ?_
  refine wp_seq ?_
  refine cond_p (p := (((k : Nat) : Int) < (((List.length b) : Nat) : Int))) q21 (fun c1 => ?_) (fun c1 => ?_)
  ·
   have hq := hbd k (by omega)
   refine wp_skip ?_
   refine tn ?_
   refine wp_seq ?_
   refine wp_block ?_
   refine wp_seq ?_
   refine reg (a := a6) (σ := s4) rfl (fun i_ => List.getD [(Ty.pr (Ty.nat k)), (Ty.pr (Ty.ref [(Ty.int (b.getD k 0))])), (Ty.pr (Ty.int (b.getD k 0))), (Ty.pr (Ty.nat k)), (Ty.pr (Ty.int (b.getD k 0)))] i_ Pr.any) ok5 rfl ⟨?_, ?_, ?_, ?_, ?_, trivial⟩ ?_
   · intro ax tx hs okx sm
     exact run_plain rfl (y_move (kp (sm 13 rfl) hs q16))
   · intro ax tx hs okx sm
     exact run_plain rfl (y_index1 Try.underlying34 Try.inf3 (kp (sm 11 rfl) hs q19) (kp (sm 13 rfl) hs q16) (by omega) (lst_get Ty.int b 0 k (by omega)))
   · intro ax tx hs okx sm d0
     have e1 : At (Ty.ref [(Ty.int (b.getD k 0))]) tx ax (.tmp 16) := d0 rfl
     exact run_plain rfl (y_load Try.underlying3 rfl e1 rfl)
   · intro ax tx hs okx sm d0 d1 d2 d3
     have e0 : At (Ty.nat k) tx ax (.tmp 15) := d0 rfl
     have e1 : At (Ty.ref [(Ty.int (b.getD k 0))]) tx ax (.tmp 16) := d2 rfl
     have e2 : At (Ty.int (b.getD k 0)) tx ax (.tmp 17) := d3 rfl
     exact run_plain rfl (y_assign e0)
   · intro ax tx hs okx sm d0 d1 d2 d3 d4 d5
     have e2 : At (Ty.int (b.getD k 0)) tx ax (.tmp 17) := d0 rfl
     have e3 : At (Ty.nat k) tx ax (.tmp 6) := d1 rfl
     have e0 : At (Ty.nat k) tx ax (.tmp 15) := d2 rfl
     have e1 : At (Ty.ref [(Ty.int (b.getD k 0))]) tx ax (.tmp 16) := d3 rfl
     exact run_plain rfl (y_assign e2)
   intro a7 s5 D5
   have ok6 := D5.ok
   have F6 := F5.step0 D5.stp
   have q22 : At (Ty.nat k) s5 a7 (.tmp 13) := D5.kt q16 rfl
   have q23 : (Pr.own 11 3 1 (List.length (byTo a b k)) (List.map Ty.int (byTo a b k))).has s5 (a7.eval (.tmp 5)) := D5.ko q17 rfl
   have q24 : At (Ty.lst Ty.int a) s5 a7 (.tmp 0) := D5.kt q18 rfl
   have q25 : At (Ty.lst Ty.int b) s5 a7 (.tmp 11) := D5.kt q19 rfl
   have q26 : At (Ty.nat (List.length b)) s5 a7 (.tmp 12) := D5.kt q20 rfl
   have q27 : At (Ty.nat k) s5 a7 (.tmp 6) := D5.done 3
   have q28 : At (Ty.int (b.getD k 0)) s5 a7 (.tmp 7) := D5.done 4
   clear D5
   refine tn ?_
   refine reg2 (a := a7) (σ := s5) rfl 7 (fun i_ => List.getD [(Ty.pr (Ty.val (a7.eval (.tmp 5)))), (Ty.pr (Ty.nat k)), (Ty.pr (Ty.lst Ty.int a)), (Ty.pr (Ty.int (b.getD k 0))), (Ty.pr (Ty.ref [(Ty.int (a.getD ((b.getD k 0)).toNat 0))])), (Ty.pr (Ty.int (a.getD ((b.getD k 0)).toNat 0))), (Ty.pr (Ty.val (cellPtr (a7.eval (.tmp 5)) k)))] i_ Pr.any) ok6 rfl (by decide) rfl ⟨?_, ?_, ?_, ?_, ?_, ?_, ?_, trivial⟩ ?_
   · intro ax tx hs okx sm
     exact run_plain rfl (y_move (sm 5 rfl))
   · intro ax tx hs okx sm
     exact run_plain rfl (y_move (kp (sm 6 rfl) hs q27))
   · intro ax tx hs okx sm
     exact run_plain rfl (y_move (kp (sm 0 rfl) hs q24))
   · intro ax tx hs okx sm
     exact run_plain rfl (y_move (kp (sm 7 rfl) hs q28))
   · intro ax tx hs okx sm d0 d1
     have e2 : At (Ty.lst Ty.int a) tx ax (.tmp 20) := d0 rfl
     have e3 : At (Ty.int (b.getD k 0)) tx ax (.tmp 21) := d1 rfl
     exact run_plain rfl (y_index1 Try.underlying34 Try.inf3 e2 e3 (by omega) (lst_get Ty.int a 0 ((b.getD k 0)).toNat (by omega)))
   · intro ax tx hs okx sm d0
     have e4 : At (Ty.ref [(Ty.int (a.getD ((b.getD k 0)).toNat 0))]) tx ax (.tmp 22) := d0 rfl
     exact run_plain rfl (y_load Try.underlying3 rfl e4 rfl)
   · intro ax tx hs okx sm d0 d1 d2 d3 d4 d5 d6 d7
     have e0 : At (Ty.val (a7.eval (.tmp 5))) tx ax (.tmp 18) := d0 rfl
     have e1 : At (Ty.nat k) tx ax (.tmp 19) := d1 rfl
     have e2 : At (Ty.lst Ty.int a) tx ax (.tmp 20) := d4 rfl
     have e3 : At (Ty.int (b.getD k 0)) tx ax (.tmp 21) := d5 rfl
     have e4 : At (Ty.ref [(Ty.int (a.getD ((b.getD k 0)).toNat 0))]) tx ax (.tmp 22) := d6 rfl
     have e5 : At (Ty.int (a.getD ((b.getD k 0)).toNat 0)) tx ax (.tmp 23) := d7 rfl
     exact run_plain rfl (own_index1 (i := ((k : Nat) : Int)) Try.underlying34 Try.inf3 ((Pr.own 11 3 1 (List.length (byTo a b k)) (List.map Ty.int (byTo a b k))).up hs q23) e0 e1 (by omega) (by omega))
   intro a8 s6 D6
   have ok7 := D6.ok
   have F7 := F6.step0 D6.stp
   have q29 := (Pr.own 11 3 1 (List.length (byTo a b k)) (List.map Ty.int (byTo a b k))).up D6.stp q23
   have q30 : At (Ty.nat k) s6 a8 (.tmp 13) := D6.kt q22 rfl
   have q31 : a8.eval (.tmp 5) = a7.eval (.tmp 5) := D6.same 5 rfl
   have q32 : At (Ty.lst Ty.int a) s6 a8 (.tmp 0) := D6.kt q24 rfl
   have q33 : At (Ty.lst Ty.int b) s6 a8 (.tmp 11) := D6.kt q25 rfl
   have q34 : At (Ty.nat (List.length b)) s6 a8 (.tmp 12) := D6.kt q26 rfl
   have q35 : At (Ty.int (a.getD ((b.getD k 0)).toNat 0)) s6 a8 (.tmp 23) := D6.done 5 (by decide)
   have q36 : At (Ty.val (cellPtr (a7.eval (.tmp 5)) k)) s6 a8 (.tmp 24) := D6.done 6 (by decide)
   clear D6
   refine tail_step0 (m := 11) (R := (fun _ τ => Own τ 11 3 1 (a7.eval (.tmp 5)) (List.length (byTo a b k)) ((List.map Ty.int (byTo a b k)).set k (Ty.int (a.getD ((b.getD k 0)).toNat 0))))) rfl rfl (m_store Try.inf3 (by decide) q29 q36 (by simp only [List.length_map, List.length_set]; omega) q35 (one_val rfl)) (fun v1 s7 hs1 r1 => ?_)
   have F8 := F7.step hs1 (by decide)
   have q37 : At (Ty.nat k) s7 a8 (.tmp 13) := kpm hs1 (by decide) rfl q30
   have q38 : At (Ty.lst Ty.int a) s7 a8 (.tmp 0) := kpm hs1 (by decide) rfl q32
   have q39 : At (Ty.lst Ty.int b) s7 a8 (.tmp 11) := kpm hs1 (by decide) rfl q33
   have q40 : At (Ty.nat (List.length b)) s7 a8 (.tmp 12) := kpm hs1 (by decide) rfl q34
   have q41 : At (Ty.int (a.getD ((b.getD k 0)).toNat 0)) s7 a8 (.tmp 23) := kpm hs1 (by decide) rfl q35
   have q42 : (Pr.own 11 3 1 (List.length ((byTo a b k).set k (a.getD ((b.getD k 0)).toNat 0))) (List.map Ty.int ((byTo a b k).set k (a.getD ((b.getD k 0)).toNat 0)))).has s7 (a7.eval (.tmp 5)) := (cvo (by simp) (by simp) r1)
   refine wpList_nil ?_
   have q43 : (Pr.own 11 3 1 (List.length ((byTo a b k).set k (a.getD ((b.getD k 0)).toNat 0))) (List.map Ty.int ((byTo a b k).set k (a.getD ((b.getD k 0)).toNat 0)))).has s7 (a8.eval (.tmp 5)) := al q31 q42
   refine bn ?_
   refine tn ?_
   refine reg (a := a8) (σ := s7) rfl (fun i_ => List.getD [(Ty.pr (Ty.int (((k : Nat) : Int) + (1 : Int)))), (Ty.pr (Ty.int (((k : Nat) : Int) + (1 : Int))))] i_ Pr.any) ok7 rfl ⟨?_, ?_, trivial⟩ ?_
   · intro ax tx hs okx sm
     exact run_plain rfl (y_add (kp (sm 13 rfl) hs q37) rfl (w64 (by omega) (by omega)))
   · intro ax tx hs okx sm d0
     have e0 : At (Ty.int (((k : Nat) : Int) + (1 : Int))) tx ax (.tmp 25) := d0 rfl
     exact run_plain rfl (y_move e0)
   intro a10 s8 D7
   have ok9 := D7.ok
   have F9 := F8.step0 D7.stp
   have q44 : (Pr.own 11 3 1 (List.length ((byTo a b k).set k (a.getD ((b.getD k 0)).toNat 0))) (List.map Ty.int ((byTo a b k).set k (a.getD ((b.getD k 0)).toNat 0)))).has s8 (a10.eval (.tmp 5)) := D7.ko q43 rfl
   have q45 : At (Ty.lst Ty.int a) s8 a10 (.tmp 0) := D7.kt q38 rfl
   have q46 : At (Ty.lst Ty.int b) s8 a10 (.tmp 11) := D7.kt q39 rfl
   have q47 : At (Ty.nat (List.length b)) s8 a10 (.tmp 12) := D7.kt q40 rfl
   have q48 : At (Ty.int (((k : Nat) : Int) + (1 : Int))) s8 a10 (.tmp 13) := D7.done 1
   clear D7
   exact tn ⟨b.length - ((k+1)), by omega, s8, (k+1), rfl, F9, ok9, (cvi (by (first | rfl | omega | (simp_all; done) | (simp_all; omega))) q48), (cvo (by (rw [byTo_step a b k])) (by (rw [byTo_step a b k])) q44), q45, q46, q47, by omega, rfl⟩
  ·
   refine wp_exit ?_
   refine tx ?_
   refine tx ?_
   refine bx ?_
   refine tn ?_
   refine wp_seq ?_
   refine reg (a := a6) (σ := s4) rfl (fun i_ => List.getD [(Ty.pr (Ty.val (a6.eval (.tmp 5)))), (Ty.pr (Ty.val (a6.eval (.tmp 5))))] i_ Pr.any) ok5 rfl ⟨?_, ?_, trivial⟩ ?_
   · intro ax tx hs okx sm
     exact run_plain rfl (y_move (sm 5 rfl))
   · intro ax tx hs okx sm d0 d1
     have e0 : At (Ty.val (a6.eval (.tmp 5))) tx ax (.tmp 26) := d0 rfl
     exact run_plain rfl (y_assign e0)
   intro a11 s9 D8
   have ok10 := D8.ok
   have F10 := F5.step0 D8.stp
   have q49 : (Pr.own 11 3 1 (List.length (byTo a b k)) (List.map Ty.int (byTo a b k))).has s9 (a11.eval (.tmp 4)) := al (show _ = _ from D8.done 1) ((Pr.own 11 3 1 (List.length (byTo a b k)) (List.map Ty.int (byTo a b k))).up D8.stp q17)
   clear D8
   refine tn ?_
   refine wp_ret ?_
   obtain ⟨t3, e1, h1, q50⟩ := Own.seal q49 (by decide)
   rw [← e1]
   have F11 := F10.step h1 (by decide)
   exact ret1 rfl ok10 F11 (cvt (by (obtain rfl : k = b.length := (by omega); rw [byTo_all a b hl])) q50)


set_option maxRecDepth 100000 in
theorem from_fn (r : List Int) (l : List (List Int)) (σ : GW) (v0 v1 : Value) (hv0 : Ty.has (Ty.lst Ty.int r) σ v0) (hv1 : Ty.has (Ty.lst Ty.ints l) σ v1) (hr : r.length ≤ 12) (hok : ∀ k, k < l.length → okL 0 (l.getD k []) r.length) (hl : l.length ≤ 200) :
    FnC Try.prog 106 #[v0, v1] σ (Ty.lst Ty.ints (fromL r l)) := by
 refine fn_intro Try.func106 rfl Try.ntmps106 (Nat.le_of_ble_eq_true rfl) (fun s0 a0 hle F0 ok0 hargs => ?_)
 have p0 : At (Ty.lst Ty.int r) s0 a0 (.tmp 0) := by have e := hargs 0 _ rfl; show Ty.has _ _ _; rw [e]; exact Ty.up _ hle hv0
 have b1 := sl_le p0
 have p1 : At (Ty.lst Ty.ints l) s0 a0 (.tmp 1) := by have e := hargs 1 _ rfl; show Ty.has _ _ _; rw [e]; exact Ty.up _ hle hv1
 have b2 := sl_le p1
 clear hargs
 refine wp_seq ?_
 refine reg (a := a0) (σ := s0) rfl (fun i_ => List.getD [(Ty.pr (Ty.val (Value.slice none 0 0)))] i_ Pr.any) ok0 rfl ⟨?_, trivial⟩ ?_
 · intro ax tx hs okx sm
   exact run_plain rfl (y_assign rfl)
 intro a1 s1 D1
 have ok1 := D1.ok
 have F1 := F0.step0 D1.stp
 have q1 : At (Ty.lst Ty.int r) s1 a1 (.tmp 0) := D1.kt p0 rfl
 have q2 : At (Ty.lst Ty.ints l) s1 a1 (.tmp 1) := D1.kt p1 rfl
 clear D1
 refine tn ?_
 refine wp_seq ?_
 refine reg (a := a1) (σ := s1) rfl (fun i_ => List.getD [(Ty.pr (Ty.lst Ty.int r)), (Pr.own 2 34 1 1 (List.map Ty.ints [r])), (Pr.own 2 34 1 1 (List.map Ty.ints [r]))] i_ Pr.any) ok1 rfl ⟨?_, ?_, ?_, trivial⟩ ?_
 · intro ax tx hs okx sm
   exact run_plain rfl (y_move (kp (sm 0 rfl) hs q1))
 · intro ax tx hs okx sm d0
   have e0 : At (Ty.lst Ty.int r) tx ax (.tmp 8) := d0 rfl
   exact run_plain rfl ((y_lit1 (k := 2) Try.underlying33 Try.inf34 rfl (one_sl) e0).mono (fun _ _ h => cvo (by simp) (by simp) h))
 · intro ax tx hs okx sm d0 d1 d2
   have e1 : (Pr.own 2 34 1 1 (List.map Ty.ints [r])).has tx (ax.eval (.tmp 9)) := d0 rfl
   have e0 : At (Ty.lst Ty.int r) tx ax (.tmp 8) := d1 rfl
   exact run_plain rfl (y_assign e1)
 intro a2 s2 D2
 have ok2 := D2.ok
 have F2 := F1.step0 D2.stp
 have q3 : At (Ty.lst Ty.int r) s2 a2 (.tmp 0) := D2.kt q1 rfl
 have q4 : At (Ty.lst Ty.ints l) s2 a2 (.tmp 1) := D2.kt q2 rfl
 have q5 : (Pr.own 2 34 1 1 (List.map Ty.ints [r])).has s2 (a2.eval (.tmp 5)) := D2.done 2
 clear D2
 refine tn ?_
 refine wp_seq ?_
 refine wp_seq ?_
 refine reg (a := a2) (σ := s2) rfl (fun i_ => List.getD [(Ty.pr (Ty.lst Ty.ints l)), (Ty.pr (Ty.nat (List.length l))), (Ty.pr (Ty.int (0 : Int)))] i_ Pr.any) ok2 rfl ⟨?_, ?_, ?_, trivial⟩ ?_
 · intro ax tx hs okx sm
   exact run_plain rfl (y_move (kp (sm 1 rfl) hs q4))
 · intro ax tx hs okx sm d0
   have e0 : At (Ty.lst Ty.ints l) tx ax (.tmp 10) := d0 rfl
   exact run_plain rfl (y_len Try.underlying33 e0)
 · intro ax tx hs okx sm
   exact run_plain rfl (y_move rfl)
 intro a3 s3 D3
 have ok3 := D3.ok
 have F3 := F2.step0 D3.stp
 have q6 : At (Ty.lst Ty.int r) s3 a3 (.tmp 0) := D3.kt q3 rfl
 have q7 : (Pr.own 2 34 1 1 (List.map Ty.ints [r])).has s3 (a3.eval (.tmp 5)) := D3.ko q5 rfl
 have q8 : At (Ty.lst Ty.ints l) s3 a3 (.tmp 10) := D3.done 0
 have q9 : At (Ty.nat (List.length l)) s3 a3 (.tmp 11) := D3.done 1
 have q10 : At (Ty.int (0 : Int)) s3 a3 (.tmp 12) := D3.done 2
 clear D3
 refine tn ?_
 refine wp_block ?_
 refine loop (fun n1 a4 w1 => ∃ (t1 : GW) (k : Nat), t1.w = w1 ∧ From s0 t1 ∧ Ok 28 a4 ∧ At (Ty.nat k) t1 a4 (.tmp 12) ∧ At (Ty.lst Ty.int (curL r l k)) t1 a4 (.tmp 0) ∧ (Pr.own 2 34 1 (List.length (fromTo r l k)) (List.map Ty.ints (fromTo r l k))).has t1 (a4.eval (.tmp 5)) ∧ At (Ty.lst Ty.ints l) t1 a4 (.tmp 10) ∧ At (Ty.nat (List.length l)) t1 a4 (.tmp 11) ∧ (k ≤ l.length) ∧ n1 = l.length - k) (l.length - (0)) ?_ ?_
 ·
  exact ⟨s3, 0, rfl, F3, ok3, (cvi (by (first | rfl | omega | (simp_all; done) | (simp_all; omega))) q10), (cvt (by (rfl)) q6), (cvo (by (simp [fromTo_zero])) (by (simp [fromTo_zero])) q7), q8, q9, by omega, rfl⟩
 ·
  rintro n2 a5 w2 ⟨t2, k, rfl, F4, ok4, q11, q12, q13, q14, q15, hk, rfl⟩
  have hcl := curL_len hok k hk
  have hfl := fromTo_len r l k
  refine wp_seq ?_
  refine reg (a := a5) (σ := t2) rfl (fun i_ => List.getD [(Ty.pr (Ty.bool (decide (((k : Nat) : Int) < (((List.length l) : Nat) : Int)))))] i_ Pr.any) ok4 rfl ⟨?_, trivial⟩ ?_
  · intro ax tx hs okx sm
    exact run_plain rfl (y_lss (kp (sm 12 rfl) hs q11) (kp (sm 11 rfl) hs q15))
  intro a6 s4 D4
  have ok5 := D4.ok
  have F5 := F4.step0 D4.stp
  have q16 : At (Ty.nat k) s4 a6 (.tmp 12) := D4.kt q11 rfl
  have q17 : At (Ty.lst Ty.int (curL r l k)) s4 a6 (.tmp 0) := D4.kt q12 rfl
  have q18 : (Pr.own 2 34 1 (List.length (fromTo r l k)) (List.map Ty.ints (fromTo r l k))).has s4 (a6.eval (.tmp 5)) := D4.ko q13 rfl
  have q19 : At (Ty.lst Ty.ints l) s4 a6 (.tmp 10) := D4.kt q14 rfl
  have q20 : At (Ty.nat (List.length l)) s4 a6 (.tmp 11) := D4.kt q15 rfl
  have q21 : At (Ty.bool (decide (((k : Nat) : Int) < (((List.length l) : Nat) : Int)))) s4 a6 (.tmp 13) := D4.done 0
  clear D4
  refine tn ?_
  refine wp_seq ?_
  refine cond_p (p := (((k : Nat) : Int) < (((List.length l) : Nat) : Int))) q21 (fun c1 => ?_) (fun c1 => ?_)
  ·
   have hokk := hok k (by omega); rw [← hcl] at hokk; have hcc := chgRow_len hokk; have hcd := hcc.symm; have hcl0 : (curL r l k).length ≤ 12 := (by omega); have hbd : ∀ i, i < (chgRow (curL r l k).length (l.getD k [])).length → 0 ≤ (chgRow (curL r l k).length (l.getD k [])).getD i 0 ∧ (chgRow (curL r l k).length (l.getD k [])).getD i 0 < ((curL r l k).length : Int) := (fun i hi => chgRow_bd hokk hi)
   refine wp_skip ?_
   refine tn ?_
   refine wp_seq ?_
   refine wp_block ?_
   refine wp_seq ?_
   refine reg (a := a6) (σ := s4) rfl (fun i_ => List.getD [(Ty.pr (Ty.ref [(Ty.lst Ty.int (l.getD k []))])), (Ty.pr (Ty.lst Ty.int (l.getD k []))), (Ty.pr (Ty.lst Ty.int (l.getD k [])))] i_ Pr.any) ok5 rfl ⟨?_, ?_, ?_, trivial⟩ ?_
   · intro ax tx hs okx sm
     exact run_plain rfl (y_index1 Try.underlying33 Try.inf34 (kp (sm 10 rfl) hs q19) (kp (sm 12 rfl) hs q16) (by omega) (lst_get Ty.ints l [] k (by omega)))
   · intro ax tx hs okx sm d0
     have e0 : At (Ty.ref [(Ty.lst Ty.int (l.getD k []))]) tx ax (.tmp 14) := d0 rfl
     exact run_plain rfl (y_load Try.underlying34 rfl e0 rfl)
   · intro ax tx hs okx sm d0 d1 d2
     have e1 : At (Ty.lst Ty.int (l.getD k [])) tx ax (.tmp 15) := d0 rfl
     have e0 : At (Ty.ref [(Ty.lst Ty.int (l.getD k []))]) tx ax (.tmp 14) := d1 rfl
     exact run_plain rfl (y_assign e1)
   intro a7 s5 D5
   have ok6 := D5.ok
   have F6 := F5.step0 D5.stp
   have q22 : At (Ty.nat k) s5 a7 (.tmp 12) := D5.kt q16 rfl
   have q23 : At (Ty.lst Ty.int (curL r l k)) s5 a7 (.tmp 0) := D5.kt q17 rfl
   have q24 : (Pr.own 2 34 1 (List.length (fromTo r l k)) (List.map Ty.ints (fromTo r l k))).has s5 (a7.eval (.tmp 5)) := D5.ko q18 rfl
   have q25 : At (Ty.lst Ty.ints l) s5 a7 (.tmp 10) := D5.kt q19 rfl
   have q26 : At (Ty.nat (List.length l)) s5 a7 (.tmp 11) := D5.kt q20 rfl
   have q27 : At (Ty.lst Ty.int (l.getD k [])) s5 a7 (.tmp 7) := D5.done 2
   clear D5
   refine tn ?_
   refine wp_seq ?_
   refine reg (a := a7) (σ := s5) rfl (fun i_ => List.getD [(Ty.pr (Ty.lst Ty.int (curL r l k))), (Ty.pr (Ty.lst Ty.int (curL r l k))), (Ty.pr (Ty.nat (List.length (curL r l k)))), (Ty.pr (Ty.lst Ty.int (l.getD k []))), (Ty.pr (Ty.lst Ty.int (chgRow ((List.length (curL r l k))) ((l.getD k []))))), (Ty.pr (Ty.lst Ty.int (byL ((curL r l k)) ((chgRow ((List.length (curL r l k))) ((l.getD k []))))))), (Ty.pr (Ty.lst Ty.int (byL ((curL r l k)) ((chgRow ((List.length (curL r l k))) ((l.getD k [])))))))] i_ Pr.any) ok6 rfl ⟨?_, ?_, ?_, ?_, ?_, ?_, ?_, trivial⟩ ?_
   · intro ax tx hs okx sm
     exact run_plain rfl (y_move (kp (sm 0 rfl) hs q23))
   · intro ax tx hs okx sm
     exact run_plain rfl (y_move (kp (sm 0 rfl) hs q23))
   · intro ax tx hs okx sm d0
     have e1 : At (Ty.lst Ty.int (curL r l k)) tx ax (.tmp 17) := d0 rfl
     exact run_plain rfl (y_len Try.underlying34 e1)
   · intro ax tx hs okx sm
     exact run_plain rfl (y_move (kp (sm 7 rfl) hs q27))
   · intro ax tx hs okx sm d0 d1
     have e2 : At (Ty.nat (List.length (curL r l k))) tx ax (.tmp 18) := d0 rfl
     have e3 : At (Ty.lst Ty.int (l.getD k [])) tx ax (.tmp 19) := d1 rfl
     exact run_plain rfl (y_call #[ax.eval (.tmp 18), ax.eval (.tmp 19)] Try.func122 rfl rfl (by simp only [List.map_toArray, List.map_cons, List.map_nil]) (pChange_fn ((List.length (curL r l k))) ((l.getD k [])) _ _ _ e2 e3 (by first | omega | assumption) (by first | omega | assumption)))
   · intro ax tx hs okx sm d0 d1 d2
     have e0 : At (Ty.lst Ty.int (curL r l k)) tx ax (.tmp 16) := d0 rfl
     have e4 : At (Ty.lst Ty.int (chgRow ((List.length (curL r l k))) ((l.getD k [])))) tx ax (.tmp 20) := d1 rfl
     exact run_plain rfl (y_call #[ax.eval (.tmp 16), ax.eval (.tmp 20)] Try.func98 rfl rfl (by simp only [List.map_toArray, List.map_cons, List.map_nil]) (product_fn ((curL r l k)) ((chgRow ((List.length (curL r l k))) ((l.getD k [])))) _ _ _ e0 e4 (by first | assumption | omega) (by first | assumption | omega) (by first | assumption | omega)))
   · intro ax tx hs okx sm d0 d1 d2 d3 d4 d5 d6 d7
     have e5 : At (Ty.lst Ty.int (byL ((curL r l k)) ((chgRow ((List.length (curL r l k))) ((l.getD k [])))))) tx ax (.tmp 21) := d0 rfl
     have e0 : At (Ty.lst Ty.int (curL r l k)) tx ax (.tmp 16) := d2 rfl
     have e1 : At (Ty.lst Ty.int (curL r l k)) tx ax (.tmp 17) := d3 rfl
     have e2 : At (Ty.nat (List.length (curL r l k))) tx ax (.tmp 18) := d4 rfl
     have e3 : At (Ty.lst Ty.int (l.getD k [])) tx ax (.tmp 19) := d5 rfl
     have e4 : At (Ty.lst Ty.int (chgRow ((List.length (curL r l k))) ((l.getD k [])))) tx ax (.tmp 20) := d6 rfl
     exact run_plain rfl (y_assign e5)
   intro a8 s6 D6
   have ok7 := D6.ok
   have F7 := F6.step0 D6.stp
   have q28 : At (Ty.nat k) s6 a8 (.tmp 12) := D6.kt q22 rfl
   have q29 : (Pr.own 2 34 1 (List.length (fromTo r l k)) (List.map Ty.ints (fromTo r l k))).has s6 (a8.eval (.tmp 5)) := D6.ko q24 rfl
   have q30 : At (Ty.lst Ty.ints l) s6 a8 (.tmp 10) := D6.kt q25 rfl
   have q31 : At (Ty.nat (List.length l)) s6 a8 (.tmp 11) := D6.kt q26 rfl
   have q32 : At (Ty.lst Ty.int (byL ((curL r l k)) ((chgRow ((List.length (curL r l k))) ((l.getD k [])))))) s6 a8 (.tmp 0) := D6.done 6
   clear D6
   refine tn ?_
   refine reg2 (a := a8) (σ := s6) rfl 3 (fun i_ => List.getD [(Ty.pr (Ty.val (a8.eval (.tmp 5)))), (Ty.pr (Ty.lst Ty.int (byL ((curL r l k)) ((chgRow ((List.length (curL r l k))) ((l.getD k []))))))), (Ty.pr (Ty.sl 1 1 [(Ty.lst Ty.int (byL ((curL r l k)) ((chgRow ((List.length (curL r l k))) ((l.getD k []))))))]))] i_ Pr.any) ok7 rfl (by decide) rfl ⟨?_, ?_, ?_, trivial⟩ ?_
   · intro ax tx hs okx sm
     exact run_plain rfl (y_move (sm 5 rfl))
   · intro ax tx hs okx sm
     exact run_plain rfl (y_move (kp (sm 0 rfl) hs q32))
   · intro ax tx hs okx sm d0
     have e1 : At (Ty.lst Ty.int (byL ((curL r l k)) ((chgRow ((List.length (curL r l k))) ((l.getD k [])))))) tx ax (.tmp 23) := d0 rfl
     exact run_plain rfl (y_build1o Try.underlying33 Try.inf34 rfl (one_sl) e1)
   intro a9 s7 D7
   have ok8 := D7.ok
   have F8 := F7.step0 D7.stp
   have q33 := (Pr.own 2 34 1 (List.length (fromTo r l k)) (List.map Ty.ints (fromTo r l k))).up D7.stp q29
   have q34 : At (Ty.nat k) s7 a9 (.tmp 12) := D7.kt q28 rfl
   have q35 : a9.eval (.tmp 5) = a8.eval (.tmp 5) := D7.same 5 rfl
   have q36 : At (Ty.lst Ty.ints l) s7 a9 (.tmp 10) := D7.kt q30 rfl
   have q37 : At (Ty.nat (List.length l)) s7 a9 (.tmp 11) := D7.kt q31 rfl
   have q38 : At (Ty.lst Ty.int (byL ((curL r l k)) ((chgRow ((List.length (curL r l k))) ((l.getD k [])))))) s7 a9 (.tmp 0) := D7.kt q32 rfl
   have q39 : At (Ty.val (a8.eval (.tmp 5))) s7 a9 (.tmp 22) := D7.done 0 (by decide)
   have q40 : At (Ty.sl 1 1 [(Ty.lst Ty.int (byL ((curL r l k)) ((chgRow ((List.length (curL r l k))) ((l.getD k []))))))]) s7 a9 (.tmp 24) := D7.done 2 (by decide)
   clear D7
   refine tail_step (m := 2) (R := (fun v τ => Own τ 2 34 1 v ((List.length (fromTo r l k)) + 1) ((List.map Ty.ints (fromTo r l k)) ++ [(Ty.lst Ty.int (byL ((curL r l k)) ((chgRow ((List.length (curL r l k))) ((l.getD k []))))))]))) rfl rfl (by decide) ok8 (m_append Try.underlying33 Try.inf34 (by decide) rfl (by decide) (al q39 q33) q40 (by intro U hU; simp at hU;  subst hU; exact one_sl) (by omega) (by omega)) (fun a10 s8 hs1 ok9 r1 sm1 => ?_)
   have F9 := F8.step hs1 (by decide)
   have q41 : At (Ty.nat k) s8 a10 (.tmp 12) := kpm hs1 (by decide) (sm1 12 (by decide)) q34
   have q42 : At (Ty.lst Ty.ints l) s8 a10 (.tmp 10) := kpm hs1 (by decide) (sm1 10 (by decide)) q36
   have q43 : At (Ty.nat (List.length l)) s8 a10 (.tmp 11) := kpm hs1 (by decide) (sm1 11 (by decide)) q37
   have q44 : At (Ty.lst Ty.int (byL ((curL r l k)) ((chgRow ((List.length (curL r l k))) ((l.getD k [])))))) s8 a10 (.tmp 0) := kpm hs1 (by decide) (sm1 0 (by decide)) q38
   have q45 : At (Ty.sl 1 1 [(Ty.lst Ty.int (byL ((curL r l k)) ((chgRow ((List.length (curL r l k))) ((l.getD k []))))))]) s8 a10 (.tmp 24) := kpm hs1 (by decide) (sm1 24 (by decide)) q40
   have q46 : (Pr.own 2 34 1 (List.length ((fromTo r l k) ++ [(byL ((curL r l k)) ((chgRow ((List.length (curL r l k))) ((l.getD k [])))))])) (List.map Ty.ints ((fromTo r l k) ++ [(byL ((curL r l k)) ((chgRow ((List.length (curL r l k))) ((l.getD k [])))))]))).has s8 (a10.eval (.tmp 25)) := (cvo (by simp) (by first | (rw [List.map_append]; rfl) | simp) r1)
   refine tail_step (m := 0) (R := (fun v τ => Pr.has (Pr.own 2 34 1 (List.length ((fromTo r l k) ++ [(byL ((curL r l k)) ((chgRow ((List.length (curL r l k))) ((l.getD k [])))))])) (List.map Ty.ints ((fromTo r l k) ++ [(byL ((curL r l k)) ((chgRow ((List.length (curL r l k))) ((l.getD k [])))))]))) τ v)) rfl rfl (by decide) ok9 (Yld.toM (y_assign q46)) (fun a11 s9 hs2 ok10 r2 sm2 => ?_)
   have F10 := F9.step hs2 (by decide)
   have q47 : At (Ty.nat k) s9 a11 (.tmp 12) := kpm hs2 (by decide) (sm2 12 (by decide)) q41
   have q48 : At (Ty.lst Ty.ints l) s9 a11 (.tmp 10) := kpm hs2 (by decide) (sm2 10 (by decide)) q42
   have q49 : At (Ty.nat (List.length l)) s9 a11 (.tmp 11) := kpm hs2 (by decide) (sm2 11 (by decide)) q43
   have q50 : At (Ty.lst Ty.int (byL ((curL r l k)) ((chgRow ((List.length (curL r l k))) ((l.getD k [])))))) s9 a11 (.tmp 0) := kpm hs2 (by decide) (sm2 0 (by decide)) q44
   have q51 : At (Ty.sl 1 1 [(Ty.lst Ty.int (byL ((curL r l k)) ((chgRow ((List.length (curL r l k))) ((l.getD k []))))))]) s9 a11 (.tmp 24) := kpm hs2 (by decide) (sm2 24 (by decide)) q45
   have q52 : (Pr.own 2 34 1 (List.length ((fromTo r l k) ++ [(byL ((curL r l k)) ((chgRow ((List.length (curL r l k))) ((l.getD k [])))))])) (List.map Ty.ints ((fromTo r l k) ++ [(byL ((curL r l k)) ((chgRow ((List.length (curL r l k))) ((l.getD k [])))))]))).has s9 (a11.eval (.tmp 25)) := kpmo hs2 (by decide) (.inl rfl) (sm2 25 (by decide)) q46
   have q53 : (Pr.own 2 34 1 (List.length ((fromTo r l k) ++ [(byL ((curL r l k)) ((chgRow ((List.length (curL r l k))) ((l.getD k [])))))])) (List.map Ty.ints ((fromTo r l k) ++ [(byL ((curL r l k)) ((chgRow ((List.length (curL r l k))) ((l.getD k [])))))]))).has s9 (a11.eval (.tmp 5)) := r2
   refine wpList_nil ?_
   refine bn ?_
   refine tn ?_
   refine reg (a := a11) (σ := s9) rfl (fun i_ => List.getD [(Ty.pr (Ty.int (((k : Nat) : Int) + (1 : Int)))), (Ty.pr (Ty.int (((k : Nat) : Int) + (1 : Int))))] i_ Pr.any) ok10 rfl ⟨?_, ?_, trivial⟩ ?_
   · intro ax tx hs okx sm
     exact run_plain rfl (y_add (kp (sm 12 rfl) hs q47) rfl (w64 (by omega) (by omega)))
   · intro ax tx hs okx sm d0
     have e0 : At (Ty.int (((k : Nat) : Int) + (1 : Int))) tx ax (.tmp 26) := d0 rfl
     exact run_plain rfl (y_move e0)
   intro a12 s10 D8
   have ok11 := D8.ok
   have F11 := F10.step0 D8.stp
   have q54 : At (Ty.lst Ty.ints l) s10 a12 (.tmp 10) := D8.kt q48 rfl
   have q55 : At (Ty.nat (List.length l)) s10 a12 (.tmp 11) := D8.kt q49 rfl
   have q56 : At (Ty.lst Ty.int (byL ((curL r l k)) ((chgRow ((List.length (curL r l k))) ((l.getD k [])))))) s10 a12 (.tmp 0) := D8.kt q50 rfl
   have q57 : (Pr.own 2 34 1 (List.length ((fromTo r l k) ++ [(byL ((curL r l k)) ((chgRow ((List.length (curL r l k))) ((l.getD k [])))))])) (List.map Ty.ints ((fromTo r l k) ++ [(byL ((curL r l k)) ((chgRow ((List.length (curL r l k))) ((l.getD k [])))))]))).has s10 (a12.eval (.tmp 5)) := D8.ko q53 rfl
   have q58 : At (Ty.int (((k : Nat) : Int) + (1 : Int))) s10 a12 (.tmp 12) := D8.done 1
   clear D8
   exact tn ⟨l.length - ((k+1)), by omega, s10, (k+1), rfl, F11, ok11, (cvi (by (first | rfl | omega | (simp_all; done) | (simp_all; omega))) q58), (cvt (by (rw [curL_succ r l k (by omega)])) q56), (cvo (by (rw [fromTo_succ, curL_succ r l k (by omega)])) (by (rw [fromTo_succ, curL_succ r l k (by omega)])) q57), q54, q55, by omega, rfl⟩
  ·
   refine wp_exit ?_
   refine tx ?_
   refine tx ?_
   refine bx ?_
   refine tn ?_
   refine wp_seq ?_
   refine reg (a := a6) (σ := s4) rfl (fun i_ => List.getD [(Ty.pr (Ty.val (a6.eval (.tmp 5)))), (Ty.pr (Ty.val (a6.eval (.tmp 5))))] i_ Pr.any) ok5 rfl ⟨?_, ?_, trivial⟩ ?_
   · intro ax tx hs okx sm
     exact run_plain rfl (y_move (sm 5 rfl))
   · intro ax tx hs okx sm d0 d1
     have e0 : At (Ty.val (a6.eval (.tmp 5))) tx ax (.tmp 27) := d0 rfl
     exact run_plain rfl (y_assign e0)
   intro a13 s11 D9
   have ok12 := D9.ok
   have F12 := F5.step0 D9.stp
   have q59 : (Pr.own 2 34 1 (List.length (fromTo r l k)) (List.map Ty.ints (fromTo r l k))).has s11 (a13.eval (.tmp 4)) := al (show _ = _ from D9.done 1) ((Pr.own 2 34 1 (List.length (fromTo r l k)) (List.map Ty.ints (fromTo r l k))).up D9.stp q18)
   clear D9
   refine tn ?_
   refine wp_ret ?_
   obtain ⟨t3, e1, h1, q60⟩ := Own.seal q59 (by decide)
   rw [← e1]
   have F13 := F12.step h1 (by decide)
   exact ret1 rfl ok12 F13 (cvt (by (obtain rfl : k = l.length := (by omega); rfl)) q60)


set_option maxRecDepth 100000 in
theorem lead_fn (nm : ByteArray) (n : Int) (l : List (List Int)) (σ : GW) (v0 : Value) (hv0 : Ty.has (Ty.agg [(Ty.val (Value.string nm)), (Ty.int n), (Ty.lst Ty.ints l)]) σ v0) (hnm : nm.size ≤ 1099511627776) (hn : -9223372036854775808 ≤ n ∧ n ≤ 9223372036854775807) :
    FnC Try.prog 65 #[v0] σ (Ty.tup2 (Ty.lst Ty.ints (if methMay nm n l = 0 then fromL (roundsL n.toNat) l else [])) (Ty.int (methMay nm n l))) := by
 refine fn_intro Try.func65 rfl Try.ntmps65 (Nat.le_of_ble_eq_true rfl) (fun s0 a0 hle F0 ok0 hargs => ?_)
 have p0 : At (Ty.agg [(Ty.val (Value.string nm)), (Ty.int n), (Ty.lst Ty.ints l)]) s0 a0 (.tmp 0) := by have e := hargs 0 _ rfl; show Ty.has _ _ _; rw [e]; exact Ty.up _ hle hv0
 clear hargs
 refine wp_seq ?_
 refine reg (a := a0) (σ := s0) rfl (fun i_ => List.getD [(Ty.pr (Ty.ref [(Ty.val (Value.string nm)), (Ty.int n), (Ty.lst Ty.ints l)])), (Ty.pr (Ty.val (Value.slice none 0 0))), (Ty.pr (Ty.int (0 : Int)))] i_ Pr.any) ok0 rfl ⟨?_, ?_, ?_, trivial⟩ ?_
 · intro ax tx hs okx sm
   exact run_plain rfl (y_boxagg (kp (sm 0 rfl) hs p0))
 · intro ax tx hs okx sm
   exact run_plain rfl (y_assign rfl)
 · intro ax tx hs okx sm d0
   have e1 : At (Ty.val (Value.slice none 0 0)) tx ax (.tmp 2) := d0 rfl
   exact run_plain rfl (y_assign rfl)
 intro a1 s1 D1
 have ok1 := D1.ok
 have F1 := F0.step0 D1.stp
 have q1 : At (Ty.ref [(Ty.val (Value.string nm)), (Ty.int n), (Ty.lst Ty.ints l)]) s1 a1 (.tmp 1) := D1.done 0
 clear D1
 refine tn ?_
 refine wp_seq ?_
 refine wp_seq ?_
 refine reg (a := a1) (σ := s1) rfl (fun i_ => List.getD [(Ty.pr (Ty.agg [(Ty.val (Value.string nm)), (Ty.int n), (Ty.lst Ty.ints l)])), (Ty.pr (Ty.int (methMay nm n l))), (Ty.pr (Ty.int (methMay nm n l)))] i_ Pr.any) ok1 rfl ⟨?_, ?_, ?_, trivial⟩ ?_
 · intro ax tx hs okx sm
   exact run_plain rfl (y_loadagg Try.underlying96 Try.inf96 (kp (sm 1 rfl) hs q1))
 · intro ax tx hs okx sm d0
   have e0 : At (Ty.agg [(Ty.val (Value.string nm)), (Ty.int n), (Ty.lst Ty.ints l)]) tx ax (.tmp 7) := d0 rfl
   exact run_plain rfl (y_call #[ax.eval (.tmp 7)] Try.func104 rfl rfl (by simp only [List.map_toArray, List.map_cons, List.map_nil]) (mCheck_fn (nm) (n) (l) _ _ e0 (by first | omega | assumption) (by first | omega | assumption)))
 · intro ax tx hs okx sm d0 d1 d2 d3
   have e1 : At (Ty.int (methMay nm n l)) tx ax (.tmp 8) := d0 rfl
   have e0 : At (Ty.agg [(Ty.val (Value.string nm)), (Ty.int n), (Ty.lst Ty.ints l)]) tx ax (.tmp 7) := d2 rfl
   exact run_plain rfl (y_assign e1)
 intro a2 s2 D2
 have ok2 := D2.ok
 have F2 := F1.step0 D2.stp
 have q2 : At (Ty.ref [(Ty.val (Value.string nm)), (Ty.int n), (Ty.lst Ty.ints l)]) s2 a2 (.tmp 1) := D2.kt q1 rfl
 have q3 : At (Ty.int (methMay nm n l)) s2 a2 (.tmp 4) := D2.done 2
 clear D2
 refine tn ?_
 refine wp_seq ?_
 refine reg (a := a2) (σ := s2) rfl (fun i_ => List.getD [(Ty.pr (Ty.int (methMay nm n l))), (Ty.pr (Ty.bool (decide ((methMay nm n l) ≠ (0 : Int)))))] i_ Pr.any) ok2 rfl ⟨?_, ?_, trivial⟩ ?_
 · intro ax tx hs okx sm
   exact run_plain rfl (y_move (kp (sm 4 rfl) hs q3))
 · intro ax tx hs okx sm d0
   have e0 : At (Ty.int (methMay nm n l)) tx ax (.tmp 9) := d0 rfl
   exact run_plain rfl (y_neq e0 rfl)
 intro a3 s3 D3
 have ok3 := D3.ok
 have F3 := F2.step0 D3.stp
 have q4 : At (Ty.ref [(Ty.val (Value.string nm)), (Ty.int n), (Ty.lst Ty.ints l)]) s3 a3 (.tmp 1) := D3.kt q2 rfl
 have q5 : At (Ty.int (methMay nm n l)) s3 a3 (.tmp 4) := D3.kt q3 rfl
 have q6 : At (Ty.bool (decide ((methMay nm n l) ≠ (0 : Int)))) s3 a3 (.tmp 10) := D3.done 1
 clear D3
 refine tn ?_
 refine cond_p (p := ((methMay nm n l) ≠ (0 : Int))) q6 (fun c1 => ?_) (fun c1 => ?_)
 ·
  refine wp_seq ?_
  refine reg (a := a3) (σ := s3) rfl (fun i_ => List.getD [(Ty.pr (Ty.int (methMay nm n l))), (Ty.pr (Ty.val (Value.slice none 0 0))), (Ty.pr (Ty.int (methMay nm n l)))] i_ Pr.any) ok3 rfl ⟨?_, ?_, ?_, trivial⟩ ?_
  · intro ax tx hs okx sm d0
    exact run_plain rfl (y_move (kp (sm 4 rfl) hs q5))
  · intro ax tx hs okx sm d0
    exact run_plain rfl (y_assign rfl)
  · intro ax tx hs okx sm d0 d1 d2 d3
    have e0 : At (Ty.int (methMay nm n l)) tx ax (.tmp 11) := d0 rfl
    have e1 : At (Ty.val (Value.slice none 0 0)) tx ax (.tmp 2) := d1 rfl
    exact run_plain rfl (y_assign e0)
  intro a4 s4 D4
  have ok4 := D4.ok
  have F4 := F3.step0 D4.stp
  have q7 : At (Ty.val (Value.slice none 0 0)) s4 a4 (.tmp 2) := D4.done 1
  have q8 : At (Ty.int (methMay nm n l)) s4 a4 (.tmp 3) := D4.done 2
  clear D4
  refine tn ?_
  refine wp_ret ?_
  refine tr ?_
  exact ret2 rfl ok4 F4 (nil_lst (by (rw [if_neg c1])) q7) q8
 ·
  have h0 := Classical.not_not.1 c1; obtain ⟨m, hnm, hmo⟩ := methMay_ok.1 h0; have hm1 := hmo.n1; have hm2 := hmo.n2; have hml := hmo.l2; have hrl := roundsL_len n.toNat; have hok : ∀ k, k < l.length → okL 0 (l.getD k []) (roundsL n.toNat).length := (fun k hk => by rw [hrl, hnm]; exact hmo.ok k hk)
  refine wp_skip ?_
  refine tn ?_
  refine wp_seq ?_
  refine reg (a := a3) (σ := s3) rfl (fun i_ => List.getD [(Ty.pr (Ty.ref [(Ty.int n), (Ty.lst Ty.ints l)])), (Ty.pr (Ty.int n)), (Ty.pr (Ty.tup2 (Ty.lst Ty.int (roundsL ((n).toNat))) (Ty.int (0 : Int)))), (Ty.pr (Ty.tup2 (Ty.lst Ty.int (roundsL ((n).toNat))) (Ty.int (0 : Int)))), (Ty.pr (Ty.lst Ty.int (roundsL ((n).toNat)))), (Ty.pr (Ty.int (0 : Int))), (Ty.pr (Ty.lst Ty.int (roundsL ((n).toNat)))), (Ty.pr (Ty.int (0 : Int)))] i_ Pr.any) ok3 rfl ⟨?_, ?_, ?_, ?_, ?_, ?_, ?_, ?_, trivial⟩ ?_
  · intro ax tx hs okx sm
    exact run_plain rfl (y_field Try.fld96_1 Try.inf3 (by decide) (kp (sm 1 rfl) hs q4) rfl)
  · intro ax tx hs okx sm d0
    have e0 : At (Ty.ref [(Ty.int n), (Ty.lst Ty.ints l)]) tx ax (.tmp 13) := d0 rfl
    exact run_plain rfl (y_load Try.underlying3 rfl e0 rfl)
  · intro ax tx hs okx sm d0
    have e1 : At (Ty.int n) tx ax (.tmp 14) := d0 rfl
    exact run_plain rfl (y_call #[ax.eval (.tmp 14)] Try.func52 rfl rfl (by simp only [List.map_toArray, List.map_cons, List.map_nil]) (rounds_fn ((n).toNat) _ _ (cvi (σ := tx) (by omega) e1) (by omega)))
  · intro ax tx hs okx sm d0
    have e2 : At (Ty.tup2 (Ty.lst Ty.int (roundsL ((n).toNat))) (Ty.int (0 : Int))) tx ax (.tmp 15) := d0 rfl
    exact run_plain rfl (y_move e2)
  · intro ax tx hs okx sm d0
    have e3 : At (Ty.tup2 (Ty.lst Ty.int (roundsL ((n).toNat))) (Ty.int (0 : Int))) tx ax (.tmp 12) := d0 rfl
    exact run_plain rfl (y_ext2_0 e3)
  · intro ax tx hs okx sm d0 d1
    have e3 : At (Ty.tup2 (Ty.lst Ty.int (roundsL ((n).toNat))) (Ty.int (0 : Int))) tx ax (.tmp 12) := d0 rfl
    exact run_plain rfl (y_ext2_1 e3)
  · intro ax tx hs okx sm d0 d1 d2 d3 d4 d5 d6 d7
    have e4 : At (Ty.lst Ty.int (roundsL ((n).toNat))) tx ax (.tmp 16) := d0 rfl
    have e2 : At (Ty.tup2 (Ty.lst Ty.int (roundsL ((n).toNat))) (Ty.int (0 : Int))) tx ax (.tmp 15) := d1 rfl
    have e0 : At (Ty.ref [(Ty.int n), (Ty.lst Ty.ints l)]) tx ax (.tmp 13) := d2 rfl
    have e1 : At (Ty.int n) tx ax (.tmp 14) := d3 rfl
    have e3 : At (Ty.tup2 (Ty.lst Ty.int (roundsL ((n).toNat))) (Ty.int (0 : Int))) tx ax (.tmp 12) := d5 rfl
    exact run_plain rfl (y_assign e4)
  · intro ax tx hs okx sm d0 d1 d2 d3 d4 d5 d6 d7 d8
    have e5 : At (Ty.int (0 : Int)) tx ax (.tmp 17) := d0 rfl
    have e6 : At (Ty.lst Ty.int (roundsL ((n).toNat))) tx ax (.tmp 5) := d1 rfl
    have e0 : At (Ty.ref [(Ty.int n), (Ty.lst Ty.ints l)]) tx ax (.tmp 13) := d2 rfl
    have e1 : At (Ty.int n) tx ax (.tmp 14) := d3 rfl
    have e2 : At (Ty.tup2 (Ty.lst Ty.int (roundsL ((n).toNat))) (Ty.int (0 : Int))) tx ax (.tmp 15) := d4 rfl
    have e3 : At (Ty.tup2 (Ty.lst Ty.int (roundsL ((n).toNat))) (Ty.int (0 : Int))) tx ax (.tmp 12) := d5 rfl
    have e4 : At (Ty.lst Ty.int (roundsL ((n).toNat))) tx ax (.tmp 16) := d6 rfl
    exact run_plain rfl (y_assign e5)
  intro a5 s5 D5
  have ok5 := D5.ok
  have F5 := F3.step0 D5.stp
  have q9 : At (Ty.ref [(Ty.val (Value.string nm)), (Ty.int n), (Ty.lst Ty.ints l)]) s5 a5 (.tmp 1) := D5.kt q4 rfl
  have q10 : At (Ty.lst Ty.int (roundsL ((n).toNat))) s5 a5 (.tmp 5) := D5.done 6
  clear D5
  refine tn ?_
  refine wp_seq ?_
  refine reg (a := a5) (σ := s5) rfl (fun i_ => List.getD [(Ty.pr (Ty.lst Ty.int (roundsL ((n).toNat)))), (Ty.pr (Ty.ref [(Ty.lst Ty.ints l)])), (Ty.pr (Ty.lst Ty.ints l)), (Ty.pr (Ty.lst Ty.ints (fromL ((roundsL ((n).toNat))) l))), (Ty.pr (Ty.lst Ty.ints (fromL ((roundsL ((n).toNat))) l))), (Ty.pr (Ty.int (0 : Int)))] i_ Pr.any) ok5 rfl ⟨?_, ?_, ?_, ?_, ?_, ?_, trivial⟩ ?_
  · intro ax tx hs okx sm
    exact run_plain rfl (y_move (kp (sm 5 rfl) hs q10))
  · intro ax tx hs okx sm
    exact run_plain rfl (y_field Try.fld96_2 Try.inf33 (by decide) (kp (sm 1 rfl) hs q9) rfl)
  · intro ax tx hs okx sm d0
    have e1 : At (Ty.ref [(Ty.lst Ty.ints l)]) tx ax (.tmp 19) := d0 rfl
    exact run_plain rfl (y_load Try.underlying33 rfl e1 rfl)
  · intro ax tx hs okx sm d0 d1
    have e0 : At (Ty.lst Ty.int (roundsL ((n).toNat))) tx ax (.tmp 18) := d0 rfl
    have e2 : At (Ty.lst Ty.ints l) tx ax (.tmp 20) := d1 rfl
    exact run_plain rfl (y_call #[ax.eval (.tmp 18), ax.eval (.tmp 20)] Try.func106 rfl rfl (by simp only [List.map_toArray, List.map_cons, List.map_nil]) (from_fn ((roundsL ((n).toNat))) (l) _ _ _ e0 e2 (by first | omega | assumption) (by first | omega | assumption) (by first | omega | assumption)))
  · intro ax tx hs okx sm d0 d1 d2 d3 d4 d5
    have e3 : At (Ty.lst Ty.ints (fromL ((roundsL ((n).toNat))) l)) tx ax (.tmp 21) := d0 rfl
    have e0 : At (Ty.lst Ty.int (roundsL ((n).toNat))) tx ax (.tmp 18) := d2 rfl
    have e1 : At (Ty.ref [(Ty.lst Ty.ints l)]) tx ax (.tmp 19) := d3 rfl
    have e2 : At (Ty.lst Ty.ints l) tx ax (.tmp 20) := d4 rfl
    exact run_plain rfl (y_assign e3)
  · intro ax tx hs okx sm d0 d1 d2 d3 d4 d5
    have e4 : At (Ty.lst Ty.ints (fromL ((roundsL ((n).toNat))) l)) tx ax (.tmp 2) := d0 rfl
    have e0 : At (Ty.lst Ty.int (roundsL ((n).toNat))) tx ax (.tmp 18) := d1 rfl
    have e1 : At (Ty.ref [(Ty.lst Ty.ints l)]) tx ax (.tmp 19) := d2 rfl
    have e2 : At (Ty.lst Ty.ints l) tx ax (.tmp 20) := d3 rfl
    have e3 : At (Ty.lst Ty.ints (fromL ((roundsL ((n).toNat))) l)) tx ax (.tmp 21) := d4 rfl
    exact run_plain rfl (y_assign rfl)
  intro a6 s6 D6
  have ok6 := D6.ok
  have F6 := F5.step0 D6.stp
  have q11 : At (Ty.lst Ty.ints (fromL ((roundsL ((n).toNat))) l)) s6 a6 (.tmp 2) := D6.done 4
  have q12 : At (Ty.int (0 : Int)) s6 a6 (.tmp 3) := D6.done 5
  clear D6
  refine tn ?_
  refine wp_ret ?_
  exact ret2 rfl ok6 F6 (cvt (by (rw [if_pos h0])) q11) (cvi (by (exact h0.symm)) q12)

theorem Try.inf155 : Info Try.prog 155 (.agg (Array.replicate 12 (.int .i64 0))) 12 96 := by unfold Info; kernel_rfl
set_option maxRecDepth 100000 in
theorem rowCheck_fn (r : List Int) (σ : GW) (v0 : Value) (hv0 : Ty.has (Ty.lst Ty.int r) σ v0)  :
    FnC Try.prog 44 #[v0] σ (Ty.int (rowMay r)) := by
 refine fn_intro Try.func44 rfl Try.ntmps44 (Nat.le_of_ble_eq_true rfl) (fun s0 a0 hle F0 ok0 hargs => ?_)
 have p0 : At (Ty.lst Ty.int r) s0 a0 (.tmp 0) := by have e := hargs 0 _ rfl; show Ty.has _ _ _; rw [e]; exact Ty.up _ hle hv0
 have b1 := sl_le p0
 clear hargs
 refine wp_seq ?_
 refine reg (a := a0) (σ := s0) rfl (fun i_ => List.getD [(Ty.pr (Ty.int (0 : Int)))] i_ Pr.any) ok0 rfl ⟨?_, trivial⟩ ?_
 · intro ax tx hs okx sm
   exact run_plain rfl (y_assign rfl)
 intro a1 s1 D1
 have ok1 := D1.ok
 have F1 := F0.step0 D1.stp
 have q1 : At (Ty.lst Ty.int r) s1 a1 (.tmp 0) := D1.kt p0 rfl
 clear D1
 refine tn ?_
 refine wp_seq ?_
 refine wp_seq ?_
 refine reg (a := a1) (σ := s1) rfl (fun i_ => List.getD [(Ty.pr (Ty.lst Ty.int r)), (Ty.pr (Ty.nat (List.length r))), (Ty.pr (Ty.bool (decide ((((List.length r) : Nat) : Int) < (1 : Int))))), (Ty.pr (Ty.bool (decide ((((List.length r) : Nat) : Int) < (1 : Int))))), (Ty.pr (Ty.grd ((decide ((((List.length r) : Nat) : Int) < (1 : Int))) = false) (Ty.lst Ty.int r))), (Ty.pr (Ty.grd ((decide ((((List.length r) : Nat) : Int) < (1 : Int))) = false) (Ty.nat (List.length r)))), (Ty.pr (Ty.grd ((decide ((((List.length r) : Nat) : Int) < (1 : Int))) = false) (Ty.bool (decide ((12 : Int) < (((List.length r) : Nat) : Int)))))), (Ty.pr (Ty.bool ((decide ((((List.length r) : Nat) : Int) < (1 : Int))) || (decide ((12 : Int) < (((List.length r) : Nat) : Int))))))] i_ Pr.any) ok1 rfl ⟨?_, ?_, ?_, ?_, ?_, ?_, ?_, ?_, trivial⟩ ?_
 · intro ax tx hs okx sm
   exact run_plain rfl (y_move (kp (sm 0 rfl) hs q1))
 · intro ax tx hs okx sm d0
   have e0 : At (Ty.lst Ty.int r) tx ax (.tmp 6) := d0 rfl
   exact run_plain rfl (y_len Try.underlying34 e0)
 · intro ax tx hs okx sm d0
   have e1 : At (Ty.nat (List.length r)) tx ax (.tmp 7) := d0 rfl
   exact run_plain rfl (y_lss e1 rfl)
 · intro ax tx hs okx sm d0
   have e2 : At (Ty.bool (decide ((((List.length r) : Nat) : Int) < (1 : Int)))) tx ax (.tmp 8) := d0 rfl
   exact run_plain rfl (y_move e2)
 · intro ax tx hs okx sm d0
   have e3 : At (Ty.bool (decide ((((List.length r) : Nat) : Int) < (1 : Int)))) tx ax (.tmp 9) := d0 rfl
   refine run_guard (T := (Ty.lst Ty.int r)) okx rfl rfl (by decide) e3 (fun hg => ?_)
   have hp := of_decide_eq_false hg
   exact y_move (kp (sm 0 rfl) hs q1)
 · intro ax tx hs okx sm d0 d1
   have e4 : At (Ty.grd ((decide ((((List.length r) : Nat) : Int) < (1 : Int))) = false) (Ty.lst Ty.int r)) tx ax (.tmp 10) := d0 rfl
   have e3 : At (Ty.bool (decide ((((List.length r) : Nat) : Int) < (1 : Int)))) tx ax (.tmp 9) := d1 rfl
   refine run_guard (T := (Ty.nat (List.length r))) okx rfl rfl (by decide) e3 (fun hg => ?_)
   have hp := of_decide_eq_false hg
   exact y_len Try.underlying34 (e4.1 hg)
 · intro ax tx hs okx sm d0 d1
   have e5 : At (Ty.grd ((decide ((((List.length r) : Nat) : Int) < (1 : Int))) = false) (Ty.nat (List.length r))) tx ax (.tmp 11) := d0 rfl
   have e3 : At (Ty.bool (decide ((((List.length r) : Nat) : Int) < (1 : Int)))) tx ax (.tmp 9) := d1 rfl
   refine run_guard (T := (Ty.bool (decide ((12 : Int) < (((List.length r) : Nat) : Int))))) okx rfl rfl (by decide) e3 (fun hg => ?_)
   have hp := of_decide_eq_false hg
   exact y_gtr (e5.1 hg) rfl
 · intro ax tx hs okx sm d0 d1
   have e3 : At (Ty.bool (decide ((((List.length r) : Nat) : Int) < (1 : Int)))) tx ax (.tmp 9) := d0 rfl
   have e6 : At (Ty.grd ((decide ((((List.length r) : Nat) : Int) < (1 : Int))) = false) (Ty.bool (decide ((12 : Int) < (((List.length r) : Nat) : Int))))) tx ax (.tmp 12) := d1 rfl
   exact run_plain rfl (y_pick_or e3 rfl e6)
 intro a2 s2 D2
 have ok2 := D2.ok
 have F2 := F1.step0 D2.stp
 have q2 : At (Ty.lst Ty.int r) s2 a2 (.tmp 0) := D2.kt q1 rfl
 have q3 : At (Ty.bool ((decide ((((List.length r) : Nat) : Int) < (1 : Int))) || (decide ((12 : Int) < (((List.length r) : Nat) : Int))))) s2 a2 (.tmp 13) := D2.done 7
 clear D2
 refine tn ?_
 refine cond_t q3 (fun c1 => ?_) (fun c1 => ?_)
 ·
  simp only [Bool.or_eq_true, decide_eq_true_eq] at c1
  refine wp_seq ?_
  refine reg (a := a2) (σ := s2) rfl (fun i_ => List.getD [(Ty.pr (Ty.int (1 : Int)))] i_ Pr.any) ok2 rfl ⟨?_, trivial⟩ ?_
  · intro ax tx hs okx sm
    exact run_plain rfl (y_assign rfl)
  intro a3 s3 D3
  have ok3 := D3.ok
  have F3 := F2.step0 D3.stp
  have q4 : At (Ty.int (1 : Int)) s3 a3 (.tmp 2) := D3.done 0
  clear D3
  refine tn ?_
  refine wp_ret ?_
  refine tr ?_
  exact ret1 rfl ok3 F3 (cvi (by (exact (rowMay_cnt (by omega)).symm)) q4)
 ·
  obtain ⟨d1, d2⟩ := Bool.or_eq_false_iff.mp c1
  replace d1 := of_decide_eq_false d1
  replace d2 := of_decide_eq_false d2
  refine wp_skip ?_
  refine tn ?_
  refine wp_seq ?_
  refine reg (a := a2) (σ := s2) rfl (fun i_ => List.getD [(Pr.ownp 11 (List.map Ty.int (List.replicate 12 0)))] i_ Pr.any) ok2 rfl ⟨?_, trivial⟩ ?_
  · intro ax tx hs okx sm
    exact run_plain rfl (y_alloc Try.inf155 (by simp [Value.cells]) (alloc_zero 12 (by intro σ; exact rfl)))
  intro a4 s4 D4
  have ok4 := D4.ok
  have F4 := F2.step0 D4.stp
  have q5 : At (Ty.lst Ty.int r) s4 a4 (.tmp 0) := D4.kt q2 rfl
  have q6 : (Pr.ownp 11 (List.map Ty.int (List.replicate 12 0))).has s4 (a4.eval (.tmp 3)) := D4.done 0
  clear D4
  refine tn ?_
  refine wp_seq ?_
  refine wp_seq ?_
  refine reg (a := a4) (σ := s4) rfl (fun i_ => List.getD [(Ty.pr (Ty.lst Ty.int r)), (Ty.pr (Ty.nat (List.length r))), (Ty.pr (Ty.int (0 : Int)))] i_ Pr.any) ok4 rfl ⟨?_, ?_, ?_, trivial⟩ ?_
  · intro ax tx hs okx sm
    exact run_plain rfl (y_move (kp (sm 0 rfl) hs q5))
  · intro ax tx hs okx sm d0
    have e0 : At (Ty.lst Ty.int r) tx ax (.tmp 14) := d0 rfl
    exact run_plain rfl (y_len Try.underlying34 e0)
  · intro ax tx hs okx sm
    exact run_plain rfl (y_move rfl)
  intro a5 s5 D5
  have ok5 := D5.ok
  have F5 := F4.step0 D5.stp
  have q7 : At (Ty.lst Ty.int r) s5 a5 (.tmp 0) := D5.kt q5 rfl
  have q8 : (Pr.ownp 11 (List.map Ty.int (List.replicate 12 0))).has s5 (a5.eval (.tmp 3)) := D5.ko q6 rfl
  have q9 : At (Ty.lst Ty.int r) s5 a5 (.tmp 14) := D5.done 0
  have q10 : At (Ty.nat (List.length r)) s5 a5 (.tmp 15) := D5.done 1
  have q11 : At (Ty.int (0 : Int)) s5 a5 (.tmp 16) := D5.done 2
  clear D5
  refine tn ?_
  refine wp_block ?_
  refine loop (fun n1 a6 w1 => ∃ (t1 : GW) (k : Nat), t1.w = w1 ∧ From s0 t1 ∧ Ok 40 a6 ∧ At (Ty.nat k) t1 a6 (.tmp 16) ∧ (Pr.ownp 11 (List.map Ty.int (seenL r k))).has t1 (a6.eval (.tmp 3)) ∧ At (Ty.lst Ty.int r) t1 a6 (.tmp 0) ∧ At (Ty.lst Ty.int r) t1 a6 (.tmp 14) ∧ At (Ty.nat (List.length r)) t1 a6 (.tmp 15) ∧ (k ≤ r.length) ∧ (Upto r k) ∧ n1 = r.length - k) (r.length - (0)) ?_ ?_
  ·
   exact ⟨s5, 0, rfl, F5, ok5, (cvi (by (first | rfl | omega | (simp_all; done) | (simp_all; omega))) q11), (cvop (by (rw [seenL_zero])) q8), q7, q9, q10, by omega, Upto.zero r, rfl⟩
  ·
   rintro n2 a7 w2 ⟨t2, k, rfl, F6, ok6, q12, q13, q14, q15, q16, hk, hu, rfl⟩
   have hs := seenL_len r k
   refine wp_seq ?_
   refine reg (a := a7) (σ := t2) rfl (fun i_ => List.getD [(Ty.pr (Ty.bool (decide (((k : Nat) : Int) < (((List.length r) : Nat) : Int)))))] i_ Pr.any) ok6 rfl ⟨?_, trivial⟩ ?_
   · intro ax tx hs okx sm
     exact run_plain rfl (y_lss (kp (sm 16 rfl) hs q12) (kp (sm 15 rfl) hs q16))
   intro a8 s6 D6
   have ok7 := D6.ok
   have F7 := F6.step0 D6.stp
   have q17 : At (Ty.nat k) s6 a8 (.tmp 16) := D6.kt q12 rfl
   have q18 : (Pr.ownp 11 (List.map Ty.int (seenL r k))).has s6 (a8.eval (.tmp 3)) := D6.ko q13 rfl
   have q19 : At (Ty.lst Ty.int r) s6 a8 (.tmp 0) := D6.kt q14 rfl
   have q20 : At (Ty.lst Ty.int r) s6 a8 (.tmp 14) := D6.kt q15 rfl
   have q21 : At (Ty.nat (List.length r)) s6 a8 (.tmp 15) := D6.kt q16 rfl
   have q22 : At (Ty.bool (decide (((k : Nat) : Int) < (((List.length r) : Nat) : Int)))) s6 a8 (.tmp 17) := D6.done 0
   clear D6
   refine tn ?_
   refine wp_seq ?_
   refine cond_p (p := (((k : Nat) : Int) < (((List.length r) : Nat) : Int))) q22 (fun c2 => ?_) (fun c2 => ?_)
   ·
    refine wp_skip ?_
    refine tn ?_
    refine wp_seq ?_
    refine wp_block ?_
    refine wp_seq ?_
    refine reg (a := a8) (σ := s6) rfl (fun i_ => List.getD [(Ty.pr (Ty.ref [(Ty.int (r.getD k 0))])), (Ty.pr (Ty.int (r.getD k 0))), (Ty.pr (Ty.int (r.getD k 0)))] i_ Pr.any) ok7 rfl ⟨?_, ?_, ?_, trivial⟩ ?_
    · intro ax tx hs okx sm
      exact run_plain rfl (y_index1 Try.underlying34 Try.inf3 (kp (sm 14 rfl) hs q20) (kp (sm 16 rfl) hs q17) (by omega) (lst_get Ty.int r 0 k (by omega)))
    · intro ax tx hs okx sm d0
      have e0 : At (Ty.ref [(Ty.int (r.getD k 0))]) tx ax (.tmp 18) := d0 rfl
      exact run_plain rfl (y_load Try.underlying3 rfl e0 rfl)
    · intro ax tx hs okx sm d0 d1 d2
      have e1 : At (Ty.int (r.getD k 0)) tx ax (.tmp 19) := d0 rfl
      have e0 : At (Ty.ref [(Ty.int (r.getD k 0))]) tx ax (.tmp 18) := d1 rfl
      exact run_plain rfl (y_assign e1)
    intro a9 s7 D7
    have ok8 := D7.ok
    have F8 := F7.step0 D7.stp
    have q23 : At (Ty.nat k) s7 a9 (.tmp 16) := D7.kt q17 rfl
    have q24 : (Pr.ownp 11 (List.map Ty.int (seenL r k))).has s7 (a9.eval (.tmp 3)) := D7.ko q18 rfl
    have q25 : At (Ty.lst Ty.int r) s7 a9 (.tmp 0) := D7.kt q19 rfl
    have q26 : At (Ty.lst Ty.int r) s7 a9 (.tmp 14) := D7.kt q20 rfl
    have q27 : At (Ty.nat (List.length r)) s7 a9 (.tmp 15) := D7.kt q21 rfl
    have q28 : At (Ty.int (r.getD k 0)) s7 a9 (.tmp 5) := D7.done 2
    clear D7
    refine tn ?_
    refine wp_seq ?_
    refine wp_seq ?_
    refine reg (a := a9) (σ := s7) rfl (fun i_ => List.getD [(Ty.pr (Ty.int (r.getD k 0))), (Ty.pr (Ty.bool (decide ((r.getD k 0) < (0 : Int))))), (Ty.pr (Ty.bool (decide ((r.getD k 0) < (0 : Int))))), (Ty.pr (Ty.grd ((decide ((r.getD k 0) < (0 : Int))) = false) (Ty.int (r.getD k 0)))), (Ty.pr (Ty.grd ((decide ((r.getD k 0) < (0 : Int))) = false) (Ty.lst Ty.int r))), (Ty.pr (Ty.grd ((decide ((r.getD k 0) < (0 : Int))) = false) (Ty.nat (List.length r)))), (Ty.pr (Ty.grd ((decide ((r.getD k 0) < (0 : Int))) = false) (Ty.bool (decide ((((List.length r) : Nat) : Int) ≤ (r.getD k 0)))))), (Ty.pr (Ty.bool ((decide ((r.getD k 0) < (0 : Int))) || (decide ((((List.length r) : Nat) : Int) ≤ (r.getD k 0)))))), (Ty.pr (Ty.bool ((decide ((r.getD k 0) < (0 : Int))) || (decide ((((List.length r) : Nat) : Int) ≤ (r.getD k 0)))))), (Ty.pr (Ty.grd (((decide ((r.getD k 0) < (0 : Int))) || (decide ((((List.length r) : Nat) : Int) ≤ (r.getD k 0)))) = false) (Ty.int (r.getD k 0)))), (Ty.pr (Ty.grd (((decide ((r.getD k 0) < (0 : Int))) || (decide ((((List.length r) : Nat) : Int) ≤ (r.getD k 0)))) = false) (Ty.val (ptrAt (a9.eval (.tmp 3)) ((r.getD k 0)).toNat)))), (Ty.pr (Ty.grd (((decide ((r.getD k 0) < (0 : Int))) || (decide ((((List.length r) : Nat) : Int) ≤ (r.getD k 0)))) = false) (Ty.int ((seenL r k).getD ((r.getD k 0)).toNat 0)))), (Ty.pr (Ty.grd (((decide ((r.getD k 0) < (0 : Int))) || (decide ((((List.length r) : Nat) : Int) ≤ (r.getD k 0)))) = false) (Ty.bool (decide ((0 : Int) < ((seenL r k).getD ((r.getD k 0)).toNat 0)))))), (Ty.pr (Ty.bool (((decide ((r.getD k 0) < (0 : Int))) || (decide ((((List.length r) : Nat) : Int) ≤ (r.getD k 0)))) || (decide ((0 : Int) < ((seenL r k).getD ((r.getD k 0)).toNat 0))))))] i_ Pr.any) ok8 rfl ⟨?_, ?_, ?_, ?_, ?_, ?_, ?_, ?_, ?_, ?_, ?_, ?_, ?_, ?_, trivial⟩ ?_
    · intro ax tx hs okx sm
      exact run_plain rfl (y_move (kp (sm 5 rfl) hs q28))
    · intro ax tx hs okx sm d0
      have e0 : At (Ty.int (r.getD k 0)) tx ax (.tmp 20) := d0 rfl
      exact run_plain rfl (y_lss e0 rfl)
    · intro ax tx hs okx sm d0
      have e1 : At (Ty.bool (decide ((r.getD k 0) < (0 : Int)))) tx ax (.tmp 21) := d0 rfl
      exact run_plain rfl (y_move e1)
    · intro ax tx hs okx sm d0
      have e2 : At (Ty.bool (decide ((r.getD k 0) < (0 : Int)))) tx ax (.tmp 22) := d0 rfl
      refine run_guard (T := (Ty.int (r.getD k 0))) okx rfl rfl (by decide) e2 (fun hg => ?_)
      have hp := of_decide_eq_false hg
      exact y_move (kp (sm 5 rfl) hs q28)
    · intro ax tx hs okx sm d0
      have e2 : At (Ty.bool (decide ((r.getD k 0) < (0 : Int)))) tx ax (.tmp 22) := d0 rfl
      refine run_guard (T := (Ty.lst Ty.int r)) okx rfl rfl (by decide) e2 (fun hg => ?_)
      have hp := of_decide_eq_false hg
      exact y_move (kp (sm 0 rfl) hs q25)
    · intro ax tx hs okx sm d0 d1
      have e4 : At (Ty.grd ((decide ((r.getD k 0) < (0 : Int))) = false) (Ty.lst Ty.int r)) tx ax (.tmp 24) := d0 rfl
      have e2 : At (Ty.bool (decide ((r.getD k 0) < (0 : Int)))) tx ax (.tmp 22) := d1 rfl
      refine run_guard (T := (Ty.nat (List.length r))) okx rfl rfl (by decide) e2 (fun hg => ?_)
      have hp := of_decide_eq_false hg
      exact y_len Try.underlying34 (e4.1 hg)
    · intro ax tx hs okx sm d0 d1 d2
      have e3 : At (Ty.grd ((decide ((r.getD k 0) < (0 : Int))) = false) (Ty.int (r.getD k 0))) tx ax (.tmp 23) := d0 rfl
      have e5 : At (Ty.grd ((decide ((r.getD k 0) < (0 : Int))) = false) (Ty.nat (List.length r))) tx ax (.tmp 25) := d1 rfl
      have e2 : At (Ty.bool (decide ((r.getD k 0) < (0 : Int)))) tx ax (.tmp 22) := d2 rfl
      refine run_guard (T := (Ty.bool (decide ((((List.length r) : Nat) : Int) ≤ (r.getD k 0))))) okx rfl rfl (by decide) e2 (fun hg => ?_)
      have hp := of_decide_eq_false hg
      exact y_geq (e3.1 hg) (e5.1 hg)
    · intro ax tx hs okx sm d0 d1
      have e2 : At (Ty.bool (decide ((r.getD k 0) < (0 : Int)))) tx ax (.tmp 22) := d0 rfl
      have e6 : At (Ty.grd ((decide ((r.getD k 0) < (0 : Int))) = false) (Ty.bool (decide ((((List.length r) : Nat) : Int) ≤ (r.getD k 0))))) tx ax (.tmp 26) := d1 rfl
      exact run_plain rfl (y_pick_or e2 rfl e6)
    · intro ax tx hs okx sm d0 d1
      have e7 : At (Ty.bool ((decide ((r.getD k 0) < (0 : Int))) || (decide ((((List.length r) : Nat) : Int) ≤ (r.getD k 0))))) tx ax (.tmp 27) := d0 rfl
      have e2 : At (Ty.bool (decide ((r.getD k 0) < (0 : Int)))) tx ax (.tmp 22) := d1 rfl
      exact run_plain rfl (y_move e7)
    · intro ax tx hs okx sm d0
      have e8 : At (Ty.bool ((decide ((r.getD k 0) < (0 : Int))) || (decide ((((List.length r) : Nat) : Int) ≤ (r.getD k 0))))) tx ax (.tmp 28) := d0 rfl
      refine run_guard (T := (Ty.int (r.getD k 0))) okx rfl rfl (by decide) e8 (fun hg => ?_)
      obtain ⟨d3, d4⟩ := Bool.or_eq_false_iff.mp hg
      have d3 := of_decide_eq_false d3
      have d4 := of_decide_eq_false d4
      exact y_move (kp (sm 5 rfl) hs q28)
    · intro ax tx hs okx sm d0 d1
      have e9 : At (Ty.grd (((decide ((r.getD k 0) < (0 : Int))) || (decide ((((List.length r) : Nat) : Int) ≤ (r.getD k 0)))) = false) (Ty.int (r.getD k 0))) tx ax (.tmp 29) := d0 rfl
      have e8 : At (Ty.bool ((decide ((r.getD k 0) < (0 : Int))) || (decide ((((List.length r) : Nat) : Int) ≤ (r.getD k 0))))) tx ax (.tmp 28) := d1 rfl
      refine run_guard (T := (Ty.val (ptrAt (a9.eval (.tmp 3)) ((r.getD k 0)).toNat))) okx rfl rfl (by decide) e8 (fun hg => ?_)
      obtain ⟨d5, d6⟩ := Bool.or_eq_false_iff.mp hg
      have d5 := of_decide_eq_false d5
      have d6 := of_decide_eq_false d6
      exact ownp_index (i := (r.getD k 0)) Try.underlying155 Try.inf3 ((Pr.ownp 11 (List.map Ty.int (seenL r k))).up hs q24) (sm 3 rfl) (e9.1 hg) (by omega) (by omega)
    · intro ax tx hs okx sm d0 d1
      have e10 : At (Ty.grd (((decide ((r.getD k 0) < (0 : Int))) || (decide ((((List.length r) : Nat) : Int) ≤ (r.getD k 0)))) = false) (Ty.val (ptrAt (a9.eval (.tmp 3)) ((r.getD k 0)).toNat))) tx ax (.tmp 30) := d0 rfl
      have e8 : At (Ty.bool ((decide ((r.getD k 0) < (0 : Int))) || (decide ((((List.length r) : Nat) : Int) ≤ (r.getD k 0))))) tx ax (.tmp 28) := d1 rfl
      refine run_guard (T := (Ty.int ((seenL r k).getD ((r.getD k 0)).toNat 0))) okx rfl rfl (by decide) e8 (fun hg => ?_)
      obtain ⟨d7, d8⟩ := Bool.or_eq_false_iff.mp hg
      have d7 := of_decide_eq_false d7
      have d8 := of_decide_eq_false d8
      exact ownp_load Try.underlying3 rfl ((Pr.ownp 11 (List.map Ty.int (seenL r k))).up hs q24) (e10.1 hg) (lst_get Ty.int (seenL r k) 0 ((r.getD k 0)).toNat (by omega))
    · intro ax tx hs okx sm d0 d1
      have e11 : At (Ty.grd (((decide ((r.getD k 0) < (0 : Int))) || (decide ((((List.length r) : Nat) : Int) ≤ (r.getD k 0)))) = false) (Ty.int ((seenL r k).getD ((r.getD k 0)).toNat 0))) tx ax (.tmp 31) := d0 rfl
      have e8 : At (Ty.bool ((decide ((r.getD k 0) < (0 : Int))) || (decide ((((List.length r) : Nat) : Int) ≤ (r.getD k 0))))) tx ax (.tmp 28) := d1 rfl
      refine run_guard (T := (Ty.bool (decide ((0 : Int) < ((seenL r k).getD ((r.getD k 0)).toNat 0))))) okx rfl rfl (by decide) e8 (fun hg => ?_)
      obtain ⟨d9, d10⟩ := Bool.or_eq_false_iff.mp hg
      have d9 := of_decide_eq_false d9
      have d10 := of_decide_eq_false d10
      exact y_gtr (e11.1 hg) rfl
    · intro ax tx hs okx sm d0 d1
      have e8 : At (Ty.bool ((decide ((r.getD k 0) < (0 : Int))) || (decide ((((List.length r) : Nat) : Int) ≤ (r.getD k 0))))) tx ax (.tmp 28) := d0 rfl
      have e12 : At (Ty.grd (((decide ((r.getD k 0) < (0 : Int))) || (decide ((((List.length r) : Nat) : Int) ≤ (r.getD k 0)))) = false) (Ty.bool (decide ((0 : Int) < ((seenL r k).getD ((r.getD k 0)).toNat 0))))) tx ax (.tmp 32) := d1 rfl
      exact run_plain rfl (y_pick_or e8 rfl e12)
    intro a10 s8 D8
    have ok9 := D8.ok
    have F9 := F8.step0 D8.stp
    have q29 : At (Ty.nat k) s8 a10 (.tmp 16) := D8.kt q23 rfl
    have q30 : (Pr.ownp 11 (List.map Ty.int (seenL r k))).has s8 (a10.eval (.tmp 3)) := D8.ko q24 rfl
    have q31 : At (Ty.lst Ty.int r) s8 a10 (.tmp 0) := D8.kt q25 rfl
    have q32 : At (Ty.lst Ty.int r) s8 a10 (.tmp 14) := D8.kt q26 rfl
    have q33 : At (Ty.nat (List.length r)) s8 a10 (.tmp 15) := D8.kt q27 rfl
    have q34 : At (Ty.int (r.getD k 0)) s8 a10 (.tmp 5) := D8.kt q28 rfl
    have q35 : At (Ty.bool (((decide ((r.getD k 0) < (0 : Int))) || (decide ((((List.length r) : Nat) : Int) ≤ (r.getD k 0)))) || (decide ((0 : Int) < ((seenL r k).getD ((r.getD k 0)).toNat 0))))) s8 a10 (.tmp 33) := D8.done 13
    clear D8
    refine tn ?_
    refine cond_t q35 (fun c3 => ?_) (fun c3 => ?_)
    ·
     simp only [Bool.or_eq_true, decide_eq_true_eq] at c3
     refine wp_seq ?_
     refine reg (a := a10) (σ := s8) rfl (fun i_ => List.getD [(Ty.pr (Ty.int (2 : Int)))] i_ Pr.any) ok9 rfl ⟨?_, trivial⟩ ?_
     · intro ax tx hs okx sm
       exact run_plain rfl (y_assign rfl)
     intro a11 s9 D9
     have ok10 := D9.ok
     have F10 := F9.step0 D9.stp
     have q36 : At (Ty.int (2 : Int)) s9 a11 (.tmp 2) := D9.done 0
     clear D9
     refine tn ?_
     refine wp_ret ?_
     refine tr ?_
     refine br ?_
     refine tr ?_
     refine tr ?_
     refine br ?_
     refine tr ?_
     exact ret1 rfl ok10 F10 (cvi (by (by_cases hb : r.getD k 0 < 0 ∨ (r.length : Int) ≤ r.getD k 0; exact (not_row_bd (by omega) (by omega) (by omega) hb).symm; exact (not_row_twice (k := k) (by omega) (by omega) (by omega) (by omega) (by omega) (by omega)).symm)) q36)
    ·
     obtain ⟨d11, d12⟩ := Bool.or_eq_false_iff.mp c3
     obtain ⟨d13, d14⟩ := Bool.or_eq_false_iff.mp d11
     replace d13 := of_decide_eq_false d13
     replace d14 := of_decide_eq_false d14
     replace d12 := of_decide_eq_false d12
     have hq := seenL_bd r k (r.getD k 0).toNat
     refine wp_skip ?_
     refine tn ?_
     refine reg2 (a := a10) (σ := s8) rfl 5 (fun i_ => List.getD [(Ty.pr (Ty.int (r.getD k 0))), (Ty.pr (Ty.val (ptrAt (a10.eval (.tmp 3)) ((r.getD k 0)).toNat))), (Ty.pr (Ty.int ((seenL r k).getD ((r.getD k 0)).toNat 0))), (Ty.pr (Ty.int (((seenL r k).getD ((r.getD k 0)).toNat 0) + (1 : Int)))), (Ty.pr (Ty.val (ptrAt (a10.eval (.tmp 3)) ((r.getD k 0)).toNat)))] i_ Pr.any) ok9 rfl (by decide) rfl ⟨?_, ?_, ?_, ?_, ?_, trivial⟩ ?_
     · intro ax tx hs okx sm
       exact run_plain rfl (y_move (kp (sm 5 rfl) hs q34))
     · intro ax tx hs okx sm d0
       have e0 : At (Ty.int (r.getD k 0)) tx ax (.tmp 34) := d0 rfl
       exact run_plain rfl (ownp_index (i := (r.getD k 0)) Try.underlying155 Try.inf3 ((Pr.ownp 11 (List.map Ty.int (seenL r k))).up hs q30) (sm 3 rfl) e0 (by omega) (by omega))
     · intro ax tx hs okx sm d0
       have e1 : At (Ty.val (ptrAt (a10.eval (.tmp 3)) ((r.getD k 0)).toNat)) tx ax (.tmp 35) := d0 rfl
       exact run_plain rfl (ownp_load Try.underlying3 rfl ((Pr.ownp 11 (List.map Ty.int (seenL r k))).up hs q30) e1 (lst_get Ty.int (seenL r k) 0 ((r.getD k 0)).toNat (by omega)))
     · intro ax tx hs okx sm d0
       have e2 : At (Ty.int ((seenL r k).getD ((r.getD k 0)).toNat 0)) tx ax (.tmp 36) := d0 rfl
       exact run_plain rfl (y_add e2 rfl (w64 (by omega) (by omega)))
     · intro ax tx hs okx sm d0 d1 d2 d3 d4
       have e0 : At (Ty.int (r.getD k 0)) tx ax (.tmp 34) := d0 rfl
       have e1 : At (Ty.val (ptrAt (a10.eval (.tmp 3)) ((r.getD k 0)).toNat)) tx ax (.tmp 35) := d2 rfl
       have e2 : At (Ty.int ((seenL r k).getD ((r.getD k 0)).toNat 0)) tx ax (.tmp 36) := d3 rfl
       have e3 : At (Ty.int (((seenL r k).getD ((r.getD k 0)).toNat 0) + (1 : Int))) tx ax (.tmp 37) := d4 rfl
       exact run_plain rfl (ownp_index (i := (r.getD k 0)) Try.underlying155 Try.inf3 ((Pr.ownp 11 (List.map Ty.int (seenL r k))).up hs q30) (sm 3 rfl) e0 (by omega) (by omega))
     intro a12 s10 D10
     have ok11 := D10.ok
     have F11 := F9.step0 D10.stp
     have q37 := (Pr.ownp 11 (List.map Ty.int (seenL r k))).up D10.stp q30
     have q38 : At (Ty.nat k) s10 a12 (.tmp 16) := D10.kt q29 rfl
     have q39 : a12.eval (.tmp 3) = a10.eval (.tmp 3) := D10.same 3 rfl
     have q40 : At (Ty.lst Ty.int r) s10 a12 (.tmp 0) := D10.kt q31 rfl
     have q41 : At (Ty.lst Ty.int r) s10 a12 (.tmp 14) := D10.kt q32 rfl
     have q42 : At (Ty.nat (List.length r)) s10 a12 (.tmp 15) := D10.kt q33 rfl
     have q43 : At (Ty.int (((seenL r k).getD ((r.getD k 0)).toNat 0) + (1 : Int))) s10 a12 (.tmp 37) := D10.done 3 (by decide)
     have q44 : At (Ty.val (ptrAt (a10.eval (.tmp 3)) ((r.getD k 0)).toNat)) s10 a12 (.tmp 38) := D10.done 4 (by decide)
     clear D10
     refine tail_step0 (m := 11) (R := (fun _ τ => OwnP τ 11 (a10.eval (.tmp 3)) ((List.map Ty.int (seenL r k)).set ((r.getD k 0)).toNat (Ty.int (((seenL r k).getD ((r.getD k 0)).toNat 0) + (1 : Int)))))) rfl rfl (m_storep Try.inf3 (by decide) q37 q44 (by simp only [List.length_map, List.length_set]; omega) q43 (one_val rfl)) (fun v1 s11 hs1 r1 => ?_)
     have F12 := F11.step hs1 (by decide)
     have q45 : At (Ty.nat k) s11 a12 (.tmp 16) := kpm hs1 (by decide) rfl q38
     have q46 : At (Ty.lst Ty.int r) s11 a12 (.tmp 0) := kpm hs1 (by decide) rfl q40
     have q47 : At (Ty.lst Ty.int r) s11 a12 (.tmp 14) := kpm hs1 (by decide) rfl q41
     have q48 : At (Ty.nat (List.length r)) s11 a12 (.tmp 15) := kpm hs1 (by decide) rfl q42
     have q49 : At (Ty.int (((seenL r k).getD ((r.getD k 0)).toNat 0) + (1 : Int))) s11 a12 (.tmp 37) := kpm hs1 (by decide) rfl q43
     have q50 : (Pr.ownp 11 (List.map Ty.int ((seenL r k).set ((r.getD k 0)).toNat (((seenL r k).getD ((r.getD k 0)).toNat 0) + (1 : Int))))).has s11 (a10.eval (.tmp 3)) := (cvop (by simp) r1)
     refine wpList_nil ?_
     have q51 : (Pr.ownp 11 (List.map Ty.int ((seenL r k).set ((r.getD k 0)).toNat (((seenL r k).getD ((r.getD k 0)).toNat 0) + (1 : Int))))).has s11 (a12.eval (.tmp 3)) := al q39 q50
     refine bn ?_
     refine tn ?_
     refine reg (a := a12) (σ := s11) rfl (fun i_ => List.getD [(Ty.pr (Ty.int (((k : Nat) : Int) + (1 : Int)))), (Ty.pr (Ty.int (((k : Nat) : Int) + (1 : Int))))] i_ Pr.any) ok11 rfl ⟨?_, ?_, trivial⟩ ?_
     · intro ax tx hs okx sm
       exact run_plain rfl (y_add (kp (sm 16 rfl) hs q45) rfl (w64 (by omega) (by omega)))
     · intro ax tx hs okx sm d0
       have e0 : At (Ty.int (((k : Nat) : Int) + (1 : Int))) tx ax (.tmp 39) := d0 rfl
       exact run_plain rfl (y_move e0)
     intro a14 s12 D11
     have ok13 := D11.ok
     have F13 := F12.step0 D11.stp
     have q52 : (Pr.ownp 11 (List.map Ty.int ((seenL r k).set ((r.getD k 0)).toNat (((seenL r k).getD ((r.getD k 0)).toNat 0) + (1 : Int))))).has s12 (a14.eval (.tmp 3)) := D11.ko q51 rfl
     have q53 : At (Ty.lst Ty.int r) s12 a14 (.tmp 0) := D11.kt q46 rfl
     have q54 : At (Ty.lst Ty.int r) s12 a14 (.tmp 14) := D11.kt q47 rfl
     have q55 : At (Ty.nat (List.length r)) s12 a14 (.tmp 15) := D11.kt q48 rfl
     have q56 : At (Ty.int (((k : Nat) : Int) + (1 : Int))) s12 a14 (.tmp 16) := D11.done 1
     clear D11
     exact tn ⟨r.length - ((k+1)), by omega, s12, (k+1), rfl, F13, ok13, (cvi (by (first | rfl | omega | (simp_all; done) | (simp_all; omega))) q56), (cvop (by (exact congrArg _ (seenL_step r k (by omega) (by omega) (by omega)))) q52), q53, q54, q55, by omega, hu.step (by omega) (by omega) (by omega) (by omega) (by omega), rfl⟩
   ·
    refine wp_exit ?_
    refine tx ?_
    refine tx ?_
    refine bx ?_
    refine tn ?_
    refine wp_seq ?_
    refine reg (a := a8) (σ := s6) rfl (fun i_ => List.getD [(Ty.pr (Ty.int (0 : Int)))] i_ Pr.any) ok7 rfl ⟨?_, trivial⟩ ?_
    · intro ax tx hs okx sm
      exact run_plain rfl (y_assign rfl)
    intro a15 s13 D12
    have ok14 := D12.ok
    have F14 := F7.step0 D12.stp
    have q57 : At (Ty.int (0 : Int)) s13 a15 (.tmp 2) := D12.done 0
    clear D12
    refine tn ?_
    refine wp_ret ?_
    exact ret1 rfl ok14 F14 (cvi (by (exact (Upto.row (by have e : k = r.length := (by omega); rw [← e]; rw [e] at hu; rw [e]; exact hu) (by omega) (by omega)).symm)) q57)


set_option maxRecDepth 100000 in
theorem cycles_fn (r : List Int) (σ : GW) (v0 : Value) (hv0 : Ty.has (Ty.lst Ty.int r) σ v0)  :
    FnC Try.prog 39 #[v0] σ (Ty.tup2 (Ty.lst Ty.ints (if rowMay r = 0 then cyclesL r else [])) (Ty.int (rowMay r))) := by
 refine fn_intro Try.func39 rfl Try.ntmps39 (Nat.le_of_ble_eq_true rfl) (fun s0 a0 hle F0 ok0 hargs => ?_)
 have p0 : At (Ty.lst Ty.int r) s0 a0 (.tmp 0) := by have e := hargs 0 _ rfl; show Ty.has _ _ _; rw [e]; exact Ty.up _ hle hv0
 have b1 := sl_le p0
 clear hargs
 refine wp_seq ?_
 refine reg (a := a0) (σ := s0) rfl (fun i_ => List.getD [(Ty.pr (Ty.val (Value.slice none 0 0))), (Ty.pr (Ty.int (0 : Int)))] i_ Pr.any) ok0 rfl ⟨?_, ?_, trivial⟩ ?_
 · intro ax tx hs okx sm
   exact run_plain rfl (y_assign rfl)
 · intro ax tx hs okx sm d0
   have e0 : At (Ty.val (Value.slice none 0 0)) tx ax (.tmp 2) := d0 rfl
   exact run_plain rfl (y_assign rfl)
 intro a1 s1 D1
 have ok1 := D1.ok
 have F1 := F0.step0 D1.stp
 have q1 : At (Ty.lst Ty.int r) s1 a1 (.tmp 0) := D1.kt p0 rfl
 clear D1
 refine tn ?_
 refine wp_seq ?_
 refine wp_seq ?_
 refine reg (a := a1) (σ := s1) rfl (fun i_ => List.getD [(Ty.pr (Ty.lst Ty.int r)), (Ty.pr (Ty.int (rowMay r))), (Ty.pr (Ty.int (rowMay r)))] i_ Pr.any) ok1 rfl ⟨?_, ?_, ?_, trivial⟩ ?_
 · intro ax tx hs okx sm
   exact run_plain rfl (y_move (kp (sm 0 rfl) hs q1))
 · intro ax tx hs okx sm d0
   have e0 : At (Ty.lst Ty.int r) tx ax (.tmp 10) := d0 rfl
   exact run_plain rfl (y_call #[ax.eval (.tmp 10)] Try.func44 rfl rfl (by simp only [List.map_toArray, List.map_cons, List.map_nil]) (rowCheck_fn (r) _ _ e0 ))
 · intro ax tx hs okx sm d0 d1 d2 d3
   have e1 : At (Ty.int (rowMay r)) tx ax (.tmp 11) := d0 rfl
   have e0 : At (Ty.lst Ty.int r) tx ax (.tmp 10) := d2 rfl
   exact run_plain rfl (y_assign e1)
 intro a2 s2 D2
 have ok2 := D2.ok
 have F2 := F1.step0 D2.stp
 have q2 : At (Ty.lst Ty.int r) s2 a2 (.tmp 0) := D2.kt q1 rfl
 have q3 : At (Ty.int (rowMay r)) s2 a2 (.tmp 4) := D2.done 2
 clear D2
 refine tn ?_
 refine wp_seq ?_
 refine reg (a := a2) (σ := s2) rfl (fun i_ => List.getD [(Ty.pr (Ty.int (rowMay r))), (Ty.pr (Ty.bool (decide ((rowMay r) ≠ (0 : Int)))))] i_ Pr.any) ok2 rfl ⟨?_, ?_, trivial⟩ ?_
 · intro ax tx hs okx sm
   exact run_plain rfl (y_move (kp (sm 4 rfl) hs q3))
 · intro ax tx hs okx sm d0
   have e0 : At (Ty.int (rowMay r)) tx ax (.tmp 12) := d0 rfl
   exact run_plain rfl (y_neq e0 rfl)
 intro a3 s3 D3
 have ok3 := D3.ok
 have F3 := F2.step0 D3.stp
 have q4 : At (Ty.lst Ty.int r) s3 a3 (.tmp 0) := D3.kt q2 rfl
 have q5 : At (Ty.int (rowMay r)) s3 a3 (.tmp 4) := D3.kt q3 rfl
 have q6 : At (Ty.bool (decide ((rowMay r) ≠ (0 : Int)))) s3 a3 (.tmp 13) := D3.done 1
 clear D3
 refine tn ?_
 refine cond_p (p := ((rowMay r) ≠ (0 : Int))) q6 (fun c1 => ?_) (fun c1 => ?_)
 ·
  refine wp_seq ?_
  refine reg (a := a3) (σ := s3) rfl (fun i_ => List.getD [(Ty.pr (Ty.int (rowMay r))), (Ty.pr (Ty.val (Value.slice none 0 0))), (Ty.pr (Ty.int (rowMay r)))] i_ Pr.any) ok3 rfl ⟨?_, ?_, ?_, trivial⟩ ?_
  · intro ax tx hs okx sm d0
    exact run_plain rfl (y_move (kp (sm 4 rfl) hs q5))
  · intro ax tx hs okx sm d0
    exact run_plain rfl (y_assign rfl)
  · intro ax tx hs okx sm d0 d1 d2 d3
    have e0 : At (Ty.int (rowMay r)) tx ax (.tmp 14) := d0 rfl
    have e1 : At (Ty.val (Value.slice none 0 0)) tx ax (.tmp 2) := d1 rfl
    exact run_plain rfl (y_assign e0)
  intro a4 s4 D4
  have ok4 := D4.ok
  have F4 := F3.step0 D4.stp
  have q7 : At (Ty.val (Value.slice none 0 0)) s4 a4 (.tmp 2) := D4.done 1
  have q8 : At (Ty.int (rowMay r)) s4 a4 (.tmp 3) := D4.done 2
  clear D4
  refine tn ?_
  refine wp_ret ?_
  refine tr ?_
  exact ret2 rfl ok4 F4 (nil_lst (by (rw [if_neg (by assumption)])) q7) q8
 ·
  have hr := rowMay_ok.1 (Classical.not_not.1 c1); have hln := hr.le
  refine wp_skip ?_
  refine tn ?_
  refine wp_seq ?_
  refine reg (a := a3) (σ := s3) rfl (fun i_ => List.getD [(Ty.pr (Ty.val (Value.slice none 0 0)))] i_ Pr.any) ok3 rfl ⟨?_, trivial⟩ ?_
  · intro ax tx hs okx sm
    exact run_plain rfl (y_assign rfl)
  intro a5 s5 D5
  have ok5 := D5.ok
  have F5 := F3.step0 D5.stp
  have q9 : At (Ty.lst Ty.int r) s5 a5 (.tmp 0) := D5.kt q4 rfl
  have q10 : At (Ty.val (Value.slice none 0 0)) s5 a5 (.tmp 5) := D5.done 0
  clear D5
  refine tn ?_
  refine wp_seq ?_
  refine reg (a := a5) (σ := s5) rfl (fun i_ => List.getD [(Ty.pr (Ty.lst Ty.int r)), (Ty.pr (Ty.nat (List.length r))), (Pr.own 11 3 1 (List.length r) (List.map Ty.int (List.replicate (List.length r) 0))), (Pr.own 11 3 1 (List.length r) (List.map Ty.int (List.replicate (List.length r) 0)))] i_ Pr.any) ok5 rfl ⟨?_, ?_, ?_, ?_, trivial⟩ ?_
  · intro ax tx hs okx sm
    exact run_plain rfl (y_move (kp (sm 0 rfl) hs q9))
  · intro ax tx hs okx sm d0
    have e0 : At (Ty.lst Ty.int r) tx ax (.tmp 15) := d0 rfl
    exact run_plain rfl (y_len Try.underlying34 e0)
  · intro ax tx hs okx sm d0 d1
    have e1 : At (Ty.nat (List.length r)) tx ax (.tmp 16) := d0 rfl
    exact run_plain rfl ((y_make (k := 11) (T := Ty.int 0) (n := (List.length r)) Try.underlying34 Try.inf3 rfl (fun _ => rfl) e1 e1 (by omega) (by omega)).mono (fun _ _ h => cvo (by simp) (by simp) h))
  · intro ax tx hs okx sm d0 d1 d2 d3
    have e2 : (Pr.own 11 3 1 (List.length r) (List.map Ty.int (List.replicate (List.length r) 0))).has tx (ax.eval (.tmp 17)) := d0 rfl
    have e0 : At (Ty.lst Ty.int r) tx ax (.tmp 15) := d1 rfl
    have e1 : At (Ty.nat (List.length r)) tx ax (.tmp 16) := d2 rfl
    exact run_plain rfl (y_assign e2)
  intro a6 s6 D6
  have ok6 := D6.ok
  have F6 := F5.step0 D6.stp
  have q11 : At (Ty.lst Ty.int r) s6 a6 (.tmp 0) := D6.kt q9 rfl
  have q12 : At (Ty.val (Value.slice none 0 0)) s6 a6 (.tmp 5) := D6.kt q10 rfl
  have q13 : (Pr.own 11 3 1 (List.length r) (List.map Ty.int (List.replicate (List.length r) 0))).has s6 (a6.eval (.tmp 6)) := D6.done 3
  clear D6
  refine tn ?_
  refine wp_seq ?_
  refine wp_seq ?_
  refine reg (a := a6) (σ := s6) rfl (fun i_ => List.getD [(Ty.pr (Ty.lst Ty.int r)), (Ty.pr (Ty.nat (List.length r))), (Ty.pr (Ty.int (0 : Int)))] i_ Pr.any) ok6 rfl ⟨?_, ?_, ?_, trivial⟩ ?_
  · intro ax tx hs okx sm
    exact run_plain rfl (y_move (kp (sm 0 rfl) hs q11))
  · intro ax tx hs okx sm d0
    have e0 : At (Ty.lst Ty.int r) tx ax (.tmp 18) := d0 rfl
    exact run_plain rfl (y_len Try.underlying34 e0)
  · intro ax tx hs okx sm
    exact run_plain rfl (y_move rfl)
  intro a7 s7 D7
  have ok7 := D7.ok
  have F7 := F6.step0 D7.stp
  have q14 : At (Ty.lst Ty.int r) s7 a7 (.tmp 0) := D7.kt q11 rfl
  have q15 : At (Ty.val (Value.slice none 0 0)) s7 a7 (.tmp 5) := D7.kt q12 rfl
  have q16 : (Pr.own 11 3 1 (List.length r) (List.map Ty.int (List.replicate (List.length r) 0))).has s7 (a7.eval (.tmp 6)) := D7.ko q13 rfl
  have q17 : At (Ty.nat (List.length r)) s7 a7 (.tmp 19) := D7.done 1
  have q18 : At (Ty.int (0 : Int)) s7 a7 (.tmp 20) := D7.done 2
  clear D7
  refine tn ?_
  refine wp_block ?_
  refine loop (fun n1 a8 w1 => ∃ (t1 : GW) (i : Nat), t1.w = w1 ∧ From s0 t1 ∧ Ok 52 a8 ∧ At (Ty.nat i) t1 a8 (.tmp 20) ∧ (Pr.own 2 34 1 (List.length (cyclesTo r i)) (List.map Ty.ints (cyclesTo r i))).has t1 (a8.eval (.tmp 5)) ∧ (Pr.own 11 3 1 (List.length (doneL r i 0)) (List.map Ty.int (doneL r i 0))).has t1 (a8.eval (.tmp 6)) ∧ At (Ty.lst Ty.int r) t1 a8 (.tmp 0) ∧ At (Ty.nat (List.length r)) t1 a8 (.tmp 19) ∧ (i ≤ r.length) ∧ n1 = r.length - i) (r.length - (0)) ?_ ?_
  ·
   exact ⟨s7, 0, rfl, F7, ok7, (cvi (by (first | rfl | omega | (simp_all; done) | (simp_all; omega))) q18), (by have e : a7.eval (.tmp 5) = _ := q15; rw [e]; exact Own.nil _ _ _ _), (cvo (by (simp [doneL_zero])) (by (simp [doneL_zero])) q16), q14, q17, by omega, rfl⟩
  ·
   rintro n2 a9 w2 ⟨t2, i, rfl, F8, ok8, q19, q20, q21, q22, q23, hk, rfl⟩
   have hcl := cyclesTo_len r i
   have hdl := doneL_len r i 0
   refine wp_seq ?_
   refine reg (a := a9) (σ := t2) rfl (fun i_ => List.getD [(Ty.pr (Ty.bool (decide (((i : Nat) : Int) < (((List.length r) : Nat) : Int)))))] i_ Pr.any) ok8 rfl ⟨?_, trivial⟩ ?_
   · intro ax tx hs okx sm
     exact run_plain rfl (y_lss (kp (sm 20 rfl) hs q19) (kp (sm 19 rfl) hs q23))
   intro a10 s8 D8
   have ok9 := D8.ok
   have F9 := F8.step0 D8.stp
   have q24 : At (Ty.nat i) s8 a10 (.tmp 20) := D8.kt q19 rfl
   have q25 : (Pr.own 2 34 1 (List.length (cyclesTo r i)) (List.map Ty.ints (cyclesTo r i))).has s8 (a10.eval (.tmp 5)) := D8.ko q20 rfl
   have q26 : (Pr.own 11 3 1 (List.length (doneL r i 0)) (List.map Ty.int (doneL r i 0))).has s8 (a10.eval (.tmp 6)) := D8.ko q21 rfl
   have q27 : At (Ty.lst Ty.int r) s8 a10 (.tmp 0) := D8.kt q22 rfl
   have q28 : At (Ty.nat (List.length r)) s8 a10 (.tmp 19) := D8.kt q23 rfl
   have q29 : At (Ty.bool (decide (((i : Nat) : Int) < (((List.length r) : Nat) : Int)))) s8 a10 (.tmp 21) := D8.done 0
   clear D8
   refine tn ?_
   refine wp_seq ?_
   refine cond_p (p := (((i : Nat) : Int) < (((List.length r) : Nat) : Int))) q29 (fun c2 => ?_) (fun c2 => ?_)
   ·
    have hper := per_spec hr (show i < r.length by omega)
    refine wp_skip ?_
    refine tn ?_
    refine wp_seq ?_
    refine wp_block ?_
    refine wp_seq ?_
    refine reg (a := a10) (σ := s8) rfl (fun i_ => List.getD [(Ty.pr (Ty.nat i)), (Ty.pr (Ty.nat i))] i_ Pr.any) ok9 rfl ⟨?_, ?_, trivial⟩ ?_
    · intro ax tx hs okx sm
      exact run_plain rfl (y_move (kp (sm 20 rfl) hs q24))
    · intro ax tx hs okx sm d0 d1
      have e0 : At (Ty.nat i) tx ax (.tmp 22) := d0 rfl
      exact run_plain rfl (y_assign e0)
    intro a11 s9 D9
    have ok10 := D9.ok
    have F10 := F9.step0 D9.stp
    have q30 : At (Ty.nat i) s9 a11 (.tmp 20) := D9.kt q24 rfl
    have q31 : (Pr.own 2 34 1 (List.length (cyclesTo r i)) (List.map Ty.ints (cyclesTo r i))).has s9 (a11.eval (.tmp 5)) := D9.ko q25 rfl
    have q32 : (Pr.own 11 3 1 (List.length (doneL r i 0)) (List.map Ty.int (doneL r i 0))).has s9 (a11.eval (.tmp 6)) := D9.ko q26 rfl
    have q33 : At (Ty.lst Ty.int r) s9 a11 (.tmp 0) := D9.kt q27 rfl
    have q34 : At (Ty.nat (List.length r)) s9 a11 (.tmp 19) := D9.kt q28 rfl
    have q35 : At (Ty.nat i) s9 a11 (.tmp 7) := D9.done 1
    clear D9
    refine tn ?_
    refine wp_seq ?_
    refine reg (a := a11) (σ := s9) rfl (fun i_ => List.getD [(Ty.pr (Ty.val (Value.slice none 0 0)))] i_ Pr.any) ok10 rfl ⟨?_, trivial⟩ ?_
    · intro ax tx hs okx sm
      exact run_plain rfl (y_assign rfl)
    intro a12 s10 D10
    have ok11 := D10.ok
    have F11 := F10.step0 D10.stp
    have q36 : At (Ty.nat i) s10 a12 (.tmp 20) := D10.kt q30 rfl
    have q37 : (Pr.own 2 34 1 (List.length (cyclesTo r i)) (List.map Ty.ints (cyclesTo r i))).has s10 (a12.eval (.tmp 5)) := D10.ko q31 rfl
    have q38 : (Pr.own 11 3 1 (List.length (doneL r i 0)) (List.map Ty.int (doneL r i 0))).has s10 (a12.eval (.tmp 6)) := D10.ko q32 rfl
    have q39 : At (Ty.lst Ty.int r) s10 a12 (.tmp 0) := D10.kt q33 rfl
    have q40 : At (Ty.nat (List.length r)) s10 a12 (.tmp 19) := D10.kt q34 rfl
    have q41 : At (Ty.nat i) s10 a12 (.tmp 7) := D10.kt q35 rfl
    have q42 : At (Ty.val (Value.slice none 0 0)) s10 a12 (.tmp 8) := D10.done 0
    clear D10
    refine tn ?_
    refine wp_seq ?_
    refine wp_seq ?_
    refine reg (a := a12) (σ := s10) rfl (fun i_ => List.getD [(Ty.pr (Ty.nat i)), (Ty.pr (Ty.nat i))] i_ Pr.any) ok11 rfl ⟨?_, ?_, trivial⟩ ?_
    · intro ax tx hs okx sm
      exact run_plain rfl (y_move (kp (sm 7 rfl) hs q41))
    · intro ax tx hs okx sm d0 d1
      have e0 : At (Ty.nat i) tx ax (.tmp 23) := d0 rfl
      exact run_plain rfl (y_assign e0)
    intro a13 s11 D11
    have ok12 := D11.ok
    have F12 := F11.step0 D11.stp
    have q43 : At (Ty.nat i) s11 a13 (.tmp 20) := D11.kt q36 rfl
    have q44 : (Pr.own 2 34 1 (List.length (cyclesTo r i)) (List.map Ty.ints (cyclesTo r i))).has s11 (a13.eval (.tmp 5)) := D11.ko q37 rfl
    have q45 : (Pr.own 11 3 1 (List.length (doneL r i 0)) (List.map Ty.int (doneL r i 0))).has s11 (a13.eval (.tmp 6)) := D11.ko q38 rfl
    have q46 : At (Ty.lst Ty.int r) s11 a13 (.tmp 0) := D11.kt q39 rfl
    have q47 : At (Ty.nat (List.length r)) s11 a13 (.tmp 19) := D11.kt q40 rfl
    have q48 : At (Ty.val (Value.slice none 0 0)) s11 a13 (.tmp 8) := D11.kt q42 rfl
    have q49 : At (Ty.nat i) s11 a13 (.tmp 9) := D11.done 1
    clear D11
    refine tn ?_
    refine wp_block ?_
    refine loop (fun n3 a14 w3 => ∃ (t3 : GW) (m : Nat), t3.w = w3 ∧ From s0 t3 ∧ Ok 52 a14 ∧ (Pr.own 11 3 1 (List.length (doneL r i m)) (List.map Ty.int (doneL r i m))).has t3 (a14.eval (.tmp 6)) ∧ (Pr.own 3 3 1 (List.length (orbTo r i m)) (List.map Ty.int (orbTo r i m))).has t3 (a14.eval (.tmp 8)) ∧ At (Ty.nat (itr r i m)) t3 a14 (.tmp 9) ∧ At (Ty.nat i) t3 a14 (.tmp 20) ∧ (Pr.own 2 34 1 (List.length (cyclesTo r i)) (List.map Ty.ints (cyclesTo r i))).has t3 (a14.eval (.tmp 5)) ∧ At (Ty.lst Ty.int r) t3 a14 (.tmp 0) ∧ At (Ty.nat (List.length r)) t3 a14 (.tmp 19) ∧ (m ≤ per r i) ∧ (m = 0 ∨ least r i = true) ∧ n3 = per r i + 1 - m) (per r i + 1 - (0)) ?_ ?_
    ·
     exact ⟨s11, 0, rfl, F12, ok12, (cvo (by (simp)) (by (simp)) q45), (by have e : a13.eval (.tmp 8) = _ := q48; rw [e]; exact Own.nil _ _ _ _), (cvi (by (first | rfl | omega | (simp_all; done) | (simp_all; omega))) q49), q43, q44, q46, q47, by omega, .inl rfl, rfl⟩
    ·
     rintro n4 a15 w4 ⟨t4, m, rfl, F13, ok13, q50, q51, q52, q53, q54, q55, q56, hm, hml, rfl⟩
     have hdm := doneL_len r i m
     have hit := itr_lt hr (show i < r.length by omega) m
     have h01 := doneL_01 r i m (itr r i m)
     have hol := orbTo_len r i m
     refine wp_seq ?_
     refine wp_seq ?_
     refine reg (a := a15) (σ := t4) rfl (fun i_ => List.getD [(Ty.pr (Ty.val (a15.eval (.tmp 6)))), (Ty.pr (Ty.nat (itr r i m))), (Ty.pr (Ty.val (cellPtr (a15.eval (.tmp 6)) (itr r i m)))), (Ty.pr (Ty.int ((doneL r i m).getD (itr r i m) 0))), (Ty.pr (Ty.bool (decide (((doneL r i m).getD (itr r i m) 0) = (0 : Int)))))] i_ Pr.any) ok13 rfl ⟨?_, ?_, ?_, ?_, ?_, trivial⟩ ?_
     · intro ax tx hs okx sm
       exact run_plain rfl (y_move (sm 6 rfl))
     · intro ax tx hs okx sm
       exact run_plain rfl (y_move (kp (sm 9 rfl) hs q52))
     · intro ax tx hs okx sm d0 d1
       have e0 : At (Ty.val (a15.eval (.tmp 6))) tx ax (.tmp 24) := d0 rfl
       have e1 : At (Ty.nat (itr r i m)) tx ax (.tmp 25) := d1 rfl
       exact run_plain rfl (own_index1 (i := (((itr r i m) : Nat) : Int)) Try.underlying34 Try.inf3 ((Pr.own 11 3 1 (List.length (doneL r i m)) (List.map Ty.int (doneL r i m))).up hs q50) e0 e1 (by omega) (by omega))
     · intro ax tx hs okx sm d0
       have e2 : At (Ty.val (cellPtr (a15.eval (.tmp 6)) (itr r i m))) tx ax (.tmp 26) := d0 rfl
       exact run_plain rfl (own_load Try.underlying3 rfl ((Pr.own 11 3 1 (List.length (doneL r i m)) (List.map Ty.int (doneL r i m))).up hs q50) e2 (lst_get Ty.int (doneL r i m) 0 (itr r i m) (by omega)))
     · intro ax tx hs okx sm d0
       have e3 : At (Ty.int ((doneL r i m).getD (itr r i m) 0)) tx ax (.tmp 27) := d0 rfl
       exact run_plain rfl (y_eql e3 rfl)
     intro a16 s12 D12
     have ok14 := D12.ok
     have F14 := F13.step0 D12.stp
     have q57 : (Pr.own 11 3 1 (List.length (doneL r i m)) (List.map Ty.int (doneL r i m))).has s12 (a16.eval (.tmp 6)) := D12.ko q50 rfl
     have q58 : (Pr.own 3 3 1 (List.length (orbTo r i m)) (List.map Ty.int (orbTo r i m))).has s12 (a16.eval (.tmp 8)) := D12.ko q51 rfl
     have q59 : At (Ty.nat (itr r i m)) s12 a16 (.tmp 9) := D12.kt q52 rfl
     have q60 : At (Ty.nat i) s12 a16 (.tmp 20) := D12.kt q53 rfl
     have q61 : (Pr.own 2 34 1 (List.length (cyclesTo r i)) (List.map Ty.ints (cyclesTo r i))).has s12 (a16.eval (.tmp 5)) := D12.ko q54 rfl
     have q62 : At (Ty.lst Ty.int r) s12 a16 (.tmp 0) := D12.kt q55 rfl
     have q63 : At (Ty.nat (List.length r)) s12 a16 (.tmp 19) := D12.kt q56 rfl
     have q64 : At (Ty.bool (decide (((doneL r i m).getD (itr r i m) 0) = (0 : Int)))) s12 a16 (.tmp 28) := D12.done 4
     clear D12
     refine tn ?_
     refine cond_p (p := (((doneL r i m).getD (itr r i m) 0) = (0 : Int))) q64 (fun c3 => ?_) (fun c3 => ?_)
     ·
      have hq := hr.at (itr_lt hr (show i < r.length by omega) m)
      refine wp_skip ?_
      refine tn ?_
      refine wp_seq ?_
      refine wp_block ?_
      refine wp_seq ?_
      refine reg2 (a := a16) (σ := s12) rfl 6 (fun i_ => List.getD [(Ty.pr (Ty.val (a16.eval (.tmp 6)))), (Ty.pr (Ty.nat (itr r i m))), (Ty.pr (Ty.val (cellPtr (a16.eval (.tmp 6)) (itr r i m)))), (Ty.pr (Ty.int ((doneL r i m).getD (itr r i m) 0))), (Ty.pr (Ty.int (((doneL r i m).getD (itr r i m) 0) + (1 : Int)))), (Ty.pr (Ty.val (cellPtr (a16.eval (.tmp 6)) (itr r i m))))] i_ Pr.any) ok14 rfl (by decide) rfl ⟨?_, ?_, ?_, ?_, ?_, ?_, trivial⟩ ?_
      · intro ax tx hs okx sm
        exact run_plain rfl (y_move (sm 6 rfl))
      · intro ax tx hs okx sm
        exact run_plain rfl (y_move (kp (sm 9 rfl) hs q59))
      · intro ax tx hs okx sm d0 d1
        have e0 : At (Ty.val (a16.eval (.tmp 6))) tx ax (.tmp 33) := d0 rfl
        have e1 : At (Ty.nat (itr r i m)) tx ax (.tmp 34) := d1 rfl
        exact run_plain rfl (own_index1 (i := (((itr r i m) : Nat) : Int)) Try.underlying34 Try.inf3 ((Pr.own 11 3 1 (List.length (doneL r i m)) (List.map Ty.int (doneL r i m))).up hs q57) e0 e1 (by omega) (by omega))
      · intro ax tx hs okx sm d0
        have e2 : At (Ty.val (cellPtr (a16.eval (.tmp 6)) (itr r i m))) tx ax (.tmp 35) := d0 rfl
        exact run_plain rfl (own_load Try.underlying3 rfl ((Pr.own 11 3 1 (List.length (doneL r i m)) (List.map Ty.int (doneL r i m))).up hs q57) e2 (lst_get Ty.int (doneL r i m) 0 (itr r i m) (by omega)))
      · intro ax tx hs okx sm d0
        have e3 : At (Ty.int ((doneL r i m).getD (itr r i m) 0)) tx ax (.tmp 36) := d0 rfl
        exact run_plain rfl (y_add e3 rfl (w64 (by omega) (by omega)))
      · intro ax tx hs okx sm d0 d1 d2 d3 d4 d5 d6
        have e0 : At (Ty.val (a16.eval (.tmp 6))) tx ax (.tmp 33) := d0 rfl
        have e1 : At (Ty.nat (itr r i m)) tx ax (.tmp 34) := d1 rfl
        have e2 : At (Ty.val (cellPtr (a16.eval (.tmp 6)) (itr r i m))) tx ax (.tmp 35) := d4 rfl
        have e3 : At (Ty.int ((doneL r i m).getD (itr r i m) 0)) tx ax (.tmp 36) := d5 rfl
        have e4 : At (Ty.int (((doneL r i m).getD (itr r i m) 0) + (1 : Int))) tx ax (.tmp 37) := d6 rfl
        exact run_plain rfl (own_index1 (i := (((itr r i m) : Nat) : Int)) Try.underlying34 Try.inf3 ((Pr.own 11 3 1 (List.length (doneL r i m)) (List.map Ty.int (doneL r i m))).up hs q57) e0 e1 (by omega) (by omega))
      intro a17 s13 D13
      have ok15 := D13.ok
      have F15 := F14.step0 D13.stp
      have q65 := (Pr.own 11 3 1 (List.length (doneL r i m)) (List.map Ty.int (doneL r i m))).up D13.stp q57
      have q66 := (Pr.own 3 3 1 (List.length (orbTo r i m)) (List.map Ty.int (orbTo r i m))).up D13.stp q58
      have q67 := (Pr.own 2 34 1 (List.length (cyclesTo r i)) (List.map Ty.ints (cyclesTo r i))).up D13.stp q61
      have q68 : a17.eval (.tmp 6) = a16.eval (.tmp 6) := D13.same 6 rfl
      have q69 : a17.eval (.tmp 8) = a16.eval (.tmp 8) := D13.same 8 rfl
      have q70 : At (Ty.nat (itr r i m)) s13 a17 (.tmp 9) := D13.kt q59 rfl
      have q71 : At (Ty.nat i) s13 a17 (.tmp 20) := D13.kt q60 rfl
      have q72 : a17.eval (.tmp 5) = a16.eval (.tmp 5) := D13.same 5 rfl
      have q73 : At (Ty.lst Ty.int r) s13 a17 (.tmp 0) := D13.kt q62 rfl
      have q74 : At (Ty.nat (List.length r)) s13 a17 (.tmp 19) := D13.kt q63 rfl
      have q75 : At (Ty.int (((doneL r i m).getD (itr r i m) 0) + (1 : Int))) s13 a17 (.tmp 37) := D13.done 4 (by decide)
      have q76 : At (Ty.val (cellPtr (a16.eval (.tmp 6)) (itr r i m))) s13 a17 (.tmp 38) := D13.done 5 (by decide)
      clear D13
      refine tail_step0 (m := 11) (R := (fun _ τ => Own τ 11 3 1 (a16.eval (.tmp 6)) (List.length (doneL r i m)) ((List.map Ty.int (doneL r i m)).set (itr r i m) (Ty.int (((doneL r i m).getD (itr r i m) 0) + (1 : Int)))))) rfl rfl (m_store Try.inf3 (by decide) q65 q76 (by simp only [List.length_map, List.length_set]; omega) q75 (one_val rfl)) (fun v1 s14 hs1 r1 => ?_)
      have F16 := F15.step hs1 (by decide)
      have q77 : At (Ty.nat (itr r i m)) s14 a17 (.tmp 9) := kpm hs1 (by decide) rfl q70
      have q78 : At (Ty.nat i) s14 a17 (.tmp 20) := kpm hs1 (by decide) rfl q71
      have q79 : At (Ty.lst Ty.int r) s14 a17 (.tmp 0) := kpm hs1 (by decide) rfl q73
      have q80 : At (Ty.nat (List.length r)) s14 a17 (.tmp 19) := kpm hs1 (by decide) rfl q74
      have q81 : At (Ty.int (((doneL r i m).getD (itr r i m) 0) + (1 : Int))) s14 a17 (.tmp 37) := kpm hs1 (by decide) rfl q75
      have q82 : (Pr.own 11 3 1 (List.length ((doneL r i m).set (itr r i m) (((doneL r i m).getD (itr r i m) 0) + (1 : Int)))) (List.map Ty.int ((doneL r i m).set (itr r i m) (((doneL r i m).getD (itr r i m) 0) + (1 : Int))))).has s14 (a16.eval (.tmp 6)) := (cvo (by simp) (by simp) r1)
      have q83 := Own.keep q66 hs1 (by decide) (.inr (by decide))
      have q84 := Own.keep q67 hs1 (by decide) (.inr (by decide))
      refine wpList_nil ?_
      have q85 : (Pr.own 11 3 1 (List.length ((doneL r i m).set (itr r i m) (((doneL r i m).getD (itr r i m) 0) + (1 : Int)))) (List.map Ty.int ((doneL r i m).set (itr r i m) (((doneL r i m).getD (itr r i m) 0) + (1 : Int))))).has s14 (a17.eval (.tmp 6)) := al q68 q82
      have q86 : (Pr.own 3 3 1 (List.length (orbTo r i m)) (List.map Ty.int (orbTo r i m))).has s14 (a17.eval (.tmp 8)) := al q69 q83
      have q87 : (Pr.own 2 34 1 (List.length (cyclesTo r i)) (List.map Ty.ints (cyclesTo r i))).has s14 (a17.eval (.tmp 5)) := al q72 q84
      refine tn ?_
      refine reg2 (a := a17) (σ := s14) rfl 3 (fun i_ => List.getD [(Ty.pr (Ty.val (a17.eval (.tmp 8)))), (Ty.pr (Ty.nat (itr r i m))), (Ty.pr (Ty.sl 1 1 [(Ty.nat (itr r i m))]))] i_ Pr.any) ok15 rfl (by decide) rfl ⟨?_, ?_, ?_, trivial⟩ ?_
      · intro ax tx hs okx sm
        exact run_plain rfl (y_move (sm 8 rfl))
      · intro ax tx hs okx sm
        exact run_plain rfl (y_move (kp (sm 9 rfl) hs q77))
      · intro ax tx hs okx sm d0
        have e1 : At (Ty.nat (itr r i m)) tx ax (.tmp 40) := d0 rfl
        exact run_plain rfl (y_build1o Try.underlying34 Try.inf3 rfl (one_val rfl) e1)
      intro a19 s15 D14
      have ok17 := D14.ok
      have F17 := F16.step0 D14.stp
      have q88 := (Pr.own 11 3 1 (List.length ((doneL r i m).set (itr r i m) (((doneL r i m).getD (itr r i m) 0) + (1 : Int)))) (List.map Ty.int ((doneL r i m).set (itr r i m) (((doneL r i m).getD (itr r i m) 0) + (1 : Int))))).up D14.stp q85
      have q89 := (Pr.own 3 3 1 (List.length (orbTo r i m)) (List.map Ty.int (orbTo r i m))).up D14.stp q86
      have q90 := (Pr.own 2 34 1 (List.length (cyclesTo r i)) (List.map Ty.ints (cyclesTo r i))).up D14.stp q87
      have q91 : a19.eval (.tmp 6) = a17.eval (.tmp 6) := D14.same 6 rfl
      have q92 : a19.eval (.tmp 8) = a17.eval (.tmp 8) := D14.same 8 rfl
      have q93 : At (Ty.nat (itr r i m)) s15 a19 (.tmp 9) := D14.kt q77 rfl
      have q94 : At (Ty.nat i) s15 a19 (.tmp 20) := D14.kt q78 rfl
      have q95 : a19.eval (.tmp 5) = a17.eval (.tmp 5) := D14.same 5 rfl
      have q96 : At (Ty.lst Ty.int r) s15 a19 (.tmp 0) := D14.kt q79 rfl
      have q97 : At (Ty.nat (List.length r)) s15 a19 (.tmp 19) := D14.kt q80 rfl
      have q98 : At (Ty.val (a17.eval (.tmp 8))) s15 a19 (.tmp 39) := D14.done 0 (by decide)
      have q99 : At (Ty.sl 1 1 [(Ty.nat (itr r i m))]) s15 a19 (.tmp 41) := D14.done 2 (by decide)
      clear D14
      refine tail_step (m := 3) (R := (fun v τ => Own τ 3 3 1 v ((List.length (orbTo r i m)) + 1) ((List.map Ty.int (orbTo r i m)) ++ [(Ty.nat (itr r i m))]))) rfl rfl (by decide) ok17 (m_append Try.underlying34 Try.inf3 (by decide) rfl (by decide) (al q98 q89) q99 (by intro U hU; simp at hU;  subst hU; exact one_val rfl) (by omega) (by omega)) (fun a20 s16 hs2 ok18 r2 sm2 => ?_)
      have F18 := F17.step hs2 (by decide)
      have q100 := Own.keep q88 hs2 (by decide) (.inr (by decide))
      have q101 := Own.keep q90 hs2 (by decide) (.inr (by decide))
      have q102 := (sm2 6 (by decide)).trans q91
      have q103 : At (Ty.nat (itr r i m)) s16 a20 (.tmp 9) := kpm hs2 (by decide) (sm2 9 (by decide)) q93
      have q104 : At (Ty.nat i) s16 a20 (.tmp 20) := kpm hs2 (by decide) (sm2 20 (by decide)) q94
      have q105 := (sm2 5 (by decide)).trans q95
      have q106 : At (Ty.lst Ty.int r) s16 a20 (.tmp 0) := kpm hs2 (by decide) (sm2 0 (by decide)) q96
      have q107 : At (Ty.nat (List.length r)) s16 a20 (.tmp 19) := kpm hs2 (by decide) (sm2 19 (by decide)) q97
      have q108 : At (Ty.sl 1 1 [(Ty.nat (itr r i m))]) s16 a20 (.tmp 41) := kpm hs2 (by decide) (sm2 41 (by decide)) q99
      have q109 : (Pr.own 3 3 1 (List.length ((orbTo r i m) ++ [(((itr r i m) : Nat) : Int)])) (List.map Ty.int ((orbTo r i m) ++ [(((itr r i m) : Nat) : Int)]))).has s16 (a20.eval (.tmp 42)) := (cvo (by simp) (by first | (rw [List.map_append]; rfl) | simp) r2)
      refine tail_step (m := 0) (R := (fun v τ => Pr.has (Pr.own 3 3 1 (List.length ((orbTo r i m) ++ [(((itr r i m) : Nat) : Int)])) (List.map Ty.int ((orbTo r i m) ++ [(((itr r i m) : Nat) : Int)]))) τ v)) rfl rfl (by decide) ok18 (Yld.toM (y_assign q109)) (fun a21 s17 hs3 ok19 r3 sm3 => ?_)
      have F19 := F18.step hs3 (by decide)
      have q110 := Own.keep q100 hs3 (by decide) (.inl rfl)
      have q111 := Own.keep q101 hs3 (by decide) (.inl rfl)
      have q112 := (sm3 6 (by decide)).trans q102
      have q113 : At (Ty.nat (itr r i m)) s17 a21 (.tmp 9) := kpm hs3 (by decide) (sm3 9 (by decide)) q103
      have q114 : At (Ty.nat i) s17 a21 (.tmp 20) := kpm hs3 (by decide) (sm3 20 (by decide)) q104
      have q115 := (sm3 5 (by decide)).trans q105
      have q116 : At (Ty.lst Ty.int r) s17 a21 (.tmp 0) := kpm hs3 (by decide) (sm3 0 (by decide)) q106
      have q117 : At (Ty.nat (List.length r)) s17 a21 (.tmp 19) := kpm hs3 (by decide) (sm3 19 (by decide)) q107
      have q118 : At (Ty.sl 1 1 [(Ty.nat (itr r i m))]) s17 a21 (.tmp 41) := kpm hs3 (by decide) (sm3 41 (by decide)) q108
      have q119 : (Pr.own 3 3 1 (List.length ((orbTo r i m) ++ [(((itr r i m) : Nat) : Int)])) (List.map Ty.int ((orbTo r i m) ++ [(((itr r i m) : Nat) : Int)]))).has s17 (a21.eval (.tmp 42)) := kpmo hs3 (by decide) (.inl rfl) (sm3 42 (by decide)) q109
      have q120 : (Pr.own 3 3 1 (List.length ((orbTo r i m) ++ [(((itr r i m) : Nat) : Int)])) (List.map Ty.int ((orbTo r i m) ++ [(((itr r i m) : Nat) : Int)]))).has s17 (a21.eval (.tmp 8)) := r3
      refine wpList_nil ?_
      have q121 : (Pr.own 11 3 1 (List.length ((doneL r i m).set (itr r i m) (((doneL r i m).getD (itr r i m) 0) + (1 : Int)))) (List.map Ty.int ((doneL r i m).set (itr r i m) (((doneL r i m).getD (itr r i m) 0) + (1 : Int))))).has s17 (a21.eval (.tmp 6)) := al q112 q110
      have q122 : (Pr.own 2 34 1 (List.length (cyclesTo r i)) (List.map Ty.ints (cyclesTo r i))).has s17 (a21.eval (.tmp 5)) := al q115 q111
      refine bn ?_
      refine tn ?_
      refine reg (a := a21) (σ := s17) rfl (fun i_ => List.getD [(Ty.pr (Ty.lst Ty.int r)), (Ty.pr (Ty.nat (itr r i m))), (Ty.pr (Ty.ref [(Ty.int (r.getD (itr r i m) 0))])), (Ty.pr (Ty.int (r.getD (itr r i m) 0))), (Ty.pr (Ty.int (r.getD (itr r i m) 0)))] i_ Pr.any) ok19 rfl ⟨?_, ?_, ?_, ?_, ?_, trivial⟩ ?_
      · intro ax tx hs okx sm
        exact run_plain rfl (y_move (kp (sm 0 rfl) hs q116))
      · intro ax tx hs okx sm
        exact run_plain rfl (y_move (kp (sm 9 rfl) hs q113))
      · intro ax tx hs okx sm d0 d1
        have e0 : At (Ty.lst Ty.int r) tx ax (.tmp 29) := d0 rfl
        have e1 : At (Ty.nat (itr r i m)) tx ax (.tmp 30) := d1 rfl
        exact run_plain rfl (y_index1 Try.underlying34 Try.inf3 e0 e1 (by omega) (lst_get Ty.int r 0 (itr r i m) (by omega)))
      · intro ax tx hs okx sm d0
        have e2 : At (Ty.ref [(Ty.int (r.getD (itr r i m) 0))]) tx ax (.tmp 31) := d0 rfl
        exact run_plain rfl (y_load Try.underlying3 rfl e2 rfl)
      · intro ax tx hs okx sm d0 d1 d2 d3 d4
        have e3 : At (Ty.int (r.getD (itr r i m) 0)) tx ax (.tmp 32) := d0 rfl
        have e0 : At (Ty.lst Ty.int r) tx ax (.tmp 29) := d1 rfl
        have e1 : At (Ty.nat (itr r i m)) tx ax (.tmp 30) := d2 rfl
        have e2 : At (Ty.ref [(Ty.int (r.getD (itr r i m) 0))]) tx ax (.tmp 31) := d3 rfl
        exact run_plain rfl (y_assign e3)
      intro a22 s18 D15
      have ok20 := D15.ok
      have F20 := F19.step0 D15.stp
      have q123 : (Pr.own 11 3 1 (List.length ((doneL r i m).set (itr r i m) (((doneL r i m).getD (itr r i m) 0) + (1 : Int)))) (List.map Ty.int ((doneL r i m).set (itr r i m) (((doneL r i m).getD (itr r i m) 0) + (1 : Int))))).has s18 (a22.eval (.tmp 6)) := D15.ko q121 rfl
      have q124 : At (Ty.nat i) s18 a22 (.tmp 20) := D15.kt q114 rfl
      have q125 : (Pr.own 2 34 1 (List.length (cyclesTo r i)) (List.map Ty.ints (cyclesTo r i))).has s18 (a22.eval (.tmp 5)) := D15.ko q122 rfl
      have q126 : At (Ty.lst Ty.int r) s18 a22 (.tmp 0) := D15.kt q116 rfl
      have q127 : At (Ty.nat (List.length r)) s18 a22 (.tmp 19) := D15.kt q117 rfl
      have q128 : (Pr.own 3 3 1 (List.length ((orbTo r i m) ++ [(((itr r i m) : Nat) : Int)])) (List.map Ty.int ((orbTo r i m) ++ [(((itr r i m) : Nat) : Int)]))).has s18 (a22.eval (.tmp 8)) := D15.ko q120 rfl
      have q129 : At (Ty.int (r.getD (itr r i m) 0)) s18 a22 (.tmp 9) := D15.done 4
      clear D15
      have hlst := cyc_least hr (show i < r.length by omega) hml c3
      have hlt := (done_mid hr (show i < r.length by omega) hlst hm).1 c3
      exact tn ⟨per r i + 1 - ((m+1)), by omega, s18, (m+1), rfl, F20, ok20, (cvo (by (first | (rw [c3]; exact congrArg _ (doneL_step hr (by omega) c3)) | (rw [c3]; exact congrArg _ (congrArg _ (doneL_step hr (by omega) c3))))) (by (first | (rw [c3]; exact congrArg _ (doneL_step hr (by omega) c3)) | (rw [c3]; exact congrArg _ (congrArg _ (doneL_step hr (by omega) c3))))) q123), (cvo (by (rw [orbTo_succ])) (by (rw [orbTo_succ])) q128), (cvi (by (exact (nxt_int hr (by omega)).symm)) q129), q124, q125, q126, q127, by omega, .inr hlst, rfl⟩
     ·
      refine wp_exit ?_
      refine tx ?_
      refine tx ?_
      refine bx ?_
      refine tn ?_
      refine wp_seq ?_
      refine reg (a := a16) (σ := s12) rfl (fun i_ => List.getD [(Ty.pr (Ty.val (a16.eval (.tmp 8)))), (Ty.pr (Ty.nat (List.length (orbTo r i m)))), (Ty.pr (Ty.bool (decide ((0 : Int) < (((List.length (orbTo r i m)) : Nat) : Int)))))] i_ Pr.any) ok14 rfl ⟨?_, ?_, ?_, trivial⟩ ?_
      · intro ax tx hs okx sm
        exact run_plain rfl (y_move (sm 8 rfl))
      · intro ax tx hs okx sm d0
        have e0 : At (Ty.val (a16.eval (.tmp 8))) tx ax (.tmp 43) := d0 rfl
        exact run_plain rfl (own_len Try.underlying34 (al e0 ((Pr.own 3 3 1 (List.length (orbTo r i m)) (List.map Ty.int (orbTo r i m))).up hs q58)))
      · intro ax tx hs okx sm d0
        have e1 : At (Ty.nat (List.length (orbTo r i m))) tx ax (.tmp 44) := d0 rfl
        exact run_plain rfl (y_gtr e1 rfl)
      intro a23 s19 D16
      have ok21 := D16.ok
      have F21 := F14.step0 D16.stp
      have q130 : (Pr.own 11 3 1 (List.length (doneL r i m)) (List.map Ty.int (doneL r i m))).has s19 (a23.eval (.tmp 6)) := D16.ko q57 rfl
      have q131 : (Pr.own 3 3 1 (List.length (orbTo r i m)) (List.map Ty.int (orbTo r i m))).has s19 (a23.eval (.tmp 8)) := D16.ko q58 rfl
      have q132 : At (Ty.nat i) s19 a23 (.tmp 20) := D16.kt q60 rfl
      have q133 : (Pr.own 2 34 1 (List.length (cyclesTo r i)) (List.map Ty.ints (cyclesTo r i))).has s19 (a23.eval (.tmp 5)) := D16.ko q61 rfl
      have q134 : At (Ty.lst Ty.int r) s19 a23 (.tmp 0) := D16.kt q62 rfl
      have q135 : At (Ty.nat (List.length r)) s19 a23 (.tmp 19) := D16.kt q63 rfl
      have q136 : At (Ty.bool (decide ((0 : Int) < (((List.length (orbTo r i m)) : Nat) : Int)))) s19 a23 (.tmp 45) := D16.done 2
      clear D16
      refine tn ?_
      refine cond_p (p := ((0 : Int) < (((List.length (orbTo r i m)) : Nat) : Int))) q136 (fun c4 => ?_) (fun c4 => ?_)
      ·
       have hml2 := cyc_some hr (by omega) hm hml c3 (by simpa [orbTo_len] using c4)
       obtain ⟨t5, e1, h1, q137⟩ := Own.seal q131 (by decide)
       rw [← e1]
       have F22 := F21.step h1 (by decide)
       have q138 := Own.keep q130 h1 (by decide) (.inr (by decide))
       have q139 := Ty.up (Ty.nat i) (h1.le (by decide)) q132
       have q140 := Own.keep q133 h1 (by decide) (.inr (by decide))
       have q141 := Ty.up (Ty.lst Ty.int r) (h1.le (by decide)) q134
       have q142 := Ty.up (Ty.nat (List.length r)) (h1.le (by decide)) q135
       have q143 := Ty.up (Ty.bool (decide ((0 : Int) < (((List.length (orbTo r i m)) : Nat) : Int)))) (h1.le (by decide)) q136
       refine reg2 (a := a23) (σ := t5) rfl 3 (fun i_ => List.getD [(Ty.pr (Ty.val (a23.eval (.tmp 5)))), (Ty.pr (Ty.lst Ty.int (orbTo r i m))), (Ty.pr (Ty.sl 1 1 [(Ty.lst Ty.int (orbTo r i m))]))] i_ Pr.any) ok21 rfl (by decide) rfl ⟨?_, ?_, ?_, trivial⟩ ?_
       · intro ax tx hs okx sm
         exact run_plain rfl (y_move (sm 5 rfl))
       · intro ax tx hs okx sm
         exact run_plain rfl (y_move (kp (sm 8 rfl) hs q137))
       · intro ax tx hs okx sm d0
         have e1 : At (Ty.lst Ty.int (orbTo r i m)) tx ax (.tmp 47) := d0 rfl
         exact run_plain rfl (y_build1o Try.underlying33 Try.inf34 rfl (one_sl) e1)
       intro a24 s20 D17
       have ok22 := D17.ok
       have F23 := F22.step0 D17.stp
       have q144 := (Pr.own 11 3 1 (List.length (doneL r i m)) (List.map Ty.int (doneL r i m))).up D17.stp q138
       have q145 := (Pr.own 2 34 1 (List.length (cyclesTo r i)) (List.map Ty.ints (cyclesTo r i))).up D17.stp q140
       have q146 : a24.eval (.tmp 6) = a23.eval (.tmp 6) := D17.same 6 rfl
       have q147 : At (Ty.nat i) s20 a24 (.tmp 20) := D17.kt q139 rfl
       have q148 : a24.eval (.tmp 5) = a23.eval (.tmp 5) := D17.same 5 rfl
       have q149 : At (Ty.lst Ty.int r) s20 a24 (.tmp 0) := D17.kt q141 rfl
       have q150 : At (Ty.nat (List.length r)) s20 a24 (.tmp 19) := D17.kt q142 rfl
       have q151 : At (Ty.val (a23.eval (.tmp 5))) s20 a24 (.tmp 46) := D17.done 0 (by decide)
       have q152 : At (Ty.sl 1 1 [(Ty.lst Ty.int (orbTo r i m))]) s20 a24 (.tmp 48) := D17.done 2 (by decide)
       clear D17
       refine tail_step (m := 2) (R := (fun v τ => Own τ 2 34 1 v ((List.length (cyclesTo r i)) + 1) ((List.map Ty.ints (cyclesTo r i)) ++ [(Ty.lst Ty.int (orbTo r i m))]))) rfl rfl (by decide) ok22 (m_append Try.underlying33 Try.inf34 (by decide) rfl (by decide) (al q151 q145) q152 (by intro U hU; simp at hU;  subst hU; exact one_sl) (by omega) (by omega)) (fun a25 s21 hs4 ok23 r4 sm4 => ?_)
       have F24 := F23.step hs4 (by decide)
       have q153 := Own.keep q144 hs4 (by decide) (.inr (by decide))
       have q154 := (sm4 6 (by decide)).trans q146
       have q155 : At (Ty.nat i) s21 a25 (.tmp 20) := kpm hs4 (by decide) (sm4 20 (by decide)) q147
       have q156 : At (Ty.lst Ty.int r) s21 a25 (.tmp 0) := kpm hs4 (by decide) (sm4 0 (by decide)) q149
       have q157 : At (Ty.nat (List.length r)) s21 a25 (.tmp 19) := kpm hs4 (by decide) (sm4 19 (by decide)) q150
       have q158 : At (Ty.sl 1 1 [(Ty.lst Ty.int (orbTo r i m))]) s21 a25 (.tmp 48) := kpm hs4 (by decide) (sm4 48 (by decide)) q152
       have q159 : (Pr.own 2 34 1 (List.length ((cyclesTo r i) ++ [(orbTo r i m)])) (List.map Ty.ints ((cyclesTo r i) ++ [(orbTo r i m)]))).has s21 (a25.eval (.tmp 49)) := (cvo (by simp) (by first | (rw [List.map_append]; rfl) | simp) r4)
       refine tail_step (m := 0) (R := (fun v τ => Pr.has (Pr.own 2 34 1 (List.length ((cyclesTo r i) ++ [(orbTo r i m)])) (List.map Ty.ints ((cyclesTo r i) ++ [(orbTo r i m)]))) τ v)) rfl rfl (by decide) ok23 (Yld.toM (y_assign q159)) (fun a26 s22 hs5 ok24 r5 sm5 => ?_)
       have F25 := F24.step hs5 (by decide)
       have q160 := Own.keep q153 hs5 (by decide) (.inl rfl)
       have q161 := (sm5 6 (by decide)).trans q154
       have q162 : At (Ty.nat i) s22 a26 (.tmp 20) := kpm hs5 (by decide) (sm5 20 (by decide)) q155
       have q163 : At (Ty.lst Ty.int r) s22 a26 (.tmp 0) := kpm hs5 (by decide) (sm5 0 (by decide)) q156
       have q164 : At (Ty.nat (List.length r)) s22 a26 (.tmp 19) := kpm hs5 (by decide) (sm5 19 (by decide)) q157
       have q165 : At (Ty.sl 1 1 [(Ty.lst Ty.int (orbTo r i m))]) s22 a26 (.tmp 48) := kpm hs5 (by decide) (sm5 48 (by decide)) q158
       have q166 : (Pr.own 2 34 1 (List.length ((cyclesTo r i) ++ [(orbTo r i m)])) (List.map Ty.ints ((cyclesTo r i) ++ [(orbTo r i m)]))).has s22 (a26.eval (.tmp 49)) := kpmo hs5 (by decide) (.inl rfl) (sm5 49 (by decide)) q159
       have q167 : (Pr.own 2 34 1 (List.length ((cyclesTo r i) ++ [(orbTo r i m)])) (List.map Ty.ints ((cyclesTo r i) ++ [(orbTo r i m)]))).has s22 (a26.eval (.tmp 5)) := r5
       refine wpList_nil ?_
       have q168 : (Pr.own 11 3 1 (List.length (doneL r i m)) (List.map Ty.int (doneL r i m))).has s22 (a26.eval (.tmp 6)) := al q161 q160
       refine bn ?_
       refine tn ?_
       refine reg (a := a26) (σ := s22) rfl (fun i_ => List.getD [(Ty.pr (Ty.int (((i : Nat) : Int) + (1 : Int)))), (Ty.pr (Ty.int (((i : Nat) : Int) + (1 : Int))))] i_ Pr.any) ok24 rfl ⟨?_, ?_, trivial⟩ ?_
       · intro ax tx hs okx sm
         exact run_plain rfl (y_add (kp (sm 20 rfl) hs q162) rfl (w64 (by omega) (by omega)))
       · intro ax tx hs okx sm d0
         have e0 : At (Ty.int (((i : Nat) : Int) + (1 : Int))) tx ax (.tmp 50) := d0 rfl
         exact run_plain rfl (y_move e0)
       intro a27 s23 D18
       have ok25 := D18.ok
       have F26 := F25.step0 D18.stp
       have q169 : (Pr.own 11 3 1 (List.length (doneL r i m)) (List.map Ty.int (doneL r i m))).has s23 (a27.eval (.tmp 6)) := D18.ko q168 rfl
       have q170 : At (Ty.lst Ty.int r) s23 a27 (.tmp 0) := D18.kt q163 rfl
       have q171 : At (Ty.nat (List.length r)) s23 a27 (.tmp 19) := D18.kt q164 rfl
       have q172 : (Pr.own 2 34 1 (List.length ((cyclesTo r i) ++ [(orbTo r i m)])) (List.map Ty.ints ((cyclesTo r i) ++ [(orbTo r i m)]))).has s23 (a27.eval (.tmp 5)) := D18.ko q167 rfl
       have q173 : At (Ty.int (((i : Nat) : Int) + (1 : Int))) s23 a27 (.tmp 20) := D18.done 1
       clear D18
       exact tn ⟨r.length - ((i+1)), by omega, s23, (i+1), rfl, F26, ok25, (cvi (by (first | rfl | omega | (simp_all; done) | (simp_all; omega))) q173), (cvo (by (rw [hml2.2, cyclesTo_yes r i hml2.1]; rfl)) (by (rw [hml2.2, cyclesTo_yes r i hml2.1]; rfl)) q172), (cvo (by (rw [hml2.2, done_next hr (by omega)])) (by (rw [hml2.2, done_next hr (by omega)])) q169), q170, q171, by omega, rfl⟩
      ·
       have hml2 := cyc_none hr (by omega) hm c3 (by simpa [orbTo_len] using c4)
       refine wp_skip ?_
       refine bn ?_
       refine tn ?_
       refine reg (a := a23) (σ := s19) rfl (fun i_ => List.getD [(Ty.pr (Ty.int (((i : Nat) : Int) + (1 : Int)))), (Ty.pr (Ty.int (((i : Nat) : Int) + (1 : Int))))] i_ Pr.any) ok21 rfl ⟨?_, ?_, trivial⟩ ?_
       · intro ax tx hs okx sm
         exact run_plain rfl (y_add (kp (sm 20 rfl) hs q132) rfl (w64 (by omega) (by omega)))
       · intro ax tx hs okx sm d0
         have e0 : At (Ty.int (((i : Nat) : Int) + (1 : Int))) tx ax (.tmp 50) := d0 rfl
         exact run_plain rfl (y_move e0)
       intro a28 s24 D19
       have ok26 := D19.ok
       have F27 := F21.step0 D19.stp
       have q174 : (Pr.own 11 3 1 (List.length (doneL r i m)) (List.map Ty.int (doneL r i m))).has s24 (a28.eval (.tmp 6)) := D19.ko q130 rfl
       have q175 : (Pr.own 2 34 1 (List.length (cyclesTo r i)) (List.map Ty.ints (cyclesTo r i))).has s24 (a28.eval (.tmp 5)) := D19.ko q133 rfl
       have q176 : At (Ty.lst Ty.int r) s24 a28 (.tmp 0) := D19.kt q134 rfl
       have q177 : At (Ty.nat (List.length r)) s24 a28 (.tmp 19) := D19.kt q135 rfl
       have q178 : At (Ty.int (((i : Nat) : Int) + (1 : Int))) s24 a28 (.tmp 20) := D19.done 1
       clear D19
       exact tn ⟨r.length - ((i+1)), by omega, s24, (i+1), rfl, F27, ok26, (cvi (by (first | rfl | omega | (simp_all; done) | (simp_all; omega))) q178), (cvo (by (rw [cyclesTo_no r i hml2.1])) (by (rw [cyclesTo_no r i hml2.1])) q175), (cvo (by (rw [hml2.2, done_skip hr (by omega) hml2.1])) (by (rw [hml2.2, done_skip hr (by omega) hml2.1])) q174), q176, q177, by omega, rfl⟩
   ·
    refine wp_exit ?_
    refine tx ?_
    refine tx ?_
    refine bx ?_
    refine tn ?_
    refine wp_seq ?_
    refine reg (a := a10) (σ := s8) rfl (fun i_ => List.getD [(Ty.pr (Ty.val (a10.eval (.tmp 5)))), (Ty.pr (Ty.val (a10.eval (.tmp 5)))), (Ty.pr (Ty.int (0 : Int)))] i_ Pr.any) ok9 rfl ⟨?_, ?_, ?_, trivial⟩ ?_
    · intro ax tx hs okx sm
      exact run_plain rfl (y_move (sm 5 rfl))
    · intro ax tx hs okx sm d0 d1
      have e0 : At (Ty.val (a10.eval (.tmp 5))) tx ax (.tmp 51) := d0 rfl
      exact run_plain rfl (y_assign e0)
    · intro ax tx hs okx sm d0 d1 d2
      have e1 : At (Ty.val (a10.eval (.tmp 5))) tx ax (.tmp 2) := d0 rfl
      have e0 : At (Ty.val (a10.eval (.tmp 5))) tx ax (.tmp 51) := d1 rfl
      exact run_plain rfl (y_assign rfl)
    intro a29 s25 D20
    have ok27 := D20.ok
    have F28 := F9.step0 D20.stp
    have q179 : (Pr.own 2 34 1 (List.length (cyclesTo r i)) (List.map Ty.ints (cyclesTo r i))).has s25 (a29.eval (.tmp 2)) := al (show _ = _ from D20.done 1) ((Pr.own 2 34 1 (List.length (cyclesTo r i)) (List.map Ty.ints (cyclesTo r i))).up D20.stp q25)
    have q180 : At (Ty.int (0 : Int)) s25 a29 (.tmp 3) := D20.done 2
    clear D20
    refine tn ?_
    refine wp_ret ?_
    obtain ⟨t6, e2, h2, q181⟩ := Own.seal q179 (by decide)
    rw [← e2]
    have F29 := F28.step h2 (by decide)
    have q182 := Ty.up (Ty.int (0 : Int)) (h2.le (by decide)) q180
    exact ret2 rfl ok27 F29 (cvt (by (obtain rfl : i = r.length := (by omega); rw [if_pos (Classical.not_not.1 c1)]; rfl)) q181) (cvi (by (exact (Classical.not_not.1 c1).symm)) q182)


set_option maxRecDepth 100000 in
theorem common_fn (a : Nat) (b : Nat) (σ : GW) (v0 v1 : Value) (hv0 : Ty.has (Ty.nat a) σ v0) (hv1 : Ty.has (Ty.nat b) σ v1) (ha : a ≤ 1000000000) (hb : b ≤ 1000000000) :
    FnC Try.prog 93 #[v0, v1] σ (Ty.nat (Nat.gcd a b)) := by
 refine fn_intro Try.func93 rfl Try.ntmps93 (Nat.le_of_ble_eq_true rfl) (fun s0 a0 hle F0 ok0 hargs => ?_)
 have p0 : At (Ty.nat a) s0 a0 (.tmp 0) := by have e := hargs 0 _ rfl; show Ty.has _ _ _; rw [e]; exact Ty.up _ hle hv0
 have p1 : At (Ty.nat b) s0 a0 (.tmp 1) := by have e := hargs 1 _ rfl; show Ty.has _ _ _; rw [e]; exact Ty.up _ hle hv1
 clear hargs
 refine wp_seq ?_
 refine reg (a := a0) (σ := s0) rfl (fun i_ => List.getD [(Ty.pr (Ty.int (0 : Int)))] i_ Pr.any) ok0 rfl ⟨?_, trivial⟩ ?_
 · intro ax tx hs okx sm
   exact run_plain rfl (y_assign rfl)
 intro a1 s1 D1
 have ok1 := D1.ok
 have F1 := F0.step0 D1.stp
 have q1 : At (Ty.nat a) s1 a1 (.tmp 0) := D1.kt p0 rfl
 have q2 : At (Ty.nat b) s1 a1 (.tmp 1) := D1.kt p1 rfl
 clear D1
 refine tn ?_
 refine wp_seq ?_
 refine wp_block ?_
 refine loop (fun n1 a2 w1 => ∃ (t1 : GW) (x : Nat) (y : Nat), t1.w = w1 ∧ From s0 t1 ∧ Ok 12 a2 ∧ At (Ty.nat x) t1 a2 (.tmp 0) ∧ At (Ty.nat y) t1 a2 (.tmp 1) ∧ (x ≤ 1000000000) ∧ (y ≤ 1000000000) ∧ (Nat.gcd x y = Nat.gcd a b) ∧ n1 = y + 1) ((b) + 1) ?_ ?_
 ·
  exact ⟨s1, a, b, rfl, F1, ok1, (cvi (by (first | rfl | omega | (simp_all; done) | (simp_all; omega))) q1), (cvi (by (first | rfl | omega | (simp_all; done) | (simp_all; omega))) q2), by omega, by omega, rfl, rfl⟩
 ·
  rintro n2 a3 w2 ⟨t2, x, y, rfl, F2, ok2, q3, q4, hx, hy, hg, rfl⟩
  refine wp_seq ?_
  refine wp_seq ?_
  refine reg (a := a3) (σ := t2) rfl (fun i_ => List.getD [(Ty.pr (Ty.nat y)), (Ty.pr (Ty.bool (decide ((0 : Int) < ((y : Nat) : Int)))))] i_ Pr.any) ok2 rfl ⟨?_, ?_, trivial⟩ ?_
  · intro ax tx hs okx sm
    exact run_plain rfl (y_move (kp (sm 1 rfl) hs q4))
  · intro ax tx hs okx sm d0
    have e0 : At (Ty.nat y) tx ax (.tmp 5) := d0 rfl
    exact run_plain rfl (y_gtr e0 rfl)
  intro a4 s2 D2
  have ok3 := D2.ok
  have F3 := F2.step0 D2.stp
  have q5 : At (Ty.nat x) s2 a4 (.tmp 0) := D2.kt q3 rfl
  have q6 : At (Ty.nat y) s2 a4 (.tmp 1) := D2.kt q4 rfl
  have q7 : At (Ty.bool (decide ((0 : Int) < ((y : Nat) : Int)))) s2 a4 (.tmp 6) := D2.done 1
  clear D2
  refine tn ?_
  refine cond_p (p := ((0 : Int) < ((y : Nat) : Int))) q7 (fun c1 => ?_) (fun c1 => ?_)
  ·
   refine wp_skip ?_
   refine tn ?_
   refine wp_block ?_
   refine reg (a := a4) (σ := s2) rfl (fun i_ => List.getD [(Ty.pr (Ty.nat y)), (Ty.pr (Ty.nat x)), (Ty.pr (Ty.nat y)), (Ty.pr (Ty.nat (x % y))), (Ty.pr (Ty.nat y)), (Ty.pr (Ty.nat (x % y)))] i_ Pr.any) ok3 rfl ⟨?_, ?_, ?_, ?_, ?_, ?_, trivial⟩ ?_
   · intro ax tx hs okx sm
     exact run_plain rfl (y_move (kp (sm 1 rfl) hs q6))
   · intro ax tx hs okx sm
     exact run_plain rfl (y_move (kp (sm 0 rfl) hs q5))
   · intro ax tx hs okx sm
     exact run_plain rfl (y_move (kp (sm 1 rfl) hs q6))
   · intro ax tx hs okx sm d0 d1
     have e1 : At (Ty.nat x) tx ax (.tmp 8) := d0 rfl
     have e2 : At (Ty.nat y) tx ax (.tmp 9) := d1 rfl
     exact run_plain rfl (y_remN e1 e2 (by omega))
   · intro ax tx hs okx sm d0 d1 d2 d3 d4
     have e0 : At (Ty.nat y) tx ax (.tmp 7) := d0 rfl
     have e1 : At (Ty.nat x) tx ax (.tmp 8) := d2 rfl
     exact run_plain rfl (y_assign e0)
   · intro ax tx hs okx sm d0 d1 d2 d3 d4 d5 d6
     have e3 : At (Ty.nat (x % y)) tx ax (.tmp 10) := d0 rfl
     have e4 : At (Ty.nat y) tx ax (.tmp 0) := d1 rfl
     have e0 : At (Ty.nat y) tx ax (.tmp 7) := d2 rfl
     have e1 : At (Ty.nat x) tx ax (.tmp 8) := d3 rfl
     have e2 : At (Ty.nat y) tx ax (.tmp 9) := d4 rfl
     exact run_plain rfl (y_assign e3)
   intro a5 s3 D3
   have ok4 := D3.ok
   have F4 := F3.step0 D3.stp
   have q8 : At (Ty.nat y) s3 a5 (.tmp 0) := D3.done 4
   have q9 : At (Ty.nat (x % y)) s3 a5 (.tmp 1) := D3.done 5
   clear D3
   refine bn ?_
   exact tn ⟨((x % y)) + 1, by have := Nat.mod_lt x (show 0 < y by omega); omega, s3, y, (x % y), rfl, F4, ok4, (cvi (by (first | rfl | omega | (simp_all; done) | (simp_all; omega))) q8), (cvi (by (omega)) q9), by omega, by have := Nat.mod_lt x (show 0 < y by omega); omega, by rw [← hg, Nat.gcd_comm x y, Nat.gcd_rec y x, Nat.gcd_comm], rfl⟩
  ·
   refine wp_exit ?_
   refine tx ?_
   refine tx ?_
   refine bx ?_
   refine tn ?_
   refine wp_seq ?_
   refine reg (a := a4) (σ := s2) rfl (fun i_ => List.getD [(Ty.pr (Ty.nat x)), (Ty.pr (Ty.nat x))] i_ Pr.any) ok3 rfl ⟨?_, ?_, trivial⟩ ?_
   · intro ax tx hs okx sm
     exact run_plain rfl (y_move (kp (sm 0 rfl) hs q5))
   · intro ax tx hs okx sm d0 d1
     have e0 : At (Ty.nat x) tx ax (.tmp 11) := d0 rfl
     exact run_plain rfl (y_assign e0)
   intro a6 s4 D4
   have ok5 := D4.ok
   have F5 := F3.step0 D4.stp
   have q10 : At (Ty.nat x) s4 a6 (.tmp 4) := D4.done 1
   clear D4
   refine tn ?_
   refine wp_ret ?_
   exact ret1 rfl ok5 F5 (cvi (by (obtain rfl : y = 0 := (by omega); rw [← hg, Nat.gcd_zero_right])) q10)


end Go.Proofs.Ytlhnpkaohfoicaa
