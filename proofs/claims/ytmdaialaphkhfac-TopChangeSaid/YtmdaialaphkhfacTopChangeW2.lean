/-  Part 2. -/
import Derived.Test.YtmdaialaphkhfacTopChangeW1
namespace Go.Proofs.Ytmdaialaphkhfac
open Go.KL

set_option maxRecDepth 100000 in
theorem order_fn (r : List Int) (σ : GW) (v0 : Value) (hv0 : Ty.has (Ty.lst Ty.int r) σ v0)  :
    FnC Try.prog 15 #[v0] σ (Ty.tup3 (Ty.nat (if rowMay r = 0 then ordL r else 0)) (Ty.bool (if rowMay r = 0 then oddL r else false)) (Ty.int (rowMay r))) := by
 refine fn_intro Try.func15 rfl Try.ntmps15 (Nat.le_of_ble_eq_true rfl) (fun s0 a0 hle F0 ok0 hargs => ?_)
 have p0 : At (Ty.lst Ty.int r) s0 a0 (.tmp 0) := by have e := hargs 0 _ rfl; show Ty.has _ _ _; rw [e]; exact Ty.up _ hle hv0
 have b1 := sl_le p0
 clear hargs
 refine wp_seq ?_
 refine reg (a := a0) (σ := s0) rfl (fun i_ => List.getD [(Ty.pr (Ty.int (0 : Int))), (Ty.pr (Ty.bool false)), (Ty.pr (Ty.int (0 : Int)))] i_ Pr.any) ok0 rfl ⟨?_, ?_, ?_, trivial⟩ ?_
 · intro ax tx hs okx sm
   exact run_plain rfl (y_assign rfl)
 · intro ax tx hs okx sm d0
   have e0 : At (Ty.int (0 : Int)) tx ax (.tmp 2) := d0 rfl
   exact run_plain rfl (y_assign rfl)
 · intro ax tx hs okx sm d0
   have e1 : At (Ty.bool false) tx ax (.tmp 3) := d0 rfl
   exact run_plain rfl (y_assign rfl)
 intro a1 s1 D1
 have ok1 := D1.ok
 have F1 := F0.step0 D1.stp
 have q1 : At (Ty.lst Ty.int r) s1 a1 (.tmp 0) := D1.kt p0 rfl
 have q2 : At (Ty.bool false) s1 a1 (.tmp 3) := D1.done 1
 clear D1
 refine tn ?_
 refine wp_seq ?_
 refine reg (a := a1) (σ := s1) rfl (fun i_ => List.getD [(Ty.pr (Ty.lst Ty.int r)), (Ty.pr (Ty.tup2 (Ty.lst Ty.ints (if rowMay r = 0 then cyclesL r else [])) (Ty.int (rowMay r)))), (Ty.pr (Ty.tup2 (Ty.lst Ty.ints (if rowMay r = 0 then cyclesL r else [])) (Ty.int (rowMay r)))), (Ty.pr (Ty.lst Ty.ints (if rowMay r = 0 then cyclesL r else []))), (Ty.pr (Ty.int (rowMay r))), (Ty.pr (Ty.lst Ty.ints (if rowMay r = 0 then cyclesL r else []))), (Ty.pr (Ty.int (rowMay r)))] i_ Pr.any) ok1 rfl ⟨?_, ?_, ?_, ?_, ?_, ?_, ?_, trivial⟩ ?_
 · intro ax tx hs okx sm
   exact run_plain rfl (y_move (kp (sm 0 rfl) hs q1))
 · intro ax tx hs okx sm d0
   have e0 : At (Ty.lst Ty.int r) tx ax (.tmp 9) := d0 rfl
   exact run_plain rfl (y_call #[ax.eval (.tmp 9)] Try.func46 rfl rfl (by simp only [List.map_toArray, List.map_cons, List.map_nil]) (cycles_fn (r) _ _ e0 ))
 · intro ax tx hs okx sm d0
   have e1 : At (Ty.tup2 (Ty.lst Ty.ints (if rowMay r = 0 then cyclesL r else [])) (Ty.int (rowMay r))) tx ax (.tmp 10) := d0 rfl
   exact run_plain rfl (y_move e1)
 · intro ax tx hs okx sm d0
   have e2 : At (Ty.tup2 (Ty.lst Ty.ints (if rowMay r = 0 then cyclesL r else [])) (Ty.int (rowMay r))) tx ax (.tmp 8) := d0 rfl
   exact run_plain rfl (y_ext2_0 e2)
 · intro ax tx hs okx sm d0 d1
   have e2 : At (Ty.tup2 (Ty.lst Ty.ints (if rowMay r = 0 then cyclesL r else [])) (Ty.int (rowMay r))) tx ax (.tmp 8) := d0 rfl
   exact run_plain rfl (y_ext2_1 e2)
 · intro ax tx hs okx sm d0 d1 d2 d3 d4 d5 d6
   have e3 : At (Ty.lst Ty.ints (if rowMay r = 0 then cyclesL r else [])) tx ax (.tmp 11) := d0 rfl
   have e1 : At (Ty.tup2 (Ty.lst Ty.ints (if rowMay r = 0 then cyclesL r else [])) (Ty.int (rowMay r))) tx ax (.tmp 10) := d1 rfl
   have e0 : At (Ty.lst Ty.int r) tx ax (.tmp 9) := d2 rfl
   have e2 : At (Ty.tup2 (Ty.lst Ty.ints (if rowMay r = 0 then cyclesL r else [])) (Ty.int (rowMay r))) tx ax (.tmp 8) := d4 rfl
   exact run_plain rfl (y_assign e3)
 · intro ax tx hs okx sm d0 d1 d2 d3 d4 d5 d6 d7
   have e4 : At (Ty.int (rowMay r)) tx ax (.tmp 12) := d0 rfl
   have e5 : At (Ty.lst Ty.ints (if rowMay r = 0 then cyclesL r else [])) tx ax (.tmp 5) := d1 rfl
   have e0 : At (Ty.lst Ty.int r) tx ax (.tmp 9) := d2 rfl
   have e1 : At (Ty.tup2 (Ty.lst Ty.ints (if rowMay r = 0 then cyclesL r else [])) (Ty.int (rowMay r))) tx ax (.tmp 10) := d3 rfl
   have e2 : At (Ty.tup2 (Ty.lst Ty.ints (if rowMay r = 0 then cyclesL r else [])) (Ty.int (rowMay r))) tx ax (.tmp 8) := d4 rfl
   have e3 : At (Ty.lst Ty.ints (if rowMay r = 0 then cyclesL r else [])) tx ax (.tmp 11) := d5 rfl
   exact run_plain rfl (y_assign e4)
 intro a2 s2 D2
 have ok2 := D2.ok
 have F2 := F1.step0 D2.stp
 have q3 : At (Ty.bool false) s2 a2 (.tmp 3) := D2.kt q2 rfl
 have q4 : At (Ty.lst Ty.ints (if rowMay r = 0 then cyclesL r else [])) s2 a2 (.tmp 5) := D2.done 5
 have q5 : At (Ty.int (rowMay r)) s2 a2 (.tmp 4) := D2.done 6
 clear D2
 refine tn ?_
 refine wp_seq ?_
 refine wp_seq ?_
 refine reg (a := a2) (σ := s2) rfl (fun i_ => List.getD [(Ty.pr (Ty.int (rowMay r))), (Ty.pr (Ty.bool (decide ((rowMay r) ≠ (0 : Int)))))] i_ Pr.any) ok2 rfl ⟨?_, ?_, trivial⟩ ?_
 · intro ax tx hs okx sm
   exact run_plain rfl (y_move (kp (sm 4 rfl) hs q5))
 · intro ax tx hs okx sm d0
   have e0 : At (Ty.int (rowMay r)) tx ax (.tmp 13) := d0 rfl
   exact run_plain rfl (y_neq e0 rfl)
 intro a3 s3 D3
 have ok3 := D3.ok
 have F3 := F2.step0 D3.stp
 have q6 : At (Ty.bool false) s3 a3 (.tmp 3) := D3.kt q3 rfl
 have q7 : At (Ty.lst Ty.ints (if rowMay r = 0 then cyclesL r else [])) s3 a3 (.tmp 5) := D3.kt q4 rfl
 have q8 : At (Ty.int (rowMay r)) s3 a3 (.tmp 4) := D3.kt q5 rfl
 have q9 : At (Ty.bool (decide ((rowMay r) ≠ (0 : Int)))) s3 a3 (.tmp 14) := D3.done 1
 clear D3
 refine tn ?_
 refine cond_p (p := ((rowMay r) ≠ (0 : Int))) q9 (fun c1 => ?_) (fun c1 => ?_)
 ·
  refine wp_seq ?_
  refine reg (a := a3) (σ := s3) rfl (fun i_ => List.getD [(Ty.pr (Ty.int (rowMay r))), (Ty.pr (Ty.int (0 : Int))), (Ty.pr (Ty.bool false)), (Ty.pr (Ty.int (rowMay r)))] i_ Pr.any) ok3 rfl ⟨?_, ?_, ?_, ?_, trivial⟩ ?_
  · intro ax tx hs okx sm d0
    exact run_plain rfl (y_move (kp (sm 4 rfl) hs q8))
  · intro ax tx hs okx sm d0
    exact run_plain rfl (y_assign rfl)
  · intro ax tx hs okx sm d0 d1 d2
    have e1 : At (Ty.int (0 : Int)) tx ax (.tmp 2) := d0 rfl
    exact run_plain rfl (y_assign rfl)
  · intro ax tx hs okx sm d0 d1 d2 d3 d4
    have e0 : At (Ty.int (rowMay r)) tx ax (.tmp 15) := d0 rfl
    have e2 : At (Ty.bool false) tx ax (.tmp 3) := d1 rfl
    have e1 : At (Ty.int (0 : Int)) tx ax (.tmp 2) := d3 rfl
    exact run_plain rfl (y_assign e0)
  intro a4 s4 D4
  have ok4 := D4.ok
  have F4 := F3.step0 D4.stp
  have q10 : At (Ty.int (0 : Int)) s4 a4 (.tmp 2) := D4.done 1
  have q11 : At (Ty.bool false) s4 a4 (.tmp 3) := D4.done 2
  have q12 : At (Ty.int (rowMay r)) s4 a4 (.tmp 4) := D4.done 3
  clear D4
  refine tn ?_
  refine wp_ret ?_
  refine tr ?_
  exact ret3 rfl ok4 F4 (cvi (by (rw [if_neg c1]; rfl)) q10) (cvb (by (rw [if_neg c1])) q11) q12
 ·
  have h0 := Classical.not_not.1 c1; have hr := rowMay_ok.1 h0; have ecl : (if rowMay r = 0 then cyclesL r else []) = cyclesL r := if_pos h0; have ecn := congrArg List.length ecl; have hcb : (cyclesL r).length ≤ r.length := cyclesTo_len r r.length; have hln := hr.le
  refine wp_skip ?_
  refine tn ?_
  refine wp_seq ?_
  refine reg (a := a3) (σ := s3) rfl (fun i_ => List.getD [(Ty.pr (Ty.int (1 : Int)))] i_ Pr.any) ok3 rfl ⟨?_, trivial⟩ ?_
  · intro ax tx hs okx sm
    exact run_plain rfl (y_assign rfl)
  intro a5 s5 D5
  have ok5 := D5.ok
  have F5 := F3.step0 D5.stp
  have q13 : At (Ty.bool false) s5 a5 (.tmp 3) := D5.kt q6 rfl
  have q14 : At (Ty.lst Ty.ints (if rowMay r = 0 then cyclesL r else [])) s5 a5 (.tmp 5) := D5.kt q7 rfl
  have q15 : At (Ty.int (1 : Int)) s5 a5 (.tmp 2) := D5.done 0
  clear D5
  refine tn ?_
  refine wp_seq ?_
  refine wp_seq ?_
  refine reg (a := a5) (σ := s5) rfl (fun i_ => List.getD [(Ty.pr (Ty.lst Ty.ints (if rowMay r = 0 then cyclesL r else []))), (Ty.pr (Ty.nat (List.length (if rowMay r = 0 then cyclesL r else [])))), (Ty.pr (Ty.int (0 : Int)))] i_ Pr.any) ok5 rfl ⟨?_, ?_, ?_, trivial⟩ ?_
  · intro ax tx hs okx sm
    exact run_plain rfl (y_move (kp (sm 5 rfl) hs q14))
  · intro ax tx hs okx sm d0
    have e0 : At (Ty.lst Ty.ints (if rowMay r = 0 then cyclesL r else [])) tx ax (.tmp 16) := d0 rfl
    exact run_plain rfl (y_len Try.underlying25 e0)
  · intro ax tx hs okx sm
    exact run_plain rfl (y_move rfl)
  intro a6 s6 D6
  have ok6 := D6.ok
  have F6 := F5.step0 D6.stp
  have q16 : At (Ty.bool false) s6 a6 (.tmp 3) := D6.kt q13 rfl
  have q17 : At (Ty.int (1 : Int)) s6 a6 (.tmp 2) := D6.kt q15 rfl
  have q18 : At (Ty.lst Ty.ints (if rowMay r = 0 then cyclesL r else [])) s6 a6 (.tmp 16) := D6.done 0
  have q19 : At (Ty.nat (List.length (if rowMay r = 0 then cyclesL r else []))) s6 a6 (.tmp 17) := D6.done 1
  have q20 : At (Ty.int (0 : Int)) s6 a6 (.tmp 18) := D6.done 2
  clear D6
  refine tn ?_
  refine wp_block ?_
  refine loop (fun n1 a7 w1 => ∃ (t1 : GW) (k : Nat), t1.w = w1 ∧ From s0 t1 ∧ Ok 40 a7 ∧ At (Ty.nat k) t1 a7 (.tmp 18) ∧ At (Ty.nat (ordTo (cyclesL r) k)) t1 a7 (.tmp 2) ∧ At (Ty.bool (oddTo (cyclesL r) k)) t1 a7 (.tmp 3) ∧ At (Ty.lst Ty.ints (if rowMay r = 0 then cyclesL r else [])) t1 a7 (.tmp 16) ∧ At (Ty.nat (List.length (if rowMay r = 0 then cyclesL r else []))) t1 a7 (.tmp 17) ∧ (k ≤ (cyclesL r).length) ∧ n1 = (cyclesL r).length - k) ((cyclesL r).length - (0)) ?_ ?_
  ·
   exact ⟨s6, 0, rfl, F6, ok6, (cvi (by (first | rfl | omega | (simp_all; done) | (simp_all; omega))) q20), (cvi (by (first | rfl | omega | (simp_all; done) | (simp_all; omega))) q17), (cvb (by (first | rfl | omega | (simp_all; done) | (simp_all; omega))) q16), q18, q19, by omega, rfl⟩
  ·
   rintro n2 a8 w2 ⟨t2, k, rfl, F7, ok7, q21, q22, q23, q24, q25, hk, rfl⟩
   refine wp_seq ?_
   refine reg (a := a8) (σ := t2) rfl (fun i_ => List.getD [(Ty.pr (Ty.bool (decide (((k : Nat) : Int) < (((List.length (if rowMay r = 0 then cyclesL r else [])) : Nat) : Int)))))] i_ Pr.any) ok7 rfl ⟨?_, trivial⟩ ?_
   · intro ax tx hs okx sm
     exact run_plain rfl (y_lss (kp (sm 18 rfl) hs q21) (kp (sm 17 rfl) hs q25))
   intro a9 s7 D7
   have ok8 := D7.ok
   have F8 := F7.step0 D7.stp
   have q26 : At (Ty.nat k) s7 a9 (.tmp 18) := D7.kt q21 rfl
   have q27 : At (Ty.nat (ordTo (cyclesL r) k)) s7 a9 (.tmp 2) := D7.kt q22 rfl
   have q28 : At (Ty.bool (oddTo (cyclesL r) k)) s7 a9 (.tmp 3) := D7.kt q23 rfl
   have q29 : At (Ty.lst Ty.ints (if rowMay r = 0 then cyclesL r else [])) s7 a9 (.tmp 16) := D7.kt q24 rfl
   have q30 : At (Ty.nat (List.length (if rowMay r = 0 then cyclesL r else []))) s7 a9 (.tmp 17) := D7.kt q25 rfl
   have q31 : At (Ty.bool (decide (((k : Nat) : Int) < (((List.length (if rowMay r = 0 then cyclesL r else [])) : Nat) : Int)))) s7 a9 (.tmp 19) := D7.done 0
   clear D7
   refine tn ?_
   refine wp_seq ?_
   refine cond_p (p := (((k : Nat) : Int) < (((List.length (if rowMay r = 0 then cyclesL r else [])) : Nat) : Int))) q31 (fun c2 => ?_) (fun c2 => ?_)
   ·
    obtain ⟨hf1, hf2, hf3, hf4, hf5, hf6, hf7, hf8, hf9⟩ := ord_facts h0 (k := k) (by omega)
    refine wp_skip ?_
    refine tn ?_
    refine wp_seq ?_
    refine wp_block ?_
    refine wp_seq ?_
    refine reg (a := a9) (σ := s7) rfl (fun i_ => List.getD [(Ty.pr (Ty.ref [(Ty.lst Ty.int ((if rowMay r = 0 then cyclesL r else []).getD k []))])), (Ty.pr (Ty.lst Ty.int ((if rowMay r = 0 then cyclesL r else []).getD k []))), (Ty.pr (Ty.lst Ty.int ((if rowMay r = 0 then cyclesL r else []).getD k [])))] i_ Pr.any) ok8 rfl ⟨?_, ?_, ?_, trivial⟩ ?_
    · intro ax tx hs okx sm
      exact run_plain rfl (y_index1 Try.underlying25 Try.inf22 (kp (sm 16 rfl) hs q29) (kp (sm 18 rfl) hs q26) (by omega) (lst_get Ty.ints (if rowMay r = 0 then cyclesL r else []) [] k (by omega)))
    · intro ax tx hs okx sm d0
      have e0 : At (Ty.ref [(Ty.lst Ty.int ((if rowMay r = 0 then cyclesL r else []).getD k []))]) tx ax (.tmp 20) := d0 rfl
      exact run_plain rfl (y_load Try.underlying22 rfl e0 rfl)
    · intro ax tx hs okx sm d0 d1 d2
      have e1 : At (Ty.lst Ty.int ((if rowMay r = 0 then cyclesL r else []).getD k [])) tx ax (.tmp 21) := d0 rfl
      have e0 : At (Ty.ref [(Ty.lst Ty.int ((if rowMay r = 0 then cyclesL r else []).getD k []))]) tx ax (.tmp 20) := d1 rfl
      exact run_plain rfl (y_assign e1)
    intro a10 s8 D8
    have ok9 := D8.ok
    have F9 := F8.step0 D8.stp
    have q32 : At (Ty.nat k) s8 a10 (.tmp 18) := D8.kt q26 rfl
    have q33 : At (Ty.nat (ordTo (cyclesL r) k)) s8 a10 (.tmp 2) := D8.kt q27 rfl
    have q34 : At (Ty.bool (oddTo (cyclesL r) k)) s8 a10 (.tmp 3) := D8.kt q28 rfl
    have q35 : At (Ty.lst Ty.ints (if rowMay r = 0 then cyclesL r else [])) s8 a10 (.tmp 16) := D8.kt q29 rfl
    have q36 : At (Ty.nat (List.length (if rowMay r = 0 then cyclesL r else []))) s8 a10 (.tmp 17) := D8.kt q30 rfl
    have q37 : At (Ty.lst Ty.int ((if rowMay r = 0 then cyclesL r else []).getD k [])) s8 a10 (.tmp 7) := D8.done 2
    clear D8
    refine tn ?_
    refine wp_seq ?_
    refine reg (a := a10) (σ := s8) rfl (fun i_ => List.getD [(Ty.pr (Ty.nat (ordTo (cyclesL r) k))), (Ty.pr (Ty.lst Ty.int ((if rowMay r = 0 then cyclesL r else []).getD k []))), (Ty.pr (Ty.nat (List.length ((if rowMay r = 0 then cyclesL r else []).getD k [])))), (Ty.pr (Ty.nat (ordTo (cyclesL r) k))), (Ty.pr (Ty.lst Ty.int ((if rowMay r = 0 then cyclesL r else []).getD k []))), (Ty.pr (Ty.nat (List.length ((if rowMay r = 0 then cyclesL r else []).getD k [])))), (Ty.pr (Ty.nat (Nat.gcd ((ordTo (cyclesL r) k)) ((List.length ((if rowMay r = 0 then cyclesL r else []).getD k [])))))), (Ty.pr (Ty.nat ((List.length ((if rowMay r = 0 then cyclesL r else []).getD k [])) / (Nat.gcd ((ordTo (cyclesL r) k)) ((List.length ((if rowMay r = 0 then cyclesL r else []).getD k []))))))), (Ty.pr (Ty.int ((((ordTo (cyclesL r) k) : Nat) : Int) * ((((List.length ((if rowMay r = 0 then cyclesL r else []).getD k [])) / (Nat.gcd ((ordTo (cyclesL r) k)) ((List.length ((if rowMay r = 0 then cyclesL r else []).getD k []))))) : Nat) : Int)))), (Ty.pr (Ty.int ((((ordTo (cyclesL r) k) : Nat) : Int) * ((((List.length ((if rowMay r = 0 then cyclesL r else []).getD k [])) / (Nat.gcd ((ordTo (cyclesL r) k)) ((List.length ((if rowMay r = 0 then cyclesL r else []).getD k []))))) : Nat) : Int))))] i_ Pr.any) ok9 rfl ⟨?_, ?_, ?_, ?_, ?_, ?_, ?_, ?_, ?_, ?_, trivial⟩ ?_
    · intro ax tx hs okx sm
      exact run_plain rfl (y_move (kp (sm 2 rfl) hs q33))
    · intro ax tx hs okx sm
      exact run_plain rfl (y_move (kp (sm 7 rfl) hs q37))
    · intro ax tx hs okx sm d0
      have e1 : At (Ty.lst Ty.int ((if rowMay r = 0 then cyclesL r else []).getD k [])) tx ax (.tmp 23) := d0 rfl
      exact run_plain rfl (y_len Try.underlying22 e1)
    · intro ax tx hs okx sm
      exact run_plain rfl (y_move (kp (sm 2 rfl) hs q33))
    · intro ax tx hs okx sm
      exact run_plain rfl (y_move (kp (sm 7 rfl) hs q37))
    · intro ax tx hs okx sm d0
      have e4 : At (Ty.lst Ty.int ((if rowMay r = 0 then cyclesL r else []).getD k [])) tx ax (.tmp 26) := d0 rfl
      exact run_plain rfl (y_len Try.underlying22 e4)
    · intro ax tx hs okx sm d0 d1
      have e3 : At (Ty.nat (ordTo (cyclesL r) k)) tx ax (.tmp 25) := d0 rfl
      have e5 : At (Ty.nat (List.length ((if rowMay r = 0 then cyclesL r else []).getD k []))) tx ax (.tmp 27) := d1 rfl
      exact run_plain rfl (y_call #[ax.eval (.tmp 25), ax.eval (.tmp 27)] Try.func47 rfl rfl (by simp only [List.map_toArray, List.map_cons, List.map_nil]) (common_fn ((ordTo (cyclesL r) k)) ((List.length ((if rowMay r = 0 then cyclesL r else []).getD k []))) _ _ _ e3 e5 (by omega) (by omega)))
    · intro ax tx hs okx sm d0 d1
      have e2 : At (Ty.nat (List.length ((if rowMay r = 0 then cyclesL r else []).getD k []))) tx ax (.tmp 24) := d0 rfl
      have e6 : At (Ty.nat (Nat.gcd ((ordTo (cyclesL r) k)) ((List.length ((if rowMay r = 0 then cyclesL r else []).getD k []))))) tx ax (.tmp 28) := d1 rfl
      exact run_plain rfl (y_quoN e2 e6 (by omega) (by omega))
    · intro ax tx hs okx sm d0 d1
      have e0 : At (Ty.nat (ordTo (cyclesL r) k)) tx ax (.tmp 22) := d0 rfl
      have e7 : At (Ty.nat ((List.length ((if rowMay r = 0 then cyclesL r else []).getD k [])) / (Nat.gcd ((ordTo (cyclesL r) k)) ((List.length ((if rowMay r = 0 then cyclesL r else []).getD k [])))))) tx ax (.tmp 29) := d1 rfl
      exact run_plain rfl (y_mul e0 e7 (w64 (by omega) (by omega)))
    · intro ax tx hs okx sm d0 d1 d2 d3 d4 d5 d6 d7 d8 d9 d10
      have e8 : At (Ty.int ((((ordTo (cyclesL r) k) : Nat) : Int) * ((((List.length ((if rowMay r = 0 then cyclesL r else []).getD k [])) / (Nat.gcd ((ordTo (cyclesL r) k)) ((List.length ((if rowMay r = 0 then cyclesL r else []).getD k []))))) : Nat) : Int))) tx ax (.tmp 30) := d0 rfl
      have e6 : At (Ty.nat (Nat.gcd ((ordTo (cyclesL r) k)) ((List.length ((if rowMay r = 0 then cyclesL r else []).getD k []))))) tx ax (.tmp 28) := d1 rfl
      have e0 : At (Ty.nat (ordTo (cyclesL r) k)) tx ax (.tmp 22) := d2 rfl
      have e1 : At (Ty.lst Ty.int ((if rowMay r = 0 then cyclesL r else []).getD k [])) tx ax (.tmp 23) := d3 rfl
      have e2 : At (Ty.nat (List.length ((if rowMay r = 0 then cyclesL r else []).getD k []))) tx ax (.tmp 24) := d4 rfl
      have e3 : At (Ty.nat (ordTo (cyclesL r) k)) tx ax (.tmp 25) := d5 rfl
      have e4 : At (Ty.lst Ty.int ((if rowMay r = 0 then cyclesL r else []).getD k [])) tx ax (.tmp 26) := d6 rfl
      have e5 : At (Ty.nat (List.length ((if rowMay r = 0 then cyclesL r else []).getD k []))) tx ax (.tmp 27) := d7 rfl
      have e7 : At (Ty.nat ((List.length ((if rowMay r = 0 then cyclesL r else []).getD k [])) / (Nat.gcd ((ordTo (cyclesL r) k)) ((List.length ((if rowMay r = 0 then cyclesL r else []).getD k [])))))) tx ax (.tmp 29) := d9 rfl
      exact run_plain rfl (y_assign e8)
    intro a11 s9 D9
    have ok10 := D9.ok
    have F10 := F9.step0 D9.stp
    have q38 : At (Ty.nat k) s9 a11 (.tmp 18) := D9.kt q32 rfl
    have q39 : At (Ty.bool (oddTo (cyclesL r) k)) s9 a11 (.tmp 3) := D9.kt q34 rfl
    have q40 : At (Ty.lst Ty.ints (if rowMay r = 0 then cyclesL r else [])) s9 a11 (.tmp 16) := D9.kt q35 rfl
    have q41 : At (Ty.nat (List.length (if rowMay r = 0 then cyclesL r else []))) s9 a11 (.tmp 17) := D9.kt q36 rfl
    have q42 : At (Ty.lst Ty.int ((if rowMay r = 0 then cyclesL r else []).getD k [])) s9 a11 (.tmp 7) := D9.kt q37 rfl
    have q43 : At (Ty.int ((((ordTo (cyclesL r) k) : Nat) : Int) * ((((List.length ((if rowMay r = 0 then cyclesL r else []).getD k [])) / (Nat.gcd ((ordTo (cyclesL r) k)) ((List.length ((if rowMay r = 0 then cyclesL r else []).getD k []))))) : Nat) : Int))) s9 a11 (.tmp 2) := D9.done 9
    clear D9
    refine tn ?_
    refine reg (a := a11) (σ := s9) rfl (fun i_ => List.getD [(Ty.pr (Ty.bool (oddTo (cyclesL r) k))), (Ty.pr (Ty.lst Ty.int ((if rowMay r = 0 then cyclesL r else []).getD k []))), (Ty.pr (Ty.nat (List.length ((if rowMay r = 0 then cyclesL r else []).getD k [])))), (Ty.pr (Ty.nat ((List.length ((if rowMay r = 0 then cyclesL r else []).getD k [])) % 2))), (Ty.pr (Ty.bool (decide (((((List.length ((if rowMay r = 0 then cyclesL r else []).getD k [])) % 2) : Nat) : Int) = (0 : Int))))), (Ty.pr (Ty.bool ((oddTo (cyclesL r) k) != (decide (((((List.length ((if rowMay r = 0 then cyclesL r else []).getD k [])) % 2) : Nat) : Int) = (0 : Int)))))), (Ty.pr (Ty.bool ((oddTo (cyclesL r) k) != (decide (((((List.length ((if rowMay r = 0 then cyclesL r else []).getD k [])) % 2) : Nat) : Int) = (0 : Int))))))] i_ Pr.any) ok10 rfl ⟨?_, ?_, ?_, ?_, ?_, ?_, ?_, trivial⟩ ?_
    · intro ax tx hs okx sm
      exact run_plain rfl (y_move (kp (sm 3 rfl) hs q39))
    · intro ax tx hs okx sm
      exact run_plain rfl (y_move (kp (sm 7 rfl) hs q42))
    · intro ax tx hs okx sm d0
      have e1 : At (Ty.lst Ty.int ((if rowMay r = 0 then cyclesL r else []).getD k [])) tx ax (.tmp 32) := d0 rfl
      exact run_plain rfl (y_len Try.underlying22 e1)
    · intro ax tx hs okx sm d0
      have e2 : At (Ty.nat (List.length ((if rowMay r = 0 then cyclesL r else []).getD k []))) tx ax (.tmp 33) := d0 rfl
      exact run_plain rfl (y_remN e2 (toN (σ := tx) rfl (by omega)) (by omega))
    · intro ax tx hs okx sm d0
      have e3 : At (Ty.nat ((List.length ((if rowMay r = 0 then cyclesL r else []).getD k [])) % 2)) tx ax (.tmp 34) := d0 rfl
      exact run_plain rfl (y_eql e3 rfl)
    · intro ax tx hs okx sm d0 d1
      have e0 : At (Ty.bool (oddTo (cyclesL r) k)) tx ax (.tmp 31) := d0 rfl
      have e4 : At (Ty.bool (decide (((((List.length ((if rowMay r = 0 then cyclesL r else []).getD k [])) % 2) : Nat) : Int) = (0 : Int)))) tx ax (.tmp 35) := d1 rfl
      exact run_plain rfl (y_neqB Try.underlying4 e0 e4)
    · intro ax tx hs okx sm d0 d1 d2 d3 d4 d5 d6
      have e5 : At (Ty.bool ((oddTo (cyclesL r) k) != (decide (((((List.length ((if rowMay r = 0 then cyclesL r else []).getD k [])) % 2) : Nat) : Int) = (0 : Int))))) tx ax (.tmp 36) := d0 rfl
      have e0 : At (Ty.bool (oddTo (cyclesL r) k)) tx ax (.tmp 31) := d1 rfl
      have e1 : At (Ty.lst Ty.int ((if rowMay r = 0 then cyclesL r else []).getD k [])) tx ax (.tmp 32) := d2 rfl
      have e2 : At (Ty.nat (List.length ((if rowMay r = 0 then cyclesL r else []).getD k []))) tx ax (.tmp 33) := d3 rfl
      have e3 : At (Ty.nat ((List.length ((if rowMay r = 0 then cyclesL r else []).getD k [])) % 2)) tx ax (.tmp 34) := d4 rfl
      have e4 : At (Ty.bool (decide (((((List.length ((if rowMay r = 0 then cyclesL r else []).getD k [])) % 2) : Nat) : Int) = (0 : Int)))) tx ax (.tmp 35) := d5 rfl
      exact run_plain rfl (y_assign e5)
    intro a12 s10 D10
    have ok11 := D10.ok
    have F11 := F10.step0 D10.stp
    have q44 : At (Ty.nat k) s10 a12 (.tmp 18) := D10.kt q38 rfl
    have q45 : At (Ty.lst Ty.ints (if rowMay r = 0 then cyclesL r else [])) s10 a12 (.tmp 16) := D10.kt q40 rfl
    have q46 : At (Ty.nat (List.length (if rowMay r = 0 then cyclesL r else []))) s10 a12 (.tmp 17) := D10.kt q41 rfl
    have q47 : At (Ty.int ((((ordTo (cyclesL r) k) : Nat) : Int) * ((((List.length ((if rowMay r = 0 then cyclesL r else []).getD k [])) / (Nat.gcd ((ordTo (cyclesL r) k)) ((List.length ((if rowMay r = 0 then cyclesL r else []).getD k []))))) : Nat) : Int))) s10 a12 (.tmp 2) := D10.kt q43 rfl
    have q48 : At (Ty.bool ((oddTo (cyclesL r) k) != (decide (((((List.length ((if rowMay r = 0 then cyclesL r else []).getD k [])) % 2) : Nat) : Int) = (0 : Int))))) s10 a12 (.tmp 3) := D10.done 6
    clear D10
    refine bn ?_
    refine tn ?_
    refine reg (a := a12) (σ := s10) rfl (fun i_ => List.getD [(Ty.pr (Ty.int (((k : Nat) : Int) + (1 : Int)))), (Ty.pr (Ty.int (((k : Nat) : Int) + (1 : Int))))] i_ Pr.any) ok11 rfl ⟨?_, ?_, trivial⟩ ?_
    · intro ax tx hs okx sm
      exact run_plain rfl (y_add (kp (sm 18 rfl) hs q44) rfl (w64 (by omega) (by omega)))
    · intro ax tx hs okx sm d0
      have e0 : At (Ty.int (((k : Nat) : Int) + (1 : Int))) tx ax (.tmp 37) := d0 rfl
      exact run_plain rfl (y_move e0)
    intro a13 s11 D11
    have ok12 := D11.ok
    have F12 := F11.step0 D11.stp
    have q49 : At (Ty.lst Ty.ints (if rowMay r = 0 then cyclesL r else [])) s11 a13 (.tmp 16) := D11.kt q45 rfl
    have q50 : At (Ty.nat (List.length (if rowMay r = 0 then cyclesL r else []))) s11 a13 (.tmp 17) := D11.kt q46 rfl
    have q51 : At (Ty.int ((((ordTo (cyclesL r) k) : Nat) : Int) * ((((List.length ((if rowMay r = 0 then cyclesL r else []).getD k [])) / (Nat.gcd ((ordTo (cyclesL r) k)) ((List.length ((if rowMay r = 0 then cyclesL r else []).getD k []))))) : Nat) : Int))) s11 a13 (.tmp 2) := D11.kt q47 rfl
    have q52 : At (Ty.bool ((oddTo (cyclesL r) k) != (decide (((((List.length ((if rowMay r = 0 then cyclesL r else []).getD k [])) % 2) : Nat) : Int) = (0 : Int))))) s11 a13 (.tmp 3) := D11.kt q48 rfl
    have q53 : At (Ty.int (((k : Nat) : Int) + (1 : Int))) s11 a13 (.tmp 18) := D11.done 1
    clear D11
    exact tn ⟨(cyclesL r).length - ((k+1)), by omega, s11, (k+1), rfl, F12, ok12, (cvi (by (first | rfl | omega | (simp_all; done) | (simp_all; omega))) q53), (cvi (by (rw [hf7, Int.natCast_mul])) q51), (cvb (by (rw [oddTo_succ _ k (by omega), ecl])) q52), q49, q50, by omega, rfl⟩
   ·
    refine wp_exit ?_
    refine tx ?_
    refine tx ?_
    refine bx ?_
    refine tn ?_
    refine wp_seq ?_
    refine reg (a := a9) (σ := s7) rfl (fun i_ => List.getD [(Ty.pr (Ty.nat (ordTo (cyclesL r) k))), (Ty.pr (Ty.bool (oddTo (cyclesL r) k))), (Ty.pr (Ty.nat (ordTo (cyclesL r) k))), (Ty.pr (Ty.bool (oddTo (cyclesL r) k))), (Ty.pr (Ty.int (0 : Int)))] i_ Pr.any) ok8 rfl ⟨?_, ?_, ?_, ?_, ?_, trivial⟩ ?_
    · intro ax tx hs okx sm
      exact run_plain rfl (y_move (kp (sm 2 rfl) hs q27))
    · intro ax tx hs okx sm d0
      exact run_plain rfl (y_move (kp (sm 3 rfl) hs q28))
    · intro ax tx hs okx sm d0 d1 d2
      have e0 : At (Ty.nat (ordTo (cyclesL r) k)) tx ax (.tmp 38) := d0 rfl
      exact run_plain rfl (y_assign e0)
    · intro ax tx hs okx sm d0 d1 d2 d3 d4
      have e1 : At (Ty.bool (oddTo (cyclesL r) k)) tx ax (.tmp 39) := d0 rfl
      have e2 : At (Ty.nat (ordTo (cyclesL r) k)) tx ax (.tmp 2) := d1 rfl
      have e0 : At (Ty.nat (ordTo (cyclesL r) k)) tx ax (.tmp 38) := d2 rfl
      exact run_plain rfl (y_assign e1)
    · intro ax tx hs okx sm d0 d1 d2 d3 d4
      have e3 : At (Ty.bool (oddTo (cyclesL r) k)) tx ax (.tmp 3) := d0 rfl
      have e0 : At (Ty.nat (ordTo (cyclesL r) k)) tx ax (.tmp 38) := d1 rfl
      have e1 : At (Ty.bool (oddTo (cyclesL r) k)) tx ax (.tmp 39) := d2 rfl
      have e2 : At (Ty.nat (ordTo (cyclesL r) k)) tx ax (.tmp 2) := d3 rfl
      exact run_plain rfl (y_assign rfl)
    intro a14 s12 D12
    have ok13 := D12.ok
    have F13 := F8.step0 D12.stp
    have q54 : At (Ty.nat (ordTo (cyclesL r) k)) s12 a14 (.tmp 2) := D12.done 2
    have q55 : At (Ty.bool (oddTo (cyclesL r) k)) s12 a14 (.tmp 3) := D12.done 3
    have q56 : At (Ty.int (0 : Int)) s12 a14 (.tmp 4) := D12.done 4
    clear D12
    refine tn ?_
    refine wp_ret ?_
    exact ret3 rfl ok13 F13 (cvi (by (rw [if_pos h0]; obtain rfl : k = (cyclesL r).length := (by omega); rfl)) q54) (cvb (by (rw [if_pos h0]; obtain rfl : k = (cyclesL r).length := (by omega); rfl)) q55) (cvi (by (exact h0.symm)) q56)


set_option maxRecDepth 100000 in
theorem rsame_fn (xs : List Int) (ys : List Int) (σ : GW) (v0 v1 : Value) (hv0 : Ty.has (Ty.lst Ty.int xs) σ v0) (hv1 : Ty.has (Ty.lst Ty.int ys) σ v1)  :
    FnC Try.prog 16 #[v0, v1] σ (Ty.bool (decide (xs = ys))) := by
 refine fn_intro Try.func16 rfl Try.ntmps16 (Nat.le_of_ble_eq_true rfl) (fun s0 a0 hle F0 ok0 hargs => ?_)
 have p0 : At (Ty.lst Ty.int xs) s0 a0 (.tmp 0) := by have e := hargs 0 _ rfl; show Ty.has _ _ _; rw [e]; exact Ty.up _ hle hv0
 have b1 := sl_le p0
 have p1 : At (Ty.lst Ty.int ys) s0 a0 (.tmp 1) := by have e := hargs 1 _ rfl; show Ty.has _ _ _; rw [e]; exact Ty.up _ hle hv1
 have b2 := sl_le p1
 clear hargs
 refine wp_seq ?_
 refine reg (a := a0) (σ := s0) rfl (fun i_ => List.getD [(Ty.pr (Ty.bool false))] i_ Pr.any) ok0 rfl ⟨?_, trivial⟩ ?_
 · intro ax tx hs okx sm
   exact run_plain rfl (y_assign rfl)
 intro a1 s1 D1
 have ok1 := D1.ok
 have F1 := F0.step0 D1.stp
 have q1 : At (Ty.lst Ty.int xs) s1 a1 (.tmp 0) := D1.kt p0 rfl
 have q2 : At (Ty.lst Ty.int ys) s1 a1 (.tmp 1) := D1.kt p1 rfl
 clear D1
 refine tn ?_
 refine wp_seq ?_
 refine wp_seq ?_
 refine reg (a := a1) (σ := s1) rfl (fun i_ => List.getD [(Ty.pr (Ty.lst Ty.int xs)), (Ty.pr (Ty.nat (List.length xs))), (Ty.pr (Ty.lst Ty.int ys)), (Ty.pr (Ty.nat (List.length ys))), (Ty.pr (Ty.bool (decide ((((List.length xs) : Nat) : Int) ≠ (((List.length ys) : Nat) : Int)))))] i_ Pr.any) ok1 rfl ⟨?_, ?_, ?_, ?_, ?_, trivial⟩ ?_
 · intro ax tx hs okx sm
   exact run_plain rfl (y_move (kp (sm 0 rfl) hs q1))
 · intro ax tx hs okx sm d0
   have e0 : At (Ty.lst Ty.int xs) tx ax (.tmp 6) := d0 rfl
   exact run_plain rfl (y_len Try.underlying22 e0)
 · intro ax tx hs okx sm
   exact run_plain rfl (y_move (kp (sm 1 rfl) hs q2))
 · intro ax tx hs okx sm d0
   have e2 : At (Ty.lst Ty.int ys) tx ax (.tmp 8) := d0 rfl
   exact run_plain rfl (y_len Try.underlying22 e2)
 · intro ax tx hs okx sm d0 d1
   have e1 : At (Ty.nat (List.length xs)) tx ax (.tmp 7) := d0 rfl
   have e3 : At (Ty.nat (List.length ys)) tx ax (.tmp 9) := d1 rfl
   exact run_plain rfl (y_neq e1 e3)
 intro a2 s2 D2
 have ok2 := D2.ok
 have F2 := F1.step0 D2.stp
 have q3 : At (Ty.lst Ty.int xs) s2 a2 (.tmp 0) := D2.kt q1 rfl
 have q4 : At (Ty.lst Ty.int ys) s2 a2 (.tmp 1) := D2.kt q2 rfl
 have q5 : At (Ty.bool (decide ((((List.length xs) : Nat) : Int) ≠ (((List.length ys) : Nat) : Int)))) s2 a2 (.tmp 10) := D2.done 4
 clear D2
 refine tn ?_
 refine cond_p (p := ((((List.length xs) : Nat) : Int) ≠ (((List.length ys) : Nat) : Int))) q5 (fun c1 => ?_) (fun c1 => ?_)
 ·
  refine wp_seq ?_
  refine reg (a := a2) (σ := s2) rfl (fun i_ => List.getD [(Ty.pr (Ty.bool false))] i_ Pr.any) ok2 rfl ⟨?_, trivial⟩ ?_
  · intro ax tx hs okx sm
    exact run_plain rfl (y_assign rfl)
  intro a3 s3 D3
  have ok3 := D3.ok
  have F3 := F2.step0 D3.stp
  have q6 : At (Ty.bool false) s3 a3 (.tmp 4) := D3.done 0
  clear D3
  refine tn ?_
  refine wp_ret ?_
  refine tr ?_
  exact ret1 rfl ok3 F3 (cvb (by (rw [decide_eq_false]; intro e; subst e; omega)) q6)
 ·
  refine wp_skip ?_
  refine tn ?_
  refine wp_seq ?_
  refine wp_seq ?_
  refine reg (a := a2) (σ := s2) rfl (fun i_ => List.getD [(Ty.pr (Ty.int (0 : Int)))] i_ Pr.any) ok2 rfl ⟨?_, trivial⟩ ?_
  · intro ax tx hs okx sm
    exact run_plain rfl (y_assign rfl)
  intro a4 s4 D4
  have ok4 := D4.ok
  have F4 := F2.step0 D4.stp
  have q7 : At (Ty.lst Ty.int xs) s4 a4 (.tmp 0) := D4.kt q3 rfl
  have q8 : At (Ty.lst Ty.int ys) s4 a4 (.tmp 1) := D4.kt q4 rfl
  have q9 : At (Ty.int (0 : Int)) s4 a4 (.tmp 5) := D4.done 0
  clear D4
  refine tn ?_
  refine wp_block ?_
  refine loop (fun n1 a5 w1 => ∃ (t1 : GW) (k : Nat), t1.w = w1 ∧ From s0 t1 ∧ Ok 26 a5 ∧ At (Ty.nat k) t1 a5 (.tmp 5) ∧ At (Ty.lst Ty.int xs) t1 a5 (.tmp 0) ∧ At (Ty.lst Ty.int ys) t1 a5 (.tmp 1) ∧ (k ≤ xs.length) ∧ (xs.length = ys.length) ∧ (∀ j, j < k → xs.getD j 0 = ys.getD j 0) ∧ n1 = xs.length - k) (xs.length - (0)) ?_ ?_
  ·
   exact ⟨s4, 0, rfl, F4, ok4, (cvi (by (first | rfl | omega | (simp_all; done) | (simp_all; omega))) q9), q7, q8, by omega, by omega, fun j hj => absurd hj (Nat.not_lt_zero j), rfl⟩
  ·
   rintro n2 a6 w2 ⟨t2, k, rfl, F5, ok5, q10, q11, q12, hk, hl, heq, rfl⟩
   refine wp_seq ?_
   refine wp_seq ?_
   refine reg (a := a6) (σ := t2) rfl (fun i_ => List.getD [(Ty.pr (Ty.nat k)), (Ty.pr (Ty.lst Ty.int xs)), (Ty.pr (Ty.nat (List.length xs))), (Ty.pr (Ty.bool (decide (((k : Nat) : Int) < (((List.length xs) : Nat) : Int)))))] i_ Pr.any) ok5 rfl ⟨?_, ?_, ?_, ?_, trivial⟩ ?_
   · intro ax tx hs okx sm
     exact run_plain rfl (y_move (kp (sm 5 rfl) hs q10))
   · intro ax tx hs okx sm
     exact run_plain rfl (y_move (kp (sm 0 rfl) hs q11))
   · intro ax tx hs okx sm d0
     have e1 : At (Ty.lst Ty.int xs) tx ax (.tmp 12) := d0 rfl
     exact run_plain rfl (y_len Try.underlying22 e1)
   · intro ax tx hs okx sm d0 d1
     have e0 : At (Ty.nat k) tx ax (.tmp 11) := d0 rfl
     have e2 : At (Ty.nat (List.length xs)) tx ax (.tmp 13) := d1 rfl
     exact run_plain rfl (y_lss e0 e2)
   intro a7 s5 D5
   have ok6 := D5.ok
   have F6 := F5.step0 D5.stp
   have q13 : At (Ty.nat k) s5 a7 (.tmp 5) := D5.kt q10 rfl
   have q14 : At (Ty.lst Ty.int xs) s5 a7 (.tmp 0) := D5.kt q11 rfl
   have q15 : At (Ty.lst Ty.int ys) s5 a7 (.tmp 1) := D5.kt q12 rfl
   have q16 : At (Ty.bool (decide (((k : Nat) : Int) < (((List.length xs) : Nat) : Int)))) s5 a7 (.tmp 14) := D5.done 3
   clear D5
   refine tn ?_
   refine cond_p (p := (((k : Nat) : Int) < (((List.length xs) : Nat) : Int))) q16 (fun c2 => ?_) (fun c2 => ?_)
   ·
    refine wp_skip ?_
    refine tn ?_
    refine wp_seq ?_
    refine wp_block ?_
    refine wp_seq ?_
    refine reg (a := a7) (σ := s5) rfl (fun i_ => List.getD [(Ty.pr (Ty.lst Ty.int xs)), (Ty.pr (Ty.nat k)), (Ty.pr (Ty.ref [(Ty.int (xs.getD k 0))])), (Ty.pr (Ty.int (xs.getD k 0))), (Ty.pr (Ty.lst Ty.int ys)), (Ty.pr (Ty.nat k)), (Ty.pr (Ty.ref [(Ty.int (ys.getD k 0))])), (Ty.pr (Ty.int (ys.getD k 0))), (Ty.pr (Ty.bool (decide ((xs.getD k 0) ≠ (ys.getD k 0)))))] i_ Pr.any) ok6 rfl ⟨?_, ?_, ?_, ?_, ?_, ?_, ?_, ?_, ?_, trivial⟩ ?_
    · intro ax tx hs okx sm
      exact run_plain rfl (y_move (kp (sm 0 rfl) hs q14))
    · intro ax tx hs okx sm
      exact run_plain rfl (y_move (kp (sm 5 rfl) hs q13))
    · intro ax tx hs okx sm d0 d1
      have e0 : At (Ty.lst Ty.int xs) tx ax (.tmp 17) := d0 rfl
      have e1 : At (Ty.nat k) tx ax (.tmp 18) := d1 rfl
      exact run_plain rfl (y_index1 Try.underlying22 Try.inf3 e0 e1 (by omega) (lst_get Ty.int xs 0 k (by omega)))
    · intro ax tx hs okx sm d0
      have e2 : At (Ty.ref [(Ty.int (xs.getD k 0))]) tx ax (.tmp 19) := d0 rfl
      exact run_plain rfl (y_load Try.underlying3 rfl e2 rfl)
    · intro ax tx hs okx sm
      exact run_plain rfl (y_move (kp (sm 1 rfl) hs q15))
    · intro ax tx hs okx sm
      exact run_plain rfl (y_move (kp (sm 5 rfl) hs q13))
    · intro ax tx hs okx sm d0 d1
      have e4 : At (Ty.lst Ty.int ys) tx ax (.tmp 21) := d0 rfl
      have e5 : At (Ty.nat k) tx ax (.tmp 22) := d1 rfl
      exact run_plain rfl (y_index1 Try.underlying22 Try.inf3 e4 e5 (by omega) (lst_get Ty.int ys 0 k (by omega)))
    · intro ax tx hs okx sm d0
      have e6 : At (Ty.ref [(Ty.int (ys.getD k 0))]) tx ax (.tmp 23) := d0 rfl
      exact run_plain rfl (y_load Try.underlying3 rfl e6 rfl)
    · intro ax tx hs okx sm d0 d1
      have e3 : At (Ty.int (xs.getD k 0)) tx ax (.tmp 20) := d0 rfl
      have e7 : At (Ty.int (ys.getD k 0)) tx ax (.tmp 24) := d1 rfl
      exact run_plain rfl (y_neq e3 e7)
    intro a8 s6 D6
    have ok7 := D6.ok
    have F7 := F6.step0 D6.stp
    have q17 : At (Ty.nat k) s6 a8 (.tmp 5) := D6.kt q13 rfl
    have q18 : At (Ty.lst Ty.int xs) s6 a8 (.tmp 0) := D6.kt q14 rfl
    have q19 : At (Ty.lst Ty.int ys) s6 a8 (.tmp 1) := D6.kt q15 rfl
    have q20 : At (Ty.bool (decide ((xs.getD k 0) ≠ (ys.getD k 0)))) s6 a8 (.tmp 25) := D6.done 8
    clear D6
    refine tn ?_
    refine cond_p (p := ((xs.getD k 0) ≠ (ys.getD k 0))) q20 (fun c3 => ?_) (fun c3 => ?_)
    ·
     refine wp_seq ?_
     refine reg (a := a8) (σ := s6) rfl (fun i_ => List.getD [(Ty.pr (Ty.bool false))] i_ Pr.any) ok7 rfl ⟨?_, trivial⟩ ?_
     · intro ax tx hs okx sm
       exact run_plain rfl (y_assign rfl)
     intro a9 s7 D7
     have ok8 := D7.ok
     have F8 := F7.step0 D7.stp
     have q21 : At (Ty.bool false) s7 a9 (.tmp 4) := D7.done 0
     clear D7
     refine tn ?_
     refine wp_ret ?_
     refine br ?_
     refine tr ?_
     refine tr ?_
     refine br ?_
     refine tr ?_
     exact ret1 rfl ok8 F8 (cvb (by (exact (decide_eq_false (fun e => by subst e; simp_all)).symm)) q21)
    ·
     refine wp_skip ?_
     refine bn ?_
     refine tn ?_
     refine reg (a := a8) (σ := s6) rfl (fun i_ => List.getD [(Ty.pr (Ty.nat k)), (Ty.pr (Ty.int (((k : Nat) : Int) + (1 : Int)))), (Ty.pr (Ty.int (((k : Nat) : Int) + (1 : Int))))] i_ Pr.any) ok7 rfl ⟨?_, ?_, ?_, trivial⟩ ?_
     · intro ax tx hs okx sm
       exact run_plain rfl (y_move (kp (sm 5 rfl) hs q17))
     · intro ax tx hs okx sm d0
       have e0 : At (Ty.nat k) tx ax (.tmp 15) := d0 rfl
       exact run_plain rfl (y_add e0 rfl (w64 (by omega) (by omega)))
     · intro ax tx hs okx sm d0 d1 d2
       have e1 : At (Ty.int (((k : Nat) : Int) + (1 : Int))) tx ax (.tmp 16) := d0 rfl
       have e0 : At (Ty.nat k) tx ax (.tmp 15) := d1 rfl
       exact run_plain rfl (y_assign e1)
     intro a10 s8 D8
     have ok9 := D8.ok
     have F9 := F7.step0 D8.stp
     have q22 : At (Ty.lst Ty.int xs) s8 a10 (.tmp 0) := D8.kt q18 rfl
     have q23 : At (Ty.lst Ty.int ys) s8 a10 (.tmp 1) := D8.kt q19 rfl
     have q24 : At (Ty.int (((k : Nat) : Int) + (1 : Int))) s8 a10 (.tmp 5) := D8.done 2
     clear D8
     exact tn ⟨xs.length - ((k+1)), by omega, s8, (k+1), rfl, F9, ok9, (cvi (by (first | rfl | omega | (simp_all; done) | (simp_all; omega))) q24), q22, q23, by omega, by omega, all_snoc heq (by assumption), rfl⟩
   ·
    refine wp_exit ?_
    refine tx ?_
    refine tx ?_
    refine bx ?_
    refine tn ?_
    refine wp_seq ?_
    refine reg (a := a7) (σ := s5) rfl (fun i_ => List.getD [(Ty.pr (Ty.bool true))] i_ Pr.any) ok6 rfl ⟨?_, trivial⟩ ?_
    · intro ax tx hs okx sm
      exact run_plain rfl (y_assign rfl)
    intro a11 s9 D9
    have ok10 := D9.ok
    have F10 := F6.step0 D9.stp
    have q25 : At (Ty.bool true) s9 a11 (.tmp 4) := D9.done 0
    clear D9
    refine tn ?_
    refine wp_ret ?_
    exact ret1 rfl ok10 F10 (cvb (by (exact (decide_eq_true (list_ext (by omega) (fun j hj => heq j (by omega)))).symm)) q25)


set_option maxRecDepth 100000 in
theorem rRounds_fn (n : Nat) (σ : GW) (v0 : Value) (hv0 : Ty.has (Ty.nat n) σ v0) (hn : n ≤ 1000000) :
    FnC Try.prog 17 #[v0] σ (Ty.lst Ty.int (roundsL n)) := by
 refine fn_intro Try.func17 rfl Try.ntmps17 (Nat.le_of_ble_eq_true rfl) (fun s0 a0 hle F0 ok0 hargs => ?_)
 have p0 : At (Ty.nat n) s0 a0 (.tmp 0) := by have e := hargs 0 _ rfl; show Ty.has _ _ _; rw [e]; exact Ty.up _ hle hv0
 clear hargs
 refine wp_seq ?_
 refine reg (a := a0) (σ := s0) rfl (fun i_ => List.getD [(Ty.pr (Ty.val (Value.slice none 0 0)))] i_ Pr.any) ok0 rfl ⟨?_, trivial⟩ ?_
 · intro ax tx hs okx sm
   exact run_plain rfl (y_assign rfl)
 intro a1 s1 D1
 have ok1 := D1.ok
 have F1 := F0.step0 D1.stp
 have q1 : At (Ty.nat n) s1 a1 (.tmp 0) := D1.kt p0 rfl
 clear D1
 refine tn ?_
 refine wp_seq ?_
 refine reg (a := a1) (σ := s1) rfl (fun i_ => List.getD [(Ty.pr (Ty.val (Value.slice none 0 0)))] i_ Pr.any) ok1 rfl ⟨?_, trivial⟩ ?_
 · intro ax tx hs okx sm
   exact run_plain rfl (y_assign rfl)
 intro a2 s2 D2
 have ok2 := D2.ok
 have F2 := F1.step0 D2.stp
 have q2 : At (Ty.nat n) s2 a2 (.tmp 0) := D2.kt q1 rfl
 have q3 : At (Ty.val (Value.slice none 0 0)) s2 a2 (.tmp 3) := D2.done 0
 clear D2
 refine tn ?_
 refine wp_seq ?_
 refine wp_seq ?_
 refine reg (a := a2) (σ := s2) rfl (fun i_ => List.getD [(Ty.pr (Ty.int (0 : Int)))] i_ Pr.any) ok2 rfl ⟨?_, trivial⟩ ?_
 · intro ax tx hs okx sm
   exact run_plain rfl (y_assign rfl)
 intro a3 s3 D3
 have ok3 := D3.ok
 have F3 := F2.step0 D3.stp
 have q4 : At (Ty.nat n) s3 a3 (.tmp 0) := D3.kt q2 rfl
 have q5 : At (Ty.val (Value.slice none 0 0)) s3 a3 (.tmp 3) := D3.kt q3 rfl
 have q6 : At (Ty.int (0 : Int)) s3 a3 (.tmp 4) := D3.done 0
 clear D3
 refine tn ?_
 refine wp_block ?_
 refine loop (fun n1 a4 w1 => ∃ (t1 : GW) (k : Nat), t1.w = w1 ∧ From s0 t1 ∧ Ok 15 a4 ∧ (Pr.own 2 3 1 (List.length (roundsL k)) (List.map Ty.int (roundsL k))).has t1 (a4.eval (.tmp 3)) ∧ At (Ty.nat k) t1 a4 (.tmp 4) ∧ At (Ty.nat n) t1 a4 (.tmp 0) ∧ (k ≤ n) ∧ n1 = n - k) (n - (0)) ?_ ?_
 ·
  exact ⟨s3, 0, rfl, F3, ok3, (by have e : a3.eval (.tmp 3) = _ := q5; rw [e]; exact Own.nil _ _ _ _), (cvi (by (first | rfl | omega | (simp_all; done) | (simp_all; omega))) q6), q4, by omega, rfl⟩
 ·
  rintro n2 a5 w2 ⟨t2, k, rfl, F4, ok4, q7, q8, q9, hk, rfl⟩
  have hp := roundsL_len k
  refine wp_seq ?_
  refine wp_seq ?_
  refine reg (a := a5) (σ := t2) rfl (fun i_ => List.getD [(Ty.pr (Ty.nat k)), (Ty.pr (Ty.nat n)), (Ty.pr (Ty.bool (decide (((k : Nat) : Int) < ((n : Nat) : Int)))))] i_ Pr.any) ok4 rfl ⟨?_, ?_, ?_, trivial⟩ ?_
  · intro ax tx hs okx sm
    exact run_plain rfl (y_move (kp (sm 4 rfl) hs q8))
  · intro ax tx hs okx sm
    exact run_plain rfl (y_move (kp (sm 0 rfl) hs q9))
  · intro ax tx hs okx sm d0 d1
    have e0 : At (Ty.nat k) tx ax (.tmp 5) := d0 rfl
    have e1 : At (Ty.nat n) tx ax (.tmp 6) := d1 rfl
    exact run_plain rfl (y_lss e0 e1)
  intro a6 s4 D4
  have ok5 := D4.ok
  have F5 := F4.step0 D4.stp
  have q10 : (Pr.own 2 3 1 (List.length (roundsL k)) (List.map Ty.int (roundsL k))).has s4 (a6.eval (.tmp 3)) := D4.ko q7 rfl
  have q11 : At (Ty.nat k) s4 a6 (.tmp 4) := D4.kt q8 rfl
  have q12 : At (Ty.nat n) s4 a6 (.tmp 0) := D4.kt q9 rfl
  have q13 : At (Ty.bool (decide (((k : Nat) : Int) < ((n : Nat) : Int)))) s4 a6 (.tmp 7) := D4.done 2
  clear D4
  refine tn ?_
  refine cond_p (p := (((k : Nat) : Int) < ((n : Nat) : Int))) q13 (fun c1 => ?_) (fun c1 => ?_)
  ·
   refine wp_skip ?_
   refine tn ?_
   refine wp_seq ?_
   refine wp_block ?_
   refine reg2 (a := a6) (σ := s4) rfl 3 (fun i_ => List.getD [(Ty.pr (Ty.val (a6.eval (.tmp 3)))), (Ty.pr (Ty.nat k)), (Ty.pr (Ty.sl 1 1 [(Ty.nat k)]))] i_ Pr.any) ok5 rfl (by decide) rfl ⟨?_, ?_, ?_, trivial⟩ ?_
   · intro ax tx hs okx sm
     exact run_plain rfl (y_move (sm 3 rfl))
   · intro ax tx hs okx sm
     exact run_plain rfl (y_move (kp (sm 4 rfl) hs q11))
   · intro ax tx hs okx sm d0
     have e1 : At (Ty.nat k) tx ax (.tmp 11) := d0 rfl
     exact run_plain rfl (y_build1o Try.underlying22 Try.inf3 rfl (one_val rfl) e1)
   intro a7 s5 D5
   have ok6 := D5.ok
   have F6 := F5.step0 D5.stp
   have q14 := (Pr.own 2 3 1 (List.length (roundsL k)) (List.map Ty.int (roundsL k))).up D5.stp q10
   have q15 : a7.eval (.tmp 3) = a6.eval (.tmp 3) := D5.same 3 rfl
   have q16 : At (Ty.nat k) s5 a7 (.tmp 4) := D5.kt q11 rfl
   have q17 : At (Ty.nat n) s5 a7 (.tmp 0) := D5.kt q12 rfl
   have q18 : At (Ty.val (a6.eval (.tmp 3))) s5 a7 (.tmp 10) := D5.done 0 (by decide)
   have q19 : At (Ty.sl 1 1 [(Ty.nat k)]) s5 a7 (.tmp 12) := D5.done 2 (by decide)
   clear D5
   refine tail_step (m := 2) (R := (fun v τ => Own τ 2 3 1 v ((List.length (roundsL k)) + 1) ((List.map Ty.int (roundsL k)) ++ [(Ty.nat k)]))) rfl rfl (by decide) ok6 (m_append Try.underlying22 Try.inf3 (by decide) rfl (by decide) (al q18 q14) q19 (by intro U hU; simp at hU;  subst hU; exact one_val rfl) (by omega) (by omega)) (fun a8 s6 hs1 ok7 r1 sm1 => ?_)
   have F7 := F6.step hs1 (by decide)
   have q20 : At (Ty.nat k) s6 a8 (.tmp 4) := kpm hs1 (by decide) (sm1 4 (by decide)) q16
   have q21 : At (Ty.nat n) s6 a8 (.tmp 0) := kpm hs1 (by decide) (sm1 0 (by decide)) q17
   have q22 : At (Ty.sl 1 1 [(Ty.nat k)]) s6 a8 (.tmp 12) := kpm hs1 (by decide) (sm1 12 (by decide)) q19
   have q23 : (Pr.own 2 3 1 (List.length ((roundsL k) ++ [((k : Nat) : Int)])) (List.map Ty.int ((roundsL k) ++ [((k : Nat) : Int)]))).has s6 (a8.eval (.tmp 13)) := (cvo (by simp) (by simp) r1)
   refine tail_step (m := 0) (R := (fun v τ => Pr.has (Pr.own 2 3 1 (List.length ((roundsL k) ++ [((k : Nat) : Int)])) (List.map Ty.int ((roundsL k) ++ [((k : Nat) : Int)]))) τ v)) rfl rfl (by decide) ok7 (Yld.toM (y_assign q23)) (fun a9 s7 hs2 ok8 r2 sm2 => ?_)
   have F8 := F7.step hs2 (by decide)
   have q24 : At (Ty.nat k) s7 a9 (.tmp 4) := kpm hs2 (by decide) (sm2 4 (by decide)) q20
   have q25 : At (Ty.nat n) s7 a9 (.tmp 0) := kpm hs2 (by decide) (sm2 0 (by decide)) q21
   have q26 : At (Ty.sl 1 1 [(Ty.nat k)]) s7 a9 (.tmp 12) := kpm hs2 (by decide) (sm2 12 (by decide)) q22
   have q27 : (Pr.own 2 3 1 (List.length ((roundsL k) ++ [((k : Nat) : Int)])) (List.map Ty.int ((roundsL k) ++ [((k : Nat) : Int)]))).has s7 (a9.eval (.tmp 13)) := kpmo hs2 (by decide) (.inl rfl) (sm2 13 (by decide)) q23
   have q28 : (Pr.own 2 3 1 (List.length ((roundsL k) ++ [((k : Nat) : Int)])) (List.map Ty.int ((roundsL k) ++ [((k : Nat) : Int)]))).has s7 (a9.eval (.tmp 3)) := r2
   refine wpList_nil ?_
   refine bn ?_
   refine tn ?_
   refine reg (a := a9) (σ := s7) rfl (fun i_ => List.getD [(Ty.pr (Ty.nat k)), (Ty.pr (Ty.int (((k : Nat) : Int) + (1 : Int)))), (Ty.pr (Ty.int (((k : Nat) : Int) + (1 : Int))))] i_ Pr.any) ok8 rfl ⟨?_, ?_, ?_, trivial⟩ ?_
   · intro ax tx hs okx sm
     exact run_plain rfl (y_move (kp (sm 4 rfl) hs q24))
   · intro ax tx hs okx sm d0
     have e0 : At (Ty.nat k) tx ax (.tmp 8) := d0 rfl
     exact run_plain rfl (y_add e0 rfl (w64 (by omega) (by omega)))
   · intro ax tx hs okx sm d0 d1 d2
     have e1 : At (Ty.int (((k : Nat) : Int) + (1 : Int))) tx ax (.tmp 9) := d0 rfl
     have e0 : At (Ty.nat k) tx ax (.tmp 8) := d1 rfl
     exact run_plain rfl (y_assign e1)
   intro a10 s8 D6
   have ok9 := D6.ok
   have F9 := F8.step0 D6.stp
   have q29 : At (Ty.nat n) s8 a10 (.tmp 0) := D6.kt q25 rfl
   have q30 : (Pr.own 2 3 1 (List.length ((roundsL k) ++ [((k : Nat) : Int)])) (List.map Ty.int ((roundsL k) ++ [((k : Nat) : Int)]))).has s8 (a10.eval (.tmp 3)) := D6.ko q28 rfl
   have q31 : At (Ty.int (((k : Nat) : Int) + (1 : Int))) s8 a10 (.tmp 4) := D6.done 2
   clear D6
   exact tn ⟨n - ((k+1)), by omega, s8, (k+1), rfl, F9, ok9, (cvo (by (rw [roundsL_succ k])) (by (rw [roundsL_succ k])) q30), (cvi (by (first | rfl | omega | (simp_all; done) | (simp_all; omega))) q31), q29, by omega, rfl⟩
  ·
   refine wp_exit ?_
   refine tx ?_
   refine tx ?_
   refine bx ?_
   refine tn ?_
   refine wp_seq ?_
   refine reg (a := a6) (σ := s4) rfl (fun i_ => List.getD [(Ty.pr (Ty.val (a6.eval (.tmp 3)))), (Ty.pr (Ty.val (a6.eval (.tmp 3))))] i_ Pr.any) ok5 rfl ⟨?_, ?_, trivial⟩ ?_
   · intro ax tx hs okx sm
     exact run_plain rfl (y_move (sm 3 rfl))
   · intro ax tx hs okx sm d0 d1
     have e0 : At (Ty.val (a6.eval (.tmp 3))) tx ax (.tmp 14) := d0 rfl
     exact run_plain rfl (y_assign e0)
   intro a11 s9 D7
   have ok10 := D7.ok
   have F10 := F5.step0 D7.stp
   have q32 : (Pr.own 2 3 1 (List.length (roundsL k)) (List.map Ty.int (roundsL k))).has s9 (a11.eval (.tmp 2)) := al (show _ = _ from D7.done 1) ((Pr.own 2 3 1 (List.length (roundsL k)) (List.map Ty.int (roundsL k))).up D7.stp q10)
   clear D7
   refine tn ?_
   refine wp_ret ?_
   obtain ⟨t3, e1, h1, q33⟩ := Own.seal q32 (by decide)
   rw [← e1]
   have F11 := F10.step h1 (by decide)
   exact ret1 rfl ok10 F11 (cvt (by (obtain rfl : k = n := (by omega); rfl)) q33)


set_option maxRecDepth 100000 in
theorem topChange_fn (c : Int) (n : Int) (σ : GW) (v0 v1 : Value) (hv0 : Ty.has (Ty.int c) σ v0) (hv1 : Ty.has (Ty.int n) σ v1) (hc : -9223372036854775808 ≤ c ∧ c ≤ 9223372036854775807) (hn : -9223372036854775808 ≤ n ∧ n ≤ 9223372036854775807) :
    FnC Try.prog 4 #[v0, v1] σ (Ty.bool true) := by
 have hpl := pick_lt n (n := 12) (by omega)
 have hok := changeOf_ok c (1 + pick n 12)
 have hmay := chgMay_of_okL (n := (((1 + pick n 12) : Nat) : Int)) (by omega) hok
 have hv := ord_inv hok (by omega) (by omega)
 have hp := chgRow_piece hok
 have hrm := rowMay_ok.2 hv.1
 have hl := hv.2.2.2
 have htm : twoMay (chgRow (1 + pick n 12) (changeOf c (1 + pick n 12))) (chgRow (1 + pick n 12) (changeOf c (1 + pick n 12))) = 0 := twoMay_ok.2 ⟨hv.1, hv.1, rfl⟩
 refine fn_intro Try.func4 rfl Try.ntmps4 (Nat.le_of_ble_eq_true rfl) (fun s0 a0 hle F0 ok0 hargs => ?_)
 have p0 : At (Ty.int c) s0 a0 (.tmp 0) := by have e := hargs 0 _ rfl; show Ty.has _ _ _; rw [e]; exact Ty.up _ hle hv0
 have p1 : At (Ty.int n) s0 a0 (.tmp 1) := by have e := hargs 1 _ rfl; show Ty.has _ _ _; rw [e]; exact Ty.up _ hle hv1
 clear hargs
 refine wp_seq ?_
 refine reg (a := a0) (σ := s0) rfl (fun i_ => List.getD [(Ty.pr (Ty.bool false))] i_ Pr.any) ok0 rfl ⟨?_, trivial⟩ ?_
 · intro ax tx hs okx sm
   exact run_plain rfl (y_assign rfl)
 intro a1 s1 D1
 have ok1 := D1.ok
 have F1 := F0.step0 D1.stp
 have q1 : At (Ty.int c) s1 a1 (.tmp 0) := D1.kt p0 rfl
 have q2 : At (Ty.int n) s1 a1 (.tmp 1) := D1.kt p1 rfl
 clear D1
 refine tn ?_
 refine wp_seq ?_
 refine reg (a := a1) (σ := s1) rfl (fun i_ => List.getD [(Ty.pr (Ty.int n)), (Ty.pr (Ty.nat (pick (n) (12)))), (Ty.pr (Ty.nat (1 + (pick (n) (12))))), (Ty.pr (Ty.nat (1 + (pick (n) (12)))))] i_ Pr.any) ok1 rfl ⟨?_, ?_, ?_, ?_, trivial⟩ ?_
 · intro ax tx hs okx sm
   exact run_plain rfl (y_move (kp (sm 1 rfl) hs q2))
 · intro ax tx hs okx sm d0
   have e0 : At (Ty.int n) tx ax (.tmp 12) := d0 rfl
   exact run_plain rfl (y_call #[ax.eval (.tmp 12), ax.eval ((Operand.const (Value.int IntKind.i64 12)))] Try.func7 rfl rfl (by simp only [List.map_toArray, List.map_cons, List.map_nil]) (pick_fn (n) (12) _ _ _ e0 rfl (by omega) (by omega)))
 · intro ax tx hs okx sm d0
   have e1 : At (Ty.nat (pick (n) (12))) tx ax (.tmp 13) := d0 rfl
   exact run_plain rfl ((y_add rfl e1 (w64 (by omega) (by omega))).mono (fun τ _ h => cvi (σ := τ) (by first | omega | exact (Int.natCast_mul _ _).symm) h))
 · intro ax tx hs okx sm d0 d1 d2 d3 d4
   have e2 : At (Ty.nat (1 + (pick (n) (12)))) tx ax (.tmp 14) := d0 rfl
   have e1 : At (Ty.nat (pick (n) (12))) tx ax (.tmp 13) := d1 rfl
   have e0 : At (Ty.int n) tx ax (.tmp 12) := d2 rfl
   exact run_plain rfl (y_assign e2)
 intro a2 s2 D2
 have ok2 := D2.ok
 have F2 := F1.step0 D2.stp
 have q3 : At (Ty.int c) s2 a2 (.tmp 0) := D2.kt q1 rfl
 have q4 : At (Ty.nat (1 + (pick (n) (12)))) s2 a2 (.tmp 1) := D2.done 3
 clear D2
 refine tn ?_
 refine wp_seq ?_
 refine reg (a := a2) (σ := s2) rfl (fun i_ => List.getD [(Ty.pr (Ty.int c)), (Ty.pr (Ty.nat (1 + (pick (n) (12))))), (Ty.pr (Ty.lst Ty.int (changeOf c ((1 + (pick (n) (12))))))), (Ty.pr (Ty.lst Ty.int (changeOf c ((1 + (pick (n) (12)))))))] i_ Pr.any) ok2 rfl ⟨?_, ?_, ?_, ?_, trivial⟩ ?_
 · intro ax tx hs okx sm
   exact run_plain rfl (y_move (kp (sm 0 rfl) hs q3))
 · intro ax tx hs okx sm
   exact run_plain rfl (y_move (kp (sm 1 rfl) hs q4))
 · intro ax tx hs okx sm d0 d1
   have e0 : At (Ty.int c) tx ax (.tmp 15) := d0 rfl
   have e1 : At (Ty.nat (1 + (pick (n) (12)))) tx ax (.tmp 16) := d1 rfl
   exact run_plain rfl (y_call #[ax.eval (.tmp 15), ax.eval (.tmp 16)] Try.func12 rfl rfl (by simp only [List.map_toArray, List.map_cons, List.map_nil]) (changeOf_fn (c) ((1 + (pick (n) (12)))) _ _ _ e0 e1 (by omega) (by omega)))
 · intro ax tx hs okx sm d0 d1 d2 d3 d4
   have e2 : At (Ty.lst Ty.int (changeOf c ((1 + (pick (n) (12)))))) tx ax (.tmp 17) := d0 rfl
   have e0 : At (Ty.int c) tx ax (.tmp 15) := d2 rfl
   have e1 : At (Ty.nat (1 + (pick (n) (12)))) tx ax (.tmp 16) := d3 rfl
   exact run_plain rfl (y_assign e2)
 intro a3 s3 D3
 have ok3 := D3.ok
 have F3 := F2.step0 D3.stp
 have q5 : At (Ty.nat (1 + (pick (n) (12)))) s3 a3 (.tmp 1) := D3.kt q4 rfl
 have q6 : At (Ty.lst Ty.int (changeOf c ((1 + (pick (n) (12)))))) s3 a3 (.tmp 5) := D3.done 3
 clear D3
 refine tn ?_
 refine wp_seq ?_
 refine reg (a := a3) (σ := s3) rfl (fun i_ => List.getD [(Ty.pr (Ty.nat (1 + (pick (n) (12))))), (Ty.pr (Ty.lst Ty.int (changeOf c ((1 + (pick (n) (12))))))), (Ty.pr (Ty.tup2 (Ty.lst Ty.int (chgRow (1 + pick n 12) (changeOf c (1 + pick n 12)))) (Ty.int (0 : Int)))), (Ty.pr (Ty.tup2 (Ty.lst Ty.int (chgRow (1 + pick n 12) (changeOf c (1 + pick n 12)))) (Ty.int (0 : Int)))), (Ty.pr (Ty.lst Ty.int (chgRow (1 + pick n 12) (changeOf c (1 + pick n 12))))), (Ty.pr (Ty.int (0 : Int))), (Ty.pr (Ty.lst Ty.int (chgRow (1 + pick n 12) (changeOf c (1 + pick n 12))))), (Ty.pr (Ty.int (0 : Int)))] i_ Pr.any) ok3 rfl ⟨?_, ?_, ?_, ?_, ?_, ?_, ?_, ?_, trivial⟩ ?_
 · intro ax tx hs okx sm
   exact run_plain rfl (y_move (kp (sm 1 rfl) hs q5))
 · intro ax tx hs okx sm
   exact run_plain rfl (y_move (kp (sm 5 rfl) hs q6))
 · intro ax tx hs okx sm d0 d1
   have e0 : At (Ty.nat (1 + (pick (n) (12)))) tx ax (.tmp 19) := d0 rfl
   have e1 : At (Ty.lst Ty.int (changeOf c ((1 + (pick (n) (12)))))) tx ax (.tmp 20) := d1 rfl
   exact run_plain rfl ((y_call #[ax.eval (.tmp 19), ax.eval (.tmp 20)] Try.func13 rfl rfl (by simp only [List.map_toArray, List.map_cons, List.map_nil]) (pRow_fn ((1 + (pick (n) (12)))) ((changeOf c ((1 + (pick (n) (12)))))) _ _ _ e0 e1 (by omega))).mono (fun τ _ h => cvt (T := (Ty.tup2 (Ty.lst Ty.int (if chgMay ((((1 + (pick (n) (12)))) : Nat) : Int) ((changeOf c ((1 + (pick (n) (12)))))) = 0 then chgRow ((1 + (pick (n) (12)))) ((changeOf c ((1 + (pick (n) (12)))))) else [])) (Ty.int (chgMay ((((1 + (pick (n) (12)))) : Nat) : Int) ((changeOf c ((1 + (pick (n) (12)))))))))) (U := (Ty.tup2 (Ty.lst Ty.int (chgRow (1 + pick n 12) (changeOf c (1 + pick n 12)))) (Ty.int (0 : Int)))) (by rw [hmay]; rfl) h))
 · intro ax tx hs okx sm d0
   have e2 : At (Ty.tup2 (Ty.lst Ty.int (chgRow (1 + pick n 12) (changeOf c (1 + pick n 12)))) (Ty.int (0 : Int))) tx ax (.tmp 21) := d0 rfl
   exact run_plain rfl (y_move e2)
 · intro ax tx hs okx sm d0
   have e3 : At (Ty.tup2 (Ty.lst Ty.int (chgRow (1 + pick n 12) (changeOf c (1 + pick n 12)))) (Ty.int (0 : Int))) tx ax (.tmp 18) := d0 rfl
   exact run_plain rfl (y_ext2_0 e3)
 · intro ax tx hs okx sm d0 d1
   have e3 : At (Ty.tup2 (Ty.lst Ty.int (chgRow (1 + pick n 12) (changeOf c (1 + pick n 12)))) (Ty.int (0 : Int))) tx ax (.tmp 18) := d0 rfl
   exact run_plain rfl (y_ext2_1 e3)
 · intro ax tx hs okx sm d0 d1 d2 d3 d4 d5 d6 d7
   have e4 : At (Ty.lst Ty.int (chgRow (1 + pick n 12) (changeOf c (1 + pick n 12)))) tx ax (.tmp 22) := d0 rfl
   have e2 : At (Ty.tup2 (Ty.lst Ty.int (chgRow (1 + pick n 12) (changeOf c (1 + pick n 12)))) (Ty.int (0 : Int))) tx ax (.tmp 21) := d1 rfl
   have e0 : At (Ty.nat (1 + (pick (n) (12)))) tx ax (.tmp 19) := d2 rfl
   have e1 : At (Ty.lst Ty.int (changeOf c ((1 + (pick (n) (12)))))) tx ax (.tmp 20) := d3 rfl
   have e3 : At (Ty.tup2 (Ty.lst Ty.int (chgRow (1 + pick n 12) (changeOf c (1 + pick n 12)))) (Ty.int (0 : Int))) tx ax (.tmp 18) := d5 rfl
   exact run_plain rfl (y_assign e4)
 · intro ax tx hs okx sm d0 d1 d2 d3 d4 d5 d6 d7 d8
   have e5 : At (Ty.int (0 : Int)) tx ax (.tmp 23) := d0 rfl
   have e6 : At (Ty.lst Ty.int (chgRow (1 + pick n 12) (changeOf c (1 + pick n 12)))) tx ax (.tmp 6) := d1 rfl
   have e0 : At (Ty.nat (1 + (pick (n) (12)))) tx ax (.tmp 19) := d2 rfl
   have e1 : At (Ty.lst Ty.int (changeOf c ((1 + (pick (n) (12)))))) tx ax (.tmp 20) := d3 rfl
   have e2 : At (Ty.tup2 (Ty.lst Ty.int (chgRow (1 + pick n 12) (changeOf c (1 + pick n 12)))) (Ty.int (0 : Int))) tx ax (.tmp 21) := d4 rfl
   have e3 : At (Ty.tup2 (Ty.lst Ty.int (chgRow (1 + pick n 12) (changeOf c (1 + pick n 12)))) (Ty.int (0 : Int))) tx ax (.tmp 18) := d5 rfl
   have e4 : At (Ty.lst Ty.int (chgRow (1 + pick n 12) (changeOf c (1 + pick n 12)))) tx ax (.tmp 22) := d6 rfl
   exact run_plain rfl (y_assign e5)
 intro a4 s4 D4
 have ok4 := D4.ok
 have F4 := F3.step0 D4.stp
 have q7 : At (Ty.nat (1 + (pick (n) (12)))) s4 a4 (.tmp 1) := D4.kt q5 rfl
 have q8 : At (Ty.lst Ty.int (changeOf c ((1 + (pick (n) (12)))))) s4 a4 (.tmp 5) := D4.kt q6 rfl
 have q9 : At (Ty.lst Ty.int (chgRow (1 + pick n 12) (changeOf c (1 + pick n 12)))) s4 a4 (.tmp 6) := D4.done 6
 have q10 : At (Ty.int (0 : Int)) s4 a4 (.tmp 7) := D4.done 7
 clear D4
 refine tn ?_
 refine wp_seq ?_
 refine wp_seq ?_
 refine reg (a := a4) (σ := s4) rfl (fun i_ => List.getD [(Ty.pr (Ty.int (0 : Int))), (Ty.pr (Ty.bool (decide ((0 : Int) ≠ (0 : Int)))))] i_ Pr.any) ok4 rfl ⟨?_, ?_, trivial⟩ ?_
 · intro ax tx hs okx sm
   exact run_plain rfl (y_move (kp (sm 7 rfl) hs q10))
 · intro ax tx hs okx sm d0
   have e0 : At (Ty.int (0 : Int)) tx ax (.tmp 24) := d0 rfl
   exact run_plain rfl (y_neq e0 rfl)
 intro a5 s5 D5
 have ok5 := D5.ok
 have F5 := F4.step0 D5.stp
 have q11 : At (Ty.nat (1 + (pick (n) (12)))) s5 a5 (.tmp 1) := D5.kt q7 rfl
 have q12 : At (Ty.lst Ty.int (changeOf c ((1 + (pick (n) (12)))))) s5 a5 (.tmp 5) := D5.kt q8 rfl
 have q13 : At (Ty.lst Ty.int (chgRow (1 + pick n 12) (changeOf c (1 + pick n 12)))) s5 a5 (.tmp 6) := D5.kt q9 rfl
 have q14 : At (Ty.bool (decide ((0 : Int) ≠ (0 : Int)))) s5 a5 (.tmp 25) := D5.done 1
 clear D5
 refine tn ?_
 refine cond_p (p := ((0 : Int) ≠ (0 : Int))) q14 (fun c1 => ?_) (fun c1 => ?_)
 ·
  exfalso
  exact c1 rfl
 ·
  refine wp_skip ?_
  refine tn ?_
  refine wp_seq ?_
  refine reg (a := a5) (σ := s5) rfl (fun i_ => List.getD [(Ty.pr (Ty.lst Ty.int (chgRow (1 + pick n 12) (changeOf c (1 + pick n 12))))), (Ty.pr (Ty.lst Ty.int (chgRow (1 + pick n 12) (changeOf c (1 + pick n 12))))), (Ty.pr (Ty.tup2 (Ty.lst Ty.int (roundsL (1 + pick n 12))) (Ty.int (0 : Int)))), (Ty.pr (Ty.tup2 (Ty.lst Ty.int (roundsL (1 + pick n 12))) (Ty.int (0 : Int)))), (Ty.pr (Ty.lst Ty.int (roundsL (1 + pick n 12)))), (Ty.pr (Ty.int (0 : Int))), (Ty.pr (Ty.lst Ty.int (roundsL (1 + pick n 12)))), (Ty.pr (Ty.int (0 : Int)))] i_ Pr.any) ok5 rfl ⟨?_, ?_, ?_, ?_, ?_, ?_, ?_, ?_, trivial⟩ ?_
  · intro ax tx hs okx sm
    exact run_plain rfl (y_move (kp (sm 6 rfl) hs q13))
  · intro ax tx hs okx sm
    exact run_plain rfl (y_move (kp (sm 6 rfl) hs q13))
  · intro ax tx hs okx sm d0 d1
    have e0 : At (Ty.lst Ty.int (chgRow (1 + pick n 12) (changeOf c (1 + pick n 12)))) tx ax (.tmp 27) := d0 rfl
    have e1 : At (Ty.lst Ty.int (chgRow (1 + pick n 12) (changeOf c (1 + pick n 12)))) tx ax (.tmp 28) := d1 rfl
    exact run_plain rfl ((y_call #[ax.eval (.tmp 27), ax.eval (.tmp 28)] Try.func14 rfl rfl (by simp only [List.map_toArray, List.map_cons, List.map_nil]) (times_fn ((chgRow (1 + pick n 12) (changeOf c (1 + pick n 12)))) ((chgRow (1 + pick n 12) (changeOf c (1 + pick n 12)))) _ _ _ e0 e1 )).mono (fun τ _ h => cvt (T := (Ty.tup2 (Ty.lst Ty.int (if twoMay ((chgRow (1 + pick n 12) (changeOf c (1 + pick n 12)))) ((chgRow (1 + pick n 12) (changeOf c (1 + pick n 12)))) = 0 then byL ((chgRow (1 + pick n 12) (changeOf c (1 + pick n 12)))) ((chgRow (1 + pick n 12) (changeOf c (1 + pick n 12)))) else [])) (Ty.int (twoMay ((chgRow (1 + pick n 12) (changeOf c (1 + pick n 12)))) ((chgRow (1 + pick n 12) (changeOf c (1 + pick n 12)))))))) (U := (Ty.tup2 (Ty.lst Ty.int (roundsL (1 + pick n 12))) (Ty.int (0 : Int)))) (by rw [htm, piece_twice hp.1]; rfl) h))
  · intro ax tx hs okx sm d0
    have e2 : At (Ty.tup2 (Ty.lst Ty.int (roundsL (1 + pick n 12))) (Ty.int (0 : Int))) tx ax (.tmp 29) := d0 rfl
    exact run_plain rfl (y_move e2)
  · intro ax tx hs okx sm d0
    have e3 : At (Ty.tup2 (Ty.lst Ty.int (roundsL (1 + pick n 12))) (Ty.int (0 : Int))) tx ax (.tmp 26) := d0 rfl
    exact run_plain rfl (y_ext2_0 e3)
  · intro ax tx hs okx sm d0 d1
    have e3 : At (Ty.tup2 (Ty.lst Ty.int (roundsL (1 + pick n 12))) (Ty.int (0 : Int))) tx ax (.tmp 26) := d0 rfl
    exact run_plain rfl (y_ext2_1 e3)
  · intro ax tx hs okx sm d0 d1 d2 d3 d4 d5 d6 d7
    have e4 : At (Ty.lst Ty.int (roundsL (1 + pick n 12))) tx ax (.tmp 30) := d0 rfl
    have e2 : At (Ty.tup2 (Ty.lst Ty.int (roundsL (1 + pick n 12))) (Ty.int (0 : Int))) tx ax (.tmp 29) := d1 rfl
    have e0 : At (Ty.lst Ty.int (chgRow (1 + pick n 12) (changeOf c (1 + pick n 12)))) tx ax (.tmp 27) := d2 rfl
    have e1 : At (Ty.lst Ty.int (chgRow (1 + pick n 12) (changeOf c (1 + pick n 12)))) tx ax (.tmp 28) := d3 rfl
    have e3 : At (Ty.tup2 (Ty.lst Ty.int (roundsL (1 + pick n 12))) (Ty.int (0 : Int))) tx ax (.tmp 26) := d5 rfl
    exact run_plain rfl (y_assign e4)
  · intro ax tx hs okx sm d0 d1 d2 d3 d4 d5 d6 d7 d8
    have e5 : At (Ty.int (0 : Int)) tx ax (.tmp 31) := d0 rfl
    have e6 : At (Ty.lst Ty.int (roundsL (1 + pick n 12))) tx ax (.tmp 8) := d1 rfl
    have e0 : At (Ty.lst Ty.int (chgRow (1 + pick n 12) (changeOf c (1 + pick n 12)))) tx ax (.tmp 27) := d2 rfl
    have e1 : At (Ty.lst Ty.int (chgRow (1 + pick n 12) (changeOf c (1 + pick n 12)))) tx ax (.tmp 28) := d3 rfl
    have e2 : At (Ty.tup2 (Ty.lst Ty.int (roundsL (1 + pick n 12))) (Ty.int (0 : Int))) tx ax (.tmp 29) := d4 rfl
    have e3 : At (Ty.tup2 (Ty.lst Ty.int (roundsL (1 + pick n 12))) (Ty.int (0 : Int))) tx ax (.tmp 26) := d5 rfl
    have e4 : At (Ty.lst Ty.int (roundsL (1 + pick n 12))) tx ax (.tmp 30) := d6 rfl
    exact run_plain rfl (y_assign e5)
  intro a6 s6 D6
  have ok6 := D6.ok
  have F6 := F5.step0 D6.stp
  have q15 : At (Ty.nat (1 + (pick (n) (12)))) s6 a6 (.tmp 1) := D6.kt q11 rfl
  have q16 : At (Ty.lst Ty.int (changeOf c ((1 + (pick (n) (12)))))) s6 a6 (.tmp 5) := D6.kt q12 rfl
  have q17 : At (Ty.lst Ty.int (chgRow (1 + pick n 12) (changeOf c (1 + pick n 12)))) s6 a6 (.tmp 6) := D6.kt q13 rfl
  have q18 : At (Ty.lst Ty.int (roundsL (1 + pick n 12))) s6 a6 (.tmp 8) := D6.done 6
  have q19 : At (Ty.int (0 : Int)) s6 a6 (.tmp 7) := D6.done 7
  clear D6
  refine tn ?_
  refine wp_seq ?_
  refine reg (a := a6) (σ := s6) rfl (fun i_ => List.getD [(Ty.pr (Ty.lst Ty.int (chgRow (1 + pick n 12) (changeOf c (1 + pick n 12))))), (Ty.pr (Ty.tup3 (Ty.nat (ordL (chgRow (1 + pick n 12) (changeOf c (1 + pick n 12))))) (Ty.bool (oddL (chgRow (1 + pick n 12) (changeOf c (1 + pick n 12))))) (Ty.int (0 : Int)))), (Ty.pr (Ty.tup3 (Ty.nat (ordL (chgRow (1 + pick n 12) (changeOf c (1 + pick n 12))))) (Ty.bool (oddL (chgRow (1 + pick n 12) (changeOf c (1 + pick n 12))))) (Ty.int (0 : Int)))), (Ty.pr (Ty.nat (ordL (chgRow (1 + pick n 12) (changeOf c (1 + pick n 12)))))), (Ty.pr (Ty.bool (oddL (chgRow (1 + pick n 12) (changeOf c (1 + pick n 12)))))), (Ty.pr (Ty.int (0 : Int))), (Ty.pr (Ty.nat (ordL (chgRow (1 + pick n 12) (changeOf c (1 + pick n 12)))))), (Ty.pr (Ty.bool (oddL (chgRow (1 + pick n 12) (changeOf c (1 + pick n 12)))))), (Ty.pr (Ty.int (0 : Int)))] i_ Pr.any) ok6 rfl ⟨?_, ?_, ?_, ?_, ?_, ?_, ?_, ?_, ?_, trivial⟩ ?_
  · intro ax tx hs okx sm
    exact run_plain rfl (y_move (kp (sm 6 rfl) hs q17))
  · intro ax tx hs okx sm d0
    have e0 : At (Ty.lst Ty.int (chgRow (1 + pick n 12) (changeOf c (1 + pick n 12)))) tx ax (.tmp 33) := d0 rfl
    exact run_plain rfl ((y_call #[ax.eval (.tmp 33)] Try.func15 rfl rfl (by simp only [List.map_toArray, List.map_cons, List.map_nil]) (order_fn ((chgRow (1 + pick n 12) (changeOf c (1 + pick n 12)))) _ _ e0 )).mono (fun τ _ h => cvt (T := (Ty.tup3 (Ty.nat (if rowMay ((chgRow (1 + pick n 12) (changeOf c (1 + pick n 12)))) = 0 then ordL ((chgRow (1 + pick n 12) (changeOf c (1 + pick n 12)))) else 0)) (Ty.bool (if rowMay ((chgRow (1 + pick n 12) (changeOf c (1 + pick n 12)))) = 0 then oddL ((chgRow (1 + pick n 12) (changeOf c (1 + pick n 12)))) else false)) (Ty.int (rowMay ((chgRow (1 + pick n 12) (changeOf c (1 + pick n 12)))))))) (U := (Ty.tup3 (Ty.nat (ordL (chgRow (1 + pick n 12) (changeOf c (1 + pick n 12))))) (Ty.bool (oddL (chgRow (1 + pick n 12) (changeOf c (1 + pick n 12))))) (Ty.int (0 : Int)))) (by rw [hrm]; rfl) h))
  · intro ax tx hs okx sm d0
    have e1 : At (Ty.tup3 (Ty.nat (ordL (chgRow (1 + pick n 12) (changeOf c (1 + pick n 12))))) (Ty.bool (oddL (chgRow (1 + pick n 12) (changeOf c (1 + pick n 12))))) (Ty.int (0 : Int))) tx ax (.tmp 34) := d0 rfl
    exact run_plain rfl (y_move e1)
  · intro ax tx hs okx sm d0
    have e2 : At (Ty.tup3 (Ty.nat (ordL (chgRow (1 + pick n 12) (changeOf c (1 + pick n 12))))) (Ty.bool (oddL (chgRow (1 + pick n 12) (changeOf c (1 + pick n 12))))) (Ty.int (0 : Int))) tx ax (.tmp 32) := d0 rfl
    exact run_plain rfl (y_ext3_0 e2)
  · intro ax tx hs okx sm d0 d1
    have e2 : At (Ty.tup3 (Ty.nat (ordL (chgRow (1 + pick n 12) (changeOf c (1 + pick n 12))))) (Ty.bool (oddL (chgRow (1 + pick n 12) (changeOf c (1 + pick n 12))))) (Ty.int (0 : Int))) tx ax (.tmp 32) := d0 rfl
    exact run_plain rfl (y_ext3_1 e2)
  · intro ax tx hs okx sm d0 d1
    have e2 : At (Ty.tup3 (Ty.nat (ordL (chgRow (1 + pick n 12) (changeOf c (1 + pick n 12))))) (Ty.bool (oddL (chgRow (1 + pick n 12) (changeOf c (1 + pick n 12))))) (Ty.int (0 : Int))) tx ax (.tmp 32) := d0 rfl
    exact run_plain rfl (y_ext3_2 e2)
  · intro ax tx hs okx sm d0 d1 d2 d3 d4 d5 d6 d7
    have e3 : At (Ty.nat (ordL (chgRow (1 + pick n 12) (changeOf c (1 + pick n 12))))) tx ax (.tmp 35) := d0 rfl
    have e1 : At (Ty.tup3 (Ty.nat (ordL (chgRow (1 + pick n 12) (changeOf c (1 + pick n 12))))) (Ty.bool (oddL (chgRow (1 + pick n 12) (changeOf c (1 + pick n 12))))) (Ty.int (0 : Int))) tx ax (.tmp 34) := d1 rfl
    have e0 : At (Ty.lst Ty.int (chgRow (1 + pick n 12) (changeOf c (1 + pick n 12)))) tx ax (.tmp 33) := d2 rfl
    have e2 : At (Ty.tup3 (Ty.nat (ordL (chgRow (1 + pick n 12) (changeOf c (1 + pick n 12))))) (Ty.bool (oddL (chgRow (1 + pick n 12) (changeOf c (1 + pick n 12))))) (Ty.int (0 : Int))) tx ax (.tmp 32) := d4 rfl
    exact run_plain rfl (y_assign e3)
  · intro ax tx hs okx sm d0 d1 d2 d3 d4 d5 d6 d7 d8
    have e4 : At (Ty.bool (oddL (chgRow (1 + pick n 12) (changeOf c (1 + pick n 12))))) tx ax (.tmp 36) := d0 rfl
    have e6 : At (Ty.nat (ordL (chgRow (1 + pick n 12) (changeOf c (1 + pick n 12))))) tx ax (.tmp 9) := d1 rfl
    have e0 : At (Ty.lst Ty.int (chgRow (1 + pick n 12) (changeOf c (1 + pick n 12)))) tx ax (.tmp 33) := d2 rfl
    have e1 : At (Ty.tup3 (Ty.nat (ordL (chgRow (1 + pick n 12) (changeOf c (1 + pick n 12))))) (Ty.bool (oddL (chgRow (1 + pick n 12) (changeOf c (1 + pick n 12))))) (Ty.int (0 : Int))) tx ax (.tmp 34) := d3 rfl
    have e2 : At (Ty.tup3 (Ty.nat (ordL (chgRow (1 + pick n 12) (changeOf c (1 + pick n 12))))) (Ty.bool (oddL (chgRow (1 + pick n 12) (changeOf c (1 + pick n 12))))) (Ty.int (0 : Int))) tx ax (.tmp 32) := d4 rfl
    have e3 : At (Ty.nat (ordL (chgRow (1 + pick n 12) (changeOf c (1 + pick n 12))))) tx ax (.tmp 35) := d5 rfl
    exact run_plain rfl (y_assign e4)
  · intro ax tx hs okx sm d0 d1 d2 d3 d4 d5 d6 d7 d8 d9
    have e5 : At (Ty.int (0 : Int)) tx ax (.tmp 37) := d0 rfl
    have e7 : At (Ty.bool (oddL (chgRow (1 + pick n 12) (changeOf c (1 + pick n 12))))) tx ax (.tmp 10) := d1 rfl
    have e0 : At (Ty.lst Ty.int (chgRow (1 + pick n 12) (changeOf c (1 + pick n 12)))) tx ax (.tmp 33) := d2 rfl
    have e1 : At (Ty.tup3 (Ty.nat (ordL (chgRow (1 + pick n 12) (changeOf c (1 + pick n 12))))) (Ty.bool (oddL (chgRow (1 + pick n 12) (changeOf c (1 + pick n 12))))) (Ty.int (0 : Int))) tx ax (.tmp 34) := d3 rfl
    have e2 : At (Ty.tup3 (Ty.nat (ordL (chgRow (1 + pick n 12) (changeOf c (1 + pick n 12))))) (Ty.bool (oddL (chgRow (1 + pick n 12) (changeOf c (1 + pick n 12))))) (Ty.int (0 : Int))) tx ax (.tmp 32) := d4 rfl
    have e3 : At (Ty.nat (ordL (chgRow (1 + pick n 12) (changeOf c (1 + pick n 12))))) tx ax (.tmp 35) := d5 rfl
    have e4 : At (Ty.bool (oddL (chgRow (1 + pick n 12) (changeOf c (1 + pick n 12))))) tx ax (.tmp 36) := d6 rfl
    have e6 : At (Ty.nat (ordL (chgRow (1 + pick n 12) (changeOf c (1 + pick n 12))))) tx ax (.tmp 9) := d8 rfl
    exact run_plain rfl (y_assign e5)
  intro a7 s7 D7
  have ok7 := D7.ok
  have F7 := F6.step0 D7.stp
  have q20 : At (Ty.nat (1 + (pick (n) (12)))) s7 a7 (.tmp 1) := D7.kt q15 rfl
  have q21 : At (Ty.lst Ty.int (changeOf c ((1 + (pick (n) (12)))))) s7 a7 (.tmp 5) := D7.kt q16 rfl
  have q22 : At (Ty.lst Ty.int (roundsL (1 + pick n 12))) s7 a7 (.tmp 8) := D7.kt q18 rfl
  have q23 : At (Ty.int (0 : Int)) s7 a7 (.tmp 7) := D7.kt q19 rfl
  have q24 : At (Ty.nat (ordL (chgRow (1 + pick n 12) (changeOf c (1 + pick n 12))))) s7 a7 (.tmp 9) := D7.done 6
  have q25 : At (Ty.bool (oddL (chgRow (1 + pick n 12) (changeOf c (1 + pick n 12))))) s7 a7 (.tmp 10) := D7.done 7
  have q26 : At (Ty.int (0 : Int)) s7 a7 (.tmp 11) := D7.done 8
  clear D7
  refine tn ?_
  refine wp_seq ?_
  refine reg (a := a7) (σ := s7) rfl (fun i_ => List.getD [(Ty.pr (Ty.int (0 : Int))), (Ty.pr (Ty.bool (decide ((0 : Int) = (0 : Int))))), (Ty.pr (Ty.bool (decide ((0 : Int) = (0 : Int))))), (Ty.pr (Ty.grd ((decide ((0 : Int) = (0 : Int))) = true) (Ty.int (0 : Int)))), (Ty.pr (Ty.grd ((decide ((0 : Int) = (0 : Int))) = true) (Ty.bool (decide ((0 : Int) = (0 : Int)))))), (Ty.pr (Ty.bool ((decide ((0 : Int) = (0 : Int))) && (decide ((0 : Int) = (0 : Int)))))), (Ty.pr (Ty.bool ((decide ((0 : Int) = (0 : Int))) && (decide ((0 : Int) = (0 : Int)))))), (Ty.pr (Ty.grd (((decide ((0 : Int) = (0 : Int))) && (decide ((0 : Int) = (0 : Int)))) = true) (Ty.lst Ty.int (roundsL (1 + pick n 12))))), (Ty.pr (Ty.grd (((decide ((0 : Int) = (0 : Int))) && (decide ((0 : Int) = (0 : Int)))) = true) (Ty.nat (1 + (pick (n) (12)))))), (Ty.pr (Ty.grd (((decide ((0 : Int) = (0 : Int))) && (decide ((0 : Int) = (0 : Int)))) = true) (Ty.lst Ty.int (roundsL ((1 + (pick (n) (12)))))))), (Ty.pr (Ty.grd (((decide ((0 : Int) = (0 : Int))) && (decide ((0 : Int) = (0 : Int)))) = true) (Ty.bool (decide (((roundsL (1 + pick n 12))) = ((roundsL ((1 + (pick (n) (12))))))))))), (Ty.pr (Ty.bool (((decide ((0 : Int) = (0 : Int))) && (decide ((0 : Int) = (0 : Int)))) && (decide (((roundsL (1 + pick n 12))) = ((roundsL ((1 + (pick (n) (12))))))))))), (Ty.pr (Ty.bool (((decide ((0 : Int) = (0 : Int))) && (decide ((0 : Int) = (0 : Int)))) && (decide (((roundsL (1 + pick n 12))) = ((roundsL ((1 + (pick (n) (12))))))))))), (Ty.pr (Ty.grd ((((decide ((0 : Int) = (0 : Int))) && (decide ((0 : Int) = (0 : Int)))) && (decide (((roundsL (1 + pick n 12))) = ((roundsL ((1 + (pick (n) (12))))))))) = true) (Ty.nat (ordL (chgRow (1 + pick n 12) (changeOf c (1 + pick n 12))))))), (Ty.pr (Ty.grd ((((decide ((0 : Int) = (0 : Int))) && (decide ((0 : Int) = (0 : Int)))) && (decide (((roundsL (1 + pick n 12))) = ((roundsL ((1 + (pick (n) (12))))))))) = true) (Ty.bool (decide ((((ordL (chgRow (1 + pick n 12) (changeOf c (1 + pick n 12)))) : Nat) : Int) ≤ (2 : Int)))))), (Ty.pr (Ty.bool ((((decide ((0 : Int) = (0 : Int))) && (decide ((0 : Int) = (0 : Int)))) && (decide (((roundsL (1 + pick n 12))) = ((roundsL ((1 + (pick (n) (12))))))))) && (decide ((((ordL (chgRow (1 + pick n 12) (changeOf c (1 + pick n 12)))) : Nat) : Int) ≤ (2 : Int)))))), (Ty.pr (Ty.bool ((((decide ((0 : Int) = (0 : Int))) && (decide ((0 : Int) = (0 : Int)))) && (decide (((roundsL (1 + pick n 12))) = ((roundsL ((1 + (pick (n) (12))))))))) && (decide ((((ordL (chgRow (1 + pick n 12) (changeOf c (1 + pick n 12)))) : Nat) : Int) ≤ (2 : Int)))))), (Ty.pr (Ty.grd (((((decide ((0 : Int) = (0 : Int))) && (decide ((0 : Int) = (0 : Int)))) && (decide (((roundsL (1 + pick n 12))) = ((roundsL ((1 + (pick (n) (12))))))))) && (decide ((((ordL (chgRow (1 + pick n 12) (changeOf c (1 + pick n 12)))) : Nat) : Int) ≤ (2 : Int)))) = true) (Ty.bool (oddL (chgRow (1 + pick n 12) (changeOf c (1 + pick n 12))))))), (Ty.pr (Ty.grd (((((decide ((0 : Int) = (0 : Int))) && (decide ((0 : Int) = (0 : Int)))) && (decide (((roundsL (1 + pick n 12))) = ((roundsL ((1 + (pick (n) (12))))))))) && (decide ((((ordL (chgRow (1 + pick n 12) (changeOf c (1 + pick n 12)))) : Nat) : Int) ≤ (2 : Int)))) = true) (Ty.nat (1 + (pick (n) (12)))))), (Ty.pr (Ty.grd (((((decide ((0 : Int) = (0 : Int))) && (decide ((0 : Int) = (0 : Int)))) && (decide (((roundsL (1 + pick n 12))) = ((roundsL ((1 + (pick (n) (12))))))))) && (decide ((((ordL (chgRow (1 + pick n 12) (changeOf c (1 + pick n 12)))) : Nat) : Int) ≤ (2 : Int)))) = true) (Ty.lst Ty.int (changeOf c ((1 + (pick (n) (12)))))))), (Ty.pr (Ty.grd (((((decide ((0 : Int) = (0 : Int))) && (decide ((0 : Int) = (0 : Int)))) && (decide (((roundsL (1 + pick n 12))) = ((roundsL ((1 + (pick (n) (12))))))))) && (decide ((((ordL (chgRow (1 + pick n 12) (changeOf c (1 + pick n 12)))) : Nat) : Int) ≤ (2 : Int)))) = true) (Ty.nat (List.length (changeOf c ((1 + (pick (n) (12))))))))), (Ty.pr (Ty.grd (((((decide ((0 : Int) = (0 : Int))) && (decide ((0 : Int) = (0 : Int)))) && (decide (((roundsL (1 + pick n 12))) = ((roundsL ((1 + (pick (n) (12))))))))) && (decide ((((ordL (chgRow (1 + pick n 12) (changeOf c (1 + pick n 12)))) : Nat) : Int) ≤ (2 : Int)))) = true) (Ty.int ((((1 + (pick (n) (12))) : Nat) : Int) - (((List.length (changeOf c ((1 + (pick (n) (12)))))) : Nat) : Int))))), (Ty.pr (Ty.grd (((((decide ((0 : Int) = (0 : Int))) && (decide ((0 : Int) = (0 : Int)))) && (decide (((roundsL (1 + pick n 12))) = ((roundsL ((1 + (pick (n) (12))))))))) && (decide ((((ordL (chgRow (1 + pick n 12) (changeOf c (1 + pick n 12)))) : Nat) : Int) ≤ (2 : Int)))) = true) (Ty.nat ((((((1 + (pick (n) (12))) : Nat) : Int) - (((List.length (changeOf c ((1 + (pick (n) (12)))))) : Nat) : Int))).toNat / 2)))), (Ty.pr (Ty.grd (((((decide ((0 : Int) = (0 : Int))) && (decide ((0 : Int) = (0 : Int)))) && (decide (((roundsL (1 + pick n 12))) = ((roundsL ((1 + (pick (n) (12))))))))) && (decide ((((ordL (chgRow (1 + pick n 12) (changeOf c (1 + pick n 12)))) : Nat) : Int) ≤ (2 : Int)))) = true) (Ty.nat (((((((1 + (pick (n) (12))) : Nat) : Int) - (((List.length (changeOf c ((1 + (pick (n) (12)))))) : Nat) : Int))).toNat / 2) % 2)))), (Ty.pr (Ty.grd (((((decide ((0 : Int) = (0 : Int))) && (decide ((0 : Int) = (0 : Int)))) && (decide (((roundsL (1 + pick n 12))) = ((roundsL ((1 + (pick (n) (12))))))))) && (decide ((((ordL (chgRow (1 + pick n 12) (changeOf c (1 + pick n 12)))) : Nat) : Int) ≤ (2 : Int)))) = true) (Ty.bool (decide ((((((((((1 + (pick (n) (12))) : Nat) : Int) - (((List.length (changeOf c ((1 + (pick (n) (12)))))) : Nat) : Int))).toNat / 2) % 2) : Nat) : Int) = (1 : Int)))))), (Ty.pr (Ty.grd (((((decide ((0 : Int) = (0 : Int))) && (decide ((0 : Int) = (0 : Int)))) && (decide (((roundsL (1 + pick n 12))) = ((roundsL ((1 + (pick (n) (12))))))))) && (decide ((((ordL (chgRow (1 + pick n 12) (changeOf c (1 + pick n 12)))) : Nat) : Int) ≤ (2 : Int)))) = true) (Ty.bool ((oddL (chgRow (1 + pick n 12) (changeOf c (1 + pick n 12)))) == (decide ((((((((((1 + (pick (n) (12))) : Nat) : Int) - (((List.length (changeOf c ((1 + (pick (n) (12)))))) : Nat) : Int))).toNat / 2) % 2) : Nat) : Int) = (1 : Int))))))), (Ty.pr (Ty.bool (((((decide ((0 : Int) = (0 : Int))) && (decide ((0 : Int) = (0 : Int)))) && (decide (((roundsL (1 + pick n 12))) = ((roundsL ((1 + (pick (n) (12))))))))) && (decide ((((ordL (chgRow (1 + pick n 12) (changeOf c (1 + pick n 12)))) : Nat) : Int) ≤ (2 : Int)))) && ((oddL (chgRow (1 + pick n 12) (changeOf c (1 + pick n 12)))) == (decide ((((((((((1 + (pick (n) (12))) : Nat) : Int) - (((List.length (changeOf c ((1 + (pick (n) (12)))))) : Nat) : Int))).toNat / 2) % 2) : Nat) : Int) = (1 : Int))))))), (Ty.pr (Ty.bool (((((decide ((0 : Int) = (0 : Int))) && (decide ((0 : Int) = (0 : Int)))) && (decide (((roundsL (1 + pick n 12))) = ((roundsL ((1 + (pick (n) (12))))))))) && (decide ((((ordL (chgRow (1 + pick n 12) (changeOf c (1 + pick n 12)))) : Nat) : Int) ≤ (2 : Int)))) && ((oddL (chgRow (1 + pick n 12) (changeOf c (1 + pick n 12)))) == (decide ((((((((((1 + (pick (n) (12))) : Nat) : Int) - (((List.length (changeOf c ((1 + (pick (n) (12)))))) : Nat) : Int))).toNat / 2) % 2) : Nat) : Int) = (1 : Int)))))))] i_ Pr.any) ok7 rfl ⟨?_, ?_, ?_, ?_, ?_, ?_, ?_, ?_, ?_, ?_, ?_, ?_, ?_, ?_, ?_, ?_, ?_, ?_, ?_, ?_, ?_, ?_, ?_, ?_, ?_, ?_, ?_, ?_, trivial⟩ ?_
  · intro ax tx hs okx sm
    exact run_plain rfl (y_move (kp (sm 7 rfl) hs q23))
  · intro ax tx hs okx sm d0
    have e0 : At (Ty.int (0 : Int)) tx ax (.tmp 38) := d0 rfl
    exact run_plain rfl (y_eql e0 rfl)
  · intro ax tx hs okx sm d0
    have e1 : At (Ty.bool (decide ((0 : Int) = (0 : Int)))) tx ax (.tmp 39) := d0 rfl
    exact run_plain rfl (y_move e1)
  · intro ax tx hs okx sm d0
    have e2 : At (Ty.bool (decide ((0 : Int) = (0 : Int)))) tx ax (.tmp 40) := d0 rfl
    refine run_guard (T := (Ty.int (0 : Int))) okx rfl rfl (by decide) e2 (fun hg => ?_)
    have hp := of_decide_eq_true hg
    exact y_move (kp (sm 11 rfl) hs q26)
  · intro ax tx hs okx sm d0 d1
    have e3 : At (Ty.grd ((decide ((0 : Int) = (0 : Int))) = true) (Ty.int (0 : Int))) tx ax (.tmp 41) := d0 rfl
    have e2 : At (Ty.bool (decide ((0 : Int) = (0 : Int)))) tx ax (.tmp 40) := d1 rfl
    refine run_guard (T := (Ty.bool (decide ((0 : Int) = (0 : Int))))) okx rfl rfl (by decide) e2 (fun hg => ?_)
    have hp := of_decide_eq_true hg
    exact y_eql (e3.1 hg) rfl
  · intro ax tx hs okx sm d0 d1
    have e2 : At (Ty.bool (decide ((0 : Int) = (0 : Int)))) tx ax (.tmp 40) := d0 rfl
    have e4 : At (Ty.grd ((decide ((0 : Int) = (0 : Int))) = true) (Ty.bool (decide ((0 : Int) = (0 : Int))))) tx ax (.tmp 42) := d1 rfl
    exact run_plain rfl (y_pick_and e2 e4 rfl)
  · intro ax tx hs okx sm d0 d1
    have e5 : At (Ty.bool ((decide ((0 : Int) = (0 : Int))) && (decide ((0 : Int) = (0 : Int))))) tx ax (.tmp 43) := d0 rfl
    have e2 : At (Ty.bool (decide ((0 : Int) = (0 : Int)))) tx ax (.tmp 40) := d1 rfl
    exact run_plain rfl (y_move e5)
  · intro ax tx hs okx sm d0
    have e6 : At (Ty.bool ((decide ((0 : Int) = (0 : Int))) && (decide ((0 : Int) = (0 : Int))))) tx ax (.tmp 44) := d0 rfl
    refine run_guard (T := (Ty.lst Ty.int (roundsL (1 + pick n 12)))) okx rfl rfl (by decide) e6 (fun hg => ?_)
    obtain ⟨d1, d2⟩ := Bool.and_eq_true_iff.mp hg
    have d1 := of_decide_eq_true d1
    have d2 := of_decide_eq_true d2
    exact y_move (kp (sm 8 rfl) hs q22)
  · intro ax tx hs okx sm d0
    have e6 : At (Ty.bool ((decide ((0 : Int) = (0 : Int))) && (decide ((0 : Int) = (0 : Int))))) tx ax (.tmp 44) := d0 rfl
    refine run_guard (T := (Ty.nat (1 + (pick (n) (12))))) okx rfl rfl (by decide) e6 (fun hg => ?_)
    obtain ⟨d3, d4⟩ := Bool.and_eq_true_iff.mp hg
    have d3 := of_decide_eq_true d3
    have d4 := of_decide_eq_true d4
    exact y_move (kp (sm 1 rfl) hs q20)
  · intro ax tx hs okx sm d0 d1 d2
    have e8 : At (Ty.grd (((decide ((0 : Int) = (0 : Int))) && (decide ((0 : Int) = (0 : Int)))) = true) (Ty.nat (1 + (pick (n) (12))))) tx ax (.tmp 46) := d0 rfl
    have e6 : At (Ty.bool ((decide ((0 : Int) = (0 : Int))) && (decide ((0 : Int) = (0 : Int))))) tx ax (.tmp 44) := d1 rfl
    refine run_guard (T := (Ty.lst Ty.int (roundsL ((1 + (pick (n) (12))))))) okx rfl rfl (by decide) e6 (fun hg => ?_)
    obtain ⟨d5, d6⟩ := Bool.and_eq_true_iff.mp hg
    have d5 := of_decide_eq_true d5
    have d6 := of_decide_eq_true d6
    exact y_call #[ax.eval (.tmp 46)] Try.func17 rfl rfl (by simp only [List.map_toArray, List.map_cons, List.map_nil]) (rRounds_fn ((1 + (pick (n) (12)))) _ _ (e8.1 hg) (by omega))
  · intro ax tx hs okx sm d0 d1 d2 d3
    have e7 : At (Ty.grd (((decide ((0 : Int) = (0 : Int))) && (decide ((0 : Int) = (0 : Int)))) = true) (Ty.lst Ty.int (roundsL (1 + pick n 12)))) tx ax (.tmp 45) := d0 rfl
    have e9 : At (Ty.grd (((decide ((0 : Int) = (0 : Int))) && (decide ((0 : Int) = (0 : Int)))) = true) (Ty.lst Ty.int (roundsL ((1 + (pick (n) (12))))))) tx ax (.tmp 47) := d1 rfl
    have e6 : At (Ty.bool ((decide ((0 : Int) = (0 : Int))) && (decide ((0 : Int) = (0 : Int))))) tx ax (.tmp 44) := d3 rfl
    refine run_guard (T := (Ty.bool (decide (((roundsL (1 + pick n 12))) = ((roundsL ((1 + (pick (n) (12)))))))))) okx rfl rfl (by decide) e6 (fun hg => ?_)
    obtain ⟨d7, d8⟩ := Bool.and_eq_true_iff.mp hg
    have d7 := of_decide_eq_true d7
    have d8 := of_decide_eq_true d8
    exact y_call #[ax.eval (.tmp 45), ax.eval (.tmp 47)] Try.func16 rfl rfl (by simp only [List.map_toArray, List.map_cons, List.map_nil]) (rsame_fn ((roundsL (1 + pick n 12))) ((roundsL ((1 + (pick (n) (12)))))) _ _ _ (e7.1 hg) (e9.1 hg) )
  · intro ax tx hs okx sm d0 d1
    have e6 : At (Ty.bool ((decide ((0 : Int) = (0 : Int))) && (decide ((0 : Int) = (0 : Int))))) tx ax (.tmp 44) := d0 rfl
    have e10 : At (Ty.grd (((decide ((0 : Int) = (0 : Int))) && (decide ((0 : Int) = (0 : Int)))) = true) (Ty.bool (decide (((roundsL (1 + pick n 12))) = ((roundsL ((1 + (pick (n) (12)))))))))) tx ax (.tmp 48) := d1 rfl
    exact run_plain rfl (y_pick_and e6 e10 rfl)
  · intro ax tx hs okx sm d0 d1
    have e11 : At (Ty.bool (((decide ((0 : Int) = (0 : Int))) && (decide ((0 : Int) = (0 : Int)))) && (decide (((roundsL (1 + pick n 12))) = ((roundsL ((1 + (pick (n) (12)))))))))) tx ax (.tmp 49) := d0 rfl
    have e10 : At (Ty.grd (((decide ((0 : Int) = (0 : Int))) && (decide ((0 : Int) = (0 : Int)))) = true) (Ty.bool (decide (((roundsL (1 + pick n 12))) = ((roundsL ((1 + (pick (n) (12)))))))))) tx ax (.tmp 48) := d1 rfl
    exact run_plain rfl (y_move e11)
  · intro ax tx hs okx sm d0
    have e12 : At (Ty.bool (((decide ((0 : Int) = (0 : Int))) && (decide ((0 : Int) = (0 : Int)))) && (decide (((roundsL (1 + pick n 12))) = ((roundsL ((1 + (pick (n) (12)))))))))) tx ax (.tmp 50) := d0 rfl
    refine run_guard (T := (Ty.nat (ordL (chgRow (1 + pick n 12) (changeOf c (1 + pick n 12)))))) okx rfl rfl (by decide) e12 (fun hg => ?_)
    obtain ⟨d9, d10⟩ := Bool.and_eq_true_iff.mp hg
    obtain ⟨d11, d12⟩ := Bool.and_eq_true_iff.mp d9
    have d11 := of_decide_eq_true d11
    have d12 := of_decide_eq_true d12
    exact y_move (kp (sm 9 rfl) hs q24)
  · intro ax tx hs okx sm d0 d1
    have e13 : At (Ty.grd ((((decide ((0 : Int) = (0 : Int))) && (decide ((0 : Int) = (0 : Int)))) && (decide (((roundsL (1 + pick n 12))) = ((roundsL ((1 + (pick (n) (12))))))))) = true) (Ty.nat (ordL (chgRow (1 + pick n 12) (changeOf c (1 + pick n 12)))))) tx ax (.tmp 51) := d0 rfl
    have e12 : At (Ty.bool (((decide ((0 : Int) = (0 : Int))) && (decide ((0 : Int) = (0 : Int)))) && (decide (((roundsL (1 + pick n 12))) = ((roundsL ((1 + (pick (n) (12)))))))))) tx ax (.tmp 50) := d1 rfl
    refine run_guard (T := (Ty.bool (decide ((((ordL (chgRow (1 + pick n 12) (changeOf c (1 + pick n 12)))) : Nat) : Int) ≤ (2 : Int))))) okx rfl rfl (by decide) e12 (fun hg => ?_)
    obtain ⟨d13, d14⟩ := Bool.and_eq_true_iff.mp hg
    obtain ⟨d15, d16⟩ := Bool.and_eq_true_iff.mp d13
    have d15 := of_decide_eq_true d15
    have d16 := of_decide_eq_true d16
    exact y_leq (e13.1 hg) rfl
  · intro ax tx hs okx sm d0 d1
    have e12 : At (Ty.bool (((decide ((0 : Int) = (0 : Int))) && (decide ((0 : Int) = (0 : Int)))) && (decide (((roundsL (1 + pick n 12))) = ((roundsL ((1 + (pick (n) (12)))))))))) tx ax (.tmp 50) := d0 rfl
    have e14 : At (Ty.grd ((((decide ((0 : Int) = (0 : Int))) && (decide ((0 : Int) = (0 : Int)))) && (decide (((roundsL (1 + pick n 12))) = ((roundsL ((1 + (pick (n) (12))))))))) = true) (Ty.bool (decide ((((ordL (chgRow (1 + pick n 12) (changeOf c (1 + pick n 12)))) : Nat) : Int) ≤ (2 : Int))))) tx ax (.tmp 52) := d1 rfl
    exact run_plain rfl (y_pick_and e12 e14 rfl)
  · intro ax tx hs okx sm d0 d1
    have e15 : At (Ty.bool ((((decide ((0 : Int) = (0 : Int))) && (decide ((0 : Int) = (0 : Int)))) && (decide (((roundsL (1 + pick n 12))) = ((roundsL ((1 + (pick (n) (12))))))))) && (decide ((((ordL (chgRow (1 + pick n 12) (changeOf c (1 + pick n 12)))) : Nat) : Int) ≤ (2 : Int))))) tx ax (.tmp 53) := d0 rfl
    have e12 : At (Ty.bool (((decide ((0 : Int) = (0 : Int))) && (decide ((0 : Int) = (0 : Int)))) && (decide (((roundsL (1 + pick n 12))) = ((roundsL ((1 + (pick (n) (12)))))))))) tx ax (.tmp 50) := d1 rfl
    exact run_plain rfl (y_move e15)
  · intro ax tx hs okx sm d0
    have e16 : At (Ty.bool ((((decide ((0 : Int) = (0 : Int))) && (decide ((0 : Int) = (0 : Int)))) && (decide (((roundsL (1 + pick n 12))) = ((roundsL ((1 + (pick (n) (12))))))))) && (decide ((((ordL (chgRow (1 + pick n 12) (changeOf c (1 + pick n 12)))) : Nat) : Int) ≤ (2 : Int))))) tx ax (.tmp 54) := d0 rfl
    refine run_guard (T := (Ty.bool (oddL (chgRow (1 + pick n 12) (changeOf c (1 + pick n 12)))))) okx rfl rfl (by decide) e16 (fun hg => ?_)
    obtain ⟨d17, d18⟩ := Bool.and_eq_true_iff.mp hg
    obtain ⟨d19, d20⟩ := Bool.and_eq_true_iff.mp d17
    obtain ⟨d21, d22⟩ := Bool.and_eq_true_iff.mp d19
    have d21 := of_decide_eq_true d21
    have d22 := of_decide_eq_true d22
    have d18 := of_decide_eq_true d18
    exact y_move (kp (sm 10 rfl) hs q25)
  · intro ax tx hs okx sm d0
    have e16 : At (Ty.bool ((((decide ((0 : Int) = (0 : Int))) && (decide ((0 : Int) = (0 : Int)))) && (decide (((roundsL (1 + pick n 12))) = ((roundsL ((1 + (pick (n) (12))))))))) && (decide ((((ordL (chgRow (1 + pick n 12) (changeOf c (1 + pick n 12)))) : Nat) : Int) ≤ (2 : Int))))) tx ax (.tmp 54) := d0 rfl
    refine run_guard (T := (Ty.nat (1 + (pick (n) (12))))) okx rfl rfl (by decide) e16 (fun hg => ?_)
    obtain ⟨d23, d24⟩ := Bool.and_eq_true_iff.mp hg
    obtain ⟨d25, d26⟩ := Bool.and_eq_true_iff.mp d23
    obtain ⟨d27, d28⟩ := Bool.and_eq_true_iff.mp d25
    have d27 := of_decide_eq_true d27
    have d28 := of_decide_eq_true d28
    have d24 := of_decide_eq_true d24
    exact y_move (kp (sm 1 rfl) hs q20)
  · intro ax tx hs okx sm d0
    have e16 : At (Ty.bool ((((decide ((0 : Int) = (0 : Int))) && (decide ((0 : Int) = (0 : Int)))) && (decide (((roundsL (1 + pick n 12))) = ((roundsL ((1 + (pick (n) (12))))))))) && (decide ((((ordL (chgRow (1 + pick n 12) (changeOf c (1 + pick n 12)))) : Nat) : Int) ≤ (2 : Int))))) tx ax (.tmp 54) := d0 rfl
    refine run_guard (T := (Ty.lst Ty.int (changeOf c ((1 + (pick (n) (12))))))) okx rfl rfl (by decide) e16 (fun hg => ?_)
    obtain ⟨d29, d30⟩ := Bool.and_eq_true_iff.mp hg
    obtain ⟨d31, d32⟩ := Bool.and_eq_true_iff.mp d29
    obtain ⟨d33, d34⟩ := Bool.and_eq_true_iff.mp d31
    have d33 := of_decide_eq_true d33
    have d34 := of_decide_eq_true d34
    have d30 := of_decide_eq_true d30
    exact y_move (kp (sm 5 rfl) hs q21)
  · intro ax tx hs okx sm d0 d1
    have e19 : At (Ty.grd (((((decide ((0 : Int) = (0 : Int))) && (decide ((0 : Int) = (0 : Int)))) && (decide (((roundsL (1 + pick n 12))) = ((roundsL ((1 + (pick (n) (12))))))))) && (decide ((((ordL (chgRow (1 + pick n 12) (changeOf c (1 + pick n 12)))) : Nat) : Int) ≤ (2 : Int)))) = true) (Ty.lst Ty.int (changeOf c ((1 + (pick (n) (12))))))) tx ax (.tmp 57) := d0 rfl
    have e16 : At (Ty.bool ((((decide ((0 : Int) = (0 : Int))) && (decide ((0 : Int) = (0 : Int)))) && (decide (((roundsL (1 + pick n 12))) = ((roundsL ((1 + (pick (n) (12))))))))) && (decide ((((ordL (chgRow (1 + pick n 12) (changeOf c (1 + pick n 12)))) : Nat) : Int) ≤ (2 : Int))))) tx ax (.tmp 54) := d1 rfl
    refine run_guard (T := (Ty.nat (List.length (changeOf c ((1 + (pick (n) (12)))))))) okx rfl rfl (by decide) e16 (fun hg => ?_)
    obtain ⟨d35, d36⟩ := Bool.and_eq_true_iff.mp hg
    obtain ⟨d37, d38⟩ := Bool.and_eq_true_iff.mp d35
    obtain ⟨d39, d40⟩ := Bool.and_eq_true_iff.mp d37
    have d39 := of_decide_eq_true d39
    have d40 := of_decide_eq_true d40
    have d36 := of_decide_eq_true d36
    exact y_len Try.underlying22 (e19.1 hg)
  · intro ax tx hs okx sm d0 d1 d2
    have e18 : At (Ty.grd (((((decide ((0 : Int) = (0 : Int))) && (decide ((0 : Int) = (0 : Int)))) && (decide (((roundsL (1 + pick n 12))) = ((roundsL ((1 + (pick (n) (12))))))))) && (decide ((((ordL (chgRow (1 + pick n 12) (changeOf c (1 + pick n 12)))) : Nat) : Int) ≤ (2 : Int)))) = true) (Ty.nat (1 + (pick (n) (12))))) tx ax (.tmp 56) := d0 rfl
    have e20 : At (Ty.grd (((((decide ((0 : Int) = (0 : Int))) && (decide ((0 : Int) = (0 : Int)))) && (decide (((roundsL (1 + pick n 12))) = ((roundsL ((1 + (pick (n) (12))))))))) && (decide ((((ordL (chgRow (1 + pick n 12) (changeOf c (1 + pick n 12)))) : Nat) : Int) ≤ (2 : Int)))) = true) (Ty.nat (List.length (changeOf c ((1 + (pick (n) (12)))))))) tx ax (.tmp 58) := d1 rfl
    have e16 : At (Ty.bool ((((decide ((0 : Int) = (0 : Int))) && (decide ((0 : Int) = (0 : Int)))) && (decide (((roundsL (1 + pick n 12))) = ((roundsL ((1 + (pick (n) (12))))))))) && (decide ((((ordL (chgRow (1 + pick n 12) (changeOf c (1 + pick n 12)))) : Nat) : Int) ≤ (2 : Int))))) tx ax (.tmp 54) := d2 rfl
    refine run_guard (T := (Ty.int ((((1 + (pick (n) (12))) : Nat) : Int) - (((List.length (changeOf c ((1 + (pick (n) (12)))))) : Nat) : Int)))) okx rfl rfl (by decide) e16 (fun hg => ?_)
    obtain ⟨d41, d42⟩ := Bool.and_eq_true_iff.mp hg
    obtain ⟨d43, d44⟩ := Bool.and_eq_true_iff.mp d41
    obtain ⟨d45, d46⟩ := Bool.and_eq_true_iff.mp d43
    have d45 := of_decide_eq_true d45
    have d46 := of_decide_eq_true d46
    have d42 := of_decide_eq_true d42
    exact y_sub (e18.1 hg) (e20.1 hg) (w64 (by omega) (by omega))
  · intro ax tx hs okx sm d0 d1
    have e21 : At (Ty.grd (((((decide ((0 : Int) = (0 : Int))) && (decide ((0 : Int) = (0 : Int)))) && (decide (((roundsL (1 + pick n 12))) = ((roundsL ((1 + (pick (n) (12))))))))) && (decide ((((ordL (chgRow (1 + pick n 12) (changeOf c (1 + pick n 12)))) : Nat) : Int) ≤ (2 : Int)))) = true) (Ty.int ((((1 + (pick (n) (12))) : Nat) : Int) - (((List.length (changeOf c ((1 + (pick (n) (12)))))) : Nat) : Int)))) tx ax (.tmp 59) := d0 rfl
    have e16 : At (Ty.bool ((((decide ((0 : Int) = (0 : Int))) && (decide ((0 : Int) = (0 : Int)))) && (decide (((roundsL (1 + pick n 12))) = ((roundsL ((1 + (pick (n) (12))))))))) && (decide ((((ordL (chgRow (1 + pick n 12) (changeOf c (1 + pick n 12)))) : Nat) : Int) ≤ (2 : Int))))) tx ax (.tmp 54) := d1 rfl
    refine run_guard (T := (Ty.nat ((((((1 + (pick (n) (12))) : Nat) : Int) - (((List.length (changeOf c ((1 + (pick (n) (12)))))) : Nat) : Int))).toNat / 2))) okx rfl rfl (by decide) e16 (fun hg => ?_)
    obtain ⟨d47, d48⟩ := Bool.and_eq_true_iff.mp hg
    obtain ⟨d49, d50⟩ := Bool.and_eq_true_iff.mp d47
    obtain ⟨d51, d52⟩ := Bool.and_eq_true_iff.mp d49
    have d51 := of_decide_eq_true d51
    have d52 := of_decide_eq_true d52
    have d48 := of_decide_eq_true d48
    exact y_quoN (toN (σ := tx) (e21.1 hg) (by omega)) (toN (σ := tx) rfl (by omega)) (by omega) (by omega)
  · intro ax tx hs okx sm d0 d1
    have e22 : At (Ty.grd (((((decide ((0 : Int) = (0 : Int))) && (decide ((0 : Int) = (0 : Int)))) && (decide (((roundsL (1 + pick n 12))) = ((roundsL ((1 + (pick (n) (12))))))))) && (decide ((((ordL (chgRow (1 + pick n 12) (changeOf c (1 + pick n 12)))) : Nat) : Int) ≤ (2 : Int)))) = true) (Ty.nat ((((((1 + (pick (n) (12))) : Nat) : Int) - (((List.length (changeOf c ((1 + (pick (n) (12)))))) : Nat) : Int))).toNat / 2))) tx ax (.tmp 60) := d0 rfl
    have e16 : At (Ty.bool ((((decide ((0 : Int) = (0 : Int))) && (decide ((0 : Int) = (0 : Int)))) && (decide (((roundsL (1 + pick n 12))) = ((roundsL ((1 + (pick (n) (12))))))))) && (decide ((((ordL (chgRow (1 + pick n 12) (changeOf c (1 + pick n 12)))) : Nat) : Int) ≤ (2 : Int))))) tx ax (.tmp 54) := d1 rfl
    refine run_guard (T := (Ty.nat (((((((1 + (pick (n) (12))) : Nat) : Int) - (((List.length (changeOf c ((1 + (pick (n) (12)))))) : Nat) : Int))).toNat / 2) % 2))) okx rfl rfl (by decide) e16 (fun hg => ?_)
    obtain ⟨d53, d54⟩ := Bool.and_eq_true_iff.mp hg
    obtain ⟨d55, d56⟩ := Bool.and_eq_true_iff.mp d53
    obtain ⟨d57, d58⟩ := Bool.and_eq_true_iff.mp d55
    have d57 := of_decide_eq_true d57
    have d58 := of_decide_eq_true d58
    have d54 := of_decide_eq_true d54
    exact y_remN (e22.1 hg) (toN (σ := tx) rfl (by omega)) (by omega)
  · intro ax tx hs okx sm d0 d1
    have e23 : At (Ty.grd (((((decide ((0 : Int) = (0 : Int))) && (decide ((0 : Int) = (0 : Int)))) && (decide (((roundsL (1 + pick n 12))) = ((roundsL ((1 + (pick (n) (12))))))))) && (decide ((((ordL (chgRow (1 + pick n 12) (changeOf c (1 + pick n 12)))) : Nat) : Int) ≤ (2 : Int)))) = true) (Ty.nat (((((((1 + (pick (n) (12))) : Nat) : Int) - (((List.length (changeOf c ((1 + (pick (n) (12)))))) : Nat) : Int))).toNat / 2) % 2))) tx ax (.tmp 61) := d0 rfl
    have e16 : At (Ty.bool ((((decide ((0 : Int) = (0 : Int))) && (decide ((0 : Int) = (0 : Int)))) && (decide (((roundsL (1 + pick n 12))) = ((roundsL ((1 + (pick (n) (12))))))))) && (decide ((((ordL (chgRow (1 + pick n 12) (changeOf c (1 + pick n 12)))) : Nat) : Int) ≤ (2 : Int))))) tx ax (.tmp 54) := d1 rfl
    refine run_guard (T := (Ty.bool (decide ((((((((((1 + (pick (n) (12))) : Nat) : Int) - (((List.length (changeOf c ((1 + (pick (n) (12)))))) : Nat) : Int))).toNat / 2) % 2) : Nat) : Int) = (1 : Int))))) okx rfl rfl (by decide) e16 (fun hg => ?_)
    obtain ⟨d59, d60⟩ := Bool.and_eq_true_iff.mp hg
    obtain ⟨d61, d62⟩ := Bool.and_eq_true_iff.mp d59
    obtain ⟨d63, d64⟩ := Bool.and_eq_true_iff.mp d61
    have d63 := of_decide_eq_true d63
    have d64 := of_decide_eq_true d64
    have d60 := of_decide_eq_true d60
    exact y_eql (e23.1 hg) rfl
  · intro ax tx hs okx sm d0 d1 d2
    have e17 : At (Ty.grd (((((decide ((0 : Int) = (0 : Int))) && (decide ((0 : Int) = (0 : Int)))) && (decide (((roundsL (1 + pick n 12))) = ((roundsL ((1 + (pick (n) (12))))))))) && (decide ((((ordL (chgRow (1 + pick n 12) (changeOf c (1 + pick n 12)))) : Nat) : Int) ≤ (2 : Int)))) = true) (Ty.bool (oddL (chgRow (1 + pick n 12) (changeOf c (1 + pick n 12)))))) tx ax (.tmp 55) := d0 rfl
    have e24 : At (Ty.grd (((((decide ((0 : Int) = (0 : Int))) && (decide ((0 : Int) = (0 : Int)))) && (decide (((roundsL (1 + pick n 12))) = ((roundsL ((1 + (pick (n) (12))))))))) && (decide ((((ordL (chgRow (1 + pick n 12) (changeOf c (1 + pick n 12)))) : Nat) : Int) ≤ (2 : Int)))) = true) (Ty.bool (decide ((((((((((1 + (pick (n) (12))) : Nat) : Int) - (((List.length (changeOf c ((1 + (pick (n) (12)))))) : Nat) : Int))).toNat / 2) % 2) : Nat) : Int) = (1 : Int))))) tx ax (.tmp 62) := d1 rfl
    have e16 : At (Ty.bool ((((decide ((0 : Int) = (0 : Int))) && (decide ((0 : Int) = (0 : Int)))) && (decide (((roundsL (1 + pick n 12))) = ((roundsL ((1 + (pick (n) (12))))))))) && (decide ((((ordL (chgRow (1 + pick n 12) (changeOf c (1 + pick n 12)))) : Nat) : Int) ≤ (2 : Int))))) tx ax (.tmp 54) := d2 rfl
    refine run_guard (T := (Ty.bool ((oddL (chgRow (1 + pick n 12) (changeOf c (1 + pick n 12)))) == (decide ((((((((((1 + (pick (n) (12))) : Nat) : Int) - (((List.length (changeOf c ((1 + (pick (n) (12)))))) : Nat) : Int))).toNat / 2) % 2) : Nat) : Int) = (1 : Int)))))) okx rfl rfl (by decide) e16 (fun hg => ?_)
    obtain ⟨d65, d66⟩ := Bool.and_eq_true_iff.mp hg
    obtain ⟨d67, d68⟩ := Bool.and_eq_true_iff.mp d65
    obtain ⟨d69, d70⟩ := Bool.and_eq_true_iff.mp d67
    have d69 := of_decide_eq_true d69
    have d70 := of_decide_eq_true d70
    have d66 := of_decide_eq_true d66
    exact y_eqlB Try.underlying4 (e17.1 hg) (e24.1 hg)
  · intro ax tx hs okx sm d0 d1
    have e16 : At (Ty.bool ((((decide ((0 : Int) = (0 : Int))) && (decide ((0 : Int) = (0 : Int)))) && (decide (((roundsL (1 + pick n 12))) = ((roundsL ((1 + (pick (n) (12))))))))) && (decide ((((ordL (chgRow (1 + pick n 12) (changeOf c (1 + pick n 12)))) : Nat) : Int) ≤ (2 : Int))))) tx ax (.tmp 54) := d0 rfl
    have e25 : At (Ty.grd (((((decide ((0 : Int) = (0 : Int))) && (decide ((0 : Int) = (0 : Int)))) && (decide (((roundsL (1 + pick n 12))) = ((roundsL ((1 + (pick (n) (12))))))))) && (decide ((((ordL (chgRow (1 + pick n 12) (changeOf c (1 + pick n 12)))) : Nat) : Int) ≤ (2 : Int)))) = true) (Ty.bool ((oddL (chgRow (1 + pick n 12) (changeOf c (1 + pick n 12)))) == (decide ((((((((((1 + (pick (n) (12))) : Nat) : Int) - (((List.length (changeOf c ((1 + (pick (n) (12)))))) : Nat) : Int))).toNat / 2) % 2) : Nat) : Int) = (1 : Int)))))) tx ax (.tmp 63) := d1 rfl
    exact run_plain rfl (y_pick_and e16 e25 rfl)
  · intro ax tx hs okx sm d0 d1 d2 d3 d4 d5 d6 d7 d8 d9 d10 d11 d12 d13 d14 d15 d16 d17 d18 d19 d20 d21 d22 d23 d24 d25 d26 d27 d28
    have e26 : At (Ty.bool (((((decide ((0 : Int) = (0 : Int))) && (decide ((0 : Int) = (0 : Int)))) && (decide (((roundsL (1 + pick n 12))) = ((roundsL ((1 + (pick (n) (12))))))))) && (decide ((((ordL (chgRow (1 + pick n 12) (changeOf c (1 + pick n 12)))) : Nat) : Int) ≤ (2 : Int)))) && ((oddL (chgRow (1 + pick n 12) (changeOf c (1 + pick n 12)))) == (decide ((((((((((1 + (pick (n) (12))) : Nat) : Int) - (((List.length (changeOf c ((1 + (pick (n) (12)))))) : Nat) : Int))).toNat / 2) % 2) : Nat) : Int) = (1 : Int)))))) tx ax (.tmp 64) := d0 rfl
    have e16 : At (Ty.bool ((((decide ((0 : Int) = (0 : Int))) && (decide ((0 : Int) = (0 : Int)))) && (decide (((roundsL (1 + pick n 12))) = ((roundsL ((1 + (pick (n) (12))))))))) && (decide ((((ordL (chgRow (1 + pick n 12) (changeOf c (1 + pick n 12)))) : Nat) : Int) ≤ (2 : Int))))) tx ax (.tmp 54) := d1 rfl
    have e0 : At (Ty.int (0 : Int)) tx ax (.tmp 38) := d2 rfl
    have e1 : At (Ty.bool (decide ((0 : Int) = (0 : Int)))) tx ax (.tmp 39) := d3 rfl
    have e2 : At (Ty.bool (decide ((0 : Int) = (0 : Int)))) tx ax (.tmp 40) := d4 rfl
    have e3 : At (Ty.grd ((decide ((0 : Int) = (0 : Int))) = true) (Ty.int (0 : Int))) tx ax (.tmp 41) := d5 rfl
    have e4 : At (Ty.grd ((decide ((0 : Int) = (0 : Int))) = true) (Ty.bool (decide ((0 : Int) = (0 : Int))))) tx ax (.tmp 42) := d6 rfl
    have e5 : At (Ty.bool ((decide ((0 : Int) = (0 : Int))) && (decide ((0 : Int) = (0 : Int))))) tx ax (.tmp 43) := d7 rfl
    have e6 : At (Ty.bool ((decide ((0 : Int) = (0 : Int))) && (decide ((0 : Int) = (0 : Int))))) tx ax (.tmp 44) := d8 rfl
    have e7 : At (Ty.grd (((decide ((0 : Int) = (0 : Int))) && (decide ((0 : Int) = (0 : Int)))) = true) (Ty.lst Ty.int (roundsL (1 + pick n 12)))) tx ax (.tmp 45) := d9 rfl
    have e8 : At (Ty.grd (((decide ((0 : Int) = (0 : Int))) && (decide ((0 : Int) = (0 : Int)))) = true) (Ty.nat (1 + (pick (n) (12))))) tx ax (.tmp 46) := d10 rfl
    have e9 : At (Ty.grd (((decide ((0 : Int) = (0 : Int))) && (decide ((0 : Int) = (0 : Int)))) = true) (Ty.lst Ty.int (roundsL ((1 + (pick (n) (12))))))) tx ax (.tmp 47) := d11 rfl
    have e10 : At (Ty.grd (((decide ((0 : Int) = (0 : Int))) && (decide ((0 : Int) = (0 : Int)))) = true) (Ty.bool (decide (((roundsL (1 + pick n 12))) = ((roundsL ((1 + (pick (n) (12)))))))))) tx ax (.tmp 48) := d12 rfl
    have e11 : At (Ty.bool (((decide ((0 : Int) = (0 : Int))) && (decide ((0 : Int) = (0 : Int)))) && (decide (((roundsL (1 + pick n 12))) = ((roundsL ((1 + (pick (n) (12)))))))))) tx ax (.tmp 49) := d13 rfl
    have e12 : At (Ty.bool (((decide ((0 : Int) = (0 : Int))) && (decide ((0 : Int) = (0 : Int)))) && (decide (((roundsL (1 + pick n 12))) = ((roundsL ((1 + (pick (n) (12)))))))))) tx ax (.tmp 50) := d14 rfl
    have e13 : At (Ty.grd ((((decide ((0 : Int) = (0 : Int))) && (decide ((0 : Int) = (0 : Int)))) && (decide (((roundsL (1 + pick n 12))) = ((roundsL ((1 + (pick (n) (12))))))))) = true) (Ty.nat (ordL (chgRow (1 + pick n 12) (changeOf c (1 + pick n 12)))))) tx ax (.tmp 51) := d15 rfl
    have e14 : At (Ty.grd ((((decide ((0 : Int) = (0 : Int))) && (decide ((0 : Int) = (0 : Int)))) && (decide (((roundsL (1 + pick n 12))) = ((roundsL ((1 + (pick (n) (12))))))))) = true) (Ty.bool (decide ((((ordL (chgRow (1 + pick n 12) (changeOf c (1 + pick n 12)))) : Nat) : Int) ≤ (2 : Int))))) tx ax (.tmp 52) := d16 rfl
    have e15 : At (Ty.bool ((((decide ((0 : Int) = (0 : Int))) && (decide ((0 : Int) = (0 : Int)))) && (decide (((roundsL (1 + pick n 12))) = ((roundsL ((1 + (pick (n) (12))))))))) && (decide ((((ordL (chgRow (1 + pick n 12) (changeOf c (1 + pick n 12)))) : Nat) : Int) ≤ (2 : Int))))) tx ax (.tmp 53) := d17 rfl
    have e17 : At (Ty.grd (((((decide ((0 : Int) = (0 : Int))) && (decide ((0 : Int) = (0 : Int)))) && (decide (((roundsL (1 + pick n 12))) = ((roundsL ((1 + (pick (n) (12))))))))) && (decide ((((ordL (chgRow (1 + pick n 12) (changeOf c (1 + pick n 12)))) : Nat) : Int) ≤ (2 : Int)))) = true) (Ty.bool (oddL (chgRow (1 + pick n 12) (changeOf c (1 + pick n 12)))))) tx ax (.tmp 55) := d19 rfl
    have e18 : At (Ty.grd (((((decide ((0 : Int) = (0 : Int))) && (decide ((0 : Int) = (0 : Int)))) && (decide (((roundsL (1 + pick n 12))) = ((roundsL ((1 + (pick (n) (12))))))))) && (decide ((((ordL (chgRow (1 + pick n 12) (changeOf c (1 + pick n 12)))) : Nat) : Int) ≤ (2 : Int)))) = true) (Ty.nat (1 + (pick (n) (12))))) tx ax (.tmp 56) := d20 rfl
    have e19 : At (Ty.grd (((((decide ((0 : Int) = (0 : Int))) && (decide ((0 : Int) = (0 : Int)))) && (decide (((roundsL (1 + pick n 12))) = ((roundsL ((1 + (pick (n) (12))))))))) && (decide ((((ordL (chgRow (1 + pick n 12) (changeOf c (1 + pick n 12)))) : Nat) : Int) ≤ (2 : Int)))) = true) (Ty.lst Ty.int (changeOf c ((1 + (pick (n) (12))))))) tx ax (.tmp 57) := d21 rfl
    have e20 : At (Ty.grd (((((decide ((0 : Int) = (0 : Int))) && (decide ((0 : Int) = (0 : Int)))) && (decide (((roundsL (1 + pick n 12))) = ((roundsL ((1 + (pick (n) (12))))))))) && (decide ((((ordL (chgRow (1 + pick n 12) (changeOf c (1 + pick n 12)))) : Nat) : Int) ≤ (2 : Int)))) = true) (Ty.nat (List.length (changeOf c ((1 + (pick (n) (12)))))))) tx ax (.tmp 58) := d22 rfl
    have e21 : At (Ty.grd (((((decide ((0 : Int) = (0 : Int))) && (decide ((0 : Int) = (0 : Int)))) && (decide (((roundsL (1 + pick n 12))) = ((roundsL ((1 + (pick (n) (12))))))))) && (decide ((((ordL (chgRow (1 + pick n 12) (changeOf c (1 + pick n 12)))) : Nat) : Int) ≤ (2 : Int)))) = true) (Ty.int ((((1 + (pick (n) (12))) : Nat) : Int) - (((List.length (changeOf c ((1 + (pick (n) (12)))))) : Nat) : Int)))) tx ax (.tmp 59) := d23 rfl
    have e22 : At (Ty.grd (((((decide ((0 : Int) = (0 : Int))) && (decide ((0 : Int) = (0 : Int)))) && (decide (((roundsL (1 + pick n 12))) = ((roundsL ((1 + (pick (n) (12))))))))) && (decide ((((ordL (chgRow (1 + pick n 12) (changeOf c (1 + pick n 12)))) : Nat) : Int) ≤ (2 : Int)))) = true) (Ty.nat ((((((1 + (pick (n) (12))) : Nat) : Int) - (((List.length (changeOf c ((1 + (pick (n) (12)))))) : Nat) : Int))).toNat / 2))) tx ax (.tmp 60) := d24 rfl
    have e23 : At (Ty.grd (((((decide ((0 : Int) = (0 : Int))) && (decide ((0 : Int) = (0 : Int)))) && (decide (((roundsL (1 + pick n 12))) = ((roundsL ((1 + (pick (n) (12))))))))) && (decide ((((ordL (chgRow (1 + pick n 12) (changeOf c (1 + pick n 12)))) : Nat) : Int) ≤ (2 : Int)))) = true) (Ty.nat (((((((1 + (pick (n) (12))) : Nat) : Int) - (((List.length (changeOf c ((1 + (pick (n) (12)))))) : Nat) : Int))).toNat / 2) % 2))) tx ax (.tmp 61) := d25 rfl
    have e24 : At (Ty.grd (((((decide ((0 : Int) = (0 : Int))) && (decide ((0 : Int) = (0 : Int)))) && (decide (((roundsL (1 + pick n 12))) = ((roundsL ((1 + (pick (n) (12))))))))) && (decide ((((ordL (chgRow (1 + pick n 12) (changeOf c (1 + pick n 12)))) : Nat) : Int) ≤ (2 : Int)))) = true) (Ty.bool (decide ((((((((((1 + (pick (n) (12))) : Nat) : Int) - (((List.length (changeOf c ((1 + (pick (n) (12)))))) : Nat) : Int))).toNat / 2) % 2) : Nat) : Int) = (1 : Int))))) tx ax (.tmp 62) := d26 rfl
    have e25 : At (Ty.grd (((((decide ((0 : Int) = (0 : Int))) && (decide ((0 : Int) = (0 : Int)))) && (decide (((roundsL (1 + pick n 12))) = ((roundsL ((1 + (pick (n) (12))))))))) && (decide ((((ordL (chgRow (1 + pick n 12) (changeOf c (1 + pick n 12)))) : Nat) : Int) ≤ (2 : Int)))) = true) (Ty.bool ((oddL (chgRow (1 + pick n 12) (changeOf c (1 + pick n 12)))) == (decide ((((((((((1 + (pick (n) (12))) : Nat) : Int) - (((List.length (changeOf c ((1 + (pick (n) (12)))))) : Nat) : Int))).toNat / 2) % 2) : Nat) : Int) = (1 : Int)))))) tx ax (.tmp 63) := d27 rfl
    exact run_plain rfl (y_assign e26)
  intro a8 s8 D8
  have ok8 := D8.ok
  have F8 := F7.step0 D8.stp
  have q27 : At (Ty.bool (((((decide ((0 : Int) = (0 : Int))) && (decide ((0 : Int) = (0 : Int)))) && (decide (((roundsL (1 + pick n 12))) = ((roundsL ((1 + (pick (n) (12))))))))) && (decide ((((ordL (chgRow (1 + pick n 12) (changeOf c (1 + pick n 12)))) : Nat) : Int) ≤ (2 : Int)))) && ((oddL (chgRow (1 + pick n 12) (changeOf c (1 + pick n 12)))) == (decide ((((((((((1 + (pick (n) (12))) : Nat) : Int) - (((List.length (changeOf c ((1 + (pick (n) (12)))))) : Nat) : Int))).toNat / 2) % 2) : Nat) : Int) = (1 : Int)))))) s8 a8 (.tmp 4) := D8.done 27
  clear D8
  refine tn ?_
  refine wp_ret ?_
  exact ret1 rfl ok8 F8 (cvb (by (have hx := hv.2.1; rw [hv.2.2.1]; simp only [decide_true, Bool.true_and, Bool.and_eq_true, decide_eq_true_eq, beq_iff_eq, decide_eq_decide]; omega)) q27)


end Go.Proofs.Ytmdaialaphkhfac
