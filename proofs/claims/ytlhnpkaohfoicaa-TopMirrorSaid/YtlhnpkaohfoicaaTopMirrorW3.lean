/- The functions that the law TopMirror reaches, each by its contract. Part 3. -/
import Derived.Test.YtlhnpkaohfoicaaTopMirrorW2
namespace Go.Proofs.Ytlhnpkaohfoicaa
open Go.KL

set_option maxRecDepth 100000 in
theorem order_fn (r : List Int) (σ : GW) (v0 : Value) (hv0 : Ty.has (Ty.lst Ty.int r) σ v0)  :
    FnC Try.prog 40 #[v0] σ (Ty.tup3 (Ty.nat (if rowMay r = 0 then ordL r else 0)) (Ty.bool (if rowMay r = 0 then oddL r else false)) (Ty.int (rowMay r))) := by
 refine fn_intro Try.func40 rfl Try.ntmps40 (Nat.le_of_ble_eq_true rfl) (fun s0 a0 hle F0 ok0 hargs => ?_)
 have p0 : At (Ty.lst Ty.int r) s0 a0 (.tmp 0) := by have e := hargs 0 _ rfl; show Ty.has _ _ _; rw [e]; exact Ty.up _ hle hv0
 have b1 := sl_le p0
 clear hargs
 refine wp_seq ?_
 refine reg (a := a0) (σ := s0) rfl (fun i_ => List.getD [(Ty.pr (Ty.int (0 : Int))), (Ty.pr (Ty.bool false)), (Ty.pr (Ty.int (0 : Int)))] i_ Pr.any) ok0 rfl ⟨?_, ?_, ?_, trivial⟩ ?_
 · intro ax tx hs okx sm
   exact run_plain rfl (y_assign rfl)
 · intro ax tx hs okx sm d0
   have e0 : At (Ty.int (0 : Int)) tx ax (.tmp 2) := d0 rfl
   exact run_plain rfl (y_assign rfl)
 · intro ax tx hs okx sm d0
   have e1 : At (Ty.bool false) tx ax (.tmp 3) := d0 rfl
   exact run_plain rfl (y_assign rfl)
 intro a1 s1 D1
 have ok1 := D1.ok
 have F1 := F0.step0 D1.stp
 have q1 : At (Ty.lst Ty.int r) s1 a1 (.tmp 0) := D1.kt p0 rfl
 have q2 : At (Ty.bool false) s1 a1 (.tmp 3) := D1.done 1
 clear D1
 refine tn ?_
 refine wp_seq ?_
 refine reg (a := a1) (σ := s1) rfl (fun i_ => List.getD [(Ty.pr (Ty.lst Ty.int r)), (Ty.pr (Ty.tup2 (Ty.lst Ty.ints (if rowMay r = 0 then cyclesL r else [])) (Ty.int (rowMay r)))), (Ty.pr (Ty.tup2 (Ty.lst Ty.ints (if rowMay r = 0 then cyclesL r else [])) (Ty.int (rowMay r)))), (Ty.pr (Ty.lst Ty.ints (if rowMay r = 0 then cyclesL r else []))), (Ty.pr (Ty.int (rowMay r))), (Ty.pr (Ty.lst Ty.ints (if rowMay r = 0 then cyclesL r else []))), (Ty.pr (Ty.int (rowMay r)))] i_ Pr.any) ok1 rfl ⟨?_, ?_, ?_, ?_, ?_, ?_, ?_, trivial⟩ ?_
 · intro ax tx hs okx sm
   exact run_plain rfl (y_move (kp (sm 0 rfl) hs q1))
 · intro ax tx hs okx sm d0
   have e0 : At (Ty.lst Ty.int r) tx ax (.tmp 9) := d0 rfl
   exact run_plain rfl (y_call #[ax.eval (.tmp 9)] Try.func39 rfl rfl (by simp only [List.map_toArray, List.map_cons, List.map_nil]) (cycles_fn (r) _ _ e0 ))
 · intro ax tx hs okx sm d0
   have e1 : At (Ty.tup2 (Ty.lst Ty.ints (if rowMay r = 0 then cyclesL r else [])) (Ty.int (rowMay r))) tx ax (.tmp 10) := d0 rfl
   exact run_plain rfl (y_move e1)
 · intro ax tx hs okx sm d0
   have e2 : At (Ty.tup2 (Ty.lst Ty.ints (if rowMay r = 0 then cyclesL r else [])) (Ty.int (rowMay r))) tx ax (.tmp 8) := d0 rfl
   exact run_plain rfl (y_ext2_0 e2)
 · intro ax tx hs okx sm d0 d1
   have e2 : At (Ty.tup2 (Ty.lst Ty.ints (if rowMay r = 0 then cyclesL r else [])) (Ty.int (rowMay r))) tx ax (.tmp 8) := d0 rfl
   exact run_plain rfl (y_ext2_1 e2)
 · intro ax tx hs okx sm d0 d1 d2 d3 d4 d5 d6
   have e3 : At (Ty.lst Ty.ints (if rowMay r = 0 then cyclesL r else [])) tx ax (.tmp 11) := d0 rfl
   have e1 : At (Ty.tup2 (Ty.lst Ty.ints (if rowMay r = 0 then cyclesL r else [])) (Ty.int (rowMay r))) tx ax (.tmp 10) := d1 rfl
   have e0 : At (Ty.lst Ty.int r) tx ax (.tmp 9) := d2 rfl
   have e2 : At (Ty.tup2 (Ty.lst Ty.ints (if rowMay r = 0 then cyclesL r else [])) (Ty.int (rowMay r))) tx ax (.tmp 8) := d4 rfl
   exact run_plain rfl (y_assign e3)
 · intro ax tx hs okx sm d0 d1 d2 d3 d4 d5 d6 d7
   have e4 : At (Ty.int (rowMay r)) tx ax (.tmp 12) := d0 rfl
   have e5 : At (Ty.lst Ty.ints (if rowMay r = 0 then cyclesL r else [])) tx ax (.tmp 5) := d1 rfl
   have e0 : At (Ty.lst Ty.int r) tx ax (.tmp 9) := d2 rfl
   have e1 : At (Ty.tup2 (Ty.lst Ty.ints (if rowMay r = 0 then cyclesL r else [])) (Ty.int (rowMay r))) tx ax (.tmp 10) := d3 rfl
   have e2 : At (Ty.tup2 (Ty.lst Ty.ints (if rowMay r = 0 then cyclesL r else [])) (Ty.int (rowMay r))) tx ax (.tmp 8) := d4 rfl
   have e3 : At (Ty.lst Ty.ints (if rowMay r = 0 then cyclesL r else [])) tx ax (.tmp 11) := d5 rfl
   exact run_plain rfl (y_assign e4)
 intro a2 s2 D2
 have ok2 := D2.ok
 have F2 := F1.step0 D2.stp
 have q3 : At (Ty.bool false) s2 a2 (.tmp 3) := D2.kt q2 rfl
 have q4 : At (Ty.lst Ty.ints (if rowMay r = 0 then cyclesL r else [])) s2 a2 (.tmp 5) := D2.done 5
 have q5 : At (Ty.int (rowMay r)) s2 a2 (.tmp 4) := D2.done 6
 clear D2
 refine tn ?_
 refine wp_seq ?_
 refine wp_seq ?_
 refine reg (a := a2) (σ := s2) rfl (fun i_ => List.getD [(Ty.pr (Ty.int (rowMay r))), (Ty.pr (Ty.bool (decide ((rowMay r) ≠ (0 : Int)))))] i_ Pr.any) ok2 rfl ⟨?_, ?_, trivial⟩ ?_
 · intro ax tx hs okx sm
   exact run_plain rfl (y_move (kp (sm 4 rfl) hs q5))
 · intro ax tx hs okx sm d0
   have e0 : At (Ty.int (rowMay r)) tx ax (.tmp 13) := d0 rfl
   exact run_plain rfl (y_neq e0 rfl)
 intro a3 s3 D3
 have ok3 := D3.ok
 have F3 := F2.step0 D3.stp
 have q6 : At (Ty.bool false) s3 a3 (.tmp 3) := D3.kt q3 rfl
 have q7 : At (Ty.lst Ty.ints (if rowMay r = 0 then cyclesL r else [])) s3 a3 (.tmp 5) := D3.kt q4 rfl
 have q8 : At (Ty.int (rowMay r)) s3 a3 (.tmp 4) := D3.kt q5 rfl
 have q9 : At (Ty.bool (decide ((rowMay r) ≠ (0 : Int)))) s3 a3 (.tmp 14) := D3.done 1
 clear D3
 refine tn ?_
 refine cond_p (p := ((rowMay r) ≠ (0 : Int))) q9 (fun c1 => ?_) (fun c1 => ?_)
 ·
  refine wp_seq ?_
  refine reg (a := a3) (σ := s3) rfl (fun i_ => List.getD [(Ty.pr (Ty.int (rowMay r))), (Ty.pr (Ty.int (0 : Int))), (Ty.pr (Ty.bool false)), (Ty.pr (Ty.int (rowMay r)))] i_ Pr.any) ok3 rfl ⟨?_, ?_, ?_, ?_, trivial⟩ ?_
  · intro ax tx hs okx sm d0
    exact run_plain rfl (y_move (kp (sm 4 rfl) hs q8))
  · intro ax tx hs okx sm d0
    exact run_plain rfl (y_assign rfl)
  · intro ax tx hs okx sm d0 d1 d2
    have e1 : At (Ty.int (0 : Int)) tx ax (.tmp 2) := d0 rfl
    exact run_plain rfl (y_assign rfl)
  · intro ax tx hs okx sm d0 d1 d2 d3 d4
    have e0 : At (Ty.int (rowMay r)) tx ax (.tmp 15) := d0 rfl
    have e2 : At (Ty.bool false) tx ax (.tmp 3) := d1 rfl
    have e1 : At (Ty.int (0 : Int)) tx ax (.tmp 2) := d3 rfl
    exact run_plain rfl (y_assign e0)
  intro a4 s4 D4
  have ok4 := D4.ok
  have F4 := F3.step0 D4.stp
  have q10 : At (Ty.int (0 : Int)) s4 a4 (.tmp 2) := D4.done 1
  have q11 : At (Ty.bool false) s4 a4 (.tmp 3) := D4.done 2
  have q12 : At (Ty.int (rowMay r)) s4 a4 (.tmp 4) := D4.done 3
  clear D4
  refine tn ?_
  refine wp_ret ?_
  refine tr ?_
  exact ret3 rfl ok4 F4 (cvi (by (rw [if_neg c1]; rfl)) q10) (cvb (by (rw [if_neg c1])) q11) q12
 ·
  have h0 := Classical.not_not.1 c1; have hr := rowMay_ok.1 h0; have ecl : (if rowMay r = 0 then cyclesL r else []) = cyclesL r := if_pos h0; have ecn := congrArg List.length ecl; have hcb : (cyclesL r).length ≤ r.length := cyclesTo_len r r.length; have hln := hr.le
  refine wp_skip ?_
  refine tn ?_
  refine wp_seq ?_
  refine reg (a := a3) (σ := s3) rfl (fun i_ => List.getD [(Ty.pr (Ty.int (1 : Int)))] i_ Pr.any) ok3 rfl ⟨?_, trivial⟩ ?_
  · intro ax tx hs okx sm
    exact run_plain rfl (y_assign rfl)
  intro a5 s5 D5
  have ok5 := D5.ok
  have F5 := F3.step0 D5.stp
  have q13 : At (Ty.bool false) s5 a5 (.tmp 3) := D5.kt q6 rfl
  have q14 : At (Ty.lst Ty.ints (if rowMay r = 0 then cyclesL r else [])) s5 a5 (.tmp 5) := D5.kt q7 rfl
  have q15 : At (Ty.int (1 : Int)) s5 a5 (.tmp 2) := D5.done 0
  clear D5
  refine tn ?_
  refine wp_seq ?_
  refine wp_seq ?_
  refine reg (a := a5) (σ := s5) rfl (fun i_ => List.getD [(Ty.pr (Ty.lst Ty.ints (if rowMay r = 0 then cyclesL r else []))), (Ty.pr (Ty.nat (List.length (if rowMay r = 0 then cyclesL r else [])))), (Ty.pr (Ty.int (0 : Int)))] i_ Pr.any) ok5 rfl ⟨?_, ?_, ?_, trivial⟩ ?_
  · intro ax tx hs okx sm
    exact run_plain rfl (y_move (kp (sm 5 rfl) hs q14))
  · intro ax tx hs okx sm d0
    have e0 : At (Ty.lst Ty.ints (if rowMay r = 0 then cyclesL r else [])) tx ax (.tmp 16) := d0 rfl
    exact run_plain rfl (y_len Try.underlying33 e0)
  · intro ax tx hs okx sm
    exact run_plain rfl (y_move rfl)
  intro a6 s6 D6
  have ok6 := D6.ok
  have F6 := F5.step0 D6.stp
  have q16 : At (Ty.bool false) s6 a6 (.tmp 3) := D6.kt q13 rfl
  have q17 : At (Ty.int (1 : Int)) s6 a6 (.tmp 2) := D6.kt q15 rfl
  have q18 : At (Ty.lst Ty.ints (if rowMay r = 0 then cyclesL r else [])) s6 a6 (.tmp 16) := D6.done 0
  have q19 : At (Ty.nat (List.length (if rowMay r = 0 then cyclesL r else []))) s6 a6 (.tmp 17) := D6.done 1
  have q20 : At (Ty.int (0 : Int)) s6 a6 (.tmp 18) := D6.done 2
  clear D6
  refine tn ?_
  refine wp_block ?_
  refine loop (fun n1 a7 w1 => ∃ (t1 : GW) (k : Nat), t1.w = w1 ∧ From s0 t1 ∧ Ok 40 a7 ∧ At (Ty.nat k) t1 a7 (.tmp 18) ∧ At (Ty.nat (ordTo (cyclesL r) k)) t1 a7 (.tmp 2) ∧ At (Ty.bool (oddTo (cyclesL r) k)) t1 a7 (.tmp 3) ∧ At (Ty.lst Ty.ints (if rowMay r = 0 then cyclesL r else [])) t1 a7 (.tmp 16) ∧ At (Ty.nat (List.length (if rowMay r = 0 then cyclesL r else []))) t1 a7 (.tmp 17) ∧ (k ≤ (cyclesL r).length) ∧ n1 = (cyclesL r).length - k) ((cyclesL r).length - (0)) ?_ ?_
  ·
   exact ⟨s6, 0, rfl, F6, ok6, (cvi (by (first | rfl | omega | (simp_all; done) | (simp_all; omega))) q20), (cvi (by (first | rfl | omega | (simp_all; done) | (simp_all; omega))) q17), (cvb (by (first | rfl | omega | (simp_all; done) | (simp_all; omega))) q16), q18, q19, by omega, rfl⟩
  ·
   rintro n2 a8 w2 ⟨t2, k, rfl, F7, ok7, q21, q22, q23, q24, q25, hk, rfl⟩
   refine wp_seq ?_
   refine reg (a := a8) (σ := t2) rfl (fun i_ => List.getD [(Ty.pr (Ty.bool (decide (((k : Nat) : Int) < (((List.length (if rowMay r = 0 then cyclesL r else [])) : Nat) : Int)))))] i_ Pr.any) ok7 rfl ⟨?_, trivial⟩ ?_
   · intro ax tx hs okx sm
     exact run_plain rfl (y_lss (kp (sm 18 rfl) hs q21) (kp (sm 17 rfl) hs q25))
   intro a9 s7 D7
   have ok8 := D7.ok
   have F8 := F7.step0 D7.stp
   have q26 : At (Ty.nat k) s7 a9 (.tmp 18) := D7.kt q21 rfl
   have q27 : At (Ty.nat (ordTo (cyclesL r) k)) s7 a9 (.tmp 2) := D7.kt q22 rfl
   have q28 : At (Ty.bool (oddTo (cyclesL r) k)) s7 a9 (.tmp 3) := D7.kt q23 rfl
   have q29 : At (Ty.lst Ty.ints (if rowMay r = 0 then cyclesL r else [])) s7 a9 (.tmp 16) := D7.kt q24 rfl
   have q30 : At (Ty.nat (List.length (if rowMay r = 0 then cyclesL r else []))) s7 a9 (.tmp 17) := D7.kt q25 rfl
   have q31 : At (Ty.bool (decide (((k : Nat) : Int) < (((List.length (if rowMay r = 0 then cyclesL r else [])) : Nat) : Int)))) s7 a9 (.tmp 19) := D7.done 0
   clear D7
   refine tn ?_
   refine wp_seq ?_
   refine cond_p (p := (((k : Nat) : Int) < (((List.length (if rowMay r = 0 then cyclesL r else [])) : Nat) : Int))) q31 (fun c2 => ?_) (fun c2 => ?_)
   ·
    obtain ⟨hf1, hf2, hf3, hf4, hf5, hf6, hf7, hf8, hf9⟩ := ord_facts h0 (k := k) (by omega)
    refine wp_skip ?_
    refine tn ?_
    refine wp_seq ?_
    refine wp_block ?_
    refine wp_seq ?_
    refine reg (a := a9) (σ := s7) rfl (fun i_ => List.getD [(Ty.pr (Ty.ref [(Ty.lst Ty.int ((if rowMay r = 0 then cyclesL r else []).getD k []))])), (Ty.pr (Ty.lst Ty.int ((if rowMay r = 0 then cyclesL r else []).getD k []))), (Ty.pr (Ty.lst Ty.int ((if rowMay r = 0 then cyclesL r else []).getD k [])))] i_ Pr.any) ok8 rfl ⟨?_, ?_, ?_, trivial⟩ ?_
    · intro ax tx hs okx sm
      exact run_plain rfl (y_index1 Try.underlying33 Try.inf34 (kp (sm 16 rfl) hs q29) (kp (sm 18 rfl) hs q26) (by omega) (lst_get Ty.ints (if rowMay r = 0 then cyclesL r else []) [] k (by omega)))
    · intro ax tx hs okx sm d0
      have e0 : At (Ty.ref [(Ty.lst Ty.int ((if rowMay r = 0 then cyclesL r else []).getD k []))]) tx ax (.tmp 20) := d0 rfl
      exact run_plain rfl (y_load Try.underlying34 rfl e0 rfl)
    · intro ax tx hs okx sm d0 d1 d2
      have e1 : At (Ty.lst Ty.int ((if rowMay r = 0 then cyclesL r else []).getD k [])) tx ax (.tmp 21) := d0 rfl
      have e0 : At (Ty.ref [(Ty.lst Ty.int ((if rowMay r = 0 then cyclesL r else []).getD k []))]) tx ax (.tmp 20) := d1 rfl
      exact run_plain rfl (y_assign e1)
    intro a10 s8 D8
    have ok9 := D8.ok
    have F9 := F8.step0 D8.stp
    have q32 : At (Ty.nat k) s8 a10 (.tmp 18) := D8.kt q26 rfl
    have q33 : At (Ty.nat (ordTo (cyclesL r) k)) s8 a10 (.tmp 2) := D8.kt q27 rfl
    have q34 : At (Ty.bool (oddTo (cyclesL r) k)) s8 a10 (.tmp 3) := D8.kt q28 rfl
    have q35 : At (Ty.lst Ty.ints (if rowMay r = 0 then cyclesL r else [])) s8 a10 (.tmp 16) := D8.kt q29 rfl
    have q36 : At (Ty.nat (List.length (if rowMay r = 0 then cyclesL r else []))) s8 a10 (.tmp 17) := D8.kt q30 rfl
    have q37 : At (Ty.lst Ty.int ((if rowMay r = 0 then cyclesL r else []).getD k [])) s8 a10 (.tmp 7) := D8.done 2
    clear D8
    refine tn ?_
    refine wp_seq ?_
    refine reg (a := a10) (σ := s8) rfl (fun i_ => List.getD [(Ty.pr (Ty.nat (ordTo (cyclesL r) k))), (Ty.pr (Ty.lst Ty.int ((if rowMay r = 0 then cyclesL r else []).getD k []))), (Ty.pr (Ty.nat (List.length ((if rowMay r = 0 then cyclesL r else []).getD k [])))), (Ty.pr (Ty.nat (ordTo (cyclesL r) k))), (Ty.pr (Ty.lst Ty.int ((if rowMay r = 0 then cyclesL r else []).getD k []))), (Ty.pr (Ty.nat (List.length ((if rowMay r = 0 then cyclesL r else []).getD k [])))), (Ty.pr (Ty.nat (Nat.gcd ((ordTo (cyclesL r) k)) ((List.length ((if rowMay r = 0 then cyclesL r else []).getD k [])))))), (Ty.pr (Ty.nat ((List.length ((if rowMay r = 0 then cyclesL r else []).getD k [])) / (Nat.gcd ((ordTo (cyclesL r) k)) ((List.length ((if rowMay r = 0 then cyclesL r else []).getD k []))))))), (Ty.pr (Ty.int ((((ordTo (cyclesL r) k) : Nat) : Int) * ((((List.length ((if rowMay r = 0 then cyclesL r else []).getD k [])) / (Nat.gcd ((ordTo (cyclesL r) k)) ((List.length ((if rowMay r = 0 then cyclesL r else []).getD k []))))) : Nat) : Int)))), (Ty.pr (Ty.int ((((ordTo (cyclesL r) k) : Nat) : Int) * ((((List.length ((if rowMay r = 0 then cyclesL r else []).getD k [])) / (Nat.gcd ((ordTo (cyclesL r) k)) ((List.length ((if rowMay r = 0 then cyclesL r else []).getD k []))))) : Nat) : Int))))] i_ Pr.any) ok9 rfl ⟨?_, ?_, ?_, ?_, ?_, ?_, ?_, ?_, ?_, ?_, trivial⟩ ?_
    · intro ax tx hs okx sm
      exact run_plain rfl (y_move (kp (sm 2 rfl) hs q33))
    · intro ax tx hs okx sm
      exact run_plain rfl (y_move (kp (sm 7 rfl) hs q37))
    · intro ax tx hs okx sm d0
      have e1 : At (Ty.lst Ty.int ((if rowMay r = 0 then cyclesL r else []).getD k [])) tx ax (.tmp 23) := d0 rfl
      exact run_plain rfl (y_len Try.underlying34 e1)
    · intro ax tx hs okx sm
      exact run_plain rfl (y_move (kp (sm 2 rfl) hs q33))
    · intro ax tx hs okx sm
      exact run_plain rfl (y_move (kp (sm 7 rfl) hs q37))
    · intro ax tx hs okx sm d0
      have e4 : At (Ty.lst Ty.int ((if rowMay r = 0 then cyclesL r else []).getD k [])) tx ax (.tmp 26) := d0 rfl
      exact run_plain rfl (y_len Try.underlying34 e4)
    · intro ax tx hs okx sm d0 d1
      have e3 : At (Ty.nat (ordTo (cyclesL r) k)) tx ax (.tmp 25) := d0 rfl
      have e5 : At (Ty.nat (List.length ((if rowMay r = 0 then cyclesL r else []).getD k []))) tx ax (.tmp 27) := d1 rfl
      exact run_plain rfl (y_call #[ax.eval (.tmp 25), ax.eval (.tmp 27)] Try.func93 rfl rfl (by simp only [List.map_toArray, List.map_cons, List.map_nil]) (common_fn ((ordTo (cyclesL r) k)) ((List.length ((if rowMay r = 0 then cyclesL r else []).getD k []))) _ _ _ e3 e5 (by omega) (by omega)))
    · intro ax tx hs okx sm d0 d1
      have e2 : At (Ty.nat (List.length ((if rowMay r = 0 then cyclesL r else []).getD k []))) tx ax (.tmp 24) := d0 rfl
      have e6 : At (Ty.nat (Nat.gcd ((ordTo (cyclesL r) k)) ((List.length ((if rowMay r = 0 then cyclesL r else []).getD k []))))) tx ax (.tmp 28) := d1 rfl
      exact run_plain rfl (y_quoN e2 e6 (by omega) (by omega))
    · intro ax tx hs okx sm d0 d1
      have e0 : At (Ty.nat (ordTo (cyclesL r) k)) tx ax (.tmp 22) := d0 rfl
      have e7 : At (Ty.nat ((List.length ((if rowMay r = 0 then cyclesL r else []).getD k [])) / (Nat.gcd ((ordTo (cyclesL r) k)) ((List.length ((if rowMay r = 0 then cyclesL r else []).getD k [])))))) tx ax (.tmp 29) := d1 rfl
      exact run_plain rfl (y_mul e0 e7 (w64 (by omega) (by omega)))
    · intro ax tx hs okx sm d0 d1 d2 d3 d4 d5 d6 d7 d8 d9 d10
      have e8 : At (Ty.int ((((ordTo (cyclesL r) k) : Nat) : Int) * ((((List.length ((if rowMay r = 0 then cyclesL r else []).getD k [])) / (Nat.gcd ((ordTo (cyclesL r) k)) ((List.length ((if rowMay r = 0 then cyclesL r else []).getD k []))))) : Nat) : Int))) tx ax (.tmp 30) := d0 rfl
      have e6 : At (Ty.nat (Nat.gcd ((ordTo (cyclesL r) k)) ((List.length ((if rowMay r = 0 then cyclesL r else []).getD k []))))) tx ax (.tmp 28) := d1 rfl
      have e0 : At (Ty.nat (ordTo (cyclesL r) k)) tx ax (.tmp 22) := d2 rfl
      have e1 : At (Ty.lst Ty.int ((if rowMay r = 0 then cyclesL r else []).getD k [])) tx ax (.tmp 23) := d3 rfl
      have e2 : At (Ty.nat (List.length ((if rowMay r = 0 then cyclesL r else []).getD k []))) tx ax (.tmp 24) := d4 rfl
      have e3 : At (Ty.nat (ordTo (cyclesL r) k)) tx ax (.tmp 25) := d5 rfl
      have e4 : At (Ty.lst Ty.int ((if rowMay r = 0 then cyclesL r else []).getD k [])) tx ax (.tmp 26) := d6 rfl
      have e5 : At (Ty.nat (List.length ((if rowMay r = 0 then cyclesL r else []).getD k []))) tx ax (.tmp 27) := d7 rfl
      have e7 : At (Ty.nat ((List.length ((if rowMay r = 0 then cyclesL r else []).getD k [])) / (Nat.gcd ((ordTo (cyclesL r) k)) ((List.length ((if rowMay r = 0 then cyclesL r else []).getD k [])))))) tx ax (.tmp 29) := d9 rfl
      exact run_plain rfl (y_assign e8)
    intro a11 s9 D9
    have ok10 := D9.ok
    have F10 := F9.step0 D9.stp
    have q38 : At (Ty.nat k) s9 a11 (.tmp 18) := D9.kt q32 rfl
    have q39 : At (Ty.bool (oddTo (cyclesL r) k)) s9 a11 (.tmp 3) := D9.kt q34 rfl
    have q40 : At (Ty.lst Ty.ints (if rowMay r = 0 then cyclesL r else [])) s9 a11 (.tmp 16) := D9.kt q35 rfl
    have q41 : At (Ty.nat (List.length (if rowMay r = 0 then cyclesL r else []))) s9 a11 (.tmp 17) := D9.kt q36 rfl
    have q42 : At (Ty.lst Ty.int ((if rowMay r = 0 then cyclesL r else []).getD k [])) s9 a11 (.tmp 7) := D9.kt q37 rfl
    have q43 : At (Ty.int ((((ordTo (cyclesL r) k) : Nat) : Int) * ((((List.length ((if rowMay r = 0 then cyclesL r else []).getD k [])) / (Nat.gcd ((ordTo (cyclesL r) k)) ((List.length ((if rowMay r = 0 then cyclesL r else []).getD k []))))) : Nat) : Int))) s9 a11 (.tmp 2) := D9.done 9
    clear D9
    refine tn ?_
    refine reg (a := a11) (σ := s9) rfl (fun i_ => List.getD [(Ty.pr (Ty.bool (oddTo (cyclesL r) k))), (Ty.pr (Ty.lst Ty.int ((if rowMay r = 0 then cyclesL r else []).getD k []))), (Ty.pr (Ty.nat (List.length ((if rowMay r = 0 then cyclesL r else []).getD k [])))), (Ty.pr (Ty.nat ((List.length ((if rowMay r = 0 then cyclesL r else []).getD k [])) % 2))), (Ty.pr (Ty.bool (decide (((((List.length ((if rowMay r = 0 then cyclesL r else []).getD k [])) % 2) : Nat) : Int) = (0 : Int))))), (Ty.pr (Ty.bool ((oddTo (cyclesL r) k) != (decide (((((List.length ((if rowMay r = 0 then cyclesL r else []).getD k [])) % 2) : Nat) : Int) = (0 : Int)))))), (Ty.pr (Ty.bool ((oddTo (cyclesL r) k) != (decide (((((List.length ((if rowMay r = 0 then cyclesL r else []).getD k [])) % 2) : Nat) : Int) = (0 : Int))))))] i_ Pr.any) ok10 rfl ⟨?_, ?_, ?_, ?_, ?_, ?_, ?_, trivial⟩ ?_
    · intro ax tx hs okx sm
      exact run_plain rfl (y_move (kp (sm 3 rfl) hs q39))
    · intro ax tx hs okx sm
      exact run_plain rfl (y_move (kp (sm 7 rfl) hs q42))
    · intro ax tx hs okx sm d0
      have e1 : At (Ty.lst Ty.int ((if rowMay r = 0 then cyclesL r else []).getD k [])) tx ax (.tmp 32) := d0 rfl
      exact run_plain rfl (y_len Try.underlying34 e1)
    · intro ax tx hs okx sm d0
      have e2 : At (Ty.nat (List.length ((if rowMay r = 0 then cyclesL r else []).getD k []))) tx ax (.tmp 33) := d0 rfl
      exact run_plain rfl (y_remN e2 (toN (σ := tx) rfl (by omega)) (by omega))
    · intro ax tx hs okx sm d0
      have e3 : At (Ty.nat ((List.length ((if rowMay r = 0 then cyclesL r else []).getD k [])) % 2)) tx ax (.tmp 34) := d0 rfl
      exact run_plain rfl (y_eql e3 rfl)
    · intro ax tx hs okx sm d0 d1
      have e0 : At (Ty.bool (oddTo (cyclesL r) k)) tx ax (.tmp 31) := d0 rfl
      have e4 : At (Ty.bool (decide (((((List.length ((if rowMay r = 0 then cyclesL r else []).getD k [])) % 2) : Nat) : Int) = (0 : Int)))) tx ax (.tmp 35) := d1 rfl
      exact run_plain rfl (y_neqB Try.underlying4 e0 e4)
    · intro ax tx hs okx sm d0 d1 d2 d3 d4 d5 d6
      have e5 : At (Ty.bool ((oddTo (cyclesL r) k) != (decide (((((List.length ((if rowMay r = 0 then cyclesL r else []).getD k [])) % 2) : Nat) : Int) = (0 : Int))))) tx ax (.tmp 36) := d0 rfl
      have e0 : At (Ty.bool (oddTo (cyclesL r) k)) tx ax (.tmp 31) := d1 rfl
      have e1 : At (Ty.lst Ty.int ((if rowMay r = 0 then cyclesL r else []).getD k [])) tx ax (.tmp 32) := d2 rfl
      have e2 : At (Ty.nat (List.length ((if rowMay r = 0 then cyclesL r else []).getD k []))) tx ax (.tmp 33) := d3 rfl
      have e3 : At (Ty.nat ((List.length ((if rowMay r = 0 then cyclesL r else []).getD k [])) % 2)) tx ax (.tmp 34) := d4 rfl
      have e4 : At (Ty.bool (decide (((((List.length ((if rowMay r = 0 then cyclesL r else []).getD k [])) % 2) : Nat) : Int) = (0 : Int)))) tx ax (.tmp 35) := d5 rfl
      exact run_plain rfl (y_assign e5)
    intro a12 s10 D10
    have ok11 := D10.ok
    have F11 := F10.step0 D10.stp
    have q44 : At (Ty.nat k) s10 a12 (.tmp 18) := D10.kt q38 rfl
    have q45 : At (Ty.lst Ty.ints (if rowMay r = 0 then cyclesL r else [])) s10 a12 (.tmp 16) := D10.kt q40 rfl
    have q46 : At (Ty.nat (List.length (if rowMay r = 0 then cyclesL r else []))) s10 a12 (.tmp 17) := D10.kt q41 rfl
    have q47 : At (Ty.int ((((ordTo (cyclesL r) k) : Nat) : Int) * ((((List.length ((if rowMay r = 0 then cyclesL r else []).getD k [])) / (Nat.gcd ((ordTo (cyclesL r) k)) ((List.length ((if rowMay r = 0 then cyclesL r else []).getD k []))))) : Nat) : Int))) s10 a12 (.tmp 2) := D10.kt q43 rfl
    have q48 : At (Ty.bool ((oddTo (cyclesL r) k) != (decide (((((List.length ((if rowMay r = 0 then cyclesL r else []).getD k [])) % 2) : Nat) : Int) = (0 : Int))))) s10 a12 (.tmp 3) := D10.done 6
    clear D10
    refine bn ?_
    refine tn ?_
    refine reg (a := a12) (σ := s10) rfl (fun i_ => List.getD [(Ty.pr (Ty.int (((k : Nat) : Int) + (1 : Int)))), (Ty.pr (Ty.int (((k : Nat) : Int) + (1 : Int))))] i_ Pr.any) ok11 rfl ⟨?_, ?_, trivial⟩ ?_
    · intro ax tx hs okx sm
      exact run_plain rfl (y_add (kp (sm 18 rfl) hs q44) rfl (w64 (by omega) (by omega)))
    · intro ax tx hs okx sm d0
      have e0 : At (Ty.int (((k : Nat) : Int) + (1 : Int))) tx ax (.tmp 37) := d0 rfl
      exact run_plain rfl (y_move e0)
    intro a13 s11 D11
    have ok12 := D11.ok
    have F12 := F11.step0 D11.stp
    have q49 : At (Ty.lst Ty.ints (if rowMay r = 0 then cyclesL r else [])) s11 a13 (.tmp 16) := D11.kt q45 rfl
    have q50 : At (Ty.nat (List.length (if rowMay r = 0 then cyclesL r else []))) s11 a13 (.tmp 17) := D11.kt q46 rfl
    have q51 : At (Ty.int ((((ordTo (cyclesL r) k) : Nat) : Int) * ((((List.length ((if rowMay r = 0 then cyclesL r else []).getD k [])) / (Nat.gcd ((ordTo (cyclesL r) k)) ((List.length ((if rowMay r = 0 then cyclesL r else []).getD k []))))) : Nat) : Int))) s11 a13 (.tmp 2) := D11.kt q47 rfl
    have q52 : At (Ty.bool ((oddTo (cyclesL r) k) != (decide (((((List.length ((if rowMay r = 0 then cyclesL r else []).getD k [])) % 2) : Nat) : Int) = (0 : Int))))) s11 a13 (.tmp 3) := D11.kt q48 rfl
    have q53 : At (Ty.int (((k : Nat) : Int) + (1 : Int))) s11 a13 (.tmp 18) := D11.done 1
    clear D11
    exact tn ⟨(cyclesL r).length - ((k+1)), by omega, s11, (k+1), rfl, F12, ok12, (cvi (by (first | rfl | omega | (simp_all; done) | (simp_all; omega))) q53), (cvi (by (rw [hf7, Int.natCast_mul])) q51), (cvb (by (rw [oddTo_succ _ k (by omega), ecl])) q52), q49, q50, by omega, rfl⟩
   ·
    refine wp_exit ?_
    refine tx ?_
    refine tx ?_
    refine bx ?_
    refine tn ?_
    refine wp_seq ?_
    refine reg (a := a9) (σ := s7) rfl (fun i_ => List.getD [(Ty.pr (Ty.nat (ordTo (cyclesL r) k))), (Ty.pr (Ty.bool (oddTo (cyclesL r) k))), (Ty.pr (Ty.nat (ordTo (cyclesL r) k))), (Ty.pr (Ty.bool (oddTo (cyclesL r) k))), (Ty.pr (Ty.int (0 : Int)))] i_ Pr.any) ok8 rfl ⟨?_, ?_, ?_, ?_, ?_, trivial⟩ ?_
    · intro ax tx hs okx sm
      exact run_plain rfl (y_move (kp (sm 2 rfl) hs q27))
    · intro ax tx hs okx sm d0
      exact run_plain rfl (y_move (kp (sm 3 rfl) hs q28))
    · intro ax tx hs okx sm d0 d1 d2
      have e0 : At (Ty.nat (ordTo (cyclesL r) k)) tx ax (.tmp 38) := d0 rfl
      exact run_plain rfl (y_assign e0)
    · intro ax tx hs okx sm d0 d1 d2 d3 d4
      have e1 : At (Ty.bool (oddTo (cyclesL r) k)) tx ax (.tmp 39) := d0 rfl
      have e2 : At (Ty.nat (ordTo (cyclesL r) k)) tx ax (.tmp 2) := d1 rfl
      have e0 : At (Ty.nat (ordTo (cyclesL r) k)) tx ax (.tmp 38) := d2 rfl
      exact run_plain rfl (y_assign e1)
    · intro ax tx hs okx sm d0 d1 d2 d3 d4
      have e3 : At (Ty.bool (oddTo (cyclesL r) k)) tx ax (.tmp 3) := d0 rfl
      have e0 : At (Ty.nat (ordTo (cyclesL r) k)) tx ax (.tmp 38) := d1 rfl
      have e1 : At (Ty.bool (oddTo (cyclesL r) k)) tx ax (.tmp 39) := d2 rfl
      have e2 : At (Ty.nat (ordTo (cyclesL r) k)) tx ax (.tmp 2) := d3 rfl
      exact run_plain rfl (y_assign rfl)
    intro a14 s12 D12
    have ok13 := D12.ok
    have F13 := F8.step0 D12.stp
    have q54 : At (Ty.nat (ordTo (cyclesL r) k)) s12 a14 (.tmp 2) := D12.done 2
    have q55 : At (Ty.bool (oddTo (cyclesL r) k)) s12 a14 (.tmp 3) := D12.done 3
    have q56 : At (Ty.int (0 : Int)) s12 a14 (.tmp 4) := D12.done 4
    clear D12
    refine tn ?_
    refine wp_ret ?_
    exact ret3 rfl ok13 F13 (cvi (by (rw [if_pos h0]; obtain rfl : k = (cyclesL r).length := (by omega); rfl)) q54) (cvb (by (rw [if_pos h0]; obtain rfl : k = (cyclesL r).length := (by omega); rfl)) q55) (cvi (by (exact h0.symm)) q56)


set_option maxHeartbeats 4000000 in
set_option maxRecDepth 100000 in
theorem topMirror_fn (raw : List Int) (n : Int) (half : Int) (last : Int) (σ : GW)  (v0 v1 v2 v3 : Value) (hv0 : Ty.has (Ty.lst Ty.int raw) σ v0) (hv1 : Ty.has (Ty.int n) σ v1) (hv2 : Ty.has (Ty.int half) σ v2) (hv3 : Ty.has (Ty.int last) σ v3)  (hraw : ∀ x ∈ raw, -9223372036854775808 ≤ x ∧ x ≤ 9223372036854775807) (hn : -9223372036854775808 ≤ n ∧ n ≤ 9223372036854775807) (hhalf : -9223372036854775808 ≤ half ∧ half ≤ 9223372036854775807) (hlast : -9223372036854775808 ≤ last ∧ last ≤ 9223372036854775807) :
    FnC Try.prog 10 #[v0, v1, v2, v3] σ (Ty.bool true) := by
 have hr : ∀ k, -9223372036854775808 ≤ rawAt raw k ∧ rawAt raw k ≤ 9223372036854775807 := fun k => rawAt_bd hraw k
 have hpl := pick_lt n (n := 11) (by omega)
 have hpk := pick_lt half (n := 20) (by omega)
 obtain ⟨M, hM⟩ : ∃ M, M = 2 + pick n 11 := ⟨_, rfl⟩
 obtain ⟨K, hK⟩ : ∃ K, K = 1 + pick half 20 := ⟨_, rfl⟩
 obtain ⟨L, hL⟩ : ∃ L, L = changesOf raw 0 M K := ⟨_, rfl⟩
 have hLl : L.length = K := by rw [hL, changesOf_len]
 have hmo : MethOk (ByteArray.mk #[77, 105, 114, 114, 111, 114]) M (mirT L (changeOf last M)) := by (rw [hL]; exact mir_meth (by decide +kernel) (by omega) (by omega) (by omega) (by omega))
 have hbs : (ByteArray.mk #[77, 105, 114, 114, 111, 114]).size ≤ 1099511627776 := by (show 6 ≤ 1099511627776; omega)
 have hmay := hmo.may
 have htn : (((M : Nat) : Int)).toNat = M := Int.toNat_natCast _
 have hml := mirT_len (l := L) (c := changeOf last M) (by omega)
 have hfl := fromL_len (roundsL M) (mirT L (changeOf last M))
 have hmm := mirT_mir (l := L) (c := changeOf last M) (by omega)
 have hpal := pal_twice (m := 2 * L.length - 1) (by omega) (by omega) (by omega) hmo.ok (fun i hi => by rw [mirT_pal (by omega)]; congr 1)
 have hrow := curL_row (by omega) (by omega) hmo.ok (2 * L.length - 1) (by omega)
 have hord := ord_twice hrow.1 (by rw [hrow.2]; exact hpal)
 have hrm := rowMay_ok.2 hrow.1
 refine fn_intro0 Try.func10 rfl Try.ntmps10 (Nat.le_of_ble_eq_true rfl) (fun s0 a0 hle F0 ok0 hargs => ?_)
 have p0 : At (Ty.lst Ty.int raw) s0 a0 (.tmp 0) := by have e := hargs 0 _ rfl; show Ty.has _ _ _; rw [e]; exact Ty.up _ hle hv0
 have b1 := sl_le p0
 have p1 : At (Ty.int n) s0 a0 (.tmp 1) := by have e := hargs 1 _ rfl; show Ty.has _ _ _; rw [e]; exact Ty.up _ hle hv1
 have p2 : At (Ty.int half) s0 a0 (.tmp 2) := by have e := hargs 2 _ rfl; show Ty.has _ _ _; rw [e]; exact Ty.up _ hle hv2
 have p3 : At (Ty.int last) s0 a0 (.tmp 3) := by have e := hargs 3 _ rfl; show Ty.has _ _ _; rw [e]; exact Ty.up _ hle hv3
 clear hargs
 refine wp_seq ?_
 refine reg (a := a0) (σ := s0) rfl (fun i_ => List.getD [(Ty.pr (Ty.bool false))] i_ Pr.any) ok0 rfl ⟨?_, trivial⟩ ?_
 · intro ax tx hs okx sm
   exact run_plain rfl (y_assign rfl)
 intro a1 s1 D1
 have ok1 := D1.ok
 have F1 := F0.step0 D1.stp
 have q1 : At (Ty.lst Ty.int raw) s1 a1 (.tmp 0) := D1.kt p0 rfl
 have q2 : At (Ty.int n) s1 a1 (.tmp 1) := D1.kt p1 rfl
 have q3 : At (Ty.int half) s1 a1 (.tmp 2) := D1.kt p2 rfl
 have q4 : At (Ty.int last) s1 a1 (.tmp 3) := D1.kt p3 rfl
 clear D1
 refine tn ?_
 refine wp_seq ?_
 refine wp_seq ?_
 refine reg (a := a1) (σ := s1) rfl (fun i_ => List.getD [(Ty.pr (Ty.lst Ty.int raw)), (Ty.pr (Ty.nat (List.length raw))), (Ty.pr (Ty.bool (decide ((256 : Int) < (((List.length raw) : Nat) : Int)))))] i_ Pr.any) ok1 rfl ⟨?_, ?_, ?_, trivial⟩ ?_
 · intro ax tx hs okx sm
   exact run_plain rfl (y_move (kp (sm 0 rfl) hs q1))
 · intro ax tx hs okx sm d0
   have e0 : At (Ty.lst Ty.int raw) tx ax (.tmp 18) := d0 rfl
   exact run_plain rfl (y_len Try.underlying34 e0)
 · intro ax tx hs okx sm d0
   have e1 : At (Ty.nat (List.length raw)) tx ax (.tmp 19) := d0 rfl
   exact run_plain rfl (y_gtr e1 rfl)
 intro a2 s2 D2
 have ok2 := D2.ok
 have F2 := F1.step0 D2.stp
 have q5 : At (Ty.lst Ty.int raw) s2 a2 (.tmp 0) := D2.kt q1 rfl
 have q6 : At (Ty.int n) s2 a2 (.tmp 1) := D2.kt q2 rfl
 have q7 : At (Ty.int half) s2 a2 (.tmp 2) := D2.kt q3 rfl
 have q8 : At (Ty.int last) s2 a2 (.tmp 3) := D2.kt q4 rfl
 have q9 : At (Ty.bool (decide ((256 : Int) < (((List.length raw) : Nat) : Int)))) s2 a2 (.tmp 20) := D2.done 2
 clear D2
 refine tn ?_
 refine cond_p (p := ((256 : Int) < (((List.length raw) : Nat) : Int))) q9 (fun c1 => ?_) (fun c1 => ?_)
 ·
  refine wp_seq ?_
  refine reg (a := a2) (σ := s2) rfl (fun i_ => List.getD [(Ty.pr (Ty.bool true))] i_ Pr.any) ok2 rfl ⟨?_, trivial⟩ ?_
  · intro ax tx hs okx sm
    exact run_plain rfl (y_assign rfl)
  intro a3 s3 D3
  have ok3 := D3.ok
  have F3 := F2.step0 D3.stp
  have q10 : At (Ty.bool true) s3 a3 (.tmp 8) := D3.done 0
  clear D3
  refine tn ?_
  refine wp_ret ?_
  refine tr ?_
  exact retL1 rfl ok3 F3 q10
 ·
  refine wp_skip ?_
  refine tn ?_
  refine wp_seq ?_
  refine reg (a := a2) (σ := s2) rfl (fun i_ => List.getD [(Ty.pr (Ty.int n)), (Ty.pr (Ty.nat (pick (n) (11)))), (Ty.pr (Ty.nat (2 + (pick (n) (11))))), (Ty.pr (Ty.nat (2 + (pick (n) (11)))))] i_ Pr.any) ok2 rfl ⟨?_, ?_, ?_, ?_, trivial⟩ ?_
  · intro ax tx hs okx sm
    exact run_plain rfl (y_move (kp (sm 1 rfl) hs q6))
  · intro ax tx hs okx sm d0
    have e0 : At (Ty.int n) tx ax (.tmp 21) := d0 rfl
    exact run_plain rfl (y_call #[ax.eval (.tmp 21), ax.eval ((Operand.const (Value.int IntKind.i64 11)))] Try.func56 rfl rfl (by simp only [List.map_toArray, List.map_cons, List.map_nil]) (pick_fn (n) (11) _ _ _ (cvi (σ := tx) (by omega) e0) (cvi (σ := tx) (by omega) rfl) (by omega) (by omega)))
  · intro ax tx hs okx sm d0
    have e1 : At (Ty.nat (pick (n) (11))) tx ax (.tmp 22) := d0 rfl
    exact run_plain rfl ((y_add rfl e1 (w64 (by omega) (by omega))).mono (fun τ _ h => cvi (σ := τ) (by first | omega | exact (Int.natCast_mul _ _).symm) h))
  · intro ax tx hs okx sm d0 d1 d2 d3 d4
    have e2 : At (Ty.nat (2 + (pick (n) (11)))) tx ax (.tmp 23) := d0 rfl
    have e1 : At (Ty.nat (pick (n) (11))) tx ax (.tmp 22) := d1 rfl
    have e0 : At (Ty.int n) tx ax (.tmp 21) := d2 rfl
    exact run_plain rfl (y_assign e2)
  intro a4 s4 D4
  have ok4 := D4.ok
  have F4 := F2.step0 D4.stp
  have q11 : At (Ty.lst Ty.int raw) s4 a4 (.tmp 0) := D4.kt q5 rfl
  have q12 : At (Ty.int half) s4 a4 (.tmp 2) := D4.kt q7 rfl
  have q13 : At (Ty.int last) s4 a4 (.tmp 3) := D4.kt q8 rfl
  have q14 : At (Ty.nat (2 + (pick (n) (11)))) s4 a4 (.tmp 1) := D4.done 3
  clear D4
  have q15 : At (Ty.nat M) s4 a4 (.tmp 1) := (cvi (by (rw [hM])) q14)
  refine tn ?_
  refine wp_seq ?_
  refine reg2 (a := a4) (σ := s4) rfl 5 (fun i_ => List.getD [(Ty.pr (Ty.lst Ty.int raw)), (Ty.pr (Ty.nat M)), (Ty.pr (Ty.int half)), (Ty.pr (Ty.nat (pick (half) (20)))), (Ty.pr (Ty.nat (1 + (pick (half) (20)))))] i_ Pr.any) ok4 rfl (by decide) rfl ⟨?_, ?_, ?_, ?_, ?_, trivial⟩ ?_
  · intro ax tx hs okx sm
    exact run_plain rfl (y_move (kp (sm 0 rfl) hs q11))
  · intro ax tx hs okx sm
    exact run_plain rfl (y_move (kp (sm 1 rfl) hs q15))
  · intro ax tx hs okx sm
    exact run_plain rfl (y_move (kp (sm 2 rfl) hs q12))
  · intro ax tx hs okx sm d0
    have e2 : At (Ty.int half) tx ax (.tmp 26) := d0 rfl
    exact run_plain rfl (y_call #[ax.eval (.tmp 26), ax.eval ((Operand.const (Value.int IntKind.i64 20)))] Try.func56 rfl rfl (by simp only [List.map_toArray, List.map_cons, List.map_nil]) (pick_fn (half) (20) _ _ _ (cvi (σ := tx) (by omega) e2) (cvi (σ := tx) (by omega) rfl) (by omega) (by omega)))
  · intro ax tx hs okx sm d0
    have e3 : At (Ty.nat (pick (half) (20))) tx ax (.tmp 27) := d0 rfl
    exact run_plain rfl ((y_add rfl e3 (w64 (by omega) (by omega))).mono (fun τ _ h => cvi (σ := τ) (by first | omega | exact (Int.natCast_mul _ _).symm) h))
  intro a5 s5 D5
  have ok5 := D5.ok
  have F5 := F4.step0 D5.stp
  have q16 : At (Ty.int last) s5 a5 (.tmp 3) := D5.kt q13 rfl
  have q17 : At (Ty.nat M) s5 a5 (.tmp 1) := D5.kt q15 rfl
  have q18 : At (Ty.lst Ty.int raw) s5 a5 (.tmp 24) := D5.done 0 (by decide)
  have q19 : At (Ty.nat M) s5 a5 (.tmp 25) := D5.done 1 (by decide)
  have q20 : At (Ty.nat (1 + (pick (half) (20)))) s5 a5 (.tmp 28) := D5.done 4 (by decide)
  clear D5
  refine tailL (L := []) (R := (fun v τ' => ∃ τ, (fun v τ => ∃ (z : Value), (Ty.has (Ty.val z) τ v) ∧ (Own τ 42 34 1 z (List.length (changesOf raw (0) (M) ((1 + (pick (half) (20)))))) (List.map Ty.ints (changesOf raw (0) (M) ((1 + (pick (half) (20)))))))) v τ ∧ Back [(42, 5)] τ τ')) rfl rfl (by decide) ok5 (y_callL (L := []) [] [(42, 5)] #[a5.eval (.tmp 24), a5.eval ((Operand.const (Value.int IntKind.i64 0))), a5.eval (.tmp 25), a5.eval (.tmp 28)] rfl (by decide) Try.func63 rfl rfl (by simp only [List.map_toArray, List.map_cons, List.map_nil]) (changesOfO_fn (raw) (0) (M) ((1 + (pick (half) (20)))) _ (GW.low_lend _ (by decide)) _ _ _ _ (Ty.up _ (GW.le_lend _ _) q18) (Ty.up _ (GW.le_lend _ _) (cvi (σ := s5) (by first | omega | exact hr _ | assumption) rfl)) (Ty.up _ (GW.le_lend _ _) (cvi (σ := s5) (by first | omega | exact hr _ | assumption) q19)) (Ty.up _ (GW.le_lend _ _) (cvi (σ := s5) (by first | omega | exact hr _ | assumption) q20))  (by first | omega | exact hr _ | assumption) (by first | omega | exact hr _ | assumption) (by first | omega | exact hr _ | assumption) (by first | omega | exact hr _ | assumption))) (fun a6 s6 hs1 ok6 r1 sm1 => ?_)
  have F6 := F5.stepL hs1 (by decide)
  have q21 : At (Ty.int last) s6 a6 (.tmp 3) := kpL hs1 (by decide) (sm1 3 (by decide)) q16
  have q22 : At (Ty.nat M) s6 a6 (.tmp 1) := kpL hs1 (by decide) (sm1 1 (by decide)) q17
  obtain ⟨t1, ⟨x1, hT1, o1⟩, B1⟩ := r1
  have q23 : At (Ty.val x1) s6 a6 (.tmp 29) := Ty.up _ B1.le hT1
  have o2 : Own s6 5 34 1 x1 (List.length (changesOf raw (0) (M) ((1 + (pick (half) (20)))))) (List.map Ty.ints (changesOf raw (0) (M) ((1 + (pick (half) (20)))))) := Own.ren o1 (B1.ren (by decide) rfl)
  refine tailL (L := []) (R := (fun v τ => Pr.has (Ty.pr (Ty.val x1)) τ v)) rfl rfl (by decide) ok6 (Yld.toL (y_assign q23)) (fun a7 s7 hs2 ok7 r2 sm2 => ?_)
  have F7 := F6.stepL hs2 (by decide)
  have q24 : At (Ty.int last) s7 a7 (.tmp 3) := kpL hs2 (by decide) (sm2 3 (by decide)) q21
  have q25 : At (Ty.nat M) s7 a7 (.tmp 1) := kpL hs2 (by decide) (sm2 1 (by decide)) q22
  have o3 := Own.keepL o2 hs2 (by decide) (by decide)
  have q26 : At (Ty.val x1) s7 a7 (.tmp 9) := r2
  clear r2
  refine wpList_nil ?_
  have o4 : Own s7 5 34 1 x1 (List.length L) (List.map Ty.ints L) := (cvo (by (rw [hL, hK])) (by (rw [hL, hK])) o3)
  refine tn ?_
  refine wp_seq ?_
  refine reg2 (a := a7) (σ := s7) rfl 4 (fun i_ => List.getD [(Ty.pr (Ty.nat M)), (Ty.pr (Ty.val x1)), (Ty.pr (Ty.agg [(Ty.val (Value.string (ByteArray.mk #[77, 105, 114, 114, 111, 114]))), (Ty.nat M), (Ty.val x1)])), (Pr.ownp 6 [(Ty.val (Value.string ByteArray.empty)), (Ty.int (0 : Int)), (Ty.val (Value.slice none 0 0))])] i_ Pr.any) ok7 rfl (by decide) rfl ⟨?_, ?_, ?_, ?_, trivial⟩ ?_
  · intro ax tx hs okx sm
    exact run_plain rfl (y_move (kp (sm 1 rfl) hs q25))
  · intro ax tx hs okx sm
    exact run_plain rfl (y_move (kp (sm 9 rfl) hs q26))
  · intro ax tx hs okx sm d0 d1
    have e0 : At (Ty.nat M) tx ax (.tmp 30) := d0 rfl
    have e1 : At (Ty.val x1) tx ax (.tmp 31) := d1 rfl
    exact run_plain rfl (y_bld [(0, ((Operand.const (Value.string (ByteArray.mk #[77, 105, 114, 114, 111, 114])))), (Ty.val (Value.string (ByteArray.mk #[77, 105, 114, 114, 111, 114])))), (1, (.tmp 30), (Ty.nat M)), (2, (.tmp 31), (Ty.val x1))] [(Ty.val (Value.string ByteArray.empty)), (Ty.int (0 : Int)), (Ty.val (Value.slice none 0 0))] (l := [(0, 1), (1, 1), (2, 1)]) rfl Try.inf96 rfl (alloc_vals (vs := [.string ByteArray.empty, .int .i64 0, .slice none 0 0]) rfl) rfl (by intro p hp; simp only [List.mem_cons, List.not_mem_nil, or_false] at hp; rcases hp with rfl | rfl | rfl; exact ⟨one_val rfl, rfl⟩; exact ⟨one_val rfl, e0⟩; exact ⟨one_val (Own.one (Own.k0 o4 hs)), e1⟩))
  · intro ax tx hs okx sm
    exact run_plain rfl (y_alloc Try.inf96 rfl (alloc_vals (vs := [.string ByteArray.empty, .int .i64 0, .slice none 0 0]) rfl))
  intro a8 s8 D6
  have ok8 := D6.ok
  have F8 := F7.step0 D6.stp
  have q27 : At (Ty.int last) s8 a8 (.tmp 3) := D6.kt q24 rfl
  have q28 : At (Ty.nat M) s8 a8 (.tmp 1) := D6.kt q25 rfl
  have q29 : At (Ty.val x1) s8 a8 (.tmp 9) := D6.kt q26 rfl
  have o5 := Own.k0 o4 D6.stp
  have q30 : At (Ty.agg [(Ty.val (Value.string (ByteArray.mk #[77, 105, 114, 114, 111, 114]))), (Ty.nat M), (Ty.val x1)]) s8 a8 (.tmp 32) := D6.done 2 (by decide)
  obtain ⟨x2, hx1⟩ : ∃ x, a8.eval (.tmp 10) = x := ⟨_, rfl⟩
  have q31 : At (Ty.val x2) s8 a8 (.tmp 10) := hx1
  have o6 : OwnP s8 6 x2 [(Ty.val (Value.string ByteArray.empty)), (Ty.int (0 : Int)), (Ty.val (Value.slice none 0 0))] := al2 (R := (Pr.ownp 6 [(Ty.val (Value.string ByteArray.empty)), (Ty.int (0 : Int)), (Ty.val (Value.slice none 0 0))])) hx1 (D6.done 3 (by decide))
  clear D6
  refine tailL0 (L := [6]) (R := (fun _ τ => OwnP τ 6 x2 [(Ty.val (Value.string (ByteArray.mk #[77, 105, 114, 114, 111, 114]))), (Ty.nat M), (Ty.val x1)])) rfl rfl (YldM.toL (m_storeagg Try.inf96 (by decide) o6 q31 rfl q30 (by intro U hU; simp only [List.mem_cons, List.not_mem_nil, or_false] at hU; rcases hU with rfl | rfl | rfl <;> first | exact one_val rfl | exact one_sl | exact one_ref | exact one_val (Own.one o5)))) (fun v1 s9 hs3 r3 => ?_)
  have F9 := F8.stepL hs3 (by decide)
  have q32 : At (Ty.int last) s9 a8 (.tmp 3) := kpL hs3 (by decide) rfl q27
  have q33 : At (Ty.nat M) s9 a8 (.tmp 1) := kpL hs3 (by decide) rfl q28
  have q34 : At (Ty.val x1) s9 a8 (.tmp 9) := kpL hs3 (by decide) rfl q29
  have q35 : At (Ty.val x2) s9 a8 (.tmp 10) := kpL hs3 (by decide) rfl q31
  have o8 := Own.keepL o5 hs3 (by decide) (by decide)
  have o7 : OwnP s9 6 x2 [(Ty.val (Value.string (ByteArray.mk #[77, 105, 114, 114, 111, 114]))), (Ty.nat M), (Ty.val x1)] := r3
  clear r3
  refine wpList_nil ?_
  refine tn ?_
  refine wp_seq ?_
  refine wp_seq ?_
  refine reg (a := a8) (σ := s9) rfl (fun i_ => List.getD [(Ty.pr (Ty.val x1)), (Ty.pr (Ty.nat (List.length L))), (Ty.pr (Ty.int ((((List.length L) : Nat) : Int) - (2 : Int)))), (Ty.pr (Ty.int ((((List.length L) : Nat) : Int) - (2 : Int))))] i_ Pr.any) ok8 rfl ⟨?_, ?_, ?_, ?_, trivial⟩ ?_
  · intro ax tx hs okx sm
    exact run_plain rfl (y_move (kp (sm 9 rfl) hs q34))
  · intro ax tx hs okx sm d0
    have e0 : At (Ty.val x1) tx ax (.tmp 33) := d0 rfl
    exact run_plain rfl (own_len Try.underlying33 (al (R := (Pr.own 5 34 1 (List.length L) (List.map Ty.ints L))) e0 (Own.k0 o8 hs)))
  · intro ax tx hs okx sm d0
    have e1 : At (Ty.nat (List.length L)) tx ax (.tmp 34) := d0 rfl
    exact run_plain rfl (y_sub e1 rfl (w64 (by omega) (by omega)))
  · intro ax tx hs okx sm d0 d1 d2 d3
    have e2 : At (Ty.int ((((List.length L) : Nat) : Int) - (2 : Int))) tx ax (.tmp 35) := d0 rfl
    have e0 : At (Ty.val x1) tx ax (.tmp 33) := d1 rfl
    have e1 : At (Ty.nat (List.length L)) tx ax (.tmp 34) := d2 rfl
    exact run_plain rfl (y_assign e2)
  intro a9 s10 D7
  have ok9 := D7.ok
  have F10 := F9.step0 D7.stp
  have q37 : At (Ty.int last) s10 a9 (.tmp 3) := D7.kt q32 rfl
  have q38 : At (Ty.nat M) s10 a9 (.tmp 1) := D7.kt q33 rfl
  have q39 : At (Ty.val x1) s10 a9 (.tmp 9) := D7.kt q34 rfl
  have q40 : At (Ty.val x2) s10 a9 (.tmp 10) := D7.kt q35 rfl
  have o9 := Own.k0 o8 D7.stp
  have o10 := OwnP.k0 o7 D7.stp
  have q41 : At (Ty.int ((((List.length L) : Nat) : Int) - (2 : Int))) s10 a9 (.tmp 11) := D7.done 3
  clear D7
  refine tn ?_
  refine wp_block ?_
  refine loop (fun n1 a10 w1 => ∃ (t2 : GW) (j : Nat) (xm : Value), t2.w = w1 ∧ FromL [] s0 t2 ∧ Ok 103 a10 ∧ At (Ty.int ((((L.length : Nat) : Int) - (2 : Int)) - ((j : Nat) : Int))) t2 a10 (.tmp 11) ∧ At (Ty.int last) t2 a10 (.tmp 3) ∧ At (Ty.nat M) t2 a10 (.tmp 1) ∧ At (Ty.val x1) t2 a10 (.tmp 9) ∧ At (Ty.val x2) t2 a10 (.tmp 10) ∧ Own t2 5 34 1 x1 (List.length L) (List.map Ty.ints L) ∧ OwnP t2 6 x2 [(Ty.val (Value.string (ByteArray.mk #[77, 105, 114, 114, 111, 114]))), (Ty.nat M), (Ty.val xm)] ∧ Own t2 5 34 1 xm (List.length (mirTo L j)) (List.map Ty.ints (mirTo L j)) ∧ (j + 1 ≤ L.length) ∧ n1 = L.length - j) (L.length - (0)) ?_ ?_
  ·
   exact ⟨s10, 0, x1, rfl, F10, ok9, (cvi (by (first | rfl | omega | (simp_all; done) | (simp_all; omega))) q41), q37, q38, q39, q40, o9, o10, (cvo (by (rw [mirTo_zero])) (by (rw [mirTo_zero])) o9), by omega, rfl⟩
  ·
   rintro n2 a11 w2 ⟨t3, j, xm, rfl, F11, ok10, q42, q43, q44, q45, q46, o11, o12, o13, hj, rfl⟩
   have hlj := mirTo_len L j
   refine wp_seq ?_
   refine wp_seq ?_
   refine reg (a := a11) (σ := t3) rfl (fun i_ => List.getD [(Ty.pr (Ty.int ((((L.length : Nat) : Int) - (2 : Int)) - ((j : Nat) : Int)))), (Ty.pr (Ty.bool (decide ((0 : Int) ≤ ((((L.length : Nat) : Int) - (2 : Int)) - ((j : Nat) : Int))))))] i_ Pr.any) ok10 rfl ⟨?_, ?_, trivial⟩ ?_
   · intro ax tx hs okx sm
     exact run_plain rfl (y_move (kp (sm 11 rfl) hs q42))
   · intro ax tx hs okx sm d0
     have e0 : At (Ty.int ((((L.length : Nat) : Int) - (2 : Int)) - ((j : Nat) : Int))) tx ax (.tmp 36) := d0 rfl
     exact run_plain rfl (y_geq e0 rfl)
   intro a12 s11 D8
   have ok11 := D8.ok
   have F12 := F11.step0 D8.stp
   have q47 : At (Ty.int ((((L.length : Nat) : Int) - (2 : Int)) - ((j : Nat) : Int))) s11 a12 (.tmp 11) := D8.kt q42 rfl
   have q48 : At (Ty.int last) s11 a12 (.tmp 3) := D8.kt q43 rfl
   have q49 : At (Ty.nat M) s11 a12 (.tmp 1) := D8.kt q44 rfl
   have q50 : At (Ty.val x1) s11 a12 (.tmp 9) := D8.kt q45 rfl
   have q51 : At (Ty.val x2) s11 a12 (.tmp 10) := D8.kt q46 rfl
   have o14 := Own.k0 o11 D8.stp
   have o15 := OwnP.k0 o12 D8.stp
   have o16 := Own.k0 o13 D8.stp
   have q52 : At (Ty.bool (decide ((0 : Int) ≤ ((((L.length : Nat) : Int) - (2 : Int)) - ((j : Nat) : Int))))) s11 a12 (.tmp 37) := D8.done 1
   clear D8
   refine tn ?_
   refine cond_p (p := ((0 : Int) ≤ ((((L.length : Nat) : Int) - (2 : Int)) - ((j : Nat) : Int)))) q52 (fun c2 => ?_) (fun c2 => ?_)
   ·
    refine wp_skip ?_
    refine tn ?_
    refine wp_seq ?_
    refine wp_block ?_
    refine reg2 (a := a12) (σ := s11) rfl 7 (fun i_ => List.getD [(Ty.pr (Ty.val (ptrAt x2 2))), (Ty.pr (Ty.val xm)), (Ty.pr (Ty.val x1)), (Ty.pr (Ty.int ((((L.length : Nat) : Int) - (2 : Int)) - ((j : Nat) : Int)))), (Ty.pr (Ty.val (cellPtr x1 (((((L.length : Nat) : Int) - (2 : Int)) - ((j : Nat) : Int))).toNat))), (Ty.pr (Ty.lst Ty.int (L.getD (((((L.length : Nat) : Int) - (2 : Int)) - ((j : Nat) : Int))).toNat []))), (Ty.pr (Ty.sl 1 1 [(Ty.lst Ty.int (L.getD (((((L.length : Nat) : Int) - (2 : Int)) - ((j : Nat) : Int))).toNat []))]))] i_ Pr.any) ok11 rfl (by decide) rfl ⟨?_, ?_, ?_, ?_, ?_, ?_, ?_, trivial⟩ ?_
    · intro ax tx hs okx sm
      exact run_plain rfl (ownp_field Try.fld96_2 Try.inf33 (by decide) (OwnP.k0 o15 hs) (kp (sm 10 rfl) hs q51))
    · intro ax tx hs okx sm d0
      have e0 : At (Ty.val (ptrAt x2 2)) tx ax (.tmp 40) := d0 rfl
      exact run_plain rfl (ownp_load Try.underlying33 rfl (OwnP.k0 o15 hs) e0 rfl)
    · intro ax tx hs okx sm
      exact run_plain rfl (y_move (kp (sm 9 rfl) hs q50))
    · intro ax tx hs okx sm
      exact run_plain rfl (y_move (kp (sm 11 rfl) hs q47))
    · intro ax tx hs okx sm d0 d1
      have e2 : At (Ty.val x1) tx ax (.tmp 42) := d0 rfl
      have e3 : At (Ty.int ((((L.length : Nat) : Int) - (2 : Int)) - ((j : Nat) : Int))) tx ax (.tmp 43) := d1 rfl
      exact run_plain rfl (own_index1 (i := ((((L.length : Nat) : Int) - (2 : Int)) - ((j : Nat) : Int))) Try.underlying33 Try.inf34 (Own.k0 o14 hs) e2 e3 (by omega) (by omega))
    · intro ax tx hs okx sm d0
      have e4 : At (Ty.val (cellPtr x1 (((((L.length : Nat) : Int) - (2 : Int)) - ((j : Nat) : Int))).toNat)) tx ax (.tmp 44) := d0 rfl
      exact run_plain rfl (own_load Try.underlying34 rfl (Own.k0 o14 hs) e4 (lst_get Ty.ints L [] (((((L.length : Nat) : Int) - (2 : Int)) - ((j : Nat) : Int))).toNat (by omega)))
    · intro ax tx hs okx sm d0
      have e5 : At (Ty.lst Ty.int (L.getD (((((L.length : Nat) : Int) - (2 : Int)) - ((j : Nat) : Int))).toNat [])) tx ax (.tmp 45) := d0 rfl
      exact run_plain rfl (y_build1o Try.underlying33 Try.inf34 rfl (one_sl) e5)
    intro a13 s12 D9
    have ok12 := D9.ok
    have F13 := F12.step0 D9.stp
    have q53 : At (Ty.int ((((L.length : Nat) : Int) - (2 : Int)) - ((j : Nat) : Int))) s12 a13 (.tmp 11) := D9.kt q47 rfl
    have q54 : At (Ty.int last) s12 a13 (.tmp 3) := D9.kt q48 rfl
    have q55 : At (Ty.nat M) s12 a13 (.tmp 1) := D9.kt q49 rfl
    have q56 : At (Ty.val x1) s12 a13 (.tmp 9) := D9.kt q50 rfl
    have q57 : At (Ty.val x2) s12 a13 (.tmp 10) := D9.kt q51 rfl
    have o17 := Own.k0 o14 D9.stp
    have o18 := OwnP.k0 o15 D9.stp
    have o19 := Own.k0 o16 D9.stp
    have q58 : At (Ty.val xm) s12 a13 (.tmp 41) := D9.done 1 (by decide)
    have q59 : At (Ty.sl 1 1 [(Ty.lst Ty.int (L.getD (((((L.length : Nat) : Int) - (2 : Int)) - ((j : Nat) : Int))).toNat []))]) s12 a13 (.tmp 46) := D9.done 6 (by decide)
    have b2 := sl_le q59
    clear D9
    refine tailL (L := [5]) (R := (fun v τ => Own τ 5 34 1 v ((List.length (mirTo L j)) + 1) ((List.map Ty.ints (mirTo L j)) ++ [(Ty.lst Ty.int (L.getD (((((L.length : Nat) : Int) - (2 : Int)) - ((j : Nat) : Int))).toNat []))]) ∧ ∀ l n0 ts0, n0 ≤ (List.length (mirTo L j)) → Own s12 5 34 1 l n0 ts0 → Own τ 5 34 1 l n0 ts0)) rfl rfl (by decide) ok12 (YldM.toL (m_append2 Try.underlying33 Try.inf34 (by decide) rfl (by decide) (al (R := (Pr.own 5 34 1 (List.length (mirTo L j)) (List.map Ty.ints (mirTo L j)))) q58 o19) q59 (by intro U hU; simp at hU; subst hU; exact one_sl) (by omega) (by omega))) (fun a14 s13 hs4 ok13 r4 sm3 => ?_)
    have F14 := F13.stepL hs4 (by decide)
    have q60 : At (Ty.int ((((L.length : Nat) : Int) - (2 : Int)) - ((j : Nat) : Int))) s13 a14 (.tmp 11) := kpL hs4 (by decide) (sm3 11 (by decide)) q53
    have q61 : At (Ty.int last) s13 a14 (.tmp 3) := kpL hs4 (by decide) (sm3 3 (by decide)) q54
    have q62 : At (Ty.nat M) s13 a14 (.tmp 1) := kpL hs4 (by decide) (sm3 1 (by decide)) q55
    have q63 : At (Ty.val x1) s13 a14 (.tmp 9) := kpL hs4 (by decide) (sm3 9 (by decide)) q56
    have q64 : At (Ty.val x2) s13 a14 (.tmp 10) := kpL hs4 (by decide) (sm3 10 (by decide)) q57
    have o23 := OwnP.keepL o18 hs4 (by decide) (by decide)
    obtain ⟨x3, hx2⟩ : ∃ x, a14.eval (.tmp 47) = x := ⟨_, rfl⟩
    have q65 : At (Ty.val x3) s13 a14 (.tmp 47) := hx2
    have o20 : Own s13 5 34 1 x3 (List.length ((mirTo L j) ++ [(L.getD (((((L.length : Nat) : Int) - (2 : Int)) - ((j : Nat) : Int))).toNat [])])) (List.map Ty.ints ((mirTo L j) ++ [(L.getD (((((L.length : Nat) : Int) - (2 : Int)) - ((j : Nat) : Int))).toNat [])])) := al2 (R := (Pr.own 5 34 1 (List.length ((mirTo L j) ++ [(L.getD (((((L.length : Nat) : Int) - (2 : Int)) - ((j : Nat) : Int))).toNat [])])) (List.map Ty.ints ((mirTo L j) ++ [(L.getD (((((L.length : Nat) : Int) - (2 : Int)) - ((j : Nat) : Int))).toNat [])])))) hx2 (cvo (by simp) (by first | (rw [List.map_append]; rfl) | simp) (r4).1)
    have o21 : Own s13 5 34 1 x1 (List.length L) (List.map Ty.ints L) := (r4).2 _ _ _ (by omega) o17
    have o22 : Own s13 5 34 1 xm (List.length (mirTo L j)) (List.map Ty.ints (mirTo L j)) := (r4).2 _ _ _ (by omega) o19
    clear r4
    refine tailL (L := []) (R := (fun v τ => Pr.has (Ty.pr (Ty.val (ptrAt x2 2))) τ v)) rfl rfl (by decide) ok13 (Yld.toL (ownp_field Try.fld96_2 Try.inf33 (by decide) o23 q64)) (fun a15 s14 hs5 ok14 r5 sm4 => ?_)
    have F15 := F14.stepL hs5 (by decide)
    have q66 : At (Ty.int ((((L.length : Nat) : Int) - (2 : Int)) - ((j : Nat) : Int))) s14 a15 (.tmp 11) := kpL hs5 (by decide) (sm4 11 (by decide)) q60
    have q67 : At (Ty.int last) s14 a15 (.tmp 3) := kpL hs5 (by decide) (sm4 3 (by decide)) q61
    have q68 : At (Ty.nat M) s14 a15 (.tmp 1) := kpL hs5 (by decide) (sm4 1 (by decide)) q62
    have q69 : At (Ty.val x1) s14 a15 (.tmp 9) := kpL hs5 (by decide) (sm4 9 (by decide)) q63
    have q70 : At (Ty.val x2) s14 a15 (.tmp 10) := kpL hs5 (by decide) (sm4 10 (by decide)) q64
    have q71 : At (Ty.val x3) s14 a15 (.tmp 47) := kpL hs5 (by decide) (sm4 47 (by decide)) q65
    have o24 := OwnP.keepL o23 hs5 (by decide) (by decide)
    have o25 := Own.keepL o20 hs5 (by decide) (by decide)
    have o26 := Own.keepL o21 hs5 (by decide) (by decide)
    have o27 := Own.keepL o22 hs5 (by decide) (by decide)
    have q72 : At (Ty.val (ptrAt x2 2)) s14 a15 (.tmp 48) := r5
    clear r5
    refine tailL0 (L := [6]) (R := (fun _ τ => OwnP τ 6 x2 ([(Ty.val (Value.string (ByteArray.mk #[77, 105, 114, 114, 111, 114]))), (Ty.nat M), (Ty.val xm)].set 2 (Ty.val x3)))) rfl rfl (YldM.toL (m_storep Try.inf33 (by decide) o24 q72 (Nat.le_of_ble_eq_true rfl) q71 (one_val (Own.one o25)))) (fun v2 s15 hs6 r6 => ?_)
    have F16 := F15.stepL hs6 (by decide)
    have q73 : At (Ty.int ((((L.length : Nat) : Int) - (2 : Int)) - ((j : Nat) : Int))) s15 a15 (.tmp 11) := kpL hs6 (by decide) rfl q66
    have q74 : At (Ty.int last) s15 a15 (.tmp 3) := kpL hs6 (by decide) rfl q67
    have q75 : At (Ty.nat M) s15 a15 (.tmp 1) := kpL hs6 (by decide) rfl q68
    have q76 : At (Ty.val x1) s15 a15 (.tmp 9) := kpL hs6 (by decide) rfl q69
    have q77 : At (Ty.val x2) s15 a15 (.tmp 10) := kpL hs6 (by decide) rfl q70
    have o29 := Own.keepL o25 hs6 (by decide) (by decide)
    have o30 := Own.keepL o26 hs6 (by decide) (by decide)
    have o31 := Own.keepL o27 hs6 (by decide) (by decide)
    have o28 : OwnP s15 6 x2 [(Ty.val (Value.string (ByteArray.mk #[77, 105, 114, 114, 111, 114]))), (Ty.nat M), (Ty.val x3)] := r6
    clear r6
    refine wpList_nil ?_
    refine bn ?_
    refine tn ?_
    refine reg (a := a15) (σ := s15) rfl (fun i_ => List.getD [(Ty.pr (Ty.int ((((L.length : Nat) : Int) - (2 : Int)) - ((j : Nat) : Int)))), (Ty.pr (Ty.int (((((L.length : Nat) : Int) - (2 : Int)) - ((j : Nat) : Int)) - (1 : Int)))), (Ty.pr (Ty.int (((((L.length : Nat) : Int) - (2 : Int)) - ((j : Nat) : Int)) - (1 : Int))))] i_ Pr.any) ok14 rfl ⟨?_, ?_, ?_, trivial⟩ ?_
    · intro ax tx hs okx sm
      exact run_plain rfl (y_move (kp (sm 11 rfl) hs q73))
    · intro ax tx hs okx sm d0
      have e0 : At (Ty.int ((((L.length : Nat) : Int) - (2 : Int)) - ((j : Nat) : Int))) tx ax (.tmp 38) := d0 rfl
      exact run_plain rfl (y_sub e0 rfl (w64 (by omega) (by omega)))
    · intro ax tx hs okx sm d0 d1 d2
      have e1 : At (Ty.int (((((L.length : Nat) : Int) - (2 : Int)) - ((j : Nat) : Int)) - (1 : Int))) tx ax (.tmp 39) := d0 rfl
      have e0 : At (Ty.int ((((L.length : Nat) : Int) - (2 : Int)) - ((j : Nat) : Int))) tx ax (.tmp 38) := d1 rfl
      exact run_plain rfl (y_assign e1)
    intro a16 s16 D10
    have ok15 := D10.ok
    have F17 := F16.step0 D10.stp
    have q79 : At (Ty.int last) s16 a16 (.tmp 3) := D10.kt q74 rfl
    have q80 : At (Ty.nat M) s16 a16 (.tmp 1) := D10.kt q75 rfl
    have q81 : At (Ty.val x1) s16 a16 (.tmp 9) := D10.kt q76 rfl
    have q82 : At (Ty.val x2) s16 a16 (.tmp 10) := D10.kt q77 rfl
    have o32 := Own.k0 o29 D10.stp
    have o33 := Own.k0 o30 D10.stp
    have o34 := OwnP.k0 o28 D10.stp
    have q83 : At (Ty.int (((((L.length : Nat) : Int) - (2 : Int)) - ((j : Nat) : Int)) - (1 : Int))) s16 a16 (.tmp 11) := D10.done 2
    clear D10
    exact tn ⟨L.length - ((j + 1)), by omega, s16, (j + 1), x3, rfl, F17, ok15, (cvi (by (first | rfl | omega | (simp_all; done) | (simp_all; omega))) q83), q79, q80, q81, q82, o33, o34, (cvo (by (rw [mirTo_succ, show ((((L.length : Nat) : Int) - (2 : Int)) - ((j : Nat) : Int)).toNat = L.length - 2 - j by omega])) (by (rw [mirTo_succ, show ((((L.length : Nat) : Int) - (2 : Int)) - ((j : Nat) : Int)).toNat = L.length - 2 - j by omega])) o32), by omega, rfl⟩
   ·
    have hje : j = L.length - 1 := by omega
    refine wp_exit ?_
    refine tx ?_
    refine tx ?_
    refine bx ?_
    refine tn ?_
    refine wp_seq ?_
    refine reg2 (a := a12) (σ := s11) rfl 6 (fun i_ => List.getD [(Ty.pr (Ty.val (ptrAt x2 2))), (Ty.pr (Ty.val xm)), (Ty.pr (Ty.int last)), (Ty.pr (Ty.nat M)), (Ty.pr (Ty.lst Ty.int (changeOf (last) (M)))), (Ty.pr (Ty.sl 1 1 [(Ty.lst Ty.int (changeOf (last) (M)))]))] i_ Pr.any) ok11 rfl (by decide) rfl ⟨?_, ?_, ?_, ?_, ?_, ?_, trivial⟩ ?_
    · intro ax tx hs okx sm
      exact run_plain rfl (ownp_field Try.fld96_2 Try.inf33 (by decide) (OwnP.k0 o15 hs) (kp (sm 10 rfl) hs q51))
    · intro ax tx hs okx sm d0
      have e0 : At (Ty.val (ptrAt x2 2)) tx ax (.tmp 49) := d0 rfl
      exact run_plain rfl (ownp_load Try.underlying33 rfl (OwnP.k0 o15 hs) e0 rfl)
    · intro ax tx hs okx sm
      exact run_plain rfl (y_move (kp (sm 3 rfl) hs q48))
    · intro ax tx hs okx sm
      exact run_plain rfl (y_move (kp (sm 1 rfl) hs q49))
    · intro ax tx hs okx sm d0 d1
      have e2 : At (Ty.int last) tx ax (.tmp 51) := d0 rfl
      have e3 : At (Ty.nat M) tx ax (.tmp 52) := d1 rfl
      exact run_plain rfl (y_call #[ax.eval (.tmp 51), ax.eval (.tmp 52)] Try.func58 rfl rfl (by simp only [List.map_toArray, List.map_cons, List.map_nil]) (changeOf_fn (last) (M) _ _ _ (cvi (σ := tx) (by omega) e2) (cvi (σ := tx) (by omega) e3) (by omega) (by omega)))
    · intro ax tx hs okx sm d0
      have e4 : At (Ty.lst Ty.int (changeOf (last) (M))) tx ax (.tmp 53) := d0 rfl
      exact run_plain rfl (y_build1o Try.underlying33 Try.inf34 rfl (one_sl) e4)
    intro a17 s17 D11
    have ok16 := D11.ok
    have F18 := F12.step0 D11.stp
    have q84 : At (Ty.val x2) s17 a17 (.tmp 10) := D11.kt q51 rfl
    have o35 := Own.k0 o14 D11.stp
    have o36 := OwnP.k0 o15 D11.stp
    have o37 := Own.k0 o16 D11.stp
    have q85 : At (Ty.val xm) s17 a17 (.tmp 50) := D11.done 1 (by decide)
    have q86 : At (Ty.sl 1 1 [(Ty.lst Ty.int (changeOf (last) (M)))]) s17 a17 (.tmp 54) := D11.done 5 (by decide)
    have b3 := sl_le q86
    clear D11
    refine tailL (L := [5]) (R := (fun v τ => Own τ 5 34 1 v ((List.length (mirTo L j)) + 1) ((List.map Ty.ints (mirTo L j)) ++ [(Ty.lst Ty.int (changeOf (last) (M)))]) ∧ ∀ l n0 ts0, n0 ≤ (List.length (mirTo L j)) → Own s17 5 34 1 l n0 ts0 → Own τ 5 34 1 l n0 ts0)) rfl rfl (by decide) ok16 (YldM.toL (m_append2 Try.underlying33 Try.inf34 (by decide) rfl (by decide) (al (R := (Pr.own 5 34 1 (List.length (mirTo L j)) (List.map Ty.ints (mirTo L j)))) q85 o37) q86 (by intro U hU; simp at hU; subst hU; exact one_sl) (by omega) (by omega))) (fun a18 s18 hs7 ok17 r7 sm5 => ?_)
    have F19 := F18.stepL hs7 (by decide)
    have q87 : At (Ty.val x2) s18 a18 (.tmp 10) := kpL hs7 (by decide) (sm5 10 (by decide)) q84
    have o41 := OwnP.keepL o36 hs7 (by decide) (by decide)
    obtain ⟨x4, hx3⟩ : ∃ x, a18.eval (.tmp 55) = x := ⟨_, rfl⟩
    have q88 : At (Ty.val x4) s18 a18 (.tmp 55) := hx3
    have o38 : Own s18 5 34 1 x4 (List.length ((mirTo L j) ++ [(changeOf (last) (M))])) (List.map Ty.ints ((mirTo L j) ++ [(changeOf (last) (M))])) := al2 (R := (Pr.own 5 34 1 (List.length ((mirTo L j) ++ [(changeOf (last) (M))])) (List.map Ty.ints ((mirTo L j) ++ [(changeOf (last) (M))])))) hx3 (cvo (by simp) (by first | (rw [List.map_append]; rfl) | simp) (r7).1)
    have o39 : Own s18 5 34 1 x1 (List.length L) (List.map Ty.ints L) := (r7).2 _ _ _ (by omega) o35
    have o40 : Own s18 5 34 1 xm (List.length (mirTo L j)) (List.map Ty.ints (mirTo L j)) := (r7).2 _ _ _ (by omega) o37
    clear r7
    refine tailL (L := []) (R := (fun v τ => Pr.has (Ty.pr (Ty.val (ptrAt x2 2))) τ v)) rfl rfl (by decide) ok17 (Yld.toL (ownp_field Try.fld96_2 Try.inf33 (by decide) o41 q87)) (fun a19 s19 hs8 ok18 r8 sm6 => ?_)
    have F20 := F19.stepL hs8 (by decide)
    have q89 : At (Ty.val x2) s19 a19 (.tmp 10) := kpL hs8 (by decide) (sm6 10 (by decide)) q87
    have q90 : At (Ty.val x4) s19 a19 (.tmp 55) := kpL hs8 (by decide) (sm6 55 (by decide)) q88
    have o42 := OwnP.keepL o41 hs8 (by decide) (by decide)
    have o43 := Own.keepL o38 hs8 (by decide) (by decide)
    have o44 := Own.keepL o39 hs8 (by decide) (by decide)
    have o45 := Own.keepL o40 hs8 (by decide) (by decide)
    have q91 : At (Ty.val (ptrAt x2 2)) s19 a19 (.tmp 56) := r8
    clear r8
    refine tailL0 (L := [6]) (R := (fun _ τ => OwnP τ 6 x2 ([(Ty.val (Value.string (ByteArray.mk #[77, 105, 114, 114, 111, 114]))), (Ty.nat M), (Ty.val xm)].set 2 (Ty.val x4)))) rfl rfl (YldM.toL (m_storep Try.inf33 (by decide) o42 q91 (Nat.le_of_ble_eq_true rfl) q90 (one_val (Own.one o43)))) (fun v3 s20 hs9 r9 => ?_)
    have F21 := F20.stepL hs9 (by decide)
    have q92 : At (Ty.val x2) s20 a19 (.tmp 10) := kpL hs9 (by decide) rfl q89
    have o47 := Own.keepL o43 hs9 (by decide) (by decide)
    have o48 := Own.keepL o44 hs9 (by decide) (by decide)
    have o49 := Own.keepL o45 hs9 (by decide) (by decide)
    have o46 : OwnP s20 6 x2 [(Ty.val (Value.string (ByteArray.mk #[77, 105, 114, 114, 111, 114]))), (Ty.nat M), (Ty.val x4)] := r9
    clear r9
    refine wpList_nil ?_
    have o50 : Own s20 5 34 1 x4 (List.length (mirT L (changeOf last M))) (List.map Ty.ints (mirT L (changeOf last M))) := (cvo (by (rw [mirT, hje])) (by (rw [mirT, hje])) o47)
    refine tn ?_
    refine wp_seq ?_
    obtain ⟨t4, e1, h1, q94⟩ := Own.seal o50 (by decide)
    rw [← e1]
    have F22 := F21.step h1 (by decide)
    have o51 := OwnP.keepL o46 (h1.toL (L := [5]) (by simp)) (by decide) (by decide)
    have q95 := Ty.up (Ty.val x2) (h1.le (by decide)) q92
    have o52 := ownp_cellq 2 (Ty.lst Ty.ints (mirT L (changeOf last M))) o51 rfl q94
    obtain ⟨t5, e2, h2, q96⟩ := OwnP.seal o52 (by decide)
    rw [← e2]
    have F23 := F22.step h2 (by decide)
    have q97 : At (Ty.ref [(Ty.val (Value.string (ByteArray.mk #[77, 105, 114, 114, 111, 114]))), (Ty.nat M), (Ty.lst Ty.ints (mirT L (changeOf last M)))]) t5 a19 (.tmp 10) := by have e : a19.eval (.tmp 10) = x2 := q95; show Ty.has _ _ _; rw [e]; exact q96
    refine reg (a := a19) (σ := t5) rfl (fun i_ => List.getD [(Ty.pr (Ty.agg [(Ty.val (Value.string (ByteArray.mk #[77, 105, 114, 114, 111, 114]))), (Ty.nat M), (Ty.lst Ty.ints (mirT L (changeOf last M)))])), (Ty.pr (Ty.tup2 (Ty.bool true) (Ty.int (0 : Int)))), (Ty.pr (Ty.tup2 (Ty.bool true) (Ty.int (0 : Int)))), (Ty.pr (Ty.bool true)), (Ty.pr (Ty.int (0 : Int))), (Ty.pr (Ty.bool true)), (Ty.pr (Ty.int (0 : Int)))] i_ Pr.any) ok18 rfl ⟨?_, ?_, ?_, ?_, ?_, ?_, ?_, trivial⟩ ?_
    · intro ax tx hs okx sm
      exact run_plain rfl (y_loadagg Try.underlying96 Try.inf96 (kp (sm 10 rfl) hs q97))
    · intro ax tx hs okx sm d0
      have e0 : At (Ty.agg [(Ty.val (Value.string (ByteArray.mk #[77, 105, 114, 114, 111, 114]))), (Ty.nat M), (Ty.lst Ty.ints (mirT L (changeOf last M)))]) tx ax (.tmp 58) := d0 rfl
      exact run_plain rfl ((y_call #[ax.eval (.tmp 58)] Try.func64 rfl rfl (by simp only [List.map_toArray, List.map_cons, List.map_nil]) (mirrored_fn ((ByteArray.mk #[77, 105, 114, 114, 111, 114])) (((M : Nat) : Int)) ((mirT L (changeOf last M))) _ _ e0 (by first | omega | assumption) (by first | omega | assumption))).mono (fun τ _ h => cvt (σ := τ) (T := (Ty.tup2 (Ty.bool (if methMay ((ByteArray.mk #[77, 105, 114, 114, 111, 114])) (((M : Nat) : Int)) ((mirT L (changeOf last M))) = 0 then mirB ((mirT L (changeOf last M))) else false)) (Ty.int (methMay ((ByteArray.mk #[77, 105, 114, 114, 111, 114])) (((M : Nat) : Int)) ((mirT L (changeOf last M))))))) (U := (Ty.tup2 (Ty.bool true) (Ty.int (0 : Int)))) (by rw [hmay, if_pos rfl, hmm]) h))
    · intro ax tx hs okx sm d0
      have e1 : At (Ty.tup2 (Ty.bool true) (Ty.int (0 : Int))) tx ax (.tmp 59) := d0 rfl
      exact run_plain rfl (y_move e1)
    · intro ax tx hs okx sm d0
      have e2 : At (Ty.tup2 (Ty.bool true) (Ty.int (0 : Int))) tx ax (.tmp 57) := d0 rfl
      exact run_plain rfl (y_ext2_0 e2)
    · intro ax tx hs okx sm d0 d1
      have e2 : At (Ty.tup2 (Ty.bool true) (Ty.int (0 : Int))) tx ax (.tmp 57) := d0 rfl
      exact run_plain rfl (y_ext2_1 e2)
    · intro ax tx hs okx sm d0 d1 d2 d3 d4 d5 d6
      have e3 : At (Ty.bool true) tx ax (.tmp 60) := d0 rfl
      have e1 : At (Ty.tup2 (Ty.bool true) (Ty.int (0 : Int))) tx ax (.tmp 59) := d1 rfl
      have e0 : At (Ty.agg [(Ty.val (Value.string (ByteArray.mk #[77, 105, 114, 114, 111, 114]))), (Ty.nat M), (Ty.lst Ty.ints (mirT L (changeOf last M)))]) tx ax (.tmp 58) := d2 rfl
      have e2 : At (Ty.tup2 (Ty.bool true) (Ty.int (0 : Int))) tx ax (.tmp 57) := d4 rfl
      exact run_plain rfl (y_assign e3)
    · intro ax tx hs okx sm d0 d1 d2 d3 d4 d5 d6 d7
      have e4 : At (Ty.int (0 : Int)) tx ax (.tmp 61) := d0 rfl
      have e5 : At (Ty.bool true) tx ax (.tmp 12) := d1 rfl
      have e0 : At (Ty.agg [(Ty.val (Value.string (ByteArray.mk #[77, 105, 114, 114, 111, 114]))), (Ty.nat M), (Ty.lst Ty.ints (mirT L (changeOf last M)))]) tx ax (.tmp 58) := d2 rfl
      have e1 : At (Ty.tup2 (Ty.bool true) (Ty.int (0 : Int))) tx ax (.tmp 59) := d3 rfl
      have e2 : At (Ty.tup2 (Ty.bool true) (Ty.int (0 : Int))) tx ax (.tmp 57) := d4 rfl
      have e3 : At (Ty.bool true) tx ax (.tmp 60) := d5 rfl
      exact run_plain rfl (y_assign e4)
    intro a20 s21 D12
    have ok19 := D12.ok
    have F24 := F23.step0 D12.stp
    have q98 : At (Ty.ref [(Ty.val (Value.string (ByteArray.mk #[77, 105, 114, 114, 111, 114]))), (Ty.nat M), (Ty.lst Ty.ints (mirT L (changeOf last M)))]) s21 a20 (.tmp 10) := D12.kt q97 rfl
    have q99 : At (Ty.bool true) s21 a20 (.tmp 12) := D12.done 5
    have q100 : At (Ty.int (0 : Int)) s21 a20 (.tmp 13) := D12.done 6
    clear D12
    refine tn ?_
    refine wp_seq ?_
    refine reg (a := a20) (σ := s21) rfl (fun i_ => List.getD [(Ty.pr (Ty.agg [(Ty.val (Value.string (ByteArray.mk #[77, 105, 114, 114, 111, 114]))), (Ty.nat M), (Ty.lst Ty.ints (mirT L (changeOf last M)))])), (Ty.pr (Ty.tup2 (Ty.lst Ty.ints (fromL (roundsL M) (mirT L (changeOf last M)))) (Ty.int (0 : Int)))), (Ty.pr (Ty.tup2 (Ty.lst Ty.ints (fromL (roundsL M) (mirT L (changeOf last M)))) (Ty.int (0 : Int)))), (Ty.pr (Ty.lst Ty.ints (fromL (roundsL M) (mirT L (changeOf last M))))), (Ty.pr (Ty.int (0 : Int))), (Ty.pr (Ty.lst Ty.ints (fromL (roundsL M) (mirT L (changeOf last M))))), (Ty.pr (Ty.int (0 : Int)))] i_ Pr.any) ok19 rfl ⟨?_, ?_, ?_, ?_, ?_, ?_, ?_, trivial⟩ ?_
    · intro ax tx hs okx sm
      exact run_plain rfl (y_loadagg Try.underlying96 Try.inf96 (kp (sm 10 rfl) hs q98))
    · intro ax tx hs okx sm d0
      have e0 : At (Ty.agg [(Ty.val (Value.string (ByteArray.mk #[77, 105, 114, 114, 111, 114]))), (Ty.nat M), (Ty.lst Ty.ints (mirT L (changeOf last M)))]) tx ax (.tmp 63) := d0 rfl
      exact run_plain rfl ((y_call #[ax.eval (.tmp 63)] Try.func65 rfl rfl (by simp only [List.map_toArray, List.map_cons, List.map_nil]) (lead_fn ((ByteArray.mk #[77, 105, 114, 114, 111, 114])) (((M : Nat) : Int)) ((mirT L (changeOf last M))) _ _ e0 (by first | omega | assumption) (by first | omega | assumption))).mono (fun τ _ h => cvt (σ := τ) (T := (Ty.tup2 (Ty.lst Ty.ints (if methMay ((ByteArray.mk #[77, 105, 114, 114, 111, 114])) (((M : Nat) : Int)) ((mirT L (changeOf last M))) = 0 then fromL (roundsL (((M : Nat) : Int)).toNat) ((mirT L (changeOf last M))) else [])) (Ty.int (methMay ((ByteArray.mk #[77, 105, 114, 114, 111, 114])) (((M : Nat) : Int)) ((mirT L (changeOf last M))))))) (U := (Ty.tup2 (Ty.lst Ty.ints (fromL (roundsL M) (mirT L (changeOf last M)))) (Ty.int (0 : Int)))) (by rw [htn, if_pos hmay, hmay]) h))
    · intro ax tx hs okx sm d0
      have e1 : At (Ty.tup2 (Ty.lst Ty.ints (fromL (roundsL M) (mirT L (changeOf last M)))) (Ty.int (0 : Int))) tx ax (.tmp 64) := d0 rfl
      exact run_plain rfl (y_move e1)
    · intro ax tx hs okx sm d0
      have e2 : At (Ty.tup2 (Ty.lst Ty.ints (fromL (roundsL M) (mirT L (changeOf last M)))) (Ty.int (0 : Int))) tx ax (.tmp 62) := d0 rfl
      exact run_plain rfl (y_ext2_0 e2)
    · intro ax tx hs okx sm d0 d1
      have e2 : At (Ty.tup2 (Ty.lst Ty.ints (fromL (roundsL M) (mirT L (changeOf last M)))) (Ty.int (0 : Int))) tx ax (.tmp 62) := d0 rfl
      exact run_plain rfl (y_ext2_1 e2)
    · intro ax tx hs okx sm d0 d1 d2 d3 d4 d5 d6
      have e3 : At (Ty.lst Ty.ints (fromL (roundsL M) (mirT L (changeOf last M)))) tx ax (.tmp 65) := d0 rfl
      have e1 : At (Ty.tup2 (Ty.lst Ty.ints (fromL (roundsL M) (mirT L (changeOf last M)))) (Ty.int (0 : Int))) tx ax (.tmp 64) := d1 rfl
      have e0 : At (Ty.agg [(Ty.val (Value.string (ByteArray.mk #[77, 105, 114, 114, 111, 114]))), (Ty.nat M), (Ty.lst Ty.ints (mirT L (changeOf last M)))]) tx ax (.tmp 63) := d2 rfl
      have e2 : At (Ty.tup2 (Ty.lst Ty.ints (fromL (roundsL M) (mirT L (changeOf last M)))) (Ty.int (0 : Int))) tx ax (.tmp 62) := d4 rfl
      exact run_plain rfl (y_assign e3)
    · intro ax tx hs okx sm d0 d1 d2 d3 d4 d5 d6 d7
      have e4 : At (Ty.int (0 : Int)) tx ax (.tmp 66) := d0 rfl
      have e5 : At (Ty.lst Ty.ints (fromL (roundsL M) (mirT L (changeOf last M)))) tx ax (.tmp 14) := d1 rfl
      have e0 : At (Ty.agg [(Ty.val (Value.string (ByteArray.mk #[77, 105, 114, 114, 111, 114]))), (Ty.nat M), (Ty.lst Ty.ints (mirT L (changeOf last M)))]) tx ax (.tmp 63) := d2 rfl
      have e1 : At (Ty.tup2 (Ty.lst Ty.ints (fromL (roundsL M) (mirT L (changeOf last M)))) (Ty.int (0 : Int))) tx ax (.tmp 64) := d3 rfl
      have e2 : At (Ty.tup2 (Ty.lst Ty.ints (fromL (roundsL M) (mirT L (changeOf last M)))) (Ty.int (0 : Int))) tx ax (.tmp 62) := d4 rfl
      have e3 : At (Ty.lst Ty.ints (fromL (roundsL M) (mirT L (changeOf last M)))) tx ax (.tmp 65) := d5 rfl
      exact run_plain rfl (y_assign e4)
    intro a21 s22 D13
    have ok20 := D13.ok
    have F25 := F24.step0 D13.stp
    have q101 : At (Ty.ref [(Ty.val (Value.string (ByteArray.mk #[77, 105, 114, 114, 111, 114]))), (Ty.nat M), (Ty.lst Ty.ints (mirT L (changeOf last M)))]) s22 a21 (.tmp 10) := D13.kt q98 rfl
    have q102 : At (Ty.bool true) s22 a21 (.tmp 12) := D13.kt q99 rfl
    have q103 : At (Ty.int (0 : Int)) s22 a21 (.tmp 13) := D13.kt q100 rfl
    have q104 : At (Ty.lst Ty.ints (fromL (roundsL M) (mirT L (changeOf last M)))) s22 a21 (.tmp 14) := D13.done 5
    have q105 : At (Ty.int (0 : Int)) s22 a21 (.tmp 15) := D13.done 6
    clear D13
    refine tn ?_
    refine wp_seq ?_
    refine wp_seq ?_
    refine reg (a := a21) (σ := s22) rfl (fun i_ => List.getD [(Ty.pr (Ty.int (0 : Int))), (Ty.pr (Ty.bool false)), (Ty.pr (Ty.bool false)), (Ty.pr (Ty.grd (false = false) (Ty.int (0 : Int)))), (Ty.pr (Ty.grd (false = false) (Ty.bool false))), (Ty.pr (Ty.bool (false || false))), (Ty.pr (Ty.bool (false || false))), (Ty.pr (Ty.grd ((false || false) = false) (Ty.bool true))), (Ty.pr (Ty.grd ((false || false) = false) (Ty.bool (!true)))), (Ty.pr (Ty.bool ((false || false) || (!true)))), (Ty.pr (Ty.bool ((false || false) || (!true)))), (Ty.pr (Ty.grd (((false || false) || (!true)) = false) (Ty.lst Ty.ints (fromL (roundsL M) (mirT L (changeOf last M)))))), (Ty.pr (Ty.grd (((false || false) || (!true)) = false) (Ty.nat (List.length (fromL (roundsL M) (mirT L (changeOf last M))))))), (Ty.pr (Ty.grd (((false || false) || (!true)) = false) (Ty.ref [(Ty.lst Ty.ints (mirT L (changeOf last M)))]))), (Ty.pr (Ty.grd (((false || false) || (!true)) = false) (Ty.lst Ty.ints (mirT L (changeOf last M))))), (Ty.pr (Ty.grd (((false || false) || (!true)) = false) (Ty.nat (List.length (mirT L (changeOf last M)))))), (Ty.pr (Ty.grd (((false || false) || (!true)) = false) (Ty.nat ((List.length (mirT L (changeOf last M))) + 1)))), (Ty.pr (Ty.grd (((false || false) || (!true)) = false) (Ty.bool (decide ((((List.length (fromL (roundsL M) (mirT L (changeOf last M)))) : Nat) : Int) ≠ ((((List.length (mirT L (changeOf last M))) + 1) : Nat) : Int)))))), (Ty.pr (Ty.bool (((false || false) || (!true)) || (decide ((((List.length (fromL (roundsL M) (mirT L (changeOf last M)))) : Nat) : Int) ≠ ((((List.length (mirT L (changeOf last M))) + 1) : Nat) : Int))))))] i_ Pr.any) ok20 rfl ⟨?_, ?_, ?_, ?_, ?_, ?_, ?_, ?_, ?_, ?_, ?_, ?_, ?_, ?_, ?_, ?_, ?_, ?_, ?_, trivial⟩ ?_
    · intro ax tx hs okx sm
      exact run_plain rfl (y_move (kp (sm 13 rfl) hs q103))
    · intro ax tx hs okx sm d0
      have e0 : At (Ty.int (0 : Int)) tx ax (.tmp 67) := d0 rfl
      exact run_plain rfl ((y_neq e0 rfl).mono (fun τ _ h => cvb (σ := τ) (by decide) h))
    · intro ax tx hs okx sm d0
      have e1 : At (Ty.bool false) tx ax (.tmp 68) := d0 rfl
      exact run_plain rfl (y_move e1)
    · intro ax tx hs okx sm d0
      have e2 : At (Ty.bool false) tx ax (.tmp 69) := d0 rfl
      refine run_guard (T := (Ty.int (0 : Int))) okx rfl rfl (by decide) e2 (fun hg => ?_)
      exact y_move (kp (sm 15 rfl) hs q105)
    · intro ax tx hs okx sm d0 d1
      have e3 : At (Ty.grd (false = false) (Ty.int (0 : Int))) tx ax (.tmp 70) := d0 rfl
      have e2 : At (Ty.bool false) tx ax (.tmp 69) := d1 rfl
      refine run_guard (T := (Ty.bool false)) okx rfl rfl (by decide) e2 (fun hg => ?_)
      exact (y_neq (e3.1 hg) rfl).mono (fun τ _ h => cvb (σ := τ) (by decide) h)
    · intro ax tx hs okx sm d0 d1
      have e2 : At (Ty.bool false) tx ax (.tmp 69) := d0 rfl
      have e4 : At (Ty.grd (false = false) (Ty.bool false)) tx ax (.tmp 71) := d1 rfl
      exact run_plain rfl (y_pick_or e2 rfl e4)
    · intro ax tx hs okx sm d0 d1
      have e5 : At (Ty.bool (false || false)) tx ax (.tmp 72) := d0 rfl
      have e2 : At (Ty.bool false) tx ax (.tmp 69) := d1 rfl
      exact run_plain rfl (y_move e5)
    · intro ax tx hs okx sm d0
      have e6 : At (Ty.bool (false || false)) tx ax (.tmp 73) := d0 rfl
      refine run_guard (T := (Ty.bool true)) okx rfl rfl (by decide) e6 (fun hg => ?_)
      obtain ⟨d1, d2⟩ := Bool.or_eq_false_iff.mp hg
      exact y_move (kp (sm 12 rfl) hs q102)
    · intro ax tx hs okx sm d0 d1
      have e7 : At (Ty.grd ((false || false) = false) (Ty.bool true)) tx ax (.tmp 74) := d0 rfl
      have e6 : At (Ty.bool (false || false)) tx ax (.tmp 73) := d1 rfl
      refine run_guard (T := (Ty.bool (!true))) okx rfl rfl (by decide) e6 (fun hg => ?_)
      obtain ⟨d3, d4⟩ := Bool.or_eq_false_iff.mp hg
      exact y_not (e7.1 hg)
    · intro ax tx hs okx sm d0 d1
      have e6 : At (Ty.bool (false || false)) tx ax (.tmp 73) := d0 rfl
      have e8 : At (Ty.grd ((false || false) = false) (Ty.bool (!true))) tx ax (.tmp 75) := d1 rfl
      exact run_plain rfl (y_pick_or e6 rfl e8)
    · intro ax tx hs okx sm d0 d1
      have e9 : At (Ty.bool ((false || false) || (!true))) tx ax (.tmp 76) := d0 rfl
      have e6 : At (Ty.bool (false || false)) tx ax (.tmp 73) := d1 rfl
      exact run_plain rfl (y_move e9)
    · intro ax tx hs okx sm d0
      have e10 : At (Ty.bool ((false || false) || (!true))) tx ax (.tmp 77) := d0 rfl
      refine run_guard (T := (Ty.lst Ty.ints (fromL (roundsL M) (mirT L (changeOf last M))))) okx rfl rfl (by decide) e10 (fun hg => ?_)
      obtain ⟨d5, d6⟩ := Bool.or_eq_false_iff.mp hg
      obtain ⟨d7, d8⟩ := Bool.or_eq_false_iff.mp d5
      exact y_move (kp (sm 14 rfl) hs q104)
    · intro ax tx hs okx sm d0 d1
      have e11 : At (Ty.grd (((false || false) || (!true)) = false) (Ty.lst Ty.ints (fromL (roundsL M) (mirT L (changeOf last M))))) tx ax (.tmp 78) := d0 rfl
      have e10 : At (Ty.bool ((false || false) || (!true))) tx ax (.tmp 77) := d1 rfl
      refine run_guard (T := (Ty.nat (List.length (fromL (roundsL M) (mirT L (changeOf last M)))))) okx rfl rfl (by decide) e10 (fun hg => ?_)
      obtain ⟨d9, d10⟩ := Bool.or_eq_false_iff.mp hg
      obtain ⟨d11, d12⟩ := Bool.or_eq_false_iff.mp d9
      exact y_len Try.underlying33 (e11.1 hg)
    · intro ax tx hs okx sm d0
      have e10 : At (Ty.bool ((false || false) || (!true))) tx ax (.tmp 77) := d0 rfl
      refine run_guard (T := (Ty.ref [(Ty.lst Ty.ints (mirT L (changeOf last M)))])) okx rfl rfl (by decide) e10 (fun hg => ?_)
      obtain ⟨d13, d14⟩ := Bool.or_eq_false_iff.mp hg
      obtain ⟨d15, d16⟩ := Bool.or_eq_false_iff.mp d13
      exact y_field Try.fld96_2 Try.inf33 (by decide) (kp (sm 10 rfl) hs q101) rfl
    · intro ax tx hs okx sm d0 d1
      have e13 : At (Ty.grd (((false || false) || (!true)) = false) (Ty.ref [(Ty.lst Ty.ints (mirT L (changeOf last M)))])) tx ax (.tmp 80) := d0 rfl
      have e10 : At (Ty.bool ((false || false) || (!true))) tx ax (.tmp 77) := d1 rfl
      refine run_guard (T := (Ty.lst Ty.ints (mirT L (changeOf last M)))) okx rfl rfl (by decide) e10 (fun hg => ?_)
      obtain ⟨d17, d18⟩ := Bool.or_eq_false_iff.mp hg
      obtain ⟨d19, d20⟩ := Bool.or_eq_false_iff.mp d17
      exact y_load Try.underlying33 rfl (e13.1 hg) rfl
    · intro ax tx hs okx sm d0 d1
      have e14 : At (Ty.grd (((false || false) || (!true)) = false) (Ty.lst Ty.ints (mirT L (changeOf last M)))) tx ax (.tmp 81) := d0 rfl
      have e10 : At (Ty.bool ((false || false) || (!true))) tx ax (.tmp 77) := d1 rfl
      refine run_guard (T := (Ty.nat (List.length (mirT L (changeOf last M))))) okx rfl rfl (by decide) e10 (fun hg => ?_)
      obtain ⟨d21, d22⟩ := Bool.or_eq_false_iff.mp hg
      obtain ⟨d23, d24⟩ := Bool.or_eq_false_iff.mp d21
      exact y_len Try.underlying33 (e14.1 hg)
    · intro ax tx hs okx sm d0 d1
      have e15 : At (Ty.grd (((false || false) || (!true)) = false) (Ty.nat (List.length (mirT L (changeOf last M))))) tx ax (.tmp 82) := d0 rfl
      have e10 : At (Ty.bool ((false || false) || (!true))) tx ax (.tmp 77) := d1 rfl
      refine run_guard (T := (Ty.nat ((List.length (mirT L (changeOf last M))) + 1))) okx rfl rfl (by decide) e10 (fun hg => ?_)
      obtain ⟨d25, d26⟩ := Bool.or_eq_false_iff.mp hg
      obtain ⟨d27, d28⟩ := Bool.or_eq_false_iff.mp d25
      exact (y_add (e15.1 hg) rfl (w64 (by omega) (by omega))).mono (fun τ _ h => cvi (σ := τ) (by first | omega | exact (Int.natCast_mul _ _).symm) h)
    · intro ax tx hs okx sm d0 d1 d2
      have e12 : At (Ty.grd (((false || false) || (!true)) = false) (Ty.nat (List.length (fromL (roundsL M) (mirT L (changeOf last M)))))) tx ax (.tmp 79) := d0 rfl
      have e16 : At (Ty.grd (((false || false) || (!true)) = false) (Ty.nat ((List.length (mirT L (changeOf last M))) + 1))) tx ax (.tmp 83) := d1 rfl
      have e10 : At (Ty.bool ((false || false) || (!true))) tx ax (.tmp 77) := d2 rfl
      refine run_guard (T := (Ty.bool (decide ((((List.length (fromL (roundsL M) (mirT L (changeOf last M)))) : Nat) : Int) ≠ ((((List.length (mirT L (changeOf last M))) + 1) : Nat) : Int))))) okx rfl rfl (by decide) e10 (fun hg => ?_)
      obtain ⟨d29, d30⟩ := Bool.or_eq_false_iff.mp hg
      obtain ⟨d31, d32⟩ := Bool.or_eq_false_iff.mp d29
      exact y_neq (e12.1 hg) (e16.1 hg)
    · intro ax tx hs okx sm d0 d1
      have e10 : At (Ty.bool ((false || false) || (!true))) tx ax (.tmp 77) := d0 rfl
      have e17 : At (Ty.grd (((false || false) || (!true)) = false) (Ty.bool (decide ((((List.length (fromL (roundsL M) (mirT L (changeOf last M)))) : Nat) : Int) ≠ ((((List.length (mirT L (changeOf last M))) + 1) : Nat) : Int))))) tx ax (.tmp 84) := d1 rfl
      exact run_plain rfl (y_pick_or e10 rfl e17)
    intro a22 s23 D14
    have ok21 := D14.ok
    have F26 := F25.step0 D14.stp
    have q106 : At (Ty.lst Ty.ints (fromL (roundsL M) (mirT L (changeOf last M)))) s23 a22 (.tmp 14) := D14.kt q104 rfl
    have q107 : At (Ty.bool (((false || false) || (!true)) || (decide ((((List.length (fromL (roundsL M) (mirT L (changeOf last M)))) : Nat) : Int) ≠ ((((List.length (mirT L (changeOf last M))) + 1) : Nat) : Int))))) s23 a22 (.tmp 85) := D14.done 18
    clear D14
    refine tn ?_
    refine cond_t q107 (fun c3 => ?_) (fun c3 => ?_)
    ·
     exfalso
     simp at c3; omega
    ·
     obtain ⟨d33, d34⟩ := Bool.or_eq_false_iff.mp c3
     obtain ⟨d35, d36⟩ := Bool.or_eq_false_iff.mp d33
     obtain ⟨d37, d38⟩ := Bool.or_eq_false_iff.mp d35
     replace d34 := of_decide_eq_false d34
     have hX : (fromL (roundsL M) (mirT L (changeOf last M))).getD ((((List.length (fromL (roundsL M) (mirT L (changeOf last M))) : Nat) : Int) - (2 : Int))).toNat [] = (curL (roundsL M) (mirT L (changeOf last M)) (2 * L.length - 1)) := by rw [show ((((List.length (fromL (roundsL M) (mirT L (changeOf last M))) : Nat) : Int) - (2 : Int))).toNat = 2 * L.length - 1 by omega]; exact fromL_get (by omega)
     refine wp_skip ?_
     refine tn ?_
     refine wp_seq ?_
     refine reg (a := a22) (σ := s23) rfl (fun i_ => List.getD [(Ty.pr (Ty.lst Ty.ints (fromL (roundsL M) (mirT L (changeOf last M))))), (Ty.pr (Ty.lst Ty.ints (fromL (roundsL M) (mirT L (changeOf last M))))), (Ty.pr (Ty.nat (List.length (fromL (roundsL M) (mirT L (changeOf last M)))))), (Ty.pr (Ty.int ((((List.length (fromL (roundsL M) (mirT L (changeOf last M)))) : Nat) : Int) - (2 : Int)))), (Ty.pr (Ty.ref [(Ty.lst Ty.int ((fromL (roundsL M) (mirT L (changeOf last M))).getD (((((List.length (fromL (roundsL M) (mirT L (changeOf last M)))) : Nat) : Int) - (2 : Int))).toNat []))])), (Ty.pr (Ty.lst Ty.int ((fromL (roundsL M) (mirT L (changeOf last M))).getD (((((List.length (fromL (roundsL M) (mirT L (changeOf last M)))) : Nat) : Int) - (2 : Int))).toNat []))), (Ty.pr (Ty.tup3 (Ty.nat (ordL (curL (roundsL M) (mirT L (changeOf last M)) (2 * L.length - 1)))) (Ty.bool (oddL (curL (roundsL M) (mirT L (changeOf last M)) (2 * L.length - 1)))) (Ty.int (0 : Int)))), (Ty.pr (Ty.tup3 (Ty.nat (ordL (curL (roundsL M) (mirT L (changeOf last M)) (2 * L.length - 1)))) (Ty.bool (oddL (curL (roundsL M) (mirT L (changeOf last M)) (2 * L.length - 1)))) (Ty.int (0 : Int)))), (Ty.pr (Ty.nat (ordL (curL (roundsL M) (mirT L (changeOf last M)) (2 * L.length - 1))))), (Ty.pr (Ty.bool (oddL (curL (roundsL M) (mirT L (changeOf last M)) (2 * L.length - 1))))), (Ty.pr (Ty.int (0 : Int))), (Ty.pr (Ty.nat (ordL (curL (roundsL M) (mirT L (changeOf last M)) (2 * L.length - 1))))), (Ty.pr (Ty.bool (oddL (curL (roundsL M) (mirT L (changeOf last M)) (2 * L.length - 1))))), (Ty.pr (Ty.int (0 : Int)))] i_ Pr.any) ok21 rfl ⟨?_, ?_, ?_, ?_, ?_, ?_, ?_, ?_, ?_, ?_, ?_, ?_, ?_, ?_, trivial⟩ ?_
     · intro ax tx hs okx sm
       exact run_plain rfl (y_move (kp (sm 14 rfl) hs q106))
     · intro ax tx hs okx sm
       exact run_plain rfl (y_move (kp (sm 14 rfl) hs q106))
     · intro ax tx hs okx sm d0
       have e1 : At (Ty.lst Ty.ints (fromL (roundsL M) (mirT L (changeOf last M)))) tx ax (.tmp 88) := d0 rfl
       exact run_plain rfl (y_len Try.underlying33 e1)
     · intro ax tx hs okx sm d0
       have e2 : At (Ty.nat (List.length (fromL (roundsL M) (mirT L (changeOf last M))))) tx ax (.tmp 89) := d0 rfl
       exact run_plain rfl (y_sub e2 rfl (w64 (by omega) (by omega)))
     · intro ax tx hs okx sm d0 d1
       have e0 : At (Ty.lst Ty.ints (fromL (roundsL M) (mirT L (changeOf last M)))) tx ax (.tmp 87) := d0 rfl
       have e3 : At (Ty.int ((((List.length (fromL (roundsL M) (mirT L (changeOf last M)))) : Nat) : Int) - (2 : Int))) tx ax (.tmp 90) := d1 rfl
       exact run_plain rfl (y_index1 Try.underlying33 Try.inf34 e0 e3 (by omega) (lst_get Ty.ints (fromL (roundsL M) (mirT L (changeOf last M))) [] (((((List.length (fromL (roundsL M) (mirT L (changeOf last M)))) : Nat) : Int) - (2 : Int))).toNat (by omega)))
     · intro ax tx hs okx sm d0
       have e4 : At (Ty.ref [(Ty.lst Ty.int ((fromL (roundsL M) (mirT L (changeOf last M))).getD (((((List.length (fromL (roundsL M) (mirT L (changeOf last M)))) : Nat) : Int) - (2 : Int))).toNat []))]) tx ax (.tmp 91) := d0 rfl
       exact run_plain rfl (y_load Try.underlying34 rfl e4 rfl)
     · intro ax tx hs okx sm d0
       have e5 : At (Ty.lst Ty.int ((fromL (roundsL M) (mirT L (changeOf last M))).getD (((((List.length (fromL (roundsL M) (mirT L (changeOf last M)))) : Nat) : Int) - (2 : Int))).toNat [])) tx ax (.tmp 92) := d0 rfl
       exact run_plain rfl ((y_call #[ax.eval (.tmp 92)] Try.func40 rfl rfl (by simp only [List.map_toArray, List.map_cons, List.map_nil]) (order_fn (((fromL (roundsL M) (mirT L (changeOf last M))).getD (((((List.length (fromL (roundsL M) (mirT L (changeOf last M)))) : Nat) : Int) - (2 : Int))).toNat [])) _ _ e5 )).mono (fun τ _ h => cvt (σ := τ) (T := (Ty.tup3 (Ty.nat (if rowMay (((fromL (roundsL M) (mirT L (changeOf last M))).getD (((((List.length (fromL (roundsL M) (mirT L (changeOf last M)))) : Nat) : Int) - (2 : Int))).toNat [])) = 0 then ordL (((fromL (roundsL M) (mirT L (changeOf last M))).getD (((((List.length (fromL (roundsL M) (mirT L (changeOf last M)))) : Nat) : Int) - (2 : Int))).toNat [])) else 0)) (Ty.bool (if rowMay (((fromL (roundsL M) (mirT L (changeOf last M))).getD (((((List.length (fromL (roundsL M) (mirT L (changeOf last M)))) : Nat) : Int) - (2 : Int))).toNat [])) = 0 then oddL (((fromL (roundsL M) (mirT L (changeOf last M))).getD (((((List.length (fromL (roundsL M) (mirT L (changeOf last M)))) : Nat) : Int) - (2 : Int))).toNat [])) else false)) (Ty.int (rowMay (((fromL (roundsL M) (mirT L (changeOf last M))).getD (((((List.length (fromL (roundsL M) (mirT L (changeOf last M)))) : Nat) : Int) - (2 : Int))).toNat [])))))) (U := (Ty.tup3 (Ty.nat (ordL (curL (roundsL M) (mirT L (changeOf last M)) (2 * L.length - 1)))) (Ty.bool (oddL (curL (roundsL M) (mirT L (changeOf last M)) (2 * L.length - 1)))) (Ty.int (0 : Int)))) (by rw [hX, if_pos hrm, if_pos hrm, hrm]) h))
     · intro ax tx hs okx sm d0
       have e6 : At (Ty.tup3 (Ty.nat (ordL (curL (roundsL M) (mirT L (changeOf last M)) (2 * L.length - 1)))) (Ty.bool (oddL (curL (roundsL M) (mirT L (changeOf last M)) (2 * L.length - 1)))) (Ty.int (0 : Int))) tx ax (.tmp 93) := d0 rfl
       exact run_plain rfl (y_move e6)
     · intro ax tx hs okx sm d0
       have e7 : At (Ty.tup3 (Ty.nat (ordL (curL (roundsL M) (mirT L (changeOf last M)) (2 * L.length - 1)))) (Ty.bool (oddL (curL (roundsL M) (mirT L (changeOf last M)) (2 * L.length - 1)))) (Ty.int (0 : Int))) tx ax (.tmp 86) := d0 rfl
       exact run_plain rfl (y_ext3_0 e7)
     · intro ax tx hs okx sm d0 d1
       have e7 : At (Ty.tup3 (Ty.nat (ordL (curL (roundsL M) (mirT L (changeOf last M)) (2 * L.length - 1)))) (Ty.bool (oddL (curL (roundsL M) (mirT L (changeOf last M)) (2 * L.length - 1)))) (Ty.int (0 : Int))) tx ax (.tmp 86) := d0 rfl
       exact run_plain rfl (y_ext3_1 e7)
     · intro ax tx hs okx sm d0 d1
       have e7 : At (Ty.tup3 (Ty.nat (ordL (curL (roundsL M) (mirT L (changeOf last M)) (2 * L.length - 1)))) (Ty.bool (oddL (curL (roundsL M) (mirT L (changeOf last M)) (2 * L.length - 1)))) (Ty.int (0 : Int))) tx ax (.tmp 86) := d0 rfl
       exact run_plain rfl (y_ext3_2 e7)
     · intro ax tx hs okx sm d0 d1 d2 d3 d4 d5 d6 d7 d8 d9 d10 d11 d12
       have e8 : At (Ty.nat (ordL (curL (roundsL M) (mirT L (changeOf last M)) (2 * L.length - 1)))) tx ax (.tmp 94) := d0 rfl
       have e6 : At (Ty.tup3 (Ty.nat (ordL (curL (roundsL M) (mirT L (changeOf last M)) (2 * L.length - 1)))) (Ty.bool (oddL (curL (roundsL M) (mirT L (changeOf last M)) (2 * L.length - 1)))) (Ty.int (0 : Int))) tx ax (.tmp 93) := d1 rfl
       have e0 : At (Ty.lst Ty.ints (fromL (roundsL M) (mirT L (changeOf last M)))) tx ax (.tmp 87) := d2 rfl
       have e1 : At (Ty.lst Ty.ints (fromL (roundsL M) (mirT L (changeOf last M)))) tx ax (.tmp 88) := d3 rfl
       have e2 : At (Ty.nat (List.length (fromL (roundsL M) (mirT L (changeOf last M))))) tx ax (.tmp 89) := d4 rfl
       have e3 : At (Ty.int ((((List.length (fromL (roundsL M) (mirT L (changeOf last M)))) : Nat) : Int) - (2 : Int))) tx ax (.tmp 90) := d5 rfl
       have e4 : At (Ty.ref [(Ty.lst Ty.int ((fromL (roundsL M) (mirT L (changeOf last M))).getD (((((List.length (fromL (roundsL M) (mirT L (changeOf last M)))) : Nat) : Int) - (2 : Int))).toNat []))]) tx ax (.tmp 91) := d6 rfl
       have e5 : At (Ty.lst Ty.int ((fromL (roundsL M) (mirT L (changeOf last M))).getD (((((List.length (fromL (roundsL M) (mirT L (changeOf last M)))) : Nat) : Int) - (2 : Int))).toNat [])) tx ax (.tmp 92) := d7 rfl
       have e7 : At (Ty.tup3 (Ty.nat (ordL (curL (roundsL M) (mirT L (changeOf last M)) (2 * L.length - 1)))) (Ty.bool (oddL (curL (roundsL M) (mirT L (changeOf last M)) (2 * L.length - 1)))) (Ty.int (0 : Int))) tx ax (.tmp 86) := d9 rfl
       exact run_plain rfl (y_assign e8)
     · intro ax tx hs okx sm d0 d1 d2 d3 d4 d5 d6 d7 d8 d9 d10 d11 d12 d13
       have e9 : At (Ty.bool (oddL (curL (roundsL M) (mirT L (changeOf last M)) (2 * L.length - 1)))) tx ax (.tmp 95) := d0 rfl
       have e11 : At (Ty.nat (ordL (curL (roundsL M) (mirT L (changeOf last M)) (2 * L.length - 1)))) tx ax (.tmp 16) := d1 rfl
       have e0 : At (Ty.lst Ty.ints (fromL (roundsL M) (mirT L (changeOf last M)))) tx ax (.tmp 87) := d2 rfl
       have e1 : At (Ty.lst Ty.ints (fromL (roundsL M) (mirT L (changeOf last M)))) tx ax (.tmp 88) := d3 rfl
       have e2 : At (Ty.nat (List.length (fromL (roundsL M) (mirT L (changeOf last M))))) tx ax (.tmp 89) := d4 rfl
       have e3 : At (Ty.int ((((List.length (fromL (roundsL M) (mirT L (changeOf last M)))) : Nat) : Int) - (2 : Int))) tx ax (.tmp 90) := d5 rfl
       have e4 : At (Ty.ref [(Ty.lst Ty.int ((fromL (roundsL M) (mirT L (changeOf last M))).getD (((((List.length (fromL (roundsL M) (mirT L (changeOf last M)))) : Nat) : Int) - (2 : Int))).toNat []))]) tx ax (.tmp 91) := d6 rfl
       have e5 : At (Ty.lst Ty.int ((fromL (roundsL M) (mirT L (changeOf last M))).getD (((((List.length (fromL (roundsL M) (mirT L (changeOf last M)))) : Nat) : Int) - (2 : Int))).toNat [])) tx ax (.tmp 92) := d7 rfl
       have e6 : At (Ty.tup3 (Ty.nat (ordL (curL (roundsL M) (mirT L (changeOf last M)) (2 * L.length - 1)))) (Ty.bool (oddL (curL (roundsL M) (mirT L (changeOf last M)) (2 * L.length - 1)))) (Ty.int (0 : Int))) tx ax (.tmp 93) := d8 rfl
       have e7 : At (Ty.tup3 (Ty.nat (ordL (curL (roundsL M) (mirT L (changeOf last M)) (2 * L.length - 1)))) (Ty.bool (oddL (curL (roundsL M) (mirT L (changeOf last M)) (2 * L.length - 1)))) (Ty.int (0 : Int))) tx ax (.tmp 86) := d9 rfl
       have e8 : At (Ty.nat (ordL (curL (roundsL M) (mirT L (changeOf last M)) (2 * L.length - 1)))) tx ax (.tmp 94) := d10 rfl
       exact run_plain rfl (y_assign e9)
     · intro ax tx hs okx sm d0 d1 d2 d3 d4 d5 d6 d7 d8 d9 d10 d11 d12 d13 d14
       have e10 : At (Ty.int (0 : Int)) tx ax (.tmp 96) := d0 rfl
       have e12 : At (Ty.bool (oddL (curL (roundsL M) (mirT L (changeOf last M)) (2 * L.length - 1)))) tx ax (.tmp 17) := d1 rfl
       have e0 : At (Ty.lst Ty.ints (fromL (roundsL M) (mirT L (changeOf last M)))) tx ax (.tmp 87) := d2 rfl
       have e1 : At (Ty.lst Ty.ints (fromL (roundsL M) (mirT L (changeOf last M)))) tx ax (.tmp 88) := d3 rfl
       have e2 : At (Ty.nat (List.length (fromL (roundsL M) (mirT L (changeOf last M))))) tx ax (.tmp 89) := d4 rfl
       have e3 : At (Ty.int ((((List.length (fromL (roundsL M) (mirT L (changeOf last M)))) : Nat) : Int) - (2 : Int))) tx ax (.tmp 90) := d5 rfl
       have e4 : At (Ty.ref [(Ty.lst Ty.int ((fromL (roundsL M) (mirT L (changeOf last M))).getD (((((List.length (fromL (roundsL M) (mirT L (changeOf last M)))) : Nat) : Int) - (2 : Int))).toNat []))]) tx ax (.tmp 91) := d6 rfl
       have e5 : At (Ty.lst Ty.int ((fromL (roundsL M) (mirT L (changeOf last M))).getD (((((List.length (fromL (roundsL M) (mirT L (changeOf last M)))) : Nat) : Int) - (2 : Int))).toNat [])) tx ax (.tmp 92) := d7 rfl
       have e6 : At (Ty.tup3 (Ty.nat (ordL (curL (roundsL M) (mirT L (changeOf last M)) (2 * L.length - 1)))) (Ty.bool (oddL (curL (roundsL M) (mirT L (changeOf last M)) (2 * L.length - 1)))) (Ty.int (0 : Int))) tx ax (.tmp 93) := d8 rfl
       have e7 : At (Ty.tup3 (Ty.nat (ordL (curL (roundsL M) (mirT L (changeOf last M)) (2 * L.length - 1)))) (Ty.bool (oddL (curL (roundsL M) (mirT L (changeOf last M)) (2 * L.length - 1)))) (Ty.int (0 : Int))) tx ax (.tmp 86) := d9 rfl
       have e8 : At (Ty.nat (ordL (curL (roundsL M) (mirT L (changeOf last M)) (2 * L.length - 1)))) tx ax (.tmp 94) := d10 rfl
       have e9 : At (Ty.bool (oddL (curL (roundsL M) (mirT L (changeOf last M)) (2 * L.length - 1)))) tx ax (.tmp 95) := d11 rfl
       have e11 : At (Ty.nat (ordL (curL (roundsL M) (mirT L (changeOf last M)) (2 * L.length - 1)))) tx ax (.tmp 16) := d13 rfl
       exact run_plain rfl (y_assign e10)
     intro a23 s24 D15
     have ok22 := D15.ok
     have F27 := F26.step0 D15.stp
     have q108 : At (Ty.nat (ordL (curL (roundsL M) (mirT L (changeOf last M)) (2 * L.length - 1)))) s24 a23 (.tmp 16) := D15.done 11
     have q109 : At (Ty.int (0 : Int)) s24 a23 (.tmp 13) := D15.done 13
     clear D15
     refine tn ?_
     refine wp_seq ?_
     refine reg (a := a23) (σ := s24) rfl (fun i_ => List.getD [(Ty.pr (Ty.int (0 : Int))), (Ty.pr (Ty.bool true)), (Ty.pr (Ty.bool true)), (Ty.pr (Ty.grd (true = true) (Ty.nat (ordL (curL (roundsL M) (mirT L (changeOf last M)) (2 * L.length - 1)))))), (Ty.pr (Ty.grd (true = true) (Ty.bool (decide ((((ordL (curL (roundsL M) (mirT L (changeOf last M)) (2 * L.length - 1))) : Nat) : Int) ≤ (2 : Int)))))), (Ty.pr (Ty.bool (true && (decide ((((ordL (curL (roundsL M) (mirT L (changeOf last M)) (2 * L.length - 1))) : Nat) : Int) ≤ (2 : Int)))))), (Ty.pr (Ty.bool (true && (decide ((((ordL (curL (roundsL M) (mirT L (changeOf last M)) (2 * L.length - 1))) : Nat) : Int) ≤ (2 : Int))))))] i_ Pr.any) ok22 rfl ⟨?_, ?_, ?_, ?_, ?_, ?_, ?_, trivial⟩ ?_
     · intro ax tx hs okx sm
       exact run_plain rfl (y_move (kp (sm 13 rfl) hs q109))
     · intro ax tx hs okx sm d0
       have e0 : At (Ty.int (0 : Int)) tx ax (.tmp 97) := d0 rfl
       exact run_plain rfl ((y_eql e0 rfl).mono (fun τ _ h => cvb (σ := τ) (by decide) h))
     · intro ax tx hs okx sm d0
       have e1 : At (Ty.bool true) tx ax (.tmp 98) := d0 rfl
       exact run_plain rfl (y_move e1)
     · intro ax tx hs okx sm d0
       have e2 : At (Ty.bool true) tx ax (.tmp 99) := d0 rfl
       refine run_guard (T := (Ty.nat (ordL (curL (roundsL M) (mirT L (changeOf last M)) (2 * L.length - 1))))) okx rfl rfl (by decide) e2 (fun hg => ?_)
       exact y_move (kp (sm 16 rfl) hs q108)
     · intro ax tx hs okx sm d0 d1
       have e3 : At (Ty.grd (true = true) (Ty.nat (ordL (curL (roundsL M) (mirT L (changeOf last M)) (2 * L.length - 1))))) tx ax (.tmp 100) := d0 rfl
       have e2 : At (Ty.bool true) tx ax (.tmp 99) := d1 rfl
       refine run_guard (T := (Ty.bool (decide ((((ordL (curL (roundsL M) (mirT L (changeOf last M)) (2 * L.length - 1))) : Nat) : Int) ≤ (2 : Int))))) okx rfl rfl (by decide) e2 (fun hg => ?_)
       exact y_leq (e3.1 hg) rfl
     · intro ax tx hs okx sm d0 d1
       have e2 : At (Ty.bool true) tx ax (.tmp 99) := d0 rfl
       have e4 : At (Ty.grd (true = true) (Ty.bool (decide ((((ordL (curL (roundsL M) (mirT L (changeOf last M)) (2 * L.length - 1))) : Nat) : Int) ≤ (2 : Int))))) tx ax (.tmp 101) := d1 rfl
       exact run_plain rfl (y_pick_and e2 e4 rfl)
     · intro ax tx hs okx sm d0 d1 d2 d3 d4 d5 d6 d7
       have e5 : At (Ty.bool (true && (decide ((((ordL (curL (roundsL M) (mirT L (changeOf last M)) (2 * L.length - 1))) : Nat) : Int) ≤ (2 : Int))))) tx ax (.tmp 102) := d0 rfl
       have e2 : At (Ty.bool true) tx ax (.tmp 99) := d1 rfl
       have e0 : At (Ty.int (0 : Int)) tx ax (.tmp 97) := d2 rfl
       have e1 : At (Ty.bool true) tx ax (.tmp 98) := d3 rfl
       have e3 : At (Ty.grd (true = true) (Ty.nat (ordL (curL (roundsL M) (mirT L (changeOf last M)) (2 * L.length - 1))))) tx ax (.tmp 100) := d5 rfl
       have e4 : At (Ty.grd (true = true) (Ty.bool (decide ((((ordL (curL (roundsL M) (mirT L (changeOf last M)) (2 * L.length - 1))) : Nat) : Int) ≤ (2 : Int))))) tx ax (.tmp 101) := d6 rfl
       exact run_plain rfl (y_assign e5)
     intro a24 s25 D16
     have ok23 := D16.ok
     have F28 := F27.step0 D16.stp
     have q110 : At (Ty.bool (true && (decide ((((ordL (curL (roundsL M) (mirT L (changeOf last M)) (2 * L.length - 1))) : Nat) : Int) ≤ (2 : Int))))) s25 a24 (.tmp 8) := D16.done 6
     clear D16
     refine tn ?_
     refine wp_ret ?_
     exact retL1 rfl ok23 F28 (cvb (by (rw [decide_eq_true (show (((ordL _ : Nat) : Int)) ≤ 2 by omega)]; rfl)) q110)


end Go.Proofs.Ytlhnpkaohfoicaa
