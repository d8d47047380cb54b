/- The functions that the law RowSays reaches, each by its contract. Part 4. -/
import Derived.Test.YtlhnpkaohfoicaaRowSaysW3
namespace Go.Proofs.Ytlhnpkaohfoicaa
open Go.KL

set_option maxHeartbeats 4000000 in
set_option maxRecDepth 100000 in
theorem rowSays_fn (a : List Int) (b : List Int) (n : Int) (k : Int) (s : ByteArray) (σ : GW)  (v0 v1 v2 v3 v4 : Value) (hv0 : Ty.has (Ty.lst Ty.int a) σ v0) (hv1 : Ty.has (Ty.lst Ty.int b) σ v1) (hv2 : Ty.has (Ty.int n) σ v2) (hv3 : Ty.has (Ty.int k) σ v3) (hv4 : Ty.has (Ty.val (Value.string s)) σ v4)  (hn : -9223372036854775808 ≤ n ∧ n ≤ 9223372036854775807) (hk : -9223372036854775808 ≤ k ∧ k ≤ 9223372036854775807) (hs : s.size ≤ 17592186044416) :
    FnC Try.prog 7 #[v0, v1, v2, v3, v4] σ (Ty.bool true) := by
 have e1 : List.length ([] : List (List Int)) = 0 := rfl
 have e2 : List.length ([] : List Int) = 0 := rfl
 have e3 : ByteArray.size ByteArray.empty = 0 := rfl
 refine fn_intro0 Try.func7 rfl Try.ntmps7 (Nat.le_of_ble_eq_true rfl) (fun s0 a0 hle F0 ok0 hargs => ?_)
 have p0 : At (Ty.lst Ty.int a) s0 a0 (.tmp 0) := by have e := hargs 0 _ rfl; show Ty.has _ _ _; rw [e]; exact Ty.up _ hle hv0
 have b1 := sl_le p0
 have p1 : At (Ty.lst Ty.int b) s0 a0 (.tmp 1) := by have e := hargs 1 _ rfl; show Ty.has _ _ _; rw [e]; exact Ty.up _ hle hv1
 have b2 := sl_le p1
 have p2 : At (Ty.int n) s0 a0 (.tmp 2) := by have e := hargs 2 _ rfl; show Ty.has _ _ _; rw [e]; exact Ty.up _ hle hv2
 have p3 : At (Ty.int k) s0 a0 (.tmp 3) := by have e := hargs 3 _ rfl; show Ty.has _ _ _; rw [e]; exact Ty.up _ hle hv3
 have p4 : At (Ty.val (Value.string s)) s0 a0 (.tmp 4) := by have e := hargs 4 _ rfl; show Ty.has _ _ _; rw [e]; exact Ty.up _ hle hv4
 clear hargs
 refine wp_seq ?_
 refine reg (a := a0) (σ := s0) rfl (fun i_ => List.getD [(Ty.pr (Ty.bool false))] i_ Pr.any) ok0 rfl ⟨?_, trivial⟩ ?_
 · intro ax tx hs okx sm
   exact run_plain rfl (y_assign rfl)
 intro a1 s1 D1
 have ok1 := D1.ok
 have F1 := F0.step0 D1.stp
 have q1 : At (Ty.lst Ty.int a) s1 a1 (.tmp 0) := D1.kt p0 rfl
 have q2 : At (Ty.lst Ty.int b) s1 a1 (.tmp 1) := D1.kt p1 rfl
 have q3 : At (Ty.int n) s1 a1 (.tmp 2) := D1.kt p2 rfl
 have q4 : At (Ty.int k) s1 a1 (.tmp 3) := D1.kt p3 rfl
 have q5 : At (Ty.val (Value.string s)) s1 a1 (.tmp 4) := D1.kt p4 rfl
 clear D1
 refine tn ?_
 refine wp_seq ?_
 refine reg (a := a1) (σ := s1) rfl (fun i_ => List.getD [(Ty.pr (Ty.lst Ty.int a)), (Ty.pr (Ty.int (rowMay (a)))), (Ty.pr (Ty.int (rowMay (a))))] i_ Pr.any) ok1 rfl ⟨?_, ?_, ?_, trivial⟩ ?_
 · intro ax tx hs okx sm
   exact run_plain rfl (y_move (kp (sm 0 rfl) hs q1))
 · intro ax tx hs okx sm d0
   have e0 : At (Ty.lst Ty.int a) tx ax (.tmp 31) := d0 rfl
   exact run_plain rfl (y_call #[ax.eval (.tmp 31)] Try.func38 rfl rfl (by simp only [List.map_toArray, List.map_cons, List.map_nil]) (rRowMay_fn (a) _ _ e0 ))
 · intro ax tx hs okx sm d0 d1 d2 d3
   have e1 : At (Ty.int (rowMay (a))) tx ax (.tmp 32) := d0 rfl
   have e0 : At (Ty.lst Ty.int a) tx ax (.tmp 31) := d2 rfl
   exact run_plain rfl (y_assign e1)
 intro a2 s2 D2
 have ok2 := D2.ok
 have F2 := F1.step0 D2.stp
 have q6 : At (Ty.lst Ty.int a) s2 a2 (.tmp 0) := D2.kt q1 rfl
 have q7 : At (Ty.lst Ty.int b) s2 a2 (.tmp 1) := D2.kt q2 rfl
 have q8 : At (Ty.int n) s2 a2 (.tmp 2) := D2.kt q3 rfl
 have q9 : At (Ty.int k) s2 a2 (.tmp 3) := D2.kt q4 rfl
 have q10 : At (Ty.val (Value.string s)) s2 a2 (.tmp 4) := D2.kt q5 rfl
 have q11 : At (Ty.int (rowMay (a))) s2 a2 (.tmp 11) := D2.done 2
 clear D2
 refine tn ?_
 refine wp_seq ?_
 refine reg (a := a2) (σ := s2) rfl (fun i_ => List.getD [(Ty.pr (Ty.lst Ty.int a)), (Ty.pr (Ty.tup2 (Ty.lst Ty.ints (if rowMay (a) = 0 then cyclesL (a) else [])) (Ty.int (rowMay (a))))), (Ty.pr (Ty.tup2 (Ty.lst Ty.ints (if rowMay (a) = 0 then cyclesL (a) else [])) (Ty.int (rowMay (a))))), (Ty.pr (Ty.lst Ty.ints (if rowMay (a) = 0 then cyclesL (a) else []))), (Ty.pr (Ty.int (rowMay (a)))), (Ty.pr (Ty.lst Ty.ints (if rowMay (a) = 0 then cyclesL (a) else []))), (Ty.pr (Ty.int (rowMay (a))))] i_ Pr.any) ok2 rfl ⟨?_, ?_, ?_, ?_, ?_, ?_, ?_, trivial⟩ ?_
 · intro ax tx hs okx sm
   exact run_plain rfl (y_move (kp (sm 0 rfl) hs q6))
 · intro ax tx hs okx sm d0
   have e0 : At (Ty.lst Ty.int a) tx ax (.tmp 34) := d0 rfl
   exact run_plain rfl (y_call #[ax.eval (.tmp 34)] Try.func39 rfl rfl (by simp only [List.map_toArray, List.map_cons, List.map_nil]) (cycles_fn (a) _ _ e0 ))
 · intro ax tx hs okx sm d0
   have e1 : At (Ty.tup2 (Ty.lst Ty.ints (if rowMay (a) = 0 then cyclesL (a) else [])) (Ty.int (rowMay (a)))) tx ax (.tmp 35) := d0 rfl
   exact run_plain rfl (y_move e1)
 · intro ax tx hs okx sm d0
   have e2 : At (Ty.tup2 (Ty.lst Ty.ints (if rowMay (a) = 0 then cyclesL (a) else [])) (Ty.int (rowMay (a)))) tx ax (.tmp 33) := d0 rfl
   exact run_plain rfl (y_ext2_0 e2)
 · intro ax tx hs okx sm d0 d1
   have e2 : At (Ty.tup2 (Ty.lst Ty.ints (if rowMay (a) = 0 then cyclesL (a) else [])) (Ty.int (rowMay (a)))) tx ax (.tmp 33) := d0 rfl
   exact run_plain rfl (y_ext2_1 e2)
 · intro ax tx hs okx sm d0 d1 d2 d3 d4 d5 d6
   have e3 : At (Ty.lst Ty.ints (if rowMay (a) = 0 then cyclesL (a) else [])) tx ax (.tmp 36) := d0 rfl
   have e1 : At (Ty.tup2 (Ty.lst Ty.ints (if rowMay (a) = 0 then cyclesL (a) else [])) (Ty.int (rowMay (a)))) tx ax (.tmp 35) := d1 rfl
   have e0 : At (Ty.lst Ty.int a) tx ax (.tmp 34) := d2 rfl
   have e2 : At (Ty.tup2 (Ty.lst Ty.ints (if rowMay (a) = 0 then cyclesL (a) else [])) (Ty.int (rowMay (a)))) tx ax (.tmp 33) := d4 rfl
   exact run_plain rfl (y_assign e3)
 · intro ax tx hs okx sm d0 d1 d2 d3 d4 d5 d6 d7
   have e4 : At (Ty.int (rowMay (a))) tx ax (.tmp 37) := d0 rfl
   have e5 : At (Ty.lst Ty.ints (if rowMay (a) = 0 then cyclesL (a) else [])) tx ax (.tmp 12) := d1 rfl
   have e0 : At (Ty.lst Ty.int a) tx ax (.tmp 34) := d2 rfl
   have e1 : At (Ty.tup2 (Ty.lst Ty.ints (if rowMay (a) = 0 then cyclesL (a) else [])) (Ty.int (rowMay (a)))) tx ax (.tmp 35) := d3 rfl
   have e2 : At (Ty.tup2 (Ty.lst Ty.ints (if rowMay (a) = 0 then cyclesL (a) else [])) (Ty.int (rowMay (a)))) tx ax (.tmp 33) := d4 rfl
   have e3 : At (Ty.lst Ty.ints (if rowMay (a) = 0 then cyclesL (a) else [])) tx ax (.tmp 36) := d5 rfl
   exact run_plain rfl (y_assign e4)
 intro a3 s3 D3
 have ok3 := D3.ok
 have F3 := F2.step0 D3.stp
 have q12 : At (Ty.lst Ty.int a) s3 a3 (.tmp 0) := D3.kt q6 rfl
 have q13 : At (Ty.lst Ty.int b) s3 a3 (.tmp 1) := D3.kt q7 rfl
 have q14 : At (Ty.int n) s3 a3 (.tmp 2) := D3.kt q8 rfl
 have q15 : At (Ty.int k) s3 a3 (.tmp 3) := D3.kt q9 rfl
 have q16 : At (Ty.val (Value.string s)) s3 a3 (.tmp 4) := D3.kt q10 rfl
 have q17 : At (Ty.int (rowMay (a))) s3 a3 (.tmp 11) := D3.kt q11 rfl
 have q18 : At (Ty.lst Ty.ints (if rowMay (a) = 0 then cyclesL (a) else [])) s3 a3 (.tmp 12) := D3.done 5
 have q19 : At (Ty.int (rowMay (a))) s3 a3 (.tmp 13) := D3.done 6
 clear D3
 refine tn ?_
 refine wp_seq ?_
 refine reg (a := a3) (σ := s3) rfl (fun i_ => List.getD [(Ty.pr (Ty.lst Ty.int a)), (Ty.pr (Ty.tup3 (Ty.nat (if rowMay (a) = 0 then ordL (a) else 0)) (Ty.bool (if rowMay (a) = 0 then oddL (a) else false)) (Ty.int (rowMay (a))))), (Ty.pr (Ty.tup3 (Ty.nat (if rowMay (a) = 0 then ordL (a) else 0)) (Ty.bool (if rowMay (a) = 0 then oddL (a) else false)) (Ty.int (rowMay (a))))), (Ty.pr (Ty.nat (if rowMay (a) = 0 then ordL (a) else 0))), (Ty.pr (Ty.bool (if rowMay (a) = 0 then oddL (a) else false))), (Ty.pr (Ty.int (rowMay (a)))), (Ty.pr (Ty.nat (if rowMay (a) = 0 then ordL (a) else 0))), (Ty.pr (Ty.bool (if rowMay (a) = 0 then oddL (a) else false))), (Ty.pr (Ty.int (rowMay (a))))] i_ Pr.any) ok3 rfl ⟨?_, ?_, ?_, ?_, ?_, ?_, ?_, ?_, ?_, trivial⟩ ?_
 · intro ax tx hs okx sm
   exact run_plain rfl (y_move (kp (sm 0 rfl) hs q12))
 · intro ax tx hs okx sm d0
   have e0 : At (Ty.lst Ty.int a) tx ax (.tmp 39) := d0 rfl
   exact run_plain rfl (y_call #[ax.eval (.tmp 39)] Try.func40 rfl rfl (by simp only [List.map_toArray, List.map_cons, List.map_nil]) (order_fn (a) _ _ e0 ))
 · intro ax tx hs okx sm d0
   have e1 : At (Ty.tup3 (Ty.nat (if rowMay (a) = 0 then ordL (a) else 0)) (Ty.bool (if rowMay (a) = 0 then oddL (a) else false)) (Ty.int (rowMay (a)))) tx ax (.tmp 40) := d0 rfl
   exact run_plain rfl (y_move e1)
 · intro ax tx hs okx sm d0
   have e2 : At (Ty.tup3 (Ty.nat (if rowMay (a) = 0 then ordL (a) else 0)) (Ty.bool (if rowMay (a) = 0 then oddL (a) else false)) (Ty.int (rowMay (a)))) tx ax (.tmp 38) := d0 rfl
   exact run_plain rfl (y_ext3_0 e2)
 · intro ax tx hs okx sm d0 d1
   have e2 : At (Ty.tup3 (Ty.nat (if rowMay (a) = 0 then ordL (a) else 0)) (Ty.bool (if rowMay (a) = 0 then oddL (a) else false)) (Ty.int (rowMay (a)))) tx ax (.tmp 38) := d0 rfl
   exact run_plain rfl (y_ext3_1 e2)
 · intro ax tx hs okx sm d0 d1
   have e2 : At (Ty.tup3 (Ty.nat (if rowMay (a) = 0 then ordL (a) else 0)) (Ty.bool (if rowMay (a) = 0 then oddL (a) else false)) (Ty.int (rowMay (a)))) tx ax (.tmp 38) := d0 rfl
   exact run_plain rfl (y_ext3_2 e2)
 · intro ax tx hs okx sm d0 d1 d2 d3 d4 d5 d6 d7
   have e3 : At (Ty.nat (if rowMay (a) = 0 then ordL (a) else 0)) tx ax (.tmp 41) := d0 rfl
   have e1 : At (Ty.tup3 (Ty.nat (if rowMay (a) = 0 then ordL (a) else 0)) (Ty.bool (if rowMay (a) = 0 then oddL (a) else false)) (Ty.int (rowMay (a)))) tx ax (.tmp 40) := d1 rfl
   have e0 : At (Ty.lst Ty.int a) tx ax (.tmp 39) := d2 rfl
   have e2 : At (Ty.tup3 (Ty.nat (if rowMay (a) = 0 then ordL (a) else 0)) (Ty.bool (if rowMay (a) = 0 then oddL (a) else false)) (Ty.int (rowMay (a)))) tx ax (.tmp 38) := d4 rfl
   exact run_plain rfl (y_assign e3)
 · intro ax tx hs okx sm d0 d1 d2 d3 d4 d5 d6 d7 d8
   have e4 : At (Ty.bool (if rowMay (a) = 0 then oddL (a) else false)) tx ax (.tmp 42) := d0 rfl
   have e6 : At (Ty.nat (if rowMay (a) = 0 then ordL (a) else 0)) tx ax (.tmp 14) := d1 rfl
   have e0 : At (Ty.lst Ty.int a) tx ax (.tmp 39) := d2 rfl
   have e1 : At (Ty.tup3 (Ty.nat (if rowMay (a) = 0 then ordL (a) else 0)) (Ty.bool (if rowMay (a) = 0 then oddL (a) else false)) (Ty.int (rowMay (a)))) tx ax (.tmp 40) := d3 rfl
   have e2 : At (Ty.tup3 (Ty.nat (if rowMay (a) = 0 then ordL (a) else 0)) (Ty.bool (if rowMay (a) = 0 then oddL (a) else false)) (Ty.int (rowMay (a)))) tx ax (.tmp 38) := d4 rfl
   have e3 : At (Ty.nat (if rowMay (a) = 0 then ordL (a) else 0)) tx ax (.tmp 41) := d5 rfl
   exact run_plain rfl (y_assign e4)
 · intro ax tx hs okx sm d0 d1 d2 d3 d4 d5 d6 d7 d8 d9
   have e5 : At (Ty.int (rowMay (a))) tx ax (.tmp 43) := d0 rfl
   have e7 : At (Ty.bool (if rowMay (a) = 0 then oddL (a) else false)) tx ax (.tmp 15) := d1 rfl
   have e0 : At (Ty.lst Ty.int a) tx ax (.tmp 39) := d2 rfl
   have e1 : At (Ty.tup3 (Ty.nat (if rowMay (a) = 0 then ordL (a) else 0)) (Ty.bool (if rowMay (a) = 0 then oddL (a) else false)) (Ty.int (rowMay (a)))) tx ax (.tmp 40) := d3 rfl
   have e2 : At (Ty.tup3 (Ty.nat (if rowMay (a) = 0 then ordL (a) else 0)) (Ty.bool (if rowMay (a) = 0 then oddL (a) else false)) (Ty.int (rowMay (a)))) tx ax (.tmp 38) := d4 rfl
   have e3 : At (Ty.nat (if rowMay (a) = 0 then ordL (a) else 0)) tx ax (.tmp 41) := d5 rfl
   have e4 : At (Ty.bool (if rowMay (a) = 0 then oddL (a) else false)) tx ax (.tmp 42) := d6 rfl
   have e6 : At (Ty.nat (if rowMay (a) = 0 then ordL (a) else 0)) tx ax (.tmp 14) := d8 rfl
   exact run_plain rfl (y_assign e5)
 intro a4 s4 D4
 have ok4 := D4.ok
 have F4 := F3.step0 D4.stp
 have q20 : At (Ty.lst Ty.int a) s4 a4 (.tmp 0) := D4.kt q12 rfl
 have q21 : At (Ty.lst Ty.int b) s4 a4 (.tmp 1) := D4.kt q13 rfl
 have q22 : At (Ty.int n) s4 a4 (.tmp 2) := D4.kt q14 rfl
 have q23 : At (Ty.int k) s4 a4 (.tmp 3) := D4.kt q15 rfl
 have q24 : At (Ty.val (Value.string s)) s4 a4 (.tmp 4) := D4.kt q16 rfl
 have q25 : At (Ty.int (rowMay (a))) s4 a4 (.tmp 11) := D4.kt q17 rfl
 have q26 : At (Ty.lst Ty.ints (if rowMay (a) = 0 then cyclesL (a) else [])) s4 a4 (.tmp 12) := D4.kt q18 rfl
 have q27 : At (Ty.int (rowMay (a))) s4 a4 (.tmp 13) := D4.kt q19 rfl
 have q28 : At (Ty.nat (if rowMay (a) = 0 then ordL (a) else 0)) s4 a4 (.tmp 14) := D4.done 6
 have q29 : At (Ty.bool (if rowMay (a) = 0 then oddL (a) else false)) s4 a4 (.tmp 15) := D4.done 7
 have q30 : At (Ty.int (rowMay (a))) s4 a4 (.tmp 16) := D4.done 8
 clear D4
 refine tn ?_
 refine wp_seq ?_
 refine reg (a := a4) (σ := s4) rfl (fun i_ => List.getD [(Ty.pr (Ty.lst Ty.int a)), (Ty.pr (Ty.tup2 (Ty.nat (if rowMay (a) = 0 then rankL (a) else 0)) (Ty.int (rowMay (a))))), (Ty.pr (Ty.tup2 (Ty.nat (if rowMay (a) = 0 then rankL (a) else 0)) (Ty.int (rowMay (a))))), (Ty.pr (Ty.nat (if rowMay (a) = 0 then rankL (a) else 0))), (Ty.pr (Ty.int (rowMay (a)))), (Ty.pr (Ty.nat (if rowMay (a) = 0 then rankL (a) else 0))), (Ty.pr (Ty.int (rowMay (a))))] i_ Pr.any) ok4 rfl ⟨?_, ?_, ?_, ?_, ?_, ?_, ?_, trivial⟩ ?_
 · intro ax tx hs okx sm
   exact run_plain rfl (y_move (kp (sm 0 rfl) hs q20))
 · intro ax tx hs okx sm d0
   have e0 : At (Ty.lst Ty.int a) tx ax (.tmp 45) := d0 rfl
   exact run_plain rfl (y_call #[ax.eval (.tmp 45)] Try.func41 rfl rfl (by simp only [List.map_toArray, List.map_cons, List.map_nil]) (rowRank_fn (a) _ _ e0 ))
 · intro ax tx hs okx sm d0
   have e1 : At (Ty.tup2 (Ty.nat (if rowMay (a) = 0 then rankL (a) else 0)) (Ty.int (rowMay (a)))) tx ax (.tmp 46) := d0 rfl
   exact run_plain rfl (y_move e1)
 · intro ax tx hs okx sm d0
   have e2 : At (Ty.tup2 (Ty.nat (if rowMay (a) = 0 then rankL (a) else 0)) (Ty.int (rowMay (a)))) tx ax (.tmp 44) := d0 rfl
   exact run_plain rfl (y_ext2_0 e2)
 · intro ax tx hs okx sm d0 d1
   have e2 : At (Ty.tup2 (Ty.nat (if rowMay (a) = 0 then rankL (a) else 0)) (Ty.int (rowMay (a)))) tx ax (.tmp 44) := d0 rfl
   exact run_plain rfl (y_ext2_1 e2)
 · intro ax tx hs okx sm d0 d1 d2 d3 d4 d5 d6
   have e3 : At (Ty.nat (if rowMay (a) = 0 then rankL (a) else 0)) tx ax (.tmp 47) := d0 rfl
   have e1 : At (Ty.tup2 (Ty.nat (if rowMay (a) = 0 then rankL (a) else 0)) (Ty.int (rowMay (a)))) tx ax (.tmp 46) := d1 rfl
   have e0 : At (Ty.lst Ty.int a) tx ax (.tmp 45) := d2 rfl
   have e2 : At (Ty.tup2 (Ty.nat (if rowMay (a) = 0 then rankL (a) else 0)) (Ty.int (rowMay (a)))) tx ax (.tmp 44) := d4 rfl
   exact run_plain rfl (y_assign e3)
 · intro ax tx hs okx sm d0 d1 d2 d3 d4 d5 d6 d7
   have e4 : At (Ty.int (rowMay (a))) tx ax (.tmp 48) := d0 rfl
   have e5 : At (Ty.nat (if rowMay (a) = 0 then rankL (a) else 0)) tx ax (.tmp 17) := d1 rfl
   have e0 : At (Ty.lst Ty.int a) tx ax (.tmp 45) := d2 rfl
   have e1 : At (Ty.tup2 (Ty.nat (if rowMay (a) = 0 then rankL (a) else 0)) (Ty.int (rowMay (a)))) tx ax (.tmp 46) := d3 rfl
   have e2 : At (Ty.tup2 (Ty.nat (if rowMay (a) = 0 then rankL (a) else 0)) (Ty.int (rowMay (a)))) tx ax (.tmp 44) := d4 rfl
   have e3 : At (Ty.nat (if rowMay (a) = 0 then rankL (a) else 0)) tx ax (.tmp 47) := d5 rfl
   exact run_plain rfl (y_assign e4)
 intro a5 s5 D5
 have ok5 := D5.ok
 have F5 := F4.step0 D5.stp
 have q31 : At (Ty.lst Ty.int a) s5 a5 (.tmp 0) := D5.kt q20 rfl
 have q32 : At (Ty.lst Ty.int b) s5 a5 (.tmp 1) := D5.kt q21 rfl
 have q33 : At (Ty.int n) s5 a5 (.tmp 2) := D5.kt q22 rfl
 have q34 : At (Ty.int k) s5 a5 (.tmp 3) := D5.kt q23 rfl
 have q35 : At (Ty.val (Value.string s)) s5 a5 (.tmp 4) := D5.kt q24 rfl
 have q36 : At (Ty.int (rowMay (a))) s5 a5 (.tmp 11) := D5.kt q25 rfl
 have q37 : At (Ty.lst Ty.ints (if rowMay (a) = 0 then cyclesL (a) else [])) s5 a5 (.tmp 12) := D5.kt q26 rfl
 have q38 : At (Ty.int (rowMay (a))) s5 a5 (.tmp 13) := D5.kt q27 rfl
 have q39 : At (Ty.nat (if rowMay (a) = 0 then ordL (a) else 0)) s5 a5 (.tmp 14) := D5.kt q28 rfl
 have q40 : At (Ty.bool (if rowMay (a) = 0 then oddL (a) else false)) s5 a5 (.tmp 15) := D5.kt q29 rfl
 have q41 : At (Ty.int (rowMay (a))) s5 a5 (.tmp 16) := D5.kt q30 rfl
 have q42 : At (Ty.nat (if rowMay (a) = 0 then rankL (a) else 0)) s5 a5 (.tmp 17) := D5.done 5
 have q43 : At (Ty.int (rowMay (a))) s5 a5 (.tmp 18) := D5.done 6
 clear D5
 refine tn ?_
 refine wp_seq ?_
 refine reg (a := a5) (σ := s5) rfl (fun i_ => List.getD [(Ty.pr (Ty.lst Ty.int a)), (Ty.pr (Ty.tup2 (Ty.lst Ty.int (if rowMay (a) = 0 then undoL (a) else [])) (Ty.int (rowMay (a))))), (Ty.pr (Ty.tup2 (Ty.lst Ty.int (if rowMay (a) = 0 then undoL (a) else [])) (Ty.int (rowMay (a))))), (Ty.pr (Ty.lst Ty.int (if rowMay (a) = 0 then undoL (a) else []))), (Ty.pr (Ty.int (rowMay (a)))), (Ty.pr (Ty.lst Ty.int (if rowMay (a) = 0 then undoL (a) else []))), (Ty.pr (Ty.int (rowMay (a))))] i_ Pr.any) ok5 rfl ⟨?_, ?_, ?_, ?_, ?_, ?_, ?_, trivial⟩ ?_
 · intro ax tx hs okx sm
   exact run_plain rfl (y_move (kp (sm 0 rfl) hs q31))
 · intro ax tx hs okx sm d0
   have e0 : At (Ty.lst Ty.int a) tx ax (.tmp 50) := d0 rfl
   exact run_plain rfl (y_call #[ax.eval (.tmp 50)] Try.func42 rfl rfl (by simp only [List.map_toArray, List.map_cons, List.map_nil]) (rowBack_fn (a) _ _ e0 ))
 · intro ax tx hs okx sm d0
   have e1 : At (Ty.tup2 (Ty.lst Ty.int (if rowMay (a) = 0 then undoL (a) else [])) (Ty.int (rowMay (a)))) tx ax (.tmp 51) := d0 rfl
   exact run_plain rfl (y_move e1)
 · intro ax tx hs okx sm d0
   have e2 : At (Ty.tup2 (Ty.lst Ty.int (if rowMay (a) = 0 then undoL (a) else [])) (Ty.int (rowMay (a)))) tx ax (.tmp 49) := d0 rfl
   exact run_plain rfl (y_ext2_0 e2)
 · intro ax tx hs okx sm d0 d1
   have e2 : At (Ty.tup2 (Ty.lst Ty.int (if rowMay (a) = 0 then undoL (a) else [])) (Ty.int (rowMay (a)))) tx ax (.tmp 49) := d0 rfl
   exact run_plain rfl (y_ext2_1 e2)
 · intro ax tx hs okx sm d0 d1 d2 d3 d4 d5 d6
   have e3 : At (Ty.lst Ty.int (if rowMay (a) = 0 then undoL (a) else [])) tx ax (.tmp 52) := d0 rfl
   have e1 : At (Ty.tup2 (Ty.lst Ty.int (if rowMay (a) = 0 then undoL (a) else [])) (Ty.int (rowMay (a)))) tx ax (.tmp 51) := d1 rfl
   have e0 : At (Ty.lst Ty.int a) tx ax (.tmp 50) := d2 rfl
   have e2 : At (Ty.tup2 (Ty.lst Ty.int (if rowMay (a) = 0 then undoL (a) else [])) (Ty.int (rowMay (a)))) tx ax (.tmp 49) := d4 rfl
   exact run_plain rfl (y_assign e3)
 · intro ax tx hs okx sm d0 d1 d2 d3 d4 d5 d6 d7
   have e4 : At (Ty.int (rowMay (a))) tx ax (.tmp 53) := d0 rfl
   have e5 : At (Ty.lst Ty.int (if rowMay (a) = 0 then undoL (a) else [])) tx ax (.tmp 19) := d1 rfl
   have e0 : At (Ty.lst Ty.int a) tx ax (.tmp 50) := d2 rfl
   have e1 : At (Ty.tup2 (Ty.lst Ty.int (if rowMay (a) = 0 then undoL (a) else [])) (Ty.int (rowMay (a)))) tx ax (.tmp 51) := d3 rfl
   have e2 : At (Ty.tup2 (Ty.lst Ty.int (if rowMay (a) = 0 then undoL (a) else [])) (Ty.int (rowMay (a)))) tx ax (.tmp 49) := d4 rfl
   have e3 : At (Ty.lst Ty.int (if rowMay (a) = 0 then undoL (a) else [])) tx ax (.tmp 52) := d5 rfl
   exact run_plain rfl (y_assign e4)
 intro a6 s6 D6
 have ok6 := D6.ok
 have F6 := F5.step0 D6.stp
 have q44 : At (Ty.lst Ty.int a) s6 a6 (.tmp 0) := D6.kt q31 rfl
 have q45 : At (Ty.lst Ty.int b) s6 a6 (.tmp 1) := D6.kt q32 rfl
 have q46 : At (Ty.int n) s6 a6 (.tmp 2) := D6.kt q33 rfl
 have q47 : At (Ty.int k) s6 a6 (.tmp 3) := D6.kt q34 rfl
 have q48 : At (Ty.val (Value.string s)) s6 a6 (.tmp 4) := D6.kt q35 rfl
 have q49 : At (Ty.int (rowMay (a))) s6 a6 (.tmp 11) := D6.kt q36 rfl
 have q50 : At (Ty.lst Ty.ints (if rowMay (a) = 0 then cyclesL (a) else [])) s6 a6 (.tmp 12) := D6.kt q37 rfl
 have q51 : At (Ty.int (rowMay (a))) s6 a6 (.tmp 13) := D6.kt q38 rfl
 have q52 : At (Ty.nat (if rowMay (a) = 0 then ordL (a) else 0)) s6 a6 (.tmp 14) := D6.kt q39 rfl
 have q53 : At (Ty.bool (if rowMay (a) = 0 then oddL (a) else false)) s6 a6 (.tmp 15) := D6.kt q40 rfl
 have q54 : At (Ty.int (rowMay (a))) s6 a6 (.tmp 16) := D6.kt q41 rfl
 have q55 : At (Ty.nat (if rowMay (a) = 0 then rankL (a) else 0)) s6 a6 (.tmp 17) := D6.kt q42 rfl
 have q56 : At (Ty.int (rowMay (a))) s6 a6 (.tmp 18) := D6.kt q43 rfl
 have q57 : At (Ty.lst Ty.int (if rowMay (a) = 0 then undoL (a) else [])) s6 a6 (.tmp 19) := D6.done 5
 have q58 : At (Ty.int (rowMay (a))) s6 a6 (.tmp 20) := D6.done 6
 clear D6
 refine tn ?_
 refine wp_seq ?_
 refine reg (a := a6) (σ := s6) rfl (fun i_ => List.getD [(Ty.pr (Ty.lst Ty.int a)), (Ty.pr (Ty.tup2 (Ty.val (Value.string (if rowMay (a) = 0 then bsL (signsB (a)) else ByteArray.empty))) (Ty.int (rowMay (a))))), (Ty.pr (Ty.tup2 (Ty.val (Value.string (if rowMay (a) = 0 then bsL (signsB (a)) else ByteArray.empty))) (Ty.int (rowMay (a))))), (Ty.pr (Ty.val (Value.string (if rowMay (a) = 0 then bsL (signsB (a)) else ByteArray.empty)))), (Ty.pr (Ty.int (rowMay (a)))), (Ty.pr (Ty.val (Value.string (if rowMay (a) = 0 then bsL (signsB (a)) else ByteArray.empty)))), (Ty.pr (Ty.int (rowMay (a))))] i_ Pr.any) ok6 rfl ⟨?_, ?_, ?_, ?_, ?_, ?_, ?_, trivial⟩ ?_
 · intro ax tx hs okx sm
   exact run_plain rfl (y_move (kp (sm 0 rfl) hs q44))
 · intro ax tx hs okx sm d0
   have e0 : At (Ty.lst Ty.int a) tx ax (.tmp 55) := d0 rfl
   exact run_plain rfl (y_call #[ax.eval (.tmp 55)] Try.func43 rfl rfl (by simp only [List.map_toArray, List.map_cons, List.map_nil]) (rowText_fn (a) _ _ e0 ))
 · intro ax tx hs okx sm d0
   have e1 : At (Ty.tup2 (Ty.val (Value.string (if rowMay (a) = 0 then bsL (signsB (a)) else ByteArray.empty))) (Ty.int (rowMay (a)))) tx ax (.tmp 56) := d0 rfl
   exact run_plain rfl (y_move e1)
 · intro ax tx hs okx sm d0
   have e2 : At (Ty.tup2 (Ty.val (Value.string (if rowMay (a) = 0 then bsL (signsB (a)) else ByteArray.empty))) (Ty.int (rowMay (a)))) tx ax (.tmp 54) := d0 rfl
   exact run_plain rfl (y_ext2_0 e2)
 · intro ax tx hs okx sm d0 d1
   have e2 : At (Ty.tup2 (Ty.val (Value.string (if rowMay (a) = 0 then bsL (signsB (a)) else ByteArray.empty))) (Ty.int (rowMay (a)))) tx ax (.tmp 54) := d0 rfl
   exact run_plain rfl (y_ext2_1 e2)
 · intro ax tx hs okx sm d0 d1 d2 d3 d4 d5 d6
   have e3 : At (Ty.val (Value.string (if rowMay (a) = 0 then bsL (signsB (a)) else ByteArray.empty))) tx ax (.tmp 57) := d0 rfl
   have e1 : At (Ty.tup2 (Ty.val (Value.string (if rowMay (a) = 0 then bsL (signsB (a)) else ByteArray.empty))) (Ty.int (rowMay (a)))) tx ax (.tmp 56) := d1 rfl
   have e0 : At (Ty.lst Ty.int a) tx ax (.tmp 55) := d2 rfl
   have e2 : At (Ty.tup2 (Ty.val (Value.string (if rowMay (a) = 0 then bsL (signsB (a)) else ByteArray.empty))) (Ty.int (rowMay (a)))) tx ax (.tmp 54) := d4 rfl
   exact run_plain rfl (y_assign e3)
 · intro ax tx hs okx sm d0 d1 d2 d3 d4 d5 d6 d7
   have e4 : At (Ty.int (rowMay (a))) tx ax (.tmp 58) := d0 rfl
   have e5 : At (Ty.val (Value.string (if rowMay (a) = 0 then bsL (signsB (a)) else ByteArray.empty))) tx ax (.tmp 21) := d1 rfl
   have e0 : At (Ty.lst Ty.int a) tx ax (.tmp 55) := d2 rfl
   have e1 : At (Ty.tup2 (Ty.val (Value.string (if rowMay (a) = 0 then bsL (signsB (a)) else ByteArray.empty))) (Ty.int (rowMay (a)))) tx ax (.tmp 56) := d3 rfl
   have e2 : At (Ty.tup2 (Ty.val (Value.string (if rowMay (a) = 0 then bsL (signsB (a)) else ByteArray.empty))) (Ty.int (rowMay (a)))) tx ax (.tmp 54) := d4 rfl
   have e3 : At (Ty.val (Value.string (if rowMay (a) = 0 then bsL (signsB (a)) else ByteArray.empty))) tx ax (.tmp 57) := d5 rfl
   exact run_plain rfl (y_assign e4)
 intro a7 s7 D7
 have ok7 := D7.ok
 have F7 := F6.step0 D7.stp
 have q59 : At (Ty.lst Ty.int a) s7 a7 (.tmp 0) := D7.kt q44 rfl
 have q60 : At (Ty.lst Ty.int b) s7 a7 (.tmp 1) := D7.kt q45 rfl
 have q61 : At (Ty.int n) s7 a7 (.tmp 2) := D7.kt q46 rfl
 have q62 : At (Ty.int k) s7 a7 (.tmp 3) := D7.kt q47 rfl
 have q63 : At (Ty.val (Value.string s)) s7 a7 (.tmp 4) := D7.kt q48 rfl
 have q64 : At (Ty.int (rowMay (a))) s7 a7 (.tmp 11) := D7.kt q49 rfl
 have q65 : At (Ty.lst Ty.ints (if rowMay (a) = 0 then cyclesL (a) else [])) s7 a7 (.tmp 12) := D7.kt q50 rfl
 have q66 : At (Ty.int (rowMay (a))) s7 a7 (.tmp 13) := D7.kt q51 rfl
 have q67 : At (Ty.nat (if rowMay (a) = 0 then ordL (a) else 0)) s7 a7 (.tmp 14) := D7.kt q52 rfl
 have q68 : At (Ty.bool (if rowMay (a) = 0 then oddL (a) else false)) s7 a7 (.tmp 15) := D7.kt q53 rfl
 have q69 : At (Ty.int (rowMay (a))) s7 a7 (.tmp 16) := D7.kt q54 rfl
 have q70 : At (Ty.nat (if rowMay (a) = 0 then rankL (a) else 0)) s7 a7 (.tmp 17) := D7.kt q55 rfl
 have q71 : At (Ty.int (rowMay (a))) s7 a7 (.tmp 18) := D7.kt q56 rfl
 have q72 : At (Ty.lst Ty.int (if rowMay (a) = 0 then undoL (a) else [])) s7 a7 (.tmp 19) := D7.kt q57 rfl
 have q73 : At (Ty.int (rowMay (a))) s7 a7 (.tmp 20) := D7.kt q58 rfl
 have q74 : At (Ty.val (Value.string (if rowMay (a) = 0 then bsL (signsB (a)) else ByteArray.empty))) s7 a7 (.tmp 21) := D7.done 5
 have q75 : At (Ty.int (rowMay (a))) s7 a7 (.tmp 22) := D7.done 6
 clear D7
 refine tn ?_
 refine wp_seq ?_
 refine wp_seq ?_
 refine reg (a := a7) (σ := s7) rfl (fun i_ => List.getD [(Ty.pr (Ty.lst Ty.int a)), (Ty.pr (Ty.int (rowMay (a)))), (Ty.pr (Ty.int (rowMay (a)))), (Ty.pr (Ty.bool (decide ((rowMay (a)) ≠ (rowMay (a)))))), (Ty.pr (Ty.bool (decide ((rowMay (a)) ≠ (rowMay (a)))))), (Ty.pr (Ty.grd ((decide ((rowMay (a)) ≠ (rowMay (a)))) = false) (Ty.int (rowMay (a))))), (Ty.pr (Ty.grd ((decide ((rowMay (a)) ≠ (rowMay (a)))) = false) (Ty.int (rowMay (a))))), (Ty.pr (Ty.grd ((decide ((rowMay (a)) ≠ (rowMay (a)))) = false) (Ty.bool (decide ((rowMay (a)) ≠ (rowMay (a))))))), (Ty.pr (Ty.bool ((decide ((rowMay (a)) ≠ (rowMay (a)))) || (decide ((rowMay (a)) ≠ (rowMay (a))))))), (Ty.pr (Ty.bool ((decide ((rowMay (a)) ≠ (rowMay (a)))) || (decide ((rowMay (a)) ≠ (rowMay (a))))))), (Ty.pr (Ty.grd (((decide ((rowMay (a)) ≠ (rowMay (a)))) || (decide ((rowMay (a)) ≠ (rowMay (a))))) = false) (Ty.int (rowMay (a))))), (Ty.pr (Ty.grd (((decide ((rowMay (a)) ≠ (rowMay (a)))) || (decide ((rowMay (a)) ≠ (rowMay (a))))) = false) (Ty.int (rowMay (a))))), (Ty.pr (Ty.grd (((decide ((rowMay (a)) ≠ (rowMay (a)))) || (decide ((rowMay (a)) ≠ (rowMay (a))))) = false) (Ty.bool (decide ((rowMay (a)) ≠ (rowMay (a))))))), (Ty.pr (Ty.bool (((decide ((rowMay (a)) ≠ (rowMay (a)))) || (decide ((rowMay (a)) ≠ (rowMay (a))))) || (decide ((rowMay (a)) ≠ (rowMay (a))))))), (Ty.pr (Ty.bool (((decide ((rowMay (a)) ≠ (rowMay (a)))) || (decide ((rowMay (a)) ≠ (rowMay (a))))) || (decide ((rowMay (a)) ≠ (rowMay (a))))))), (Ty.pr (Ty.grd ((((decide ((rowMay (a)) ≠ (rowMay (a)))) || (decide ((rowMay (a)) ≠ (rowMay (a))))) || (decide ((rowMay (a)) ≠ (rowMay (a))))) = false) (Ty.int (rowMay (a))))), (Ty.pr (Ty.grd ((((decide ((rowMay (a)) ≠ (rowMay (a)))) || (decide ((rowMay (a)) ≠ (rowMay (a))))) || (decide ((rowMay (a)) ≠ (rowMay (a))))) = false) (Ty.int (rowMay (a))))), (Ty.pr (Ty.grd ((((decide ((rowMay (a)) ≠ (rowMay (a)))) || (decide ((rowMay (a)) ≠ (rowMay (a))))) || (decide ((rowMay (a)) ≠ (rowMay (a))))) = false) (Ty.bool (decide ((rowMay (a)) ≠ (rowMay (a))))))), (Ty.pr (Ty.bool ((((decide ((rowMay (a)) ≠ (rowMay (a)))) || (decide ((rowMay (a)) ≠ (rowMay (a))))) || (decide ((rowMay (a)) ≠ (rowMay (a))))) || (decide ((rowMay (a)) ≠ (rowMay (a))))))), (Ty.pr (Ty.bool ((((decide ((rowMay (a)) ≠ (rowMay (a)))) || (decide ((rowMay (a)) ≠ (rowMay (a))))) || (decide ((rowMay (a)) ≠ (rowMay (a))))) || (decide ((rowMay (a)) ≠ (rowMay (a))))))), (Ty.pr (Ty.grd (((((decide ((rowMay (a)) ≠ (rowMay (a)))) || (decide ((rowMay (a)) ≠ (rowMay (a))))) || (decide ((rowMay (a)) ≠ (rowMay (a))))) || (decide ((rowMay (a)) ≠ (rowMay (a))))) = false) (Ty.int (rowMay (a))))), (Ty.pr (Ty.grd (((((decide ((rowMay (a)) ≠ (rowMay (a)))) || (decide ((rowMay (a)) ≠ (rowMay (a))))) || (decide ((rowMay (a)) ≠ (rowMay (a))))) || (decide ((rowMay (a)) ≠ (rowMay (a))))) = false) (Ty.int (rowMay (a))))), (Ty.pr (Ty.grd (((((decide ((rowMay (a)) ≠ (rowMay (a)))) || (decide ((rowMay (a)) ≠ (rowMay (a))))) || (decide ((rowMay (a)) ≠ (rowMay (a))))) || (decide ((rowMay (a)) ≠ (rowMay (a))))) = false) (Ty.bool (decide ((rowMay (a)) ≠ (rowMay (a))))))), (Ty.pr (Ty.bool (((((decide ((rowMay (a)) ≠ (rowMay (a)))) || (decide ((rowMay (a)) ≠ (rowMay (a))))) || (decide ((rowMay (a)) ≠ (rowMay (a))))) || (decide ((rowMay (a)) ≠ (rowMay (a))))) || (decide ((rowMay (a)) ≠ (rowMay (a))))))), (Ty.pr (Ty.bool (((((decide ((rowMay (a)) ≠ (rowMay (a)))) || (decide ((rowMay (a)) ≠ (rowMay (a))))) || (decide ((rowMay (a)) ≠ (rowMay (a))))) || (decide ((rowMay (a)) ≠ (rowMay (a))))) || (decide ((rowMay (a)) ≠ (rowMay (a))))))), (Ty.pr (Ty.grd ((((((decide ((rowMay (a)) ≠ (rowMay (a)))) || (decide ((rowMay (a)) ≠ (rowMay (a))))) || (decide ((rowMay (a)) ≠ (rowMay (a))))) || (decide ((rowMay (a)) ≠ (rowMay (a))))) || (decide ((rowMay (a)) ≠ (rowMay (a))))) = false) (Ty.int (rowMay (a))))), (Ty.pr (Ty.grd ((((((decide ((rowMay (a)) ≠ (rowMay (a)))) || (decide ((rowMay (a)) ≠ (rowMay (a))))) || (decide ((rowMay (a)) ≠ (rowMay (a))))) || (decide ((rowMay (a)) ≠ (rowMay (a))))) || (decide ((rowMay (a)) ≠ (rowMay (a))))) = false) (Ty.int (rowMay (a))))), (Ty.pr (Ty.grd ((((((decide ((rowMay (a)) ≠ (rowMay (a)))) || (decide ((rowMay (a)) ≠ (rowMay (a))))) || (decide ((rowMay (a)) ≠ (rowMay (a))))) || (decide ((rowMay (a)) ≠ (rowMay (a))))) || (decide ((rowMay (a)) ≠ (rowMay (a))))) = false) (Ty.bool (decide ((rowMay (a)) ≠ (rowMay (a))))))), (Ty.pr (Ty.bool ((((((decide ((rowMay (a)) ≠ (rowMay (a)))) || (decide ((rowMay (a)) ≠ (rowMay (a))))) || (decide ((rowMay (a)) ≠ (rowMay (a))))) || (decide ((rowMay (a)) ≠ (rowMay (a))))) || (decide ((rowMay (a)) ≠ (rowMay (a))))) || (decide ((rowMay (a)) ≠ (rowMay (a)))))))] i_ Pr.any) ok7 rfl ⟨?_, ?_, ?_, ?_, ?_, ?_, ?_, ?_, ?_, ?_, ?_, ?_, ?_, ?_, ?_, ?_, ?_, ?_, ?_, ?_, ?_, ?_, ?_, ?_, ?_, ?_, ?_, ?_, ?_, trivial⟩ ?_
 · intro ax tx hs okx sm
   exact run_plain rfl (y_move (kp (sm 0 rfl) hs q59))
 · intro ax tx hs okx sm d0
   have e0 : At (Ty.lst Ty.int a) tx ax (.tmp 59) := d0 rfl
   exact run_plain rfl (y_call #[ax.eval (.tmp 59)] Try.func44 rfl rfl (by simp only [List.map_toArray, List.map_cons, List.map_nil]) (rowCheck_fn (a) _ _ e0 ))
 · intro ax tx hs okx sm
   exact run_plain rfl (y_move (kp (sm 11 rfl) hs q64))
 · intro ax tx hs okx sm d0 d1
   have e1 : At (Ty.int (rowMay (a))) tx ax (.tmp 60) := d0 rfl
   have e2 : At (Ty.int (rowMay (a))) tx ax (.tmp 61) := d1 rfl
   exact run_plain rfl (y_neq e1 e2)
 · intro ax tx hs okx sm d0 d1
   have e3 : At (Ty.bool (decide ((rowMay (a)) ≠ (rowMay (a))))) tx ax (.tmp 62) := d0 rfl
   have e1 : At (Ty.int (rowMay (a))) tx ax (.tmp 60) := d1 rfl
   exact run_plain rfl (y_move e3)
 · intro ax tx hs okx sm d0
   have e4 : At (Ty.bool (decide ((rowMay (a)) ≠ (rowMay (a))))) tx ax (.tmp 63) := d0 rfl
   refine run_guard (T := (Ty.int (rowMay (a)))) okx rfl rfl (by decide) e4 (fun hg => ?_)
   have hp := of_decide_eq_false hg
   exact y_move (kp (sm 13 rfl) hs q66)
 · intro ax tx hs okx sm d0
   have e4 : At (Ty.bool (decide ((rowMay (a)) ≠ (rowMay (a))))) tx ax (.tmp 63) := d0 rfl
   refine run_guard (T := (Ty.int (rowMay (a)))) okx rfl rfl (by decide) e4 (fun hg => ?_)
   have hp := of_decide_eq_false hg
   exact y_move (kp (sm 11 rfl) hs q64)
 · intro ax tx hs okx sm d0 d1 d2
   have e5 : At (Ty.grd ((decide ((rowMay (a)) ≠ (rowMay (a)))) = false) (Ty.int (rowMay (a)))) tx ax (.tmp 64) := d0 rfl
   have e6 : At (Ty.grd ((decide ((rowMay (a)) ≠ (rowMay (a)))) = false) (Ty.int (rowMay (a)))) tx ax (.tmp 65) := d1 rfl
   have e4 : At (Ty.bool (decide ((rowMay (a)) ≠ (rowMay (a))))) tx ax (.tmp 63) := d2 rfl
   refine run_guard (T := (Ty.bool (decide ((rowMay (a)) ≠ (rowMay (a)))))) okx rfl rfl (by decide) e4 (fun hg => ?_)
   have hp := of_decide_eq_false hg
   exact y_neq (e5.1 hg) (e6.1 hg)
 · intro ax tx hs okx sm d0 d1
   have e4 : At (Ty.bool (decide ((rowMay (a)) ≠ (rowMay (a))))) tx ax (.tmp 63) := d0 rfl
   have e7 : At (Ty.grd ((decide ((rowMay (a)) ≠ (rowMay (a)))) = false) (Ty.bool (decide ((rowMay (a)) ≠ (rowMay (a)))))) tx ax (.tmp 66) := d1 rfl
   exact run_plain rfl (y_pick_or e4 rfl e7)
 · intro ax tx hs okx sm d0 d1
   have e8 : At (Ty.bool ((decide ((rowMay (a)) ≠ (rowMay (a)))) || (decide ((rowMay (a)) ≠ (rowMay (a)))))) tx ax (.tmp 67) := d0 rfl
   have e4 : At (Ty.bool (decide ((rowMay (a)) ≠ (rowMay (a))))) tx ax (.tmp 63) := d1 rfl
   exact run_plain rfl (y_move e8)
 · intro ax tx hs okx sm d0
   have e9 : At (Ty.bool ((decide ((rowMay (a)) ≠ (rowMay (a)))) || (decide ((rowMay (a)) ≠ (rowMay (a)))))) tx ax (.tmp 68) := d0 rfl
   refine run_guard (T := (Ty.int (rowMay (a)))) okx rfl rfl (by decide) e9 (fun hg => ?_)
   obtain ⟨d1, d2⟩ := Bool.or_eq_false_iff.mp hg
   have d1 := of_decide_eq_false d1
   have d2 := of_decide_eq_false d2
   exact y_move (kp (sm 16 rfl) hs q69)
 · intro ax tx hs okx sm d0
   have e9 : At (Ty.bool ((decide ((rowMay (a)) ≠ (rowMay (a)))) || (decide ((rowMay (a)) ≠ (rowMay (a)))))) tx ax (.tmp 68) := d0 rfl
   refine run_guard (T := (Ty.int (rowMay (a)))) okx rfl rfl (by decide) e9 (fun hg => ?_)
   obtain ⟨d3, d4⟩ := Bool.or_eq_false_iff.mp hg
   have d3 := of_decide_eq_false d3
   have d4 := of_decide_eq_false d4
   exact y_move (kp (sm 11 rfl) hs q64)
 · intro ax tx hs okx sm d0 d1 d2
   have e10 : At (Ty.grd (((decide ((rowMay (a)) ≠ (rowMay (a)))) || (decide ((rowMay (a)) ≠ (rowMay (a))))) = false) (Ty.int (rowMay (a)))) tx ax (.tmp 69) := d0 rfl
   have e11 : At (Ty.grd (((decide ((rowMay (a)) ≠ (rowMay (a)))) || (decide ((rowMay (a)) ≠ (rowMay (a))))) = false) (Ty.int (rowMay (a)))) tx ax (.tmp 70) := d1 rfl
   have e9 : At (Ty.bool ((decide ((rowMay (a)) ≠ (rowMay (a)))) || (decide ((rowMay (a)) ≠ (rowMay (a)))))) tx ax (.tmp 68) := d2 rfl
   refine run_guard (T := (Ty.bool (decide ((rowMay (a)) ≠ (rowMay (a)))))) okx rfl rfl (by decide) e9 (fun hg => ?_)
   obtain ⟨d5, d6⟩ := Bool.or_eq_false_iff.mp hg
   have d5 := of_decide_eq_false d5
   have d6 := of_decide_eq_false d6
   exact y_neq (e10.1 hg) (e11.1 hg)
 · intro ax tx hs okx sm d0 d1
   have e9 : At (Ty.bool ((decide ((rowMay (a)) ≠ (rowMay (a)))) || (decide ((rowMay (a)) ≠ (rowMay (a)))))) tx ax (.tmp 68) := d0 rfl
   have e12 : At (Ty.grd (((decide ((rowMay (a)) ≠ (rowMay (a)))) || (decide ((rowMay (a)) ≠ (rowMay (a))))) = false) (Ty.bool (decide ((rowMay (a)) ≠ (rowMay (a)))))) tx ax (.tmp 71) := d1 rfl
   exact run_plain rfl (y_pick_or e9 rfl e12)
 · intro ax tx hs okx sm d0 d1
   have e13 : At (Ty.bool (((decide ((rowMay (a)) ≠ (rowMay (a)))) || (decide ((rowMay (a)) ≠ (rowMay (a))))) || (decide ((rowMay (a)) ≠ (rowMay (a)))))) tx ax (.tmp 72) := d0 rfl
   have e9 : At (Ty.bool ((decide ((rowMay (a)) ≠ (rowMay (a)))) || (decide ((rowMay (a)) ≠ (rowMay (a)))))) tx ax (.tmp 68) := d1 rfl
   exact run_plain rfl (y_move e13)
 · intro ax tx hs okx sm d0
   have e14 : At (Ty.bool (((decide ((rowMay (a)) ≠ (rowMay (a)))) || (decide ((rowMay (a)) ≠ (rowMay (a))))) || (decide ((rowMay (a)) ≠ (rowMay (a)))))) tx ax (.tmp 73) := d0 rfl
   refine run_guard (T := (Ty.int (rowMay (a)))) okx rfl rfl (by decide) e14 (fun hg => ?_)
   obtain ⟨d7, d8⟩ := Bool.or_eq_false_iff.mp hg
   obtain ⟨d9, d10⟩ := Bool.or_eq_false_iff.mp d7
   have d9 := of_decide_eq_false d9
   have d10 := of_decide_eq_false d10
   have d8 := of_decide_eq_false d8
   exact y_move (kp (sm 18 rfl) hs q71)
 · intro ax tx hs okx sm d0
   have e14 : At (Ty.bool (((decide ((rowMay (a)) ≠ (rowMay (a)))) || (decide ((rowMay (a)) ≠ (rowMay (a))))) || (decide ((rowMay (a)) ≠ (rowMay (a)))))) tx ax (.tmp 73) := d0 rfl
   refine run_guard (T := (Ty.int (rowMay (a)))) okx rfl rfl (by decide) e14 (fun hg => ?_)
   obtain ⟨d11, d12⟩ := Bool.or_eq_false_iff.mp hg
   obtain ⟨d13, d14⟩ := Bool.or_eq_false_iff.mp d11
   have d13 := of_decide_eq_false d13
   have d14 := of_decide_eq_false d14
   have d12 := of_decide_eq_false d12
   exact y_move (kp (sm 11 rfl) hs q64)
 · intro ax tx hs okx sm d0 d1 d2
   have e15 : At (Ty.grd ((((decide ((rowMay (a)) ≠ (rowMay (a)))) || (decide ((rowMay (a)) ≠ (rowMay (a))))) || (decide ((rowMay (a)) ≠ (rowMay (a))))) = false) (Ty.int (rowMay (a)))) tx ax (.tmp 74) := d0 rfl
   have e16 : At (Ty.grd ((((decide ((rowMay (a)) ≠ (rowMay (a)))) || (decide ((rowMay (a)) ≠ (rowMay (a))))) || (decide ((rowMay (a)) ≠ (rowMay (a))))) = false) (Ty.int (rowMay (a)))) tx ax (.tmp 75) := d1 rfl
   have e14 : At (Ty.bool (((decide ((rowMay (a)) ≠ (rowMay (a)))) || (decide ((rowMay (a)) ≠ (rowMay (a))))) || (decide ((rowMay (a)) ≠ (rowMay (a)))))) tx ax (.tmp 73) := d2 rfl
   refine run_guard (T := (Ty.bool (decide ((rowMay (a)) ≠ (rowMay (a)))))) okx rfl rfl (by decide) e14 (fun hg => ?_)
   obtain ⟨d15, d16⟩ := Bool.or_eq_false_iff.mp hg
   obtain ⟨d17, d18⟩ := Bool.or_eq_false_iff.mp d15
   have d17 := of_decide_eq_false d17
   have d18 := of_decide_eq_false d18
   have d16 := of_decide_eq_false d16
   exact y_neq (e15.1 hg) (e16.1 hg)
 · intro ax tx hs okx sm d0 d1
   have e14 : At (Ty.bool (((decide ((rowMay (a)) ≠ (rowMay (a)))) || (decide ((rowMay (a)) ≠ (rowMay (a))))) || (decide ((rowMay (a)) ≠ (rowMay (a)))))) tx ax (.tmp 73) := d0 rfl
   have e17 : At (Ty.grd ((((decide ((rowMay (a)) ≠ (rowMay (a)))) || (decide ((rowMay (a)) ≠ (rowMay (a))))) || (decide ((rowMay (a)) ≠ (rowMay (a))))) = false) (Ty.bool (decide ((rowMay (a)) ≠ (rowMay (a)))))) tx ax (.tmp 76) := d1 rfl
   exact run_plain rfl (y_pick_or e14 rfl e17)
 · intro ax tx hs okx sm d0 d1
   have e18 : At (Ty.bool ((((decide ((rowMay (a)) ≠ (rowMay (a)))) || (decide ((rowMay (a)) ≠ (rowMay (a))))) || (decide ((rowMay (a)) ≠ (rowMay (a))))) || (decide ((rowMay (a)) ≠ (rowMay (a)))))) tx ax (.tmp 77) := d0 rfl
   have e14 : At (Ty.bool (((decide ((rowMay (a)) ≠ (rowMay (a)))) || (decide ((rowMay (a)) ≠ (rowMay (a))))) || (decide ((rowMay (a)) ≠ (rowMay (a)))))) tx ax (.tmp 73) := d1 rfl
   exact run_plain rfl (y_move e18)
 · intro ax tx hs okx sm d0
   have e19 : At (Ty.bool ((((decide ((rowMay (a)) ≠ (rowMay (a)))) || (decide ((rowMay (a)) ≠ (rowMay (a))))) || (decide ((rowMay (a)) ≠ (rowMay (a))))) || (decide ((rowMay (a)) ≠ (rowMay (a)))))) tx ax (.tmp 78) := d0 rfl
   refine run_guard (T := (Ty.int (rowMay (a)))) okx rfl rfl (by decide) e19 (fun hg => ?_)
   obtain ⟨d19, d20⟩ := Bool.or_eq_false_iff.mp hg
   obtain ⟨d21, d22⟩ := Bool.or_eq_false_iff.mp d19
   obtain ⟨d23, d24⟩ := Bool.or_eq_false_iff.mp d21
   have d23 := of_decide_eq_false d23
   have d24 := of_decide_eq_false d24
   have d22 := of_decide_eq_false d22
   have d20 := of_decide_eq_false d20
   exact y_move (kp (sm 20 rfl) hs q73)
 · intro ax tx hs okx sm d0
   have e19 : At (Ty.bool ((((decide ((rowMay (a)) ≠ (rowMay (a)))) || (decide ((rowMay (a)) ≠ (rowMay (a))))) || (decide ((rowMay (a)) ≠ (rowMay (a))))) || (decide ((rowMay (a)) ≠ (rowMay (a)))))) tx ax (.tmp 78) := d0 rfl
   refine run_guard (T := (Ty.int (rowMay (a)))) okx rfl rfl (by decide) e19 (fun hg => ?_)
   obtain ⟨d25, d26⟩ := Bool.or_eq_false_iff.mp hg
   obtain ⟨d27, d28⟩ := Bool.or_eq_false_iff.mp d25
   obtain ⟨d29, d30⟩ := Bool.or_eq_false_iff.mp d27
   have d29 := of_decide_eq_false d29
   have d30 := of_decide_eq_false d30
   have d28 := of_decide_eq_false d28
   have d26 := of_decide_eq_false d26
   exact y_move (kp (sm 11 rfl) hs q64)
 · intro ax tx hs okx sm d0 d1 d2
   have e20 : At (Ty.grd (((((decide ((rowMay (a)) ≠ (rowMay (a)))) || (decide ((rowMay (a)) ≠ (rowMay (a))))) || (decide ((rowMay (a)) ≠ (rowMay (a))))) || (decide ((rowMay (a)) ≠ (rowMay (a))))) = false) (Ty.int (rowMay (a)))) tx ax (.tmp 79) := d0 rfl
   have e21 : At (Ty.grd (((((decide ((rowMay (a)) ≠ (rowMay (a)))) || (decide ((rowMay (a)) ≠ (rowMay (a))))) || (decide ((rowMay (a)) ≠ (rowMay (a))))) || (decide ((rowMay (a)) ≠ (rowMay (a))))) = false) (Ty.int (rowMay (a)))) tx ax (.tmp 80) := d1 rfl
   have e19 : At (Ty.bool ((((decide ((rowMay (a)) ≠ (rowMay (a)))) || (decide ((rowMay (a)) ≠ (rowMay (a))))) || (decide ((rowMay (a)) ≠ (rowMay (a))))) || (decide ((rowMay (a)) ≠ (rowMay (a)))))) tx ax (.tmp 78) := d2 rfl
   refine run_guard (T := (Ty.bool (decide ((rowMay (a)) ≠ (rowMay (a)))))) okx rfl rfl (by decide) e19 (fun hg => ?_)
   obtain ⟨d31, d32⟩ := Bool.or_eq_false_iff.mp hg
   obtain ⟨d33, d34⟩ := Bool.or_eq_false_iff.mp d31
   obtain ⟨d35, d36⟩ := Bool.or_eq_false_iff.mp d33
   have d35 := of_decide_eq_false d35
   have d36 := of_decide_eq_false d36
   have d34 := of_decide_eq_false d34
   have d32 := of_decide_eq_false d32
   exact y_neq (e20.1 hg) (e21.1 hg)
 · intro ax tx hs okx sm d0 d1
   have e19 : At (Ty.bool ((((decide ((rowMay (a)) ≠ (rowMay (a)))) || (decide ((rowMay (a)) ≠ (rowMay (a))))) || (decide ((rowMay (a)) ≠ (rowMay (a))))) || (decide ((rowMay (a)) ≠ (rowMay (a)))))) tx ax (.tmp 78) := d0 rfl
   have e22 : At (Ty.grd (((((decide ((rowMay (a)) ≠ (rowMay (a)))) || (decide ((rowMay (a)) ≠ (rowMay (a))))) || (decide ((rowMay (a)) ≠ (rowMay (a))))) || (decide ((rowMay (a)) ≠ (rowMay (a))))) = false) (Ty.bool (decide ((rowMay (a)) ≠ (rowMay (a)))))) tx ax (.tmp 81) := d1 rfl
   exact run_plain rfl (y_pick_or e19 rfl e22)
 · intro ax tx hs okx sm d0 d1
   have e23 : At (Ty.bool (((((decide ((rowMay (a)) ≠ (rowMay (a)))) || (decide ((rowMay (a)) ≠ (rowMay (a))))) || (decide ((rowMay (a)) ≠ (rowMay (a))))) || (decide ((rowMay (a)) ≠ (rowMay (a))))) || (decide ((rowMay (a)) ≠ (rowMay (a)))))) tx ax (.tmp 82) := d0 rfl
   have e19 : At (Ty.bool ((((decide ((rowMay (a)) ≠ (rowMay (a)))) || (decide ((rowMay (a)) ≠ (rowMay (a))))) || (decide ((rowMay (a)) ≠ (rowMay (a))))) || (decide ((rowMay (a)) ≠ (rowMay (a)))))) tx ax (.tmp 78) := d1 rfl
   exact run_plain rfl (y_move e23)
 · intro ax tx hs okx sm d0
   have e24 : At (Ty.bool (((((decide ((rowMay (a)) ≠ (rowMay (a)))) || (decide ((rowMay (a)) ≠ (rowMay (a))))) || (decide ((rowMay (a)) ≠ (rowMay (a))))) || (decide ((rowMay (a)) ≠ (rowMay (a))))) || (decide ((rowMay (a)) ≠ (rowMay (a)))))) tx ax (.tmp 83) := d0 rfl
   refine run_guard (T := (Ty.int (rowMay (a)))) okx rfl rfl (by decide) e24 (fun hg => ?_)
   obtain ⟨d37, d38⟩ := Bool.or_eq_false_iff.mp hg
   obtain ⟨d39, d40⟩ := Bool.or_eq_false_iff.mp d37
   obtain ⟨d41, d42⟩ := Bool.or_eq_false_iff.mp d39
   obtain ⟨d43, d44⟩ := Bool.or_eq_false_iff.mp d41
   have d43 := of_decide_eq_false d43
   have d44 := of_decide_eq_false d44
   have d42 := of_decide_eq_false d42
   have d40 := of_decide_eq_false d40
   have d38 := of_decide_eq_false d38
   exact y_move (kp (sm 22 rfl) hs q75)
 · intro ax tx hs okx sm d0
   have e24 : At (Ty.bool (((((decide ((rowMay (a)) ≠ (rowMay (a)))) || (decide ((rowMay (a)) ≠ (rowMay (a))))) || (decide ((rowMay (a)) ≠ (rowMay (a))))) || (decide ((rowMay (a)) ≠ (rowMay (a))))) || (decide ((rowMay (a)) ≠ (rowMay (a)))))) tx ax (.tmp 83) := d0 rfl
   refine run_guard (T := (Ty.int (rowMay (a)))) okx rfl rfl (by decide) e24 (fun hg => ?_)
   obtain ⟨d45, d46⟩ := Bool.or_eq_false_iff.mp hg
   obtain ⟨d47, d48⟩ := Bool.or_eq_false_iff.mp d45
   obtain ⟨d49, d50⟩ := Bool.or_eq_false_iff.mp d47
   obtain ⟨d51, d52⟩ := Bool.or_eq_false_iff.mp d49
   have d51 := of_decide_eq_false d51
   have d52 := of_decide_eq_false d52
   have d50 := of_decide_eq_false d50
   have d48 := of_decide_eq_false d48
   have d46 := of_decide_eq_false d46
   exact y_move (kp (sm 11 rfl) hs q64)
 · intro ax tx hs okx sm d0 d1 d2
   have e25 : At (Ty.grd ((((((decide ((rowMay (a)) ≠ (rowMay (a)))) || (decide ((rowMay (a)) ≠ (rowMay (a))))) || (decide ((rowMay (a)) ≠ (rowMay (a))))) || (decide ((rowMay (a)) ≠ (rowMay (a))))) || (decide ((rowMay (a)) ≠ (rowMay (a))))) = false) (Ty.int (rowMay (a)))) tx ax (.tmp 84) := d0 rfl
   have e26 : At (Ty.grd ((((((decide ((rowMay (a)) ≠ (rowMay (a)))) || (decide ((rowMay (a)) ≠ (rowMay (a))))) || (decide ((rowMay (a)) ≠ (rowMay (a))))) || (decide ((rowMay (a)) ≠ (rowMay (a))))) || (decide ((rowMay (a)) ≠ (rowMay (a))))) = false) (Ty.int (rowMay (a)))) tx ax (.tmp 85) := d1 rfl
   have e24 : At (Ty.bool (((((decide ((rowMay (a)) ≠ (rowMay (a)))) || (decide ((rowMay (a)) ≠ (rowMay (a))))) || (decide ((rowMay (a)) ≠ (rowMay (a))))) || (decide ((rowMay (a)) ≠ (rowMay (a))))) || (decide ((rowMay (a)) ≠ (rowMay (a)))))) tx ax (.tmp 83) := d2 rfl
   refine run_guard (T := (Ty.bool (decide ((rowMay (a)) ≠ (rowMay (a)))))) okx rfl rfl (by decide) e24 (fun hg => ?_)
   obtain ⟨d53, d54⟩ := Bool.or_eq_false_iff.mp hg
   obtain ⟨d55, d56⟩ := Bool.or_eq_false_iff.mp d53
   obtain ⟨d57, d58⟩ := Bool.or_eq_false_iff.mp d55
   obtain ⟨d59, d60⟩ := Bool.or_eq_false_iff.mp d57
   have d59 := of_decide_eq_false d59
   have d60 := of_decide_eq_false d60
   have d58 := of_decide_eq_false d58
   have d56 := of_decide_eq_false d56
   have d54 := of_decide_eq_false d54
   exact y_neq (e25.1 hg) (e26.1 hg)
 · intro ax tx hs okx sm d0 d1
   have e24 : At (Ty.bool (((((decide ((rowMay (a)) ≠ (rowMay (a)))) || (decide ((rowMay (a)) ≠ (rowMay (a))))) || (decide ((rowMay (a)) ≠ (rowMay (a))))) || (decide ((rowMay (a)) ≠ (rowMay (a))))) || (decide ((rowMay (a)) ≠ (rowMay (a)))))) tx ax (.tmp 83) := d0 rfl
   have e27 : At (Ty.grd ((((((decide ((rowMay (a)) ≠ (rowMay (a)))) || (decide ((rowMay (a)) ≠ (rowMay (a))))) || (decide ((rowMay (a)) ≠ (rowMay (a))))) || (decide ((rowMay (a)) ≠ (rowMay (a))))) || (decide ((rowMay (a)) ≠ (rowMay (a))))) = false) (Ty.bool (decide ((rowMay (a)) ≠ (rowMay (a)))))) tx ax (.tmp 86) := d1 rfl
   exact run_plain rfl (y_pick_or e24 rfl e27)
 intro a8 s8 D8
 have ok8 := D8.ok
 have F8 := F7.step0 D8.stp
 have q76 : At (Ty.lst Ty.int a) s8 a8 (.tmp 0) := D8.kt q59 rfl
 have q77 : At (Ty.lst Ty.int b) s8 a8 (.tmp 1) := D8.kt q60 rfl
 have q78 : At (Ty.int n) s8 a8 (.tmp 2) := D8.kt q61 rfl
 have q79 : At (Ty.int k) s8 a8 (.tmp 3) := D8.kt q62 rfl
 have q80 : At (Ty.val (Value.string s)) s8 a8 (.tmp 4) := D8.kt q63 rfl
 have q81 : At (Ty.int (rowMay (a))) s8 a8 (.tmp 11) := D8.kt q64 rfl
 have q82 : At (Ty.lst Ty.ints (if rowMay (a) = 0 then cyclesL (a) else [])) s8 a8 (.tmp 12) := D8.kt q65 rfl
 have q83 : At (Ty.nat (if rowMay (a) = 0 then ordL (a) else 0)) s8 a8 (.tmp 14) := D8.kt q67 rfl
 have q84 : At (Ty.bool (if rowMay (a) = 0 then oddL (a) else false)) s8 a8 (.tmp 15) := D8.kt q68 rfl
 have q85 : At (Ty.nat (if rowMay (a) = 0 then rankL (a) else 0)) s8 a8 (.tmp 17) := D8.kt q70 rfl
 have q86 : At (Ty.lst Ty.int (if rowMay (a) = 0 then undoL (a) else [])) s8 a8 (.tmp 19) := D8.kt q72 rfl
 have q87 : At (Ty.val (Value.string (if rowMay (a) = 0 then bsL (signsB (a)) else ByteArray.empty))) s8 a8 (.tmp 21) := D8.kt q74 rfl
 have q88 : At (Ty.bool ((((((decide ((rowMay (a)) ≠ (rowMay (a)))) || (decide ((rowMay (a)) ≠ (rowMay (a))))) || (decide ((rowMay (a)) ≠ (rowMay (a))))) || (decide ((rowMay (a)) ≠ (rowMay (a))))) || (decide ((rowMay (a)) ≠ (rowMay (a))))) || (decide ((rowMay (a)) ≠ (rowMay (a)))))) s8 a8 (.tmp 87) := D8.done 28
 clear D8
 refine tn ?_
 refine cond_t q88 (fun c1 => ?_) (fun c1 => ?_)
 ·
  exfalso
  simp at c1
 ·
  obtain ⟨d61, d62⟩ := Bool.or_eq_false_iff.mp c1
  obtain ⟨d63, d64⟩ := Bool.or_eq_false_iff.mp d61
  obtain ⟨d65, d66⟩ := Bool.or_eq_false_iff.mp d63
  obtain ⟨d67, d68⟩ := Bool.or_eq_false_iff.mp d65
  obtain ⟨d69, d70⟩ := Bool.or_eq_false_iff.mp d67
  replace d69 := of_decide_eq_false d69
  replace d70 := of_decide_eq_false d70
  replace d68 := of_decide_eq_false d68
  replace d66 := of_decide_eq_false d66
  replace d64 := of_decide_eq_false d64
  replace d62 := of_decide_eq_false d62
  refine wp_skip ?_
  refine tn ?_
  refine wp_seq ?_
  refine wp_seq ?_
  refine reg (a := a8) (σ := s8) rfl (fun i_ => List.getD [(Ty.pr (Ty.int (rowMay (a)))), (Ty.pr (Ty.bool (decide ((rowMay (a)) ≠ (0 : Int)))))] i_ Pr.any) ok8 rfl ⟨?_, ?_, trivial⟩ ?_
  · intro ax tx hs okx sm
    exact run_plain rfl (y_move (kp (sm 11 rfl) hs q81))
  · intro ax tx hs okx sm d0
    have e0 : At (Ty.int (rowMay (a))) tx ax (.tmp 88) := d0 rfl
    exact run_plain rfl (y_neq e0 rfl)
  intro a9 s9 D9
  have ok9 := D9.ok
  have F9 := F8.step0 D9.stp
  have q89 : At (Ty.lst Ty.int a) s9 a9 (.tmp 0) := D9.kt q76 rfl
  have q90 : At (Ty.lst Ty.int b) s9 a9 (.tmp 1) := D9.kt q77 rfl
  have q91 : At (Ty.int n) s9 a9 (.tmp 2) := D9.kt q78 rfl
  have q92 : At (Ty.int k) s9 a9 (.tmp 3) := D9.kt q79 rfl
  have q93 : At (Ty.val (Value.string s)) s9 a9 (.tmp 4) := D9.kt q80 rfl
  have q94 : At (Ty.int (rowMay (a))) s9 a9 (.tmp 11) := D9.kt q81 rfl
  have q95 : At (Ty.lst Ty.ints (if rowMay (a) = 0 then cyclesL (a) else [])) s9 a9 (.tmp 12) := D9.kt q82 rfl
  have q96 : At (Ty.nat (if rowMay (a) = 0 then ordL (a) else 0)) s9 a9 (.tmp 14) := D9.kt q83 rfl
  have q97 : At (Ty.bool (if rowMay (a) = 0 then oddL (a) else false)) s9 a9 (.tmp 15) := D9.kt q84 rfl
  have q98 : At (Ty.nat (if rowMay (a) = 0 then rankL (a) else 0)) s9 a9 (.tmp 17) := D9.kt q85 rfl
  have q99 : At (Ty.lst Ty.int (if rowMay (a) = 0 then undoL (a) else [])) s9 a9 (.tmp 19) := D9.kt q86 rfl
  have q100 : At (Ty.val (Value.string (if rowMay (a) = 0 then bsL (signsB (a)) else ByteArray.empty))) s9 a9 (.tmp 21) := D9.kt q87 rfl
  have q101 : At (Ty.bool (decide ((rowMay (a)) ≠ (0 : Int)))) s9 a9 (.tmp 89) := D9.done 1
  clear D9
  refine tn ?_
  refine Go.KL.join_then (Q' := fun a10 w1 => ∃ (t1 : GW), t1.w = w1 ∧ FromL [] s0 t1 ∧ Ok 284 a10 ∧ At (Ty.lst Ty.int a) t1 a10 (.tmp 0) ∧ At (Ty.lst Ty.int b) t1 a10 (.tmp 1) ∧ At (Ty.int n) t1 a10 (.tmp 2) ∧ At (Ty.int k) t1 a10 (.tmp 3) ∧ At (Ty.val (Value.string s)) t1 a10 (.tmp 4) ∧ At (Ty.int (rowMay (a))) t1 a10 (.tmp 11) ∧ True) ?_ ?_
  ·
   refine cond_p (p := ((rowMay (a)) ≠ (0 : Int))) q101 (fun c2 => ?_) (fun c2 => ?_)
   ·
    have q102 : At (Ty.lst Ty.ints ([] : List (List Int))) s9 a9 (.tmp 12) := cvt (T := (Ty.lst Ty.ints (if rowMay (a) = 0 then cyclesL (a) else []))) (U := (Ty.lst Ty.ints ([] : List (List Int)))) (by rw [if_neg c2]) q95
    have q103 : At (Ty.lst Ty.int ([] : List Int)) s9 a9 (.tmp 19) := cvt (T := (Ty.lst Ty.int (if rowMay (a) = 0 then undoL (a) else []))) (U := (Ty.lst Ty.int ([] : List Int))) (by rw [if_neg c2]) q99
    have q104 : At (Ty.nat 0) s9 a9 (.tmp 14) := cvt (T := (Ty.nat (if rowMay (a) = 0 then ordL (a) else 0))) (U := (Ty.nat 0)) (by rw [if_neg c2]) q96
    have q105 : At (Ty.nat 0) s9 a9 (.tmp 17) := cvt (T := (Ty.nat (if rowMay (a) = 0 then rankL (a) else 0))) (U := (Ty.nat 0)) (by rw [if_neg c2]) q98
    have q106 : At (Ty.val (Value.string ByteArray.empty)) s9 a9 (.tmp 21) := cvt (T := (Ty.val (Value.string (if rowMay (a) = 0 then bsL (signsB (a)) else ByteArray.empty)))) (U := (Ty.val (Value.string ByteArray.empty))) (by rw [if_neg c2]) q100
    have q107 : At (Ty.bool false) s9 a9 (.tmp 15) := cvt (T := (Ty.bool (if rowMay (a) = 0 then oddL (a) else false))) (U := (Ty.bool false)) (by rw [if_neg c2]) q97
    refine wp_seq ?_
    refine reg (a := a9) (σ := s9) rfl (fun i_ => List.getD [(Ty.pr (Ty.lst Ty.ints ([] : List (List Int)))), (Ty.pr (Ty.nat (List.length ([] : List (List Int))))), (Ty.pr (Ty.lst Ty.int ([] : List Int))), (Ty.pr (Ty.nat (List.length ([] : List Int)))), (Ty.pr (Ty.nat ((List.length ([] : List (List Int))) + (List.length ([] : List Int))))), (Ty.pr (Ty.nat 0)), (Ty.pr (Ty.nat (((List.length ([] : List (List Int))) + (List.length ([] : List Int))) + 0))), (Ty.pr (Ty.nat 0)), (Ty.pr (Ty.nat ((((List.length ([] : List (List Int))) + (List.length ([] : List Int))) + 0) + 0))), (Ty.pr (Ty.val (Value.string ByteArray.empty))), (Ty.pr (Ty.nat (ByteArray.size ByteArray.empty))), (Ty.pr (Ty.nat (((((List.length ([] : List (List Int))) + (List.length ([] : List Int))) + 0) + 0) + (ByteArray.size ByteArray.empty)))), (Ty.pr (Ty.bool (decide ((0 : Int) < (((((((List.length ([] : List (List Int))) + (List.length ([] : List Int))) + 0) + 0) + (ByteArray.size ByteArray.empty)) : Nat) : Int))))), (Ty.pr (Ty.bool (decide ((0 : Int) < (((((((List.length ([] : List (List Int))) + (List.length ([] : List Int))) + 0) + 0) + (ByteArray.size ByteArray.empty)) : Nat) : Int))))), (Ty.pr (Ty.grd ((decide ((0 : Int) < (((((((List.length ([] : List (List Int))) + (List.length ([] : List Int))) + 0) + 0) + (ByteArray.size ByteArray.empty)) : Nat) : Int))) = false) (Ty.bool false))), (Ty.pr (Ty.bool ((decide ((0 : Int) < (((((((List.length ([] : List (List Int))) + (List.length ([] : List Int))) + 0) + 0) + (ByteArray.size ByteArray.empty)) : Nat) : Int))) || false)))] i_ Pr.any) ok9 rfl ⟨?_, ?_, ?_, ?_, ?_, ?_, ?_, ?_, ?_, ?_, ?_, ?_, ?_, ?_, ?_, ?_, trivial⟩ ?_
    · intro ax tx hs okx sm
      exact run_plain rfl (y_move (kp (sm 12 rfl) hs q102))
    · intro ax tx hs okx sm d0
      have e0 : At (Ty.lst Ty.ints ([] : List (List Int))) tx ax (.tmp 90) := d0 rfl
      exact run_plain rfl (y_len Try.underlying33 e0)
    · intro ax tx hs okx sm
      exact run_plain rfl (y_move (kp (sm 19 rfl) hs q103))
    · intro ax tx hs okx sm d0
      have e2 : At (Ty.lst Ty.int ([] : List Int)) tx ax (.tmp 92) := d0 rfl
      exact run_plain rfl (y_len Try.underlying34 e2)
    · intro ax tx hs okx sm d0 d1
      have e1 : At (Ty.nat (List.length ([] : List (List Int)))) tx ax (.tmp 91) := d0 rfl
      have e3 : At (Ty.nat (List.length ([] : List Int))) tx ax (.tmp 93) := d1 rfl
      exact run_plain rfl ((y_add e1 e3 (w64 (by omega) (by omega))).mono (fun τ _ h => cvi (σ := τ) (by first | omega | exact (Int.natCast_mul _ _).symm) h))
    · intro ax tx hs okx sm
      exact run_plain rfl (y_move (kp (sm 14 rfl) hs q104))
    · intro ax tx hs okx sm d0 d1
      have e4 : At (Ty.nat ((List.length ([] : List (List Int))) + (List.length ([] : List Int)))) tx ax (.tmp 94) := d0 rfl
      have e5 : At (Ty.nat 0) tx ax (.tmp 95) := d1 rfl
      exact run_plain rfl ((y_add e4 e5 (w64 (by omega) (by omega))).mono (fun τ _ h => cvi (σ := τ) (by first | omega | exact (Int.natCast_mul _ _).symm) h))
    · intro ax tx hs okx sm
      exact run_plain rfl (y_move (kp (sm 17 rfl) hs q105))
    · intro ax tx hs okx sm d0 d1
      have e6 : At (Ty.nat (((List.length ([] : List (List Int))) + (List.length ([] : List Int))) + 0)) tx ax (.tmp 96) := d0 rfl
      have e7 : At (Ty.nat 0) tx ax (.tmp 97) := d1 rfl
      exact run_plain rfl ((y_add e6 e7 (w64 (by omega) (by omega))).mono (fun τ _ h => cvi (σ := τ) (by first | omega | exact (Int.natCast_mul _ _).symm) h))
    · intro ax tx hs okx sm
      exact run_plain rfl (y_move (kp (sm 21 rfl) hs q106))
    · intro ax tx hs okx sm d0
      have e9 : At (Ty.val (Value.string ByteArray.empty)) tx ax (.tmp 99) := d0 rfl
      exact run_plain rfl (y_len_str Try.underlying9 e9)
    · intro ax tx hs okx sm d0 d1
      have e8 : At (Ty.nat ((((List.length ([] : List (List Int))) + (List.length ([] : List Int))) + 0) + 0)) tx ax (.tmp 98) := d0 rfl
      have e10 : At (Ty.nat (ByteArray.size ByteArray.empty)) tx ax (.tmp 100) := d1 rfl
      exact run_plain rfl ((y_add e8 e10 (w64 (by omega) (by omega))).mono (fun τ _ h => cvi (σ := τ) (by first | omega | exact (Int.natCast_mul _ _).symm) h))
    · intro ax tx hs okx sm d0
      have e11 : At (Ty.nat (((((List.length ([] : List (List Int))) + (List.length ([] : List Int))) + 0) + 0) + (ByteArray.size ByteArray.empty))) tx ax (.tmp 101) := d0 rfl
      exact run_plain rfl (y_gtr e11 rfl)
    · intro ax tx hs okx sm d0
      have e12 : At (Ty.bool (decide ((0 : Int) < (((((((List.length ([] : List (List Int))) + (List.length ([] : List Int))) + 0) + 0) + (ByteArray.size ByteArray.empty)) : Nat) : Int)))) tx ax (.tmp 102) := d0 rfl
      exact run_plain rfl (y_move e12)
    · intro ax tx hs okx sm d0
      have e13 : At (Ty.bool (decide ((0 : Int) < (((((((List.length ([] : List (List Int))) + (List.length ([] : List Int))) + 0) + 0) + (ByteArray.size ByteArray.empty)) : Nat) : Int)))) tx ax (.tmp 103) := d0 rfl
      refine run_guard (T := (Ty.bool false)) okx rfl rfl (by decide) e13 (fun hg => ?_)
      have hp := of_decide_eq_false hg
      exact y_move (kp (sm 15 rfl) hs q107)
    · intro ax tx hs okx sm d0 d1
      have e13 : At (Ty.bool (decide ((0 : Int) < (((((((List.length ([] : List (List Int))) + (List.length ([] : List Int))) + 0) + 0) + (ByteArray.size ByteArray.empty)) : Nat) : Int)))) tx ax (.tmp 103) := d0 rfl
      have e14 : At (Ty.grd ((decide ((0 : Int) < (((((((List.length ([] : List (List Int))) + (List.length ([] : List Int))) + 0) + 0) + (ByteArray.size ByteArray.empty)) : Nat) : Int))) = false) (Ty.bool false)) tx ax (.tmp 104) := d1 rfl
      exact run_plain rfl (y_pick_or e13 rfl e14)
    intro a11 s10 D10
    have ok10 := D10.ok
    have F10 := F9.step0 D10.stp
    have q108 : At (Ty.lst Ty.int a) s10 a11 (.tmp 0) := D10.kt q89 rfl
    have q109 : At (Ty.lst Ty.int b) s10 a11 (.tmp 1) := D10.kt q90 rfl
    have q110 : At (Ty.int n) s10 a11 (.tmp 2) := D10.kt q91 rfl
    have q111 : At (Ty.int k) s10 a11 (.tmp 3) := D10.kt q92 rfl
    have q112 : At (Ty.val (Value.string s)) s10 a11 (.tmp 4) := D10.kt q93 rfl
    have q113 : At (Ty.int (rowMay (a))) s10 a11 (.tmp 11) := D10.kt q94 rfl
    have q114 : At (Ty.bool ((decide ((0 : Int) < (((((((List.length ([] : List (List Int))) + (List.length ([] : List Int))) + 0) + 0) + (ByteArray.size ByteArray.empty)) : Nat) : Int))) || false)) s10 a11 (.tmp 105) := D10.done 15
    clear D10
    refine tn ?_
    refine cond_t q114 (fun c3 => ?_) (fun c3 => ?_)
    ·
     exfalso
     simp at c3
    ·
     obtain ⟨d71, d72⟩ := Bool.or_eq_false_iff.mp c3
     replace d71 := of_decide_eq_false d71
     refine wp_skip ?_
     exact tn ⟨s10, rfl, F10, ok10, q108, q109, q110, q111, q112, q113, trivial⟩
   ·
    have h0 := Classical.not_not.1 c2; have hr := rowMay_ok.1 h0; have hrl := hr.le; have h12 : ∀ i, i < a.length → 0 ≤ a.getD i 0 ∧ a.getD i 0 < 12 := fun i hi => hr.lt12 hi
    have q115 : At (Ty.lst Ty.ints (cyclesL a)) s9 a9 (.tmp 12) := cvt (T := (Ty.lst Ty.ints (if rowMay (a) = 0 then cyclesL (a) else []))) (U := (Ty.lst Ty.ints (cyclesL a))) (by rw [if_pos h0]) q95
    have q116 : At (Ty.nat (ordL a)) s9 a9 (.tmp 14) := cvt (T := (Ty.nat (if rowMay (a) = 0 then ordL (a) else 0))) (U := (Ty.nat (ordL a))) (by rw [if_pos h0]) q96
    have q117 : At (Ty.bool (oddL a)) s9 a9 (.tmp 15) := cvt (T := (Ty.bool (if rowMay (a) = 0 then oddL (a) else false))) (U := (Ty.bool (oddL a))) (by rw [if_pos h0]) q97
    have q118 : At (Ty.nat (rankL a)) s9 a9 (.tmp 17) := cvt (T := (Ty.nat (if rowMay (a) = 0 then rankL (a) else 0))) (U := (Ty.nat (rankL a))) (by rw [if_pos h0]) q98
    have q119 : At (Ty.lst Ty.int (undoL a)) s9 a9 (.tmp 19) := cvt (T := (Ty.lst Ty.int (if rowMay (a) = 0 then undoL (a) else []))) (U := (Ty.lst Ty.int (undoL a))) (by rw [if_pos h0]) q99
    have q120 : At (Ty.val (Value.string (bsL (signsB a)))) s9 a9 (.tmp 21) := cvt (T := (Ty.val (Value.string (if rowMay (a) = 0 then bsL (signsB (a)) else ByteArray.empty)))) (U := (Ty.val (Value.string (bsL (signsB a))))) (by rw [if_pos h0]) q100
    refine wp_seq ?_
    refine reg (a := a9) (σ := s9) rfl (fun i_ => List.getD [(Ty.pr (Ty.lst Ty.int a)), (Ty.pr (Ty.tup2 (Ty.nat (ordL (a))) (Ty.bool (oddL (a))))), (Ty.pr (Ty.tup2 (Ty.nat (ordL (a))) (Ty.bool (oddL (a))))), (Ty.pr (Ty.nat (ordL (a)))), (Ty.pr (Ty.bool (oddL (a)))), (Ty.pr (Ty.nat (ordL (a)))), (Ty.pr (Ty.bool (oddL (a))))] i_ Pr.any) ok9 rfl ⟨?_, ?_, ?_, ?_, ?_, ?_, ?_, trivial⟩ ?_
    · intro ax tx hs okx sm
      exact run_plain rfl (y_move (kp (sm 0 rfl) hs q89))
    · intro ax tx hs okx sm d0
      have e0 : At (Ty.lst Ty.int a) tx ax (.tmp 107) := d0 rfl
      exact run_plain rfl (y_call #[ax.eval (.tmp 107)] Try.func22 rfl rfl (by simp only [List.map_toArray, List.map_cons, List.map_nil]) (rOrder_fn (a) _ _ e0 (by first | omega | assumption)))
    · intro ax tx hs okx sm d0
      have e1 : At (Ty.tup2 (Ty.nat (ordL (a))) (Ty.bool (oddL (a)))) tx ax (.tmp 108) := d0 rfl
      exact run_plain rfl (y_move e1)
    · intro ax tx hs okx sm d0
      have e2 : At (Ty.tup2 (Ty.nat (ordL (a))) (Ty.bool (oddL (a)))) tx ax (.tmp 106) := d0 rfl
      exact run_plain rfl (y_ext2_0 e2)
    · intro ax tx hs okx sm d0 d1
      have e2 : At (Ty.tup2 (Ty.nat (ordL (a))) (Ty.bool (oddL (a)))) tx ax (.tmp 106) := d0 rfl
      exact run_plain rfl (y_ext2_1 e2)
    · intro ax tx hs okx sm d0 d1 d2 d3 d4 d5 d6
      have e3 : At (Ty.nat (ordL (a))) tx ax (.tmp 109) := d0 rfl
      have e1 : At (Ty.tup2 (Ty.nat (ordL (a))) (Ty.bool (oddL (a)))) tx ax (.tmp 108) := d1 rfl
      have e0 : At (Ty.lst Ty.int a) tx ax (.tmp 107) := d2 rfl
      have e2 : At (Ty.tup2 (Ty.nat (ordL (a))) (Ty.bool (oddL (a)))) tx ax (.tmp 106) := d4 rfl
      exact run_plain rfl (y_assign e3)
    · intro ax tx hs okx sm d0 d1 d2 d3 d4 d5 d6 d7
      have e4 : At (Ty.bool (oddL (a))) tx ax (.tmp 110) := d0 rfl
      have e5 : At (Ty.nat (ordL (a))) tx ax (.tmp 23) := d1 rfl
      have e0 : At (Ty.lst Ty.int a) tx ax (.tmp 107) := d2 rfl
      have e1 : At (Ty.tup2 (Ty.nat (ordL (a))) (Ty.bool (oddL (a)))) tx ax (.tmp 108) := d3 rfl
      have e2 : At (Ty.tup2 (Ty.nat (ordL (a))) (Ty.bool (oddL (a)))) tx ax (.tmp 106) := d4 rfl
      have e3 : At (Ty.nat (ordL (a))) tx ax (.tmp 109) := d5 rfl
      exact run_plain rfl (y_assign e4)
    intro a12 s11 D11
    have ok11 := D11.ok
    have F11 := F9.step0 D11.stp
    have q121 : At (Ty.lst Ty.int a) s11 a12 (.tmp 0) := D11.kt q89 rfl
    have q122 : At (Ty.lst Ty.int b) s11 a12 (.tmp 1) := D11.kt q90 rfl
    have q123 : At (Ty.int n) s11 a12 (.tmp 2) := D11.kt q91 rfl
    have q124 : At (Ty.int k) s11 a12 (.tmp 3) := D11.kt q92 rfl
    have q125 : At (Ty.val (Value.string s)) s11 a12 (.tmp 4) := D11.kt q93 rfl
    have q126 : At (Ty.int (rowMay (a))) s11 a12 (.tmp 11) := D11.kt q94 rfl
    have q127 : At (Ty.lst Ty.ints (cyclesL a)) s11 a12 (.tmp 12) := D11.kt q115 rfl
    have q128 : At (Ty.nat (ordL a)) s11 a12 (.tmp 14) := D11.kt q116 rfl
    have q129 : At (Ty.bool (oddL a)) s11 a12 (.tmp 15) := D11.kt q117 rfl
    have q130 : At (Ty.nat (rankL a)) s11 a12 (.tmp 17) := D11.kt q118 rfl
    have q131 : At (Ty.lst Ty.int (undoL a)) s11 a12 (.tmp 19) := D11.kt q119 rfl
    have q132 : At (Ty.val (Value.string (bsL (signsB a)))) s11 a12 (.tmp 21) := D11.kt q120 rfl
    have q133 : At (Ty.nat (ordL (a))) s11 a12 (.tmp 23) := D11.done 5
    have q134 : At (Ty.bool (oddL (a))) s11 a12 (.tmp 24) := D11.done 6
    clear D11
    refine tn ?_
    refine wp_seq ?_
    refine reg (a := a12) (σ := s11) rfl (fun i_ => List.getD [(Ty.pr (Ty.lst Ty.ints (cyclesL a))), (Ty.pr (Ty.lst Ty.int a)), (Ty.pr (Ty.lst Ty.ints (cyclesL (a)))), (Ty.pr (Ty.bool (decide (((cyclesL a)) = ((cyclesL (a))))))), (Ty.pr (Ty.bool (!(decide (((cyclesL a)) = ((cyclesL (a)))))))), (Ty.pr (Ty.bool (!(decide (((cyclesL a)) = ((cyclesL (a)))))))), (Ty.pr (Ty.grd ((!(decide (((cyclesL a)) = ((cyclesL (a)))))) = false) (Ty.nat (ordL a)))), (Ty.pr (Ty.grd ((!(decide (((cyclesL a)) = ((cyclesL (a)))))) = false) (Ty.nat (ordL (a))))), (Ty.pr (Ty.grd ((!(decide (((cyclesL a)) = ((cyclesL (a)))))) = false) (Ty.bool (decide ((((ordL a) : Nat) : Int) ≠ (((ordL (a)) : Nat) : Int)))))), (Ty.pr (Ty.bool ((!(decide (((cyclesL a)) = ((cyclesL (a)))))) || (decide ((((ordL a) : Nat) : Int) ≠ (((ordL (a)) : Nat) : Int)))))), (Ty.pr (Ty.bool ((!(decide (((cyclesL a)) = ((cyclesL (a)))))) || (decide ((((ordL a) : Nat) : Int) ≠ (((ordL (a)) : Nat) : Int)))))), (Ty.pr (Ty.grd (((!(decide (((cyclesL a)) = ((cyclesL (a)))))) || (decide ((((ordL a) : Nat) : Int) ≠ (((ordL (a)) : Nat) : Int)))) = false) (Ty.bool (oddL a)))), (Ty.pr (Ty.grd (((!(decide (((cyclesL a)) = ((cyclesL (a)))))) || (decide ((((ordL a) : Nat) : Int) ≠ (((ordL (a)) : Nat) : Int)))) = false) (Ty.bool (oddL (a))))), (Ty.pr (Ty.grd (((!(decide (((cyclesL a)) = ((cyclesL (a)))))) || (decide ((((ordL a) : Nat) : Int) ≠ (((ordL (a)) : Nat) : Int)))) = false) (Ty.bool ((oddL a) != (oddL (a)))))), (Ty.pr (Ty.bool (((!(decide (((cyclesL a)) = ((cyclesL (a)))))) || (decide ((((ordL a) : Nat) : Int) ≠ (((ordL (a)) : Nat) : Int)))) || ((oddL a) != (oddL (a)))))), (Ty.pr (Ty.bool (((!(decide (((cyclesL a)) = ((cyclesL (a)))))) || (decide ((((ordL a) : Nat) : Int) ≠ (((ordL (a)) : Nat) : Int)))) || ((oddL a) != (oddL (a)))))), (Ty.pr (Ty.grd ((((!(decide (((cyclesL a)) = ((cyclesL (a)))))) || (decide ((((ordL a) : Nat) : Int) ≠ (((ordL (a)) : Nat) : Int)))) || ((oddL a) != (oddL (a)))) = false) (Ty.nat (rankL a)))), (Ty.pr (Ty.grd ((((!(decide (((cyclesL a)) = ((cyclesL (a)))))) || (decide ((((ordL a) : Nat) : Int) ≠ (((ordL (a)) : Nat) : Int)))) || ((oddL a) != (oddL (a)))) = false) (Ty.lst Ty.int a))), (Ty.pr (Ty.grd ((((!(decide (((cyclesL a)) = ((cyclesL (a)))))) || (decide ((((ordL a) : Nat) : Int) ≠ (((ordL (a)) : Nat) : Int)))) || ((oddL a) != (oddL (a)))) = false) (Ty.nat (rankL (a))))), (Ty.pr (Ty.grd ((((!(decide (((cyclesL a)) = ((cyclesL (a)))))) || (decide ((((ordL a) : Nat) : Int) ≠ (((ordL (a)) : Nat) : Int)))) || ((oddL a) != (oddL (a)))) = false) (Ty.bool (decide ((((rankL a) : Nat) : Int) ≠ (((rankL (a)) : Nat) : Int)))))), (Ty.pr (Ty.bool ((((!(decide (((cyclesL a)) = ((cyclesL (a)))))) || (decide ((((ordL a) : Nat) : Int) ≠ (((ordL (a)) : Nat) : Int)))) || ((oddL a) != (oddL (a)))) || (decide ((((rankL a) : Nat) : Int) ≠ (((rankL (a)) : Nat) : Int)))))), (Ty.pr (Ty.bool ((((!(decide (((cyclesL a)) = ((cyclesL (a)))))) || (decide ((((ordL a) : Nat) : Int) ≠ (((ordL (a)) : Nat) : Int)))) || ((oddL a) != (oddL (a)))) || (decide ((((rankL a) : Nat) : Int) ≠ (((rankL (a)) : Nat) : Int)))))), (Ty.pr (Ty.grd (((((!(decide (((cyclesL a)) = ((cyclesL (a)))))) || (decide ((((ordL a) : Nat) : Int) ≠ (((ordL (a)) : Nat) : Int)))) || ((oddL a) != (oddL (a)))) || (decide ((((rankL a) : Nat) : Int) ≠ (((rankL (a)) : Nat) : Int)))) = false) (Ty.lst Ty.int (undoL a)))), (Ty.pr (Ty.grd (((((!(decide (((cyclesL a)) = ((cyclesL (a)))))) || (decide ((((ordL a) : Nat) : Int) ≠ (((ordL (a)) : Nat) : Int)))) || ((oddL a) != (oddL (a)))) || (decide ((((rankL a) : Nat) : Int) ≠ (((rankL (a)) : Nat) : Int)))) = false) (Ty.lst Ty.int a))), (Ty.pr (Ty.grd (((((!(decide (((cyclesL a)) = ((cyclesL (a)))))) || (decide ((((ordL a) : Nat) : Int) ≠ (((ordL (a)) : Nat) : Int)))) || ((oddL a) != (oddL (a)))) || (decide ((((rankL a) : Nat) : Int) ≠ (((rankL (a)) : Nat) : Int)))) = false) (Ty.lst Ty.int (undoL (a))))), (Ty.pr (Ty.grd (((((!(decide (((cyclesL a)) = ((cyclesL (a)))))) || (decide ((((ordL a) : Nat) : Int) ≠ (((ordL (a)) : Nat) : Int)))) || ((oddL a) != (oddL (a)))) || (decide ((((rankL a) : Nat) : Int) ≠ (((rankL (a)) : Nat) : Int)))) = false) (Ty.bool (decide (((undoL a)) = ((undoL (a)))))))), (Ty.pr (Ty.grd (((((!(decide (((cyclesL a)) = ((cyclesL (a)))))) || (decide ((((ordL a) : Nat) : Int) ≠ (((ordL (a)) : Nat) : Int)))) || ((oddL a) != (oddL (a)))) || (decide ((((rankL a) : Nat) : Int) ≠ (((rankL (a)) : Nat) : Int)))) = false) (Ty.bool (!(decide (((undoL a)) = ((undoL (a))))))))), (Ty.pr (Ty.bool (((((!(decide (((cyclesL a)) = ((cyclesL (a)))))) || (decide ((((ordL a) : Nat) : Int) ≠ (((ordL (a)) : Nat) : Int)))) || ((oddL a) != (oddL (a)))) || (decide ((((rankL a) : Nat) : Int) ≠ (((rankL (a)) : Nat) : Int)))) || (!(decide (((undoL a)) = ((undoL (a))))))))), (Ty.pr (Ty.bool (((((!(decide (((cyclesL a)) = ((cyclesL (a)))))) || (decide ((((ordL a) : Nat) : Int) ≠ (((ordL (a)) : Nat) : Int)))) || ((oddL a) != (oddL (a)))) || (decide ((((rankL a) : Nat) : Int) ≠ (((rankL (a)) : Nat) : Int)))) || (!(decide (((undoL a)) = ((undoL (a))))))))), (Ty.pr (Ty.grd ((((((!(decide (((cyclesL a)) = ((cyclesL (a)))))) || (decide ((((ordL a) : Nat) : Int) ≠ (((ordL (a)) : Nat) : Int)))) || ((oddL a) != (oddL (a)))) || (decide ((((rankL a) : Nat) : Int) ≠ (((rankL (a)) : Nat) : Int)))) || (!(decide (((undoL a)) = ((undoL (a))))))) = false) (Ty.val (Value.string (bsL (signsB a)))))), (Ty.pr (Ty.grd ((((((!(decide (((cyclesL a)) = ((cyclesL (a)))))) || (decide ((((ordL a) : Nat) : Int) ≠ (((ordL (a)) : Nat) : Int)))) || ((oddL a) != (oddL (a)))) || (decide ((((rankL a) : Nat) : Int) ≠ (((rankL (a)) : Nat) : Int)))) || (!(decide (((undoL a)) = ((undoL (a))))))) = false) (Ty.lst Ty.int a))), (Ty.pr (Ty.grd ((((((!(decide (((cyclesL a)) = ((cyclesL (a)))))) || (decide ((((ordL a) : Nat) : Int) ≠ (((ordL (a)) : Nat) : Int)))) || ((oddL a) != (oddL (a)))) || (decide ((((rankL a) : Nat) : Int) ≠ (((rankL (a)) : Nat) : Int)))) || (!(decide (((undoL a)) = ((undoL (a))))))) = false) (Ty.val (Value.string (bsL (signsB (a))))))), (Ty.pr (Ty.grd ((((((!(decide (((cyclesL a)) = ((cyclesL (a)))))) || (decide ((((ordL a) : Nat) : Int) ≠ (((ordL (a)) : Nat) : Int)))) || ((oddL a) != (oddL (a)))) || (decide ((((rankL a) : Nat) : Int) ≠ (((rankL (a)) : Nat) : Int)))) || (!(decide (((undoL a)) = ((undoL (a))))))) = false) (Ty.bool (!(decide ((bsL (signsB a)) = (bsL (signsB (a))))))))), (Ty.pr (Ty.bool ((((((!(decide (((cyclesL a)) = ((cyclesL (a)))))) || (decide ((((ordL a) : Nat) : Int) ≠ (((ordL (a)) : Nat) : Int)))) || ((oddL a) != (oddL (a)))) || (decide ((((rankL a) : Nat) : Int) ≠ (((rankL (a)) : Nat) : Int)))) || (!(decide (((undoL a)) = ((undoL (a))))))) || (!(decide ((bsL (signsB a)) = (bsL (signsB (a)))))))))] i_ Pr.any) ok11 rfl ⟨?_, ?_, ?_, ?_, ?_, ?_, ?_, ?_, ?_, ?_, ?_, ?_, ?_, ?_, ?_, ?_, ?_, ?_, ?_, ?_, ?_, ?_, ?_, ?_, ?_, ?_, ?_, ?_, ?_, ?_, ?_, ?_, ?_, ?_, trivial⟩ ?_
    · intro ax tx hs okx sm
      exact run_plain rfl (y_move (kp (sm 12 rfl) hs q127))
    · intro ax tx hs okx sm
      exact run_plain rfl (y_move (kp (sm 0 rfl) hs q121))
    · intro ax tx hs okx sm d0
      have e1 : At (Ty.lst Ty.int a) tx ax (.tmp 112) := d0 rfl
      exact run_plain rfl (y_call #[ax.eval (.tmp 112)] Try.func46 rfl rfl (by simp only [List.map_toArray, List.map_cons, List.map_nil]) (rCycles_fn (a) _ _ e1 (by first | omega | assumption)))
    · intro ax tx hs okx sm d0 d1 d2
      have e0 : At (Ty.lst Ty.ints (cyclesL a)) tx ax (.tmp 111) := d0 rfl
      have e2 : At (Ty.lst Ty.ints (cyclesL (a))) tx ax (.tmp 113) := d1 rfl
      exact run_plain rfl (y_call #[ax.eval (.tmp 111), ax.eval (.tmp 113)] Try.func45 rfl rfl (by simp only [List.map_toArray, List.map_cons, List.map_nil]) (rSameAll_fn ((cyclesL a)) ((cyclesL (a))) _ _ _ e0 e2 ))
    · intro ax tx hs okx sm d0
      have e3 : At (Ty.bool (decide (((cyclesL a)) = ((cyclesL (a)))))) tx ax (.tmp 114) := d0 rfl
      exact run_plain rfl (y_not e3)
    · intro ax tx hs okx sm d0 d1
      have e4 : At (Ty.bool (!(decide (((cyclesL a)) = ((cyclesL (a))))))) tx ax (.tmp 115) := d0 rfl
      have e3 : At (Ty.bool (decide (((cyclesL a)) = ((cyclesL (a)))))) tx ax (.tmp 114) := d1 rfl
      exact run_plain rfl (y_move e4)
    · intro ax tx hs okx sm d0
      have e5 : At (Ty.bool (!(decide (((cyclesL a)) = ((cyclesL (a))))))) tx ax (.tmp 116) := d0 rfl
      refine run_guard (T := (Ty.nat (ordL a))) okx rfl rfl (by decide) e5 (fun hg => ?_)
      exact y_move (kp (sm 14 rfl) hs q128)
    · intro ax tx hs okx sm d0
      have e5 : At (Ty.bool (!(decide (((cyclesL a)) = ((cyclesL (a))))))) tx ax (.tmp 116) := d0 rfl
      refine run_guard (T := (Ty.nat (ordL (a)))) okx rfl rfl (by decide) e5 (fun hg => ?_)
      exact y_move (kp (sm 23 rfl) hs q133)
    · intro ax tx hs okx sm d0 d1 d2
      have e6 : At (Ty.grd ((!(decide (((cyclesL a)) = ((cyclesL (a)))))) = false) (Ty.nat (ordL a))) tx ax (.tmp 117) := d0 rfl
      have e7 : At (Ty.grd ((!(decide (((cyclesL a)) = ((cyclesL (a)))))) = false) (Ty.nat (ordL (a)))) tx ax (.tmp 118) := d1 rfl
      have e5 : At (Ty.bool (!(decide (((cyclesL a)) = ((cyclesL (a))))))) tx ax (.tmp 116) := d2 rfl
      refine run_guard (T := (Ty.bool (decide ((((ordL a) : Nat) : Int) ≠ (((ordL (a)) : Nat) : Int))))) okx rfl rfl (by decide) e5 (fun hg => ?_)
      exact y_neq (e6.1 hg) (e7.1 hg)
    · intro ax tx hs okx sm d0 d1
      have e5 : At (Ty.bool (!(decide (((cyclesL a)) = ((cyclesL (a))))))) tx ax (.tmp 116) := d0 rfl
      have e8 : At (Ty.grd ((!(decide (((cyclesL a)) = ((cyclesL (a)))))) = false) (Ty.bool (decide ((((ordL a) : Nat) : Int) ≠ (((ordL (a)) : Nat) : Int))))) tx ax (.tmp 119) := d1 rfl
      exact run_plain rfl (y_pick_or e5 rfl e8)
    · intro ax tx hs okx sm d0 d1
      have e9 : At (Ty.bool ((!(decide (((cyclesL a)) = ((cyclesL (a)))))) || (decide ((((ordL a) : Nat) : Int) ≠ (((ordL (a)) : Nat) : Int))))) tx ax (.tmp 120) := d0 rfl
      have e5 : At (Ty.bool (!(decide (((cyclesL a)) = ((cyclesL (a))))))) tx ax (.tmp 116) := d1 rfl
      exact run_plain rfl (y_move e9)
    · intro ax tx hs okx sm d0
      have e10 : At (Ty.bool ((!(decide (((cyclesL a)) = ((cyclesL (a)))))) || (decide ((((ordL a) : Nat) : Int) ≠ (((ordL (a)) : Nat) : Int))))) tx ax (.tmp 121) := d0 rfl
      refine run_guard (T := (Ty.bool (oddL a))) okx rfl rfl (by decide) e10 (fun hg => ?_)
      obtain ⟨d73, d74⟩ := Bool.or_eq_false_iff.mp hg
      have d74 := of_decide_eq_false d74
      exact y_move (kp (sm 15 rfl) hs q129)
    · intro ax tx hs okx sm d0
      have e10 : At (Ty.bool ((!(decide (((cyclesL a)) = ((cyclesL (a)))))) || (decide ((((ordL a) : Nat) : Int) ≠ (((ordL (a)) : Nat) : Int))))) tx ax (.tmp 121) := d0 rfl
      refine run_guard (T := (Ty.bool (oddL (a)))) okx rfl rfl (by decide) e10 (fun hg => ?_)
      obtain ⟨d75, d76⟩ := Bool.or_eq_false_iff.mp hg
      have d76 := of_decide_eq_false d76
      exact y_move (kp (sm 24 rfl) hs q134)
    · intro ax tx hs okx sm d0 d1 d2
      have e11 : At (Ty.grd (((!(decide (((cyclesL a)) = ((cyclesL (a)))))) || (decide ((((ordL a) : Nat) : Int) ≠ (((ordL (a)) : Nat) : Int)))) = false) (Ty.bool (oddL a))) tx ax (.tmp 122) := d0 rfl
      have e12 : At (Ty.grd (((!(decide (((cyclesL a)) = ((cyclesL (a)))))) || (decide ((((ordL a) : Nat) : Int) ≠ (((ordL (a)) : Nat) : Int)))) = false) (Ty.bool (oddL (a)))) tx ax (.tmp 123) := d1 rfl
      have e10 : At (Ty.bool ((!(decide (((cyclesL a)) = ((cyclesL (a)))))) || (decide ((((ordL a) : Nat) : Int) ≠ (((ordL (a)) : Nat) : Int))))) tx ax (.tmp 121) := d2 rfl
      refine run_guard (T := (Ty.bool ((oddL a) != (oddL (a))))) okx rfl rfl (by decide) e10 (fun hg => ?_)
      obtain ⟨d77, d78⟩ := Bool.or_eq_false_iff.mp hg
      have d78 := of_decide_eq_false d78
      exact y_neqB Try.underlying4 (e11.1 hg) (e12.1 hg)
    · intro ax tx hs okx sm d0 d1
      have e10 : At (Ty.bool ((!(decide (((cyclesL a)) = ((cyclesL (a)))))) || (decide ((((ordL a) : Nat) : Int) ≠ (((ordL (a)) : Nat) : Int))))) tx ax (.tmp 121) := d0 rfl
      have e13 : At (Ty.grd (((!(decide (((cyclesL a)) = ((cyclesL (a)))))) || (decide ((((ordL a) : Nat) : Int) ≠ (((ordL (a)) : Nat) : Int)))) = false) (Ty.bool ((oddL a) != (oddL (a))))) tx ax (.tmp 124) := d1 rfl
      exact run_plain rfl (y_pick_or e10 rfl e13)
    · intro ax tx hs okx sm d0 d1
      have e14 : At (Ty.bool (((!(decide (((cyclesL a)) = ((cyclesL (a)))))) || (decide ((((ordL a) : Nat) : Int) ≠ (((ordL (a)) : Nat) : Int)))) || ((oddL a) != (oddL (a))))) tx ax (.tmp 125) := d0 rfl
      have e10 : At (Ty.bool ((!(decide (((cyclesL a)) = ((cyclesL (a)))))) || (decide ((((ordL a) : Nat) : Int) ≠ (((ordL (a)) : Nat) : Int))))) tx ax (.tmp 121) := d1 rfl
      exact run_plain rfl (y_move e14)
    · intro ax tx hs okx sm d0
      have e15 : At (Ty.bool (((!(decide (((cyclesL a)) = ((cyclesL (a)))))) || (decide ((((ordL a) : Nat) : Int) ≠ (((ordL (a)) : Nat) : Int)))) || ((oddL a) != (oddL (a))))) tx ax (.tmp 126) := d0 rfl
      refine run_guard (T := (Ty.nat (rankL a))) okx rfl rfl (by decide) e15 (fun hg => ?_)
      obtain ⟨d79, d80⟩ := Bool.or_eq_false_iff.mp hg
      obtain ⟨d81, d82⟩ := Bool.or_eq_false_iff.mp d79
      have d82 := of_decide_eq_false d82
      exact y_move (kp (sm 17 rfl) hs q130)
    · intro ax tx hs okx sm d0
      have e15 : At (Ty.bool (((!(decide (((cyclesL a)) = ((cyclesL (a)))))) || (decide ((((ordL a) : Nat) : Int) ≠ (((ordL (a)) : Nat) : Int)))) || ((oddL a) != (oddL (a))))) tx ax (.tmp 126) := d0 rfl
      refine run_guard (T := (Ty.lst Ty.int a)) okx rfl rfl (by decide) e15 (fun hg => ?_)
      obtain ⟨d83, d84⟩ := Bool.or_eq_false_iff.mp hg
      obtain ⟨d85, d86⟩ := Bool.or_eq_false_iff.mp d83
      have d86 := of_decide_eq_false d86
      exact y_move (kp (sm 0 rfl) hs q121)
    · intro ax tx hs okx sm d0 d1 d2
      have e17 : At (Ty.grd ((((!(decide (((cyclesL a)) = ((cyclesL (a)))))) || (decide ((((ordL a) : Nat) : Int) ≠ (((ordL (a)) : Nat) : Int)))) || ((oddL a) != (oddL (a)))) = false) (Ty.lst Ty.int a)) tx ax (.tmp 128) := d0 rfl
      have e15 : At (Ty.bool (((!(decide (((cyclesL a)) = ((cyclesL (a)))))) || (decide ((((ordL a) : Nat) : Int) ≠ (((ordL (a)) : Nat) : Int)))) || ((oddL a) != (oddL (a))))) tx ax (.tmp 126) := d1 rfl
      refine run_guard (T := (Ty.nat (rankL (a)))) okx rfl rfl (by decide) e15 (fun hg => ?_)
      obtain ⟨d87, d88⟩ := Bool.or_eq_false_iff.mp hg
      obtain ⟨d89, d90⟩ := Bool.or_eq_false_iff.mp d87
      have d90 := of_decide_eq_false d90
      exact y_call #[ax.eval (.tmp 128)] Try.func47 rfl rfl (by simp only [List.map_toArray, List.map_cons, List.map_nil]) (rRank_fn (a) _ _ (e17.1 hg) (by first | omega | assumption))
    · intro ax tx hs okx sm d0 d1 d2
      have e16 : At (Ty.grd ((((!(decide (((cyclesL a)) = ((cyclesL (a)))))) || (decide ((((ordL a) : Nat) : Int) ≠ (((ordL (a)) : Nat) : Int)))) || ((oddL a) != (oddL (a)))) = false) (Ty.nat (rankL a))) tx ax (.tmp 127) := d0 rfl
      have e18 : At (Ty.grd ((((!(decide (((cyclesL a)) = ((cyclesL (a)))))) || (decide ((((ordL a) : Nat) : Int) ≠ (((ordL (a)) : Nat) : Int)))) || ((oddL a) != (oddL (a)))) = false) (Ty.nat (rankL (a)))) tx ax (.tmp 129) := d1 rfl
      have e15 : At (Ty.bool (((!(decide (((cyclesL a)) = ((cyclesL (a)))))) || (decide ((((ordL a) : Nat) : Int) ≠ (((ordL (a)) : Nat) : Int)))) || ((oddL a) != (oddL (a))))) tx ax (.tmp 126) := d2 rfl
      refine run_guard (T := (Ty.bool (decide ((((rankL a) : Nat) : Int) ≠ (((rankL (a)) : Nat) : Int))))) okx rfl rfl (by decide) e15 (fun hg => ?_)
      obtain ⟨d91, d92⟩ := Bool.or_eq_false_iff.mp hg
      obtain ⟨d93, d94⟩ := Bool.or_eq_false_iff.mp d91
      have d94 := of_decide_eq_false d94
      exact y_neq (e16.1 hg) (e18.1 hg)
    · intro ax tx hs okx sm d0 d1
      have e15 : At (Ty.bool (((!(decide (((cyclesL a)) = ((cyclesL (a)))))) || (decide ((((ordL a) : Nat) : Int) ≠ (((ordL (a)) : Nat) : Int)))) || ((oddL a) != (oddL (a))))) tx ax (.tmp 126) := d0 rfl
      have e19 : At (Ty.grd ((((!(decide (((cyclesL a)) = ((cyclesL (a)))))) || (decide ((((ordL a) : Nat) : Int) ≠ (((ordL (a)) : Nat) : Int)))) || ((oddL a) != (oddL (a)))) = false) (Ty.bool (decide ((((rankL a) : Nat) : Int) ≠ (((rankL (a)) : Nat) : Int))))) tx ax (.tmp 130) := d1 rfl
      exact run_plain rfl (y_pick_or e15 rfl e19)
    · intro ax tx hs okx sm d0 d1
      have e20 : At (Ty.bool ((((!(decide (((cyclesL a)) = ((cyclesL (a)))))) || (decide ((((ordL a) : Nat) : Int) ≠ (((ordL (a)) : Nat) : Int)))) || ((oddL a) != (oddL (a)))) || (decide ((((rankL a) : Nat) : Int) ≠ (((rankL (a)) : Nat) : Int))))) tx ax (.tmp 131) := d0 rfl
      have e18 : At (Ty.grd ((((!(decide (((cyclesL a)) = ((cyclesL (a)))))) || (decide ((((ordL a) : Nat) : Int) ≠ (((ordL (a)) : Nat) : Int)))) || ((oddL a) != (oddL (a)))) = false) (Ty.nat (rankL (a)))) tx ax (.tmp 129) := d1 rfl
      exact run_plain rfl (y_move e20)
    · intro ax tx hs okx sm d0
      have e21 : At (Ty.bool ((((!(decide (((cyclesL a)) = ((cyclesL (a)))))) || (decide ((((ordL a) : Nat) : Int) ≠ (((ordL (a)) : Nat) : Int)))) || ((oddL a) != (oddL (a)))) || (decide ((((rankL a) : Nat) : Int) ≠ (((rankL (a)) : Nat) : Int))))) tx ax (.tmp 132) := d0 rfl
      refine run_guard (T := (Ty.lst Ty.int (undoL a))) okx rfl rfl (by decide) e21 (fun hg => ?_)
      obtain ⟨d95, d96⟩ := Bool.or_eq_false_iff.mp hg
      obtain ⟨d97, d98⟩ := Bool.or_eq_false_iff.mp d95
      obtain ⟨d99, d100⟩ := Bool.or_eq_false_iff.mp d97
      have d100 := of_decide_eq_false d100
      have d96 := of_decide_eq_false d96
      exact y_move (kp (sm 19 rfl) hs q131)
    · intro ax tx hs okx sm d0
      have e21 : At (Ty.bool ((((!(decide (((cyclesL a)) = ((cyclesL (a)))))) || (decide ((((ordL a) : Nat) : Int) ≠ (((ordL (a)) : Nat) : Int)))) || ((oddL a) != (oddL (a)))) || (decide ((((rankL a) : Nat) : Int) ≠ (((rankL (a)) : Nat) : Int))))) tx ax (.tmp 132) := d0 rfl
      refine run_guard (T := (Ty.lst Ty.int a)) okx rfl rfl (by decide) e21 (fun hg => ?_)
      obtain ⟨d101, d102⟩ := Bool.or_eq_false_iff.mp hg
      obtain ⟨d103, d104⟩ := Bool.or_eq_false_iff.mp d101
      obtain ⟨d105, d106⟩ := Bool.or_eq_false_iff.mp d103
      have d106 := of_decide_eq_false d106
      have d102 := of_decide_eq_false d102
      exact y_move (kp (sm 0 rfl) hs q121)
    · intro ax tx hs okx sm d0 d1 d2
      have e23 : At (Ty.grd (((((!(decide (((cyclesL a)) = ((cyclesL (a)))))) || (decide ((((ordL a) : Nat) : Int) ≠ (((ordL (a)) : Nat) : Int)))) || ((oddL a) != (oddL (a)))) || (decide ((((rankL a) : Nat) : Int) ≠ (((rankL (a)) : Nat) : Int)))) = false) (Ty.lst Ty.int a)) tx ax (.tmp 134) := d0 rfl
      have e21 : At (Ty.bool ((((!(decide (((cyclesL a)) = ((cyclesL (a)))))) || (decide ((((ordL a) : Nat) : Int) ≠ (((ordL (a)) : Nat) : Int)))) || ((oddL a) != (oddL (a)))) || (decide ((((rankL a) : Nat) : Int) ≠ (((rankL (a)) : Nat) : Int))))) tx ax (.tmp 132) := d1 rfl
      refine run_guard (T := (Ty.lst Ty.int (undoL (a)))) okx rfl rfl (by decide) e21 (fun hg => ?_)
      obtain ⟨d107, d108⟩ := Bool.or_eq_false_iff.mp hg
      obtain ⟨d109, d110⟩ := Bool.or_eq_false_iff.mp d107
      obtain ⟨d111, d112⟩ := Bool.or_eq_false_iff.mp d109
      have d112 := of_decide_eq_false d112
      have d108 := of_decide_eq_false d108
      exact y_call #[ax.eval (.tmp 134)] Try.func48 rfl rfl (by simp only [List.map_toArray, List.map_cons, List.map_nil]) (rUndo_fn (a) _ _ (e23.1 hg) (by assumption))
    · intro ax tx hs okx sm d0 d1 d2 d3
      have e22 : At (Ty.grd (((((!(decide (((cyclesL a)) = ((cyclesL (a)))))) || (decide ((((ordL a) : Nat) : Int) ≠ (((ordL (a)) : Nat) : Int)))) || ((oddL a) != (oddL (a)))) || (decide ((((rankL a) : Nat) : Int) ≠ (((rankL (a)) : Nat) : Int)))) = false) (Ty.lst Ty.int (undoL a))) tx ax (.tmp 133) := d0 rfl
      have e24 : At (Ty.grd (((((!(decide (((cyclesL a)) = ((cyclesL (a)))))) || (decide ((((ordL a) : Nat) : Int) ≠ (((ordL (a)) : Nat) : Int)))) || ((oddL a) != (oddL (a)))) || (decide ((((rankL a) : Nat) : Int) ≠ (((rankL (a)) : Nat) : Int)))) = false) (Ty.lst Ty.int (undoL (a)))) tx ax (.tmp 135) := d1 rfl
      have e21 : At (Ty.bool ((((!(decide (((cyclesL a)) = ((cyclesL (a)))))) || (decide ((((ordL a) : Nat) : Int) ≠ (((ordL (a)) : Nat) : Int)))) || ((oddL a) != (oddL (a)))) || (decide ((((rankL a) : Nat) : Int) ≠ (((rankL (a)) : Nat) : Int))))) tx ax (.tmp 132) := d3 rfl
      refine run_guard (T := (Ty.bool (decide (((undoL a)) = ((undoL (a))))))) okx rfl rfl (by decide) e21 (fun hg => ?_)
      obtain ⟨d113, d114⟩ := Bool.or_eq_false_iff.mp hg
      obtain ⟨d115, d116⟩ := Bool.or_eq_false_iff.mp d113
      obtain ⟨d117, d118⟩ := Bool.or_eq_false_iff.mp d115
      have d118 := of_decide_eq_false d118
      have d114 := of_decide_eq_false d114
      exact y_call #[ax.eval (.tmp 133), ax.eval (.tmp 135)] Try.func25 rfl rfl (by simp only [List.map_toArray, List.map_cons, List.map_nil]) (rsame_fn ((undoL a)) ((undoL (a))) _ _ _ (e22.1 hg) (e24.1 hg) )
    · intro ax tx hs okx sm d0 d1
      have e25 : At (Ty.grd (((((!(decide (((cyclesL a)) = ((cyclesL (a)))))) || (decide ((((ordL a) : Nat) : Int) ≠ (((ordL (a)) : Nat) : Int)))) || ((oddL a) != (oddL (a)))) || (decide ((((rankL a) : Nat) : Int) ≠ (((rankL (a)) : Nat) : Int)))) = false) (Ty.bool (decide (((undoL a)) = ((undoL (a))))))) tx ax (.tmp 136) := d0 rfl
      have e21 : At (Ty.bool ((((!(decide (((cyclesL a)) = ((cyclesL (a)))))) || (decide ((((ordL a) : Nat) : Int) ≠ (((ordL (a)) : Nat) : Int)))) || ((oddL a) != (oddL (a)))) || (decide ((((rankL a) : Nat) : Int) ≠ (((rankL (a)) : Nat) : Int))))) tx ax (.tmp 132) := d1 rfl
      refine run_guard (T := (Ty.bool (!(decide (((undoL a)) = ((undoL (a)))))))) okx rfl rfl (by decide) e21 (fun hg => ?_)
      obtain ⟨d119, d120⟩ := Bool.or_eq_false_iff.mp hg
      obtain ⟨d121, d122⟩ := Bool.or_eq_false_iff.mp d119
      obtain ⟨d123, d124⟩ := Bool.or_eq_false_iff.mp d121
      have d124 := of_decide_eq_false d124
      have d120 := of_decide_eq_false d120
      exact y_not (e25.1 hg)
    · intro ax tx hs okx sm d0 d1
      have e21 : At (Ty.bool ((((!(decide (((cyclesL a)) = ((cyclesL (a)))))) || (decide ((((ordL a) : Nat) : Int) ≠ (((ordL (a)) : Nat) : Int)))) || ((oddL a) != (oddL (a)))) || (decide ((((rankL a) : Nat) : Int) ≠ (((rankL (a)) : Nat) : Int))))) tx ax (.tmp 132) := d0 rfl
      have e26 : At (Ty.grd (((((!(decide (((cyclesL a)) = ((cyclesL (a)))))) || (decide ((((ordL a) : Nat) : Int) ≠ (((ordL (a)) : Nat) : Int)))) || ((oddL a) != (oddL (a)))) || (decide ((((rankL a) : Nat) : Int) ≠ (((rankL (a)) : Nat) : Int)))) = false) (Ty.bool (!(decide (((undoL a)) = ((undoL (a)))))))) tx ax (.tmp 137) := d1 rfl
      exact run_plain rfl (y_pick_or e21 rfl e26)
    · intro ax tx hs okx sm d0 d1
      have e27 : At (Ty.bool (((((!(decide (((cyclesL a)) = ((cyclesL (a)))))) || (decide ((((ordL a) : Nat) : Int) ≠ (((ordL (a)) : Nat) : Int)))) || ((oddL a) != (oddL (a)))) || (decide ((((rankL a) : Nat) : Int) ≠ (((rankL (a)) : Nat) : Int)))) || (!(decide (((undoL a)) = ((undoL (a)))))))) tx ax (.tmp 138) := d0 rfl
      have e25 : At (Ty.grd (((((!(decide (((cyclesL a)) = ((cyclesL (a)))))) || (decide ((((ordL a) : Nat) : Int) ≠ (((ordL (a)) : Nat) : Int)))) || ((oddL a) != (oddL (a)))) || (decide ((((rankL a) : Nat) : Int) ≠ (((rankL (a)) : Nat) : Int)))) = false) (Ty.bool (decide (((undoL a)) = ((undoL (a))))))) tx ax (.tmp 136) := d1 rfl
      exact run_plain rfl (y_move e27)
    · intro ax tx hs okx sm d0
      have e28 : At (Ty.bool (((((!(decide (((cyclesL a)) = ((cyclesL (a)))))) || (decide ((((ordL a) : Nat) : Int) ≠ (((ordL (a)) : Nat) : Int)))) || ((oddL a) != (oddL (a)))) || (decide ((((rankL a) : Nat) : Int) ≠ (((rankL (a)) : Nat) : Int)))) || (!(decide (((undoL a)) = ((undoL (a)))))))) tx ax (.tmp 139) := d0 rfl
      refine run_guard (T := (Ty.val (Value.string (bsL (signsB a))))) okx rfl rfl (by decide) e28 (fun hg => ?_)
      obtain ⟨d125, d126⟩ := Bool.or_eq_false_iff.mp hg
      obtain ⟨d127, d128⟩ := Bool.or_eq_false_iff.mp d125
      obtain ⟨d129, d130⟩ := Bool.or_eq_false_iff.mp d127
      obtain ⟨d131, d132⟩ := Bool.or_eq_false_iff.mp d129
      have d132 := of_decide_eq_false d132
      have d128 := of_decide_eq_false d128
      exact y_move (kp (sm 21 rfl) hs q132)
    · intro ax tx hs okx sm d0
      have e28 : At (Ty.bool (((((!(decide (((cyclesL a)) = ((cyclesL (a)))))) || (decide ((((ordL a) : Nat) : Int) ≠ (((ordL (a)) : Nat) : Int)))) || ((oddL a) != (oddL (a)))) || (decide ((((rankL a) : Nat) : Int) ≠ (((rankL (a)) : Nat) : Int)))) || (!(decide (((undoL a)) = ((undoL (a)))))))) tx ax (.tmp 139) := d0 rfl
      refine run_guard (T := (Ty.lst Ty.int a)) okx rfl rfl (by decide) e28 (fun hg => ?_)
      obtain ⟨d133, d134⟩ := Bool.or_eq_false_iff.mp hg
      obtain ⟨d135, d136⟩ := Bool.or_eq_false_iff.mp d133
      obtain ⟨d137, d138⟩ := Bool.or_eq_false_iff.mp d135
      obtain ⟨d139, d140⟩ := Bool.or_eq_false_iff.mp d137
      have d140 := of_decide_eq_false d140
      have d136 := of_decide_eq_false d136
      exact y_move (kp (sm 0 rfl) hs q121)
    · intro ax tx hs okx sm d0 d1 d2
      have e30 : At (Ty.grd ((((((!(decide (((cyclesL a)) = ((cyclesL (a)))))) || (decide ((((ordL a) : Nat) : Int) ≠ (((ordL (a)) : Nat) : Int)))) || ((oddL a) != (oddL (a)))) || (decide ((((rankL a) : Nat) : Int) ≠ (((rankL (a)) : Nat) : Int)))) || (!(decide (((undoL a)) = ((undoL (a))))))) = false) (Ty.lst Ty.int a)) tx ax (.tmp 141) := d0 rfl
      have e28 : At (Ty.bool (((((!(decide (((cyclesL a)) = ((cyclesL (a)))))) || (decide ((((ordL a) : Nat) : Int) ≠ (((ordL (a)) : Nat) : Int)))) || ((oddL a) != (oddL (a)))) || (decide ((((rankL a) : Nat) : Int) ≠ (((rankL (a)) : Nat) : Int)))) || (!(decide (((undoL a)) = ((undoL (a)))))))) tx ax (.tmp 139) := d1 rfl
      refine run_guard (T := (Ty.val (Value.string (bsL (signsB (a)))))) okx rfl rfl (by decide) e28 (fun hg => ?_)
      obtain ⟨d141, d142⟩ := Bool.or_eq_false_iff.mp hg
      obtain ⟨d143, d144⟩ := Bool.or_eq_false_iff.mp d141
      obtain ⟨d145, d146⟩ := Bool.or_eq_false_iff.mp d143
      obtain ⟨d147, d148⟩ := Bool.or_eq_false_iff.mp d145
      have d148 := of_decide_eq_false d148
      have d144 := of_decide_eq_false d144
      exact y_call #[ax.eval (.tmp 141)] Try.func49 rfl rfl (by simp only [List.map_toArray, List.map_cons, List.map_nil]) (rText_fn (a) _ _ (e30.1 hg) (by first | omega | exact hr _ (by omega)) (by first | omega | exact hr _ (by omega)))
    · intro ax tx hs okx sm d0 d1 d2
      have e29 : At (Ty.grd ((((((!(decide (((cyclesL a)) = ((cyclesL (a)))))) || (decide ((((ordL a) : Nat) : Int) ≠ (((ordL (a)) : Nat) : Int)))) || ((oddL a) != (oddL (a)))) || (decide ((((rankL a) : Nat) : Int) ≠ (((rankL (a)) : Nat) : Int)))) || (!(decide (((undoL a)) = ((undoL (a))))))) = false) (Ty.val (Value.string (bsL (signsB a))))) tx ax (.tmp 140) := d0 rfl
      have e31 : At (Ty.grd ((((((!(decide (((cyclesL a)) = ((cyclesL (a)))))) || (decide ((((ordL a) : Nat) : Int) ≠ (((ordL (a)) : Nat) : Int)))) || ((oddL a) != (oddL (a)))) || (decide ((((rankL a) : Nat) : Int) ≠ (((rankL (a)) : Nat) : Int)))) || (!(decide (((undoL a)) = ((undoL (a))))))) = false) (Ty.val (Value.string (bsL (signsB (a)))))) tx ax (.tmp 142) := d1 rfl
      have e28 : At (Ty.bool (((((!(decide (((cyclesL a)) = ((cyclesL (a)))))) || (decide ((((ordL a) : Nat) : Int) ≠ (((ordL (a)) : Nat) : Int)))) || ((oddL a) != (oddL (a)))) || (decide ((((rankL a) : Nat) : Int) ≠ (((rankL (a)) : Nat) : Int)))) || (!(decide (((undoL a)) = ((undoL (a)))))))) tx ax (.tmp 139) := d2 rfl
      refine run_guard (T := (Ty.bool (!(decide ((bsL (signsB a)) = (bsL (signsB (a)))))))) okx rfl rfl (by decide) e28 (fun hg => ?_)
      obtain ⟨d149, d150⟩ := Bool.or_eq_false_iff.mp hg
      obtain ⟨d151, d152⟩ := Bool.or_eq_false_iff.mp d149
      obtain ⟨d153, d154⟩ := Bool.or_eq_false_iff.mp d151
      obtain ⟨d155, d156⟩ := Bool.or_eq_false_iff.mp d153
      have d156 := of_decide_eq_false d156
      have d152 := of_decide_eq_false d152
      exact y_sneq Try.underlying9 (e29.1 hg) (e31.1 hg)
    · intro ax tx hs okx sm d0 d1
      have e28 : At (Ty.bool (((((!(decide (((cyclesL a)) = ((cyclesL (a)))))) || (decide ((((ordL a) : Nat) : Int) ≠ (((ordL (a)) : Nat) : Int)))) || ((oddL a) != (oddL (a)))) || (decide ((((rankL a) : Nat) : Int) ≠ (((rankL (a)) : Nat) : Int)))) || (!(decide (((undoL a)) = ((undoL (a)))))))) tx ax (.tmp 139) := d0 rfl
      have e32 : At (Ty.grd ((((((!(decide (((cyclesL a)) = ((cyclesL (a)))))) || (decide ((((ordL a) : Nat) : Int) ≠ (((ordL (a)) : Nat) : Int)))) || ((oddL a) != (oddL (a)))) || (decide ((((rankL a) : Nat) : Int) ≠ (((rankL (a)) : Nat) : Int)))) || (!(decide (((undoL a)) = ((undoL (a))))))) = false) (Ty.bool (!(decide ((bsL (signsB a)) = (bsL (signsB (a)))))))) tx ax (.tmp 143) := d1 rfl
      exact run_plain rfl (y_pick_or e28 rfl e32)
    intro a13 s12 D12
    have ok12 := D12.ok
    have F12 := F11.step0 D12.stp
    have q135 : At (Ty.lst Ty.int a) s12 a13 (.tmp 0) := D12.kt q121 rfl
    have q136 : At (Ty.lst Ty.int b) s12 a13 (.tmp 1) := D12.kt q122 rfl
    have q137 : At (Ty.int n) s12 a13 (.tmp 2) := D12.kt q123 rfl
    have q138 : At (Ty.int k) s12 a13 (.tmp 3) := D12.kt q124 rfl
    have q139 : At (Ty.val (Value.string s)) s12 a13 (.tmp 4) := D12.kt q125 rfl
    have q140 : At (Ty.int (rowMay (a))) s12 a13 (.tmp 11) := D12.kt q126 rfl
    have q141 : At (Ty.bool ((((((!(decide (((cyclesL a)) = ((cyclesL (a)))))) || (decide ((((ordL a) : Nat) : Int) ≠ (((ordL (a)) : Nat) : Int)))) || ((oddL a) != (oddL (a)))) || (decide ((((rankL a) : Nat) : Int) ≠ (((rankL (a)) : Nat) : Int)))) || (!(decide (((undoL a)) = ((undoL (a))))))) || (!(decide ((bsL (signsB a)) = (bsL (signsB (a)))))))) s12 a13 (.tmp 144) := D12.done 33
    clear D12
    refine tn ?_
    refine cond_t q141 (fun c4 => ?_) (fun c4 => ?_)
    ·
     exfalso
     simp at c4
    ·
     obtain ⟨d157, d158⟩ := Bool.or_eq_false_iff.mp c4
     obtain ⟨d159, d160⟩ := Bool.or_eq_false_iff.mp d157
     obtain ⟨d161, d162⟩ := Bool.or_eq_false_iff.mp d159
     obtain ⟨d163, d164⟩ := Bool.or_eq_false_iff.mp d161
     obtain ⟨d165, d166⟩ := Bool.or_eq_false_iff.mp d163
     replace d166 := of_decide_eq_false d166
     replace d162 := of_decide_eq_false d162
     refine wp_skip ?_
     exact tn ⟨s12, rfl, F12, ok12, q135, q136, q137, q138, q139, q140, trivial⟩
  ·
   rintro a14 w2 ⟨t2, rfl, F13, ok13, q142, q143, q144, q145, q146, q147, -⟩
   refine wp_seq ?_
   refine wp_seq ?_
   refine reg (a := a14) (σ := t2) rfl (fun i_ => List.getD [(Ty.pr (Ty.int (rowMay (a)))), (Ty.pr (Ty.bool (decide ((rowMay (a)) = (0 : Int)))))] i_ Pr.any) ok13 rfl ⟨?_, ?_, trivial⟩ ?_
   · intro ax tx hs okx sm
     exact run_plain rfl (y_move (kp (sm 11 rfl) hs q147))
   · intro ax tx hs okx sm d0
     have e0 : At (Ty.int (rowMay (a))) tx ax (.tmp 145) := d0 rfl
     exact run_plain rfl (y_eql e0 rfl)
   intro a15 s13 D13
   have ok14 := D13.ok
   have F14 := F13.step0 D13.stp
   have q148 : At (Ty.lst Ty.int a) s13 a15 (.tmp 0) := D13.kt q142 rfl
   have q149 : At (Ty.lst Ty.int b) s13 a15 (.tmp 1) := D13.kt q143 rfl
   have q150 : At (Ty.int n) s13 a15 (.tmp 2) := D13.kt q144 rfl
   have q151 : At (Ty.int k) s13 a15 (.tmp 3) := D13.kt q145 rfl
   have q152 : At (Ty.val (Value.string s)) s13 a15 (.tmp 4) := D13.kt q146 rfl
   have q153 : At (Ty.int (rowMay (a))) s13 a15 (.tmp 11) := D13.kt q147 rfl
   have q154 : At (Ty.bool (decide ((rowMay (a)) = (0 : Int)))) s13 a15 (.tmp 146) := D13.done 1
   clear D13
   refine tn ?_
   refine Go.KL.join_then (Q' := fun a16 w3 => ∃ (t3 : GW), t3.w = w3 ∧ FromL [] s0 t3 ∧ Ok 284 a16 ∧ At (Ty.int (if rowMay a = 0 then rowMay b else rowMay a)) t3 a16 (.tmp 11) ∧ At (Ty.lst Ty.int a) t3 a16 (.tmp 0) ∧ At (Ty.lst Ty.int b) t3 a16 (.tmp 1) ∧ At (Ty.int n) t3 a16 (.tmp 2) ∧ At (Ty.int k) t3 a16 (.tmp 3) ∧ At (Ty.val (Value.string s)) t3 a16 (.tmp 4) ∧ True) ?_ ?_
   ·
    refine cond_p (p := ((rowMay (a)) = (0 : Int))) q154 (fun c5 => ?_) (fun c5 => ?_)
    ·
     refine reg (a := a15) (σ := s13) rfl (fun i_ => List.getD [(Ty.pr (Ty.lst Ty.int b)), (Ty.pr (Ty.int (rowMay (b)))), (Ty.pr (Ty.int (rowMay (b))))] i_ Pr.any) ok14 rfl ⟨?_, ?_, ?_, trivial⟩ ?_
     · intro ax tx hs okx sm
       exact run_plain rfl (y_move (kp (sm 1 rfl) hs q149))
     · intro ax tx hs okx sm d0
       have e0 : At (Ty.lst Ty.int b) tx ax (.tmp 147) := d0 rfl
       exact run_plain rfl (y_call #[ax.eval (.tmp 147)] Try.func38 rfl rfl (by simp only [List.map_toArray, List.map_cons, List.map_nil]) (rRowMay_fn (b) _ _ e0 ))
     · intro ax tx hs okx sm d0 d1 d2 d3
       have e1 : At (Ty.int (rowMay (b))) tx ax (.tmp 148) := d0 rfl
       have e0 : At (Ty.lst Ty.int b) tx ax (.tmp 147) := d2 rfl
       exact run_plain rfl (y_assign e1)
     intro a17 s14 D14
     have ok15 := D14.ok
     have F15 := F14.step0 D14.stp
     have q155 : At (Ty.lst Ty.int a) s14 a17 (.tmp 0) := D14.kt q148 rfl
     have q156 : At (Ty.lst Ty.int b) s14 a17 (.tmp 1) := D14.kt q149 rfl
     have q157 : At (Ty.int n) s14 a17 (.tmp 2) := D14.kt q150 rfl
     have q158 : At (Ty.int k) s14 a17 (.tmp 3) := D14.kt q151 rfl
     have q159 : At (Ty.val (Value.string s)) s14 a17 (.tmp 4) := D14.kt q152 rfl
     have q160 : At (Ty.int (rowMay (b))) s14 a17 (.tmp 11) := D14.done 2
     clear D14
     exact tn ⟨s14, rfl, F15, ok15, (cvi (by (rw [if_pos c5])) q160), q155, q156, q157, q158, q159, trivial⟩
    ·
     refine wp_skip ?_
     exact tn ⟨s13, rfl, F14, ok14, (cvi (by (rw [if_neg c5])) q153), q148, q149, q150, q151, q152, trivial⟩
   ·
    rintro a18 w4 ⟨t4, rfl, F16, ok16, q161, q162, q163, q164, q165, q166, -⟩
    refine wp_seq ?_
    refine wp_seq ?_
    refine reg (a := a18) (σ := t4) rfl (fun i_ => List.getD [(Ty.pr (Ty.int (if rowMay a = 0 then rowMay b else rowMay a))), (Ty.pr (Ty.bool (decide ((if rowMay a = 0 then rowMay b else rowMay a) = (0 : Int))))), (Ty.pr (Ty.bool (decide ((if rowMay a = 0 then rowMay b else rowMay a) = (0 : Int))))), (Ty.pr (Ty.grd ((decide ((if rowMay a = 0 then rowMay b else rowMay a) = (0 : Int))) = true) (Ty.lst Ty.int a))), (Ty.pr (Ty.grd ((decide ((if rowMay a = 0 then rowMay b else rowMay a) = (0 : Int))) = true) (Ty.nat (List.length a)))), (Ty.pr (Ty.grd ((decide ((if rowMay a = 0 then rowMay b else rowMay a) = (0 : Int))) = true) (Ty.lst Ty.int b))), (Ty.pr (Ty.grd ((decide ((if rowMay a = 0 then rowMay b else rowMay a) = (0 : Int))) = true) (Ty.nat (List.length b)))), (Ty.pr (Ty.grd ((decide ((if rowMay a = 0 then rowMay b else rowMay a) = (0 : Int))) = true) (Ty.bool (decide ((((List.length a) : Nat) : Int) ≠ (((List.length b) : Nat) : Int)))))), (Ty.pr (Ty.bool ((decide ((if rowMay a = 0 then rowMay b else rowMay a) = (0 : Int))) && (decide ((((List.length a) : Nat) : Int) ≠ (((List.length b) : Nat) : Int))))))] i_ Pr.any) ok16 rfl ⟨?_, ?_, ?_, ?_, ?_, ?_, ?_, ?_, ?_, trivial⟩ ?_
    · intro ax tx hs okx sm
      exact run_plain rfl (y_move (kp (sm 11 rfl) hs q161))
    · intro ax tx hs okx sm d0
      have e0 : At (Ty.int (if rowMay a = 0 then rowMay b else rowMay a)) tx ax (.tmp 149) := d0 rfl
      exact run_plain rfl (y_eql e0 rfl)
    · intro ax tx hs okx sm d0
      have e1 : At (Ty.bool (decide ((if rowMay a = 0 then rowMay b else rowMay a) = (0 : Int)))) tx ax (.tmp 150) := d0 rfl
      exact run_plain rfl (y_move e1)
    · intro ax tx hs okx sm d0
      have e2 : At (Ty.bool (decide ((if rowMay a = 0 then rowMay b else rowMay a) = (0 : Int)))) tx ax (.tmp 151) := d0 rfl
      refine run_guard (T := (Ty.lst Ty.int a)) okx rfl rfl (by decide) e2 (fun hg => ?_)
      have hp := of_decide_eq_true hg
      exact y_move (kp (sm 0 rfl) hs q162)
    · intro ax tx hs okx sm d0 d1
      have e3 : At (Ty.grd ((decide ((if rowMay a = 0 then rowMay b else rowMay a) = (0 : Int))) = true) (Ty.lst Ty.int a)) tx ax (.tmp 152) := d0 rfl
      have e2 : At (Ty.bool (decide ((if rowMay a = 0 then rowMay b else rowMay a) = (0 : Int)))) tx ax (.tmp 151) := d1 rfl
      refine run_guard (T := (Ty.nat (List.length a))) okx rfl rfl (by decide) e2 (fun hg => ?_)
      have hp := of_decide_eq_true hg
      exact y_len Try.underlying34 (e3.1 hg)
    · intro ax tx hs okx sm d0
      have e2 : At (Ty.bool (decide ((if rowMay a = 0 then rowMay b else rowMay a) = (0 : Int)))) tx ax (.tmp 151) := d0 rfl
      refine run_guard (T := (Ty.lst Ty.int b)) okx rfl rfl (by decide) e2 (fun hg => ?_)
      have hp := of_decide_eq_true hg
      exact y_move (kp (sm 1 rfl) hs q163)
    · intro ax tx hs okx sm d0 d1
      have e5 : At (Ty.grd ((decide ((if rowMay a = 0 then rowMay b else rowMay a) = (0 : Int))) = true) (Ty.lst Ty.int b)) tx ax (.tmp 154) := d0 rfl
      have e2 : At (Ty.bool (decide ((if rowMay a = 0 then rowMay b else rowMay a) = (0 : Int)))) tx ax (.tmp 151) := d1 rfl
      refine run_guard (T := (Ty.nat (List.length b))) okx rfl rfl (by decide) e2 (fun hg => ?_)
      have hp := of_decide_eq_true hg
      exact y_len Try.underlying34 (e5.1 hg)
    · intro ax tx hs okx sm d0 d1 d2
      have e4 : At (Ty.grd ((decide ((if rowMay a = 0 then rowMay b else rowMay a) = (0 : Int))) = true) (Ty.nat (List.length a))) tx ax (.tmp 153) := d0 rfl
      have e6 : At (Ty.grd ((decide ((if rowMay a = 0 then rowMay b else rowMay a) = (0 : Int))) = true) (Ty.nat (List.length b))) tx ax (.tmp 155) := d1 rfl
      have e2 : At (Ty.bool (decide ((if rowMay a = 0 then rowMay b else rowMay a) = (0 : Int)))) tx ax (.tmp 151) := d2 rfl
      refine run_guard (T := (Ty.bool (decide ((((List.length a) : Nat) : Int) ≠ (((List.length b) : Nat) : Int))))) okx rfl rfl (by decide) e2 (fun hg => ?_)
      have hp := of_decide_eq_true hg
      exact y_neq (e4.1 hg) (e6.1 hg)
    · intro ax tx hs okx sm d0 d1
      have e2 : At (Ty.bool (decide ((if rowMay a = 0 then rowMay b else rowMay a) = (0 : Int)))) tx ax (.tmp 151) := d0 rfl
      have e7 : At (Ty.grd ((decide ((if rowMay a = 0 then rowMay b else rowMay a) = (0 : Int))) = true) (Ty.bool (decide ((((List.length a) : Nat) : Int) ≠ (((List.length b) : Nat) : Int))))) tx ax (.tmp 156) := d1 rfl
      exact run_plain rfl (y_pick_and e2 e7 rfl)
    intro a19 s15 D15
    have ok17 := D15.ok
    have F17 := F16.step0 D15.stp
    have q167 : At (Ty.int (if rowMay a = 0 then rowMay b else rowMay a)) s15 a19 (.tmp 11) := D15.kt q161 rfl
    have q168 : At (Ty.lst Ty.int a) s15 a19 (.tmp 0) := D15.kt q162 rfl
    have q169 : At (Ty.lst Ty.int b) s15 a19 (.tmp 1) := D15.kt q163 rfl
    have q170 : At (Ty.int n) s15 a19 (.tmp 2) := D15.kt q164 rfl
    have q171 : At (Ty.int k) s15 a19 (.tmp 3) := D15.kt q165 rfl
    have q172 : At (Ty.val (Value.string s)) s15 a19 (.tmp 4) := D15.kt q166 rfl
    have q173 : At (Ty.bool ((decide ((if rowMay a = 0 then rowMay b else rowMay a) = (0 : Int))) && (decide ((((List.length a) : Nat) : Int) ≠ (((List.length b) : Nat) : Int))))) s15 a19 (.tmp 157) := D15.done 8
    clear D15
    refine tn ?_
    refine Go.KL.join_then (Q' := fun a20 w5 => ∃ (t5 : GW), t5.w = w5 ∧ FromL [] s0 t5 ∧ Ok 284 a20 ∧ At (Ty.int (twoMay a b)) t5 a20 (.tmp 11) ∧ At (Ty.lst Ty.int a) t5 a20 (.tmp 0) ∧ At (Ty.lst Ty.int b) t5 a20 (.tmp 1) ∧ At (Ty.int n) t5 a20 (.tmp 2) ∧ At (Ty.int k) t5 a20 (.tmp 3) ∧ At (Ty.val (Value.string s)) t5 a20 (.tmp 4) ∧ True) ?_ ?_
    ·
     refine cond_t q173 (fun c6 => ?_) (fun c6 => ?_)
     ·
      obtain ⟨d167, d168⟩ := Bool.and_eq_true_iff.mp c6
      replace d167 := of_decide_eq_true d167
      replace d168 := of_decide_eq_true d168
      have ht : twoMay a b = 1 := (by unfold twoMay; by_cases h1 : rowMay a = 0 <;> by_cases h2 : rowMay b = 0 <;> first | (simp_all; done) | (simp_all; omega))
      refine reg (a := a19) (σ := s15) rfl (fun i_ => List.getD [(Ty.pr (Ty.int (1 : Int)))] i_ Pr.any) ok17 rfl ⟨?_, trivial⟩ ?_
      · intro ax tx hs okx sm
        exact run_plain rfl (y_assign rfl)
      intro a21 s16 D16
      have ok18 := D16.ok
      have F18 := F17.step0 D16.stp
      have q174 : At (Ty.lst Ty.int a) s16 a21 (.tmp 0) := D16.kt q168 rfl
      have q175 : At (Ty.lst Ty.int b) s16 a21 (.tmp 1) := D16.kt q169 rfl
      have q176 : At (Ty.int n) s16 a21 (.tmp 2) := D16.kt q170 rfl
      have q177 : At (Ty.int k) s16 a21 (.tmp 3) := D16.kt q171 rfl
      have q178 : At (Ty.val (Value.string s)) s16 a21 (.tmp 4) := D16.kt q172 rfl
      have q179 : At (Ty.int (1 : Int)) s16 a21 (.tmp 11) := D16.done 0
      clear D16
      exact tn ⟨s16, rfl, F18, ok18, (cvi (by (exact ht.symm)) q179), q174, q175, q176, q177, q178, trivial⟩
     ·
      have ht : twoMay a b = (if rowMay a = 0 then rowMay b else rowMay a) := (by unfold twoMay; by_cases h1 : rowMay a = 0 <;> by_cases h2 : rowMay b = 0 <;> first | (simp_all; done) | (simp_all; omega))
      refine wp_skip ?_
      exact tn ⟨s15, rfl, F17, ok17, (cvi (by (exact ht.symm)) q167), q168, q169, q170, q171, q172, trivial⟩
    ·
     rintro a22 w6 ⟨t6, rfl, F19, ok19, q180, q181, q182, q183, q184, q185, -⟩
     refine wp_seq ?_
     refine reg (a := a22) (σ := t6) rfl (fun i_ => List.getD [(Ty.pr (Ty.lst Ty.int a)), (Ty.pr (Ty.lst Ty.int b)), (Ty.pr (Ty.tup2 (Ty.lst Ty.int (if twoMay a b = 0 then byL a b else [])) (Ty.int (twoMay a b)))), (Ty.pr (Ty.tup2 (Ty.lst Ty.int (if twoMay a b = 0 then byL a b else [])) (Ty.int (twoMay a b)))), (Ty.pr (Ty.lst Ty.int (if twoMay a b = 0 then byL a b else []))), (Ty.pr (Ty.int (twoMay a b))), (Ty.pr (Ty.lst Ty.int (if twoMay a b = 0 then byL a b else []))), (Ty.pr (Ty.int (twoMay a b)))] i_ Pr.any) ok19 rfl ⟨?_, ?_, ?_, ?_, ?_, ?_, ?_, ?_, trivial⟩ ?_
     · intro ax tx hs okx sm
       exact run_plain rfl (y_move (kp (sm 0 rfl) hs q181))
     · intro ax tx hs okx sm
       exact run_plain rfl (y_move (kp (sm 1 rfl) hs q182))
     · intro ax tx hs okx sm d0 d1
       have e0 : At (Ty.lst Ty.int a) tx ax (.tmp 159) := d0 rfl
       have e1 : At (Ty.lst Ty.int b) tx ax (.tmp 160) := d1 rfl
       exact run_plain rfl (y_call #[ax.eval (.tmp 159), ax.eval (.tmp 160)] Try.func50 rfl rfl (by simp only [List.map_toArray, List.map_cons, List.map_nil]) (times_fn (a) (b) _ _ _ e0 e1 ))
     · intro ax tx hs okx sm d0
       have e2 : At (Ty.tup2 (Ty.lst Ty.int (if twoMay a b = 0 then byL a b else [])) (Ty.int (twoMay a b))) tx ax (.tmp 161) := d0 rfl
       exact run_plain rfl (y_move e2)
     · intro ax tx hs okx sm d0
       have e3 : At (Ty.tup2 (Ty.lst Ty.int (if twoMay a b = 0 then byL a b else [])) (Ty.int (twoMay a b))) tx ax (.tmp 158) := d0 rfl
       exact run_plain rfl (y_ext2_0 e3)
     · intro ax tx hs okx sm d0 d1
       have e3 : At (Ty.tup2 (Ty.lst Ty.int (if twoMay a b = 0 then byL a b else [])) (Ty.int (twoMay a b))) tx ax (.tmp 158) := d0 rfl
       exact run_plain rfl (y_ext2_1 e3)
     · intro ax tx hs okx sm d0 d1 d2 d3 d4 d5 d6 d7
       have e4 : At (Ty.lst Ty.int (if twoMay a b = 0 then byL a b else [])) tx ax (.tmp 162) := d0 rfl
       have e2 : At (Ty.tup2 (Ty.lst Ty.int (if twoMay a b = 0 then byL a b else [])) (Ty.int (twoMay a b))) tx ax (.tmp 161) := d1 rfl
       have e0 : At (Ty.lst Ty.int a) tx ax (.tmp 159) := d2 rfl
       have e1 : At (Ty.lst Ty.int b) tx ax (.tmp 160) := d3 rfl
       have e3 : At (Ty.tup2 (Ty.lst Ty.int (if twoMay a b = 0 then byL a b else [])) (Ty.int (twoMay a b))) tx ax (.tmp 158) := d5 rfl
       exact run_plain rfl (y_assign e4)
     · intro ax tx hs okx sm d0 d1 d2 d3 d4 d5 d6 d7 d8
       have e5 : At (Ty.int (twoMay a b)) tx ax (.tmp 163) := d0 rfl
       have e6 : At (Ty.lst Ty.int (if twoMay a b = 0 then byL a b else [])) tx ax (.tmp 25) := d1 rfl
       have e0 : At (Ty.lst Ty.int a) tx ax (.tmp 159) := d2 rfl
       have e1 : At (Ty.lst Ty.int b) tx ax (.tmp 160) := d3 rfl
       have e2 : At (Ty.tup2 (Ty.lst Ty.int (if twoMay a b = 0 then byL a b else [])) (Ty.int (twoMay a b))) tx ax (.tmp 161) := d4 rfl
       have e3 : At (Ty.tup2 (Ty.lst Ty.int (if twoMay a b = 0 then byL a b else [])) (Ty.int (twoMay a b))) tx ax (.tmp 158) := d5 rfl
       have e4 : At (Ty.lst Ty.int (if twoMay a b = 0 then byL a b else [])) tx ax (.tmp 162) := d6 rfl
       exact run_plain rfl (y_assign e5)
     intro a23 s17 D17
     have ok20 := D17.ok
     have F20 := F19.step0 D17.stp
     have q186 : At (Ty.int (twoMay a b)) s17 a23 (.tmp 11) := D17.kt q180 rfl
     have q187 : At (Ty.lst Ty.int a) s17 a23 (.tmp 0) := D17.kt q181 rfl
     have q188 : At (Ty.lst Ty.int b) s17 a23 (.tmp 1) := D17.kt q182 rfl
     have q189 : At (Ty.int n) s17 a23 (.tmp 2) := D17.kt q183 rfl
     have q190 : At (Ty.int k) s17 a23 (.tmp 3) := D17.kt q184 rfl
     have q191 : At (Ty.val (Value.string s)) s17 a23 (.tmp 4) := D17.kt q185 rfl
     have q192 : At (Ty.lst Ty.int (if twoMay a b = 0 then byL a b else [])) s17 a23 (.tmp 25) := D17.done 6
     have q193 : At (Ty.int (twoMay a b)) s17 a23 (.tmp 13) := D17.done 7
     clear D17
     refine tn ?_
     refine wp_seq ?_
     refine wp_seq ?_
     refine reg (a := a23) (σ := s17) rfl (fun i_ => List.getD [(Ty.pr (Ty.int (twoMay a b))), (Ty.pr (Ty.int (twoMay a b))), (Ty.pr (Ty.bool (decide ((twoMay a b) ≠ (twoMay a b))))), (Ty.pr (Ty.bool (decide ((twoMay a b) ≠ (twoMay a b))))), (Ty.pr (Ty.grd ((decide ((twoMay a b) ≠ (twoMay a b))) = false) (Ty.int (twoMay a b)))), (Ty.pr (Ty.grd ((decide ((twoMay a b) ≠ (twoMay a b))) = false) (Ty.bool (decide ((twoMay a b) ≠ (0 : Int)))))), (Ty.pr (Ty.grd ((decide ((twoMay a b) ≠ (twoMay a b))) = false) (Ty.bool (decide ((twoMay a b) ≠ (0 : Int)))))), (Ty.pr (Ty.grd (((decide ((twoMay a b) ≠ (twoMay a b))) = false) ∧ (decide ((twoMay a b) ≠ (0 : Int))) = true) (Ty.lst Ty.int (if twoMay a b = 0 then byL a b else [])))), (Ty.pr (Ty.grd (((decide ((twoMay a b) ≠ (twoMay a b))) = false) ∧ (decide ((twoMay a b) ≠ (0 : Int))) = true) (Ty.nat (List.length (if twoMay a b = 0 then byL a b else []))))), (Ty.pr (Ty.grd (((decide ((twoMay a b) ≠ (twoMay a b))) = false) ∧ (decide ((twoMay a b) ≠ (0 : Int))) = true) (Ty.bool (decide ((0 : Int) < (((List.length (if twoMay a b = 0 then byL a b else [])) : Nat) : Int)))))), (Ty.pr (Ty.grd ((decide ((twoMay a b) ≠ (twoMay a b))) = false) (Ty.bool ((decide ((twoMay a b) ≠ (0 : Int))) && (decide ((0 : Int) < (((List.length (if twoMay a b = 0 then byL a b else [])) : Nat) : Int))))))), (Ty.pr (Ty.bool ((decide ((twoMay a b) ≠ (twoMay a b))) || ((decide ((twoMay a b) ≠ (0 : Int))) && (decide ((0 : Int) < (((List.length (if twoMay a b = 0 then byL a b else [])) : Nat) : Int))))))), (Ty.pr (Ty.bool ((decide ((twoMay a b) ≠ (twoMay a b))) || ((decide ((twoMay a b) ≠ (0 : Int))) && (decide ((0 : Int) < (((List.length (if twoMay a b = 0 then byL a b else [])) : Nat) : Int))))))), (Ty.pr (Ty.grd (((decide ((twoMay a b) ≠ (twoMay a b))) || ((decide ((twoMay a b) ≠ (0 : Int))) && (decide ((0 : Int) < (((List.length (if twoMay a b = 0 then byL a b else [])) : Nat) : Int))))) = false) (Ty.int (twoMay a b)))), (Ty.pr (Ty.grd (((decide ((twoMay a b) ≠ (twoMay a b))) || ((decide ((twoMay a b) ≠ (0 : Int))) && (decide ((0 : Int) < (((List.length (if twoMay a b = 0 then byL a b else [])) : Nat) : Int))))) = false) (Ty.bool (decide ((twoMay a b) = (0 : Int)))))), (Ty.pr (Ty.grd (((decide ((twoMay a b) ≠ (twoMay a b))) || ((decide ((twoMay a b) ≠ (0 : Int))) && (decide ((0 : Int) < (((List.length (if twoMay a b = 0 then byL a b else [])) : Nat) : Int))))) = false) (Ty.bool (decide ((twoMay a b) = (0 : Int)))))), (Ty.pr (Ty.grd ((((decide ((twoMay a b) ≠ (twoMay a b))) || ((decide ((twoMay a b) ≠ (0 : Int))) && (decide ((0 : Int) < (((List.length (if twoMay a b = 0 then byL a b else [])) : Nat) : Int))))) = false) ∧ (decide ((twoMay a b) = (0 : Int))) = true) (Ty.lst Ty.int (if twoMay a b = 0 then byL a b else [])))), (Ty.pr (Ty.grd ((((decide ((twoMay a b) ≠ (twoMay a b))) || ((decide ((twoMay a b) ≠ (0 : Int))) && (decide ((0 : Int) < (((List.length (if twoMay a b = 0 then byL a b else [])) : Nat) : Int))))) = false) ∧ (decide ((twoMay a b) = (0 : Int))) = true) (Ty.lst Ty.int a))), (Ty.pr (Ty.grd ((((decide ((twoMay a b) ≠ (twoMay a b))) || ((decide ((twoMay a b) ≠ (0 : Int))) && (decide ((0 : Int) < (((List.length (if twoMay a b = 0 then byL a b else [])) : Nat) : Int))))) = false) ∧ (decide ((twoMay a b) = (0 : Int))) = true) (Ty.lst Ty.int b))), (Ty.pr (Ty.grd ((((decide ((twoMay a b) ≠ (twoMay a b))) || ((decide ((twoMay a b) ≠ (0 : Int))) && (decide ((0 : Int) < (((List.length (if twoMay a b = 0 then byL a b else [])) : Nat) : Int))))) = false) ∧ (decide ((twoMay a b) = (0 : Int))) = true) (Ty.lst Ty.int (byL a b)))), (Ty.pr (Ty.grd ((((decide ((twoMay a b) ≠ (twoMay a b))) || ((decide ((twoMay a b) ≠ (0 : Int))) && (decide ((0 : Int) < (((List.length (if twoMay a b = 0 then byL a b else [])) : Nat) : Int))))) = false) ∧ (decide ((twoMay a b) = (0 : Int))) = true) (Ty.bool (decide (((if twoMay a b = 0 then byL a b else [])) = ((byL a b))))))), (Ty.pr (Ty.grd ((((decide ((twoMay a b) ≠ (twoMay a b))) || ((decide ((twoMay a b) ≠ (0 : Int))) && (decide ((0 : Int) < (((List.length (if twoMay a b = 0 then byL a b else [])) : Nat) : Int))))) = false) ∧ (decide ((twoMay a b) = (0 : Int))) = true) (Ty.bool (!(decide (((if twoMay a b = 0 then byL a b else [])) = ((byL a b)))))))), (Ty.pr (Ty.grd (((decide ((twoMay a b) ≠ (twoMay a b))) || ((decide ((twoMay a b) ≠ (0 : Int))) && (decide ((0 : Int) < (((List.length (if twoMay a b = 0 then byL a b else [])) : Nat) : Int))))) = false) (Ty.bool ((decide ((twoMay a b) = (0 : Int))) && (!(decide (((if twoMay a b = 0 then byL a b else [])) = ((byL a b))))))))), (Ty.pr (Ty.bool (((decide ((twoMay a b) ≠ (twoMay a b))) || ((decide ((twoMay a b) ≠ (0 : Int))) && (decide ((0 : Int) < (((List.length (if twoMay a b = 0 then byL a b else [])) : Nat) : Int))))) || ((decide ((twoMay a b) = (0 : Int))) && (!(decide (((if twoMay a b = 0 then byL a b else [])) = ((byL a b)))))))))] i_ Pr.any) ok20 rfl ⟨?_, ?_, ?_, ?_, ?_, ?_, ?_, ?_, ?_, ?_, ?_, ?_, ?_, ?_, ?_, ?_, ?_, ?_, ?_, ?_, ?_, ?_, ?_, ?_, trivial⟩ ?_
     · intro ax tx hs okx sm
       exact run_plain rfl (y_move (kp (sm 13 rfl) hs q193))
     · intro ax tx hs okx sm
       exact run_plain rfl (y_move (kp (sm 11 rfl) hs q186))
     · intro ax tx hs okx sm d0 d1
       have e0 : At (Ty.int (twoMay a b)) tx ax (.tmp 164) := d0 rfl
       have e1 : At (Ty.int (twoMay a b)) tx ax (.tmp 165) := d1 rfl
       exact run_plain rfl (y_neq e0 e1)
     · intro ax tx hs okx sm d0
       have e2 : At (Ty.bool (decide ((twoMay a b) ≠ (twoMay a b)))) tx ax (.tmp 166) := d0 rfl
       exact run_plain rfl (y_move e2)
     · intro ax tx hs okx sm d0
       have e3 : At (Ty.bool (decide ((twoMay a b) ≠ (twoMay a b)))) tx ax (.tmp 167) := d0 rfl
       refine run_guard (T := (Ty.int (twoMay a b))) okx rfl rfl (by decide) e3 (fun hg => ?_)
       have hp := of_decide_eq_false hg
       exact y_move (kp (sm 11 rfl) hs q186)
     · intro ax tx hs okx sm d0 d1
       have e4 : At (Ty.grd ((decide ((twoMay a b) ≠ (twoMay a b))) = false) (Ty.int (twoMay a b))) tx ax (.tmp 168) := d0 rfl
       have e3 : At (Ty.bool (decide ((twoMay a b) ≠ (twoMay a b)))) tx ax (.tmp 167) := d1 rfl
       refine run_guard (T := (Ty.bool (decide ((twoMay a b) ≠ (0 : Int))))) okx rfl rfl (by decide) e3 (fun hg => ?_)
       have hp := of_decide_eq_false hg
       exact y_neq (e4.1 hg) rfl
     · intro ax tx hs okx sm d0 d1 d2
       have e5 : At (Ty.grd ((decide ((twoMay a b) ≠ (twoMay a b))) = false) (Ty.bool (decide ((twoMay a b) ≠ (0 : Int))))) tx ax (.tmp 169) := d0 rfl
       have e3 : At (Ty.bool (decide ((twoMay a b) ≠ (twoMay a b)))) tx ax (.tmp 167) := d1 rfl
       refine run_guard (T := (Ty.bool (decide ((twoMay a b) ≠ (0 : Int))))) okx rfl rfl (by decide) e3 (fun hg => ?_)
       have hp := of_decide_eq_false hg
       exact y_move (e5.1 hg)
     · intro ax tx hs okx sm d0
       have e6 : At (Ty.grd ((decide ((twoMay a b) ≠ (twoMay a b))) = false) (Ty.bool (decide ((twoMay a b) ≠ (0 : Int))))) tx ax (.tmp 170) := d0 rfl
       refine run_guard2 (T := (Ty.lst Ty.int (if twoMay a b = 0 then byL a b else []))) okx rfl rfl (by decide) e6 (fun hg => ?_)
       have hp := of_decide_eq_true hg.2
       exact y_move (kp (sm 25 rfl) hs q192)
     · intro ax tx hs okx sm d0 d1
       have e7 : At (Ty.grd (((decide ((twoMay a b) ≠ (twoMay a b))) = false) ∧ (decide ((twoMay a b) ≠ (0 : Int))) = true) (Ty.lst Ty.int (if twoMay a b = 0 then byL a b else []))) tx ax (.tmp 171) := d0 rfl
       have e6 : At (Ty.grd ((decide ((twoMay a b) ≠ (twoMay a b))) = false) (Ty.bool (decide ((twoMay a b) ≠ (0 : Int))))) tx ax (.tmp 170) := d1 rfl
       refine run_guard2 (T := (Ty.nat (List.length (if twoMay a b = 0 then byL a b else [])))) okx rfl rfl (by decide) e6 (fun hg => ?_)
       have hp := of_decide_eq_true hg.2
       exact y_len Try.underlying34 (e7.1 hg)
     · intro ax tx hs okx sm d0 d1
       have e8 : At (Ty.grd (((decide ((twoMay a b) ≠ (twoMay a b))) = false) ∧ (decide ((twoMay a b) ≠ (0 : Int))) = true) (Ty.nat (List.length (if twoMay a b = 0 then byL a b else [])))) tx ax (.tmp 172) := d0 rfl
       have e6 : At (Ty.grd ((decide ((twoMay a b) ≠ (twoMay a b))) = false) (Ty.bool (decide ((twoMay a b) ≠ (0 : Int))))) tx ax (.tmp 170) := d1 rfl
       refine run_guard2 (T := (Ty.bool (decide ((0 : Int) < (((List.length (if twoMay a b = 0 then byL a b else [])) : Nat) : Int))))) okx rfl rfl (by decide) e6 (fun hg => ?_)
       have hp := of_decide_eq_true hg.2
       exact y_gtr (e8.1 hg) rfl
     · intro ax tx hs okx sm d0 d1 d2
       have e6 : At (Ty.grd ((decide ((twoMay a b) ≠ (twoMay a b))) = false) (Ty.bool (decide ((twoMay a b) ≠ (0 : Int))))) tx ax (.tmp 170) := d0 rfl
       have e9 : At (Ty.grd (((decide ((twoMay a b) ≠ (twoMay a b))) = false) ∧ (decide ((twoMay a b) ≠ (0 : Int))) = true) (Ty.bool (decide ((0 : Int) < (((List.length (if twoMay a b = 0 then byL a b else [])) : Nat) : Int))))) tx ax (.tmp 173) := d1 rfl
       have e3 : At (Ty.bool (decide ((twoMay a b) ≠ (twoMay a b)))) tx ax (.tmp 167) := d2 rfl
       refine run_guard (T := (Ty.bool ((decide ((twoMay a b) ≠ (0 : Int))) && (decide ((0 : Int) < (((List.length (if twoMay a b = 0 then byL a b else [])) : Nat) : Int)))))) okx rfl rfl (by decide) e3 (fun hg => ?_)
       have hp := of_decide_eq_false hg
       exact y_pick_and (e6.1 hg) (grd_part hg e9) rfl
     · intro ax tx hs okx sm d0 d1
       have e3 : At (Ty.bool (decide ((twoMay a b) ≠ (twoMay a b)))) tx ax (.tmp 167) := d0 rfl
       have e10 : At (Ty.grd ((decide ((twoMay a b) ≠ (twoMay a b))) = false) (Ty.bool ((decide ((twoMay a b) ≠ (0 : Int))) && (decide ((0 : Int) < (((List.length (if twoMay a b = 0 then byL a b else [])) : Nat) : Int)))))) tx ax (.tmp 174) := d1 rfl
       exact run_plain rfl (y_pick_or e3 rfl e10)
     · intro ax tx hs okx sm d0 d1
       have e11 : At (Ty.bool ((decide ((twoMay a b) ≠ (twoMay a b))) || ((decide ((twoMay a b) ≠ (0 : Int))) && (decide ((0 : Int) < (((List.length (if twoMay a b = 0 then byL a b else [])) : Nat) : Int)))))) tx ax (.tmp 175) := d0 rfl
       have e6 : At (Ty.grd ((decide ((twoMay a b) ≠ (twoMay a b))) = false) (Ty.bool (decide ((twoMay a b) ≠ (0 : Int))))) tx ax (.tmp 170) := d1 rfl
       exact run_plain rfl (y_move e11)
     · intro ax tx hs okx sm d0
       have e12 : At (Ty.bool ((decide ((twoMay a b) ≠ (twoMay a b))) || ((decide ((twoMay a b) ≠ (0 : Int))) && (decide ((0 : Int) < (((List.length (if twoMay a b = 0 then byL a b else [])) : Nat) : Int)))))) tx ax (.tmp 176) := d0 rfl
       refine run_guard (T := (Ty.int (twoMay a b))) okx rfl rfl (by decide) e12 (fun hg => ?_)
       obtain ⟨d169, d170⟩ := Bool.or_eq_false_iff.mp hg
       have d169 := of_decide_eq_false d169
       exact y_move (kp (sm 11 rfl) hs q186)
     · intro ax tx hs okx sm d0 d1
       have e13 : At (Ty.grd (((decide ((twoMay a b) ≠ (twoMay a b))) || ((decide ((twoMay a b) ≠ (0 : Int))) && (decide ((0 : Int) < (((List.length (if twoMay a b = 0 then byL a b else [])) : Nat) : Int))))) = false) (Ty.int (twoMay a b))) tx ax (.tmp 177) := d0 rfl
       have e12 : At (Ty.bool ((decide ((twoMay a b) ≠ (twoMay a b))) || ((decide ((twoMay a b) ≠ (0 : Int))) && (decide ((0 : Int) < (((List.length (if twoMay a b = 0 then byL a b else [])) : Nat) : Int)))))) tx ax (.tmp 176) := d1 rfl
       refine run_guard (T := (Ty.bool (decide ((twoMay a b) = (0 : Int))))) okx rfl rfl (by decide) e12 (fun hg => ?_)
       obtain ⟨d171, d172⟩ := Bool.or_eq_false_iff.mp hg
       have d171 := of_decide_eq_false d171
       exact y_eql (e13.1 hg) rfl
     · intro ax tx hs okx sm d0 d1 d2
       have e14 : At (Ty.grd (((decide ((twoMay a b) ≠ (twoMay a b))) || ((decide ((twoMay a b) ≠ (0 : Int))) && (decide ((0 : Int) < (((List.length (if twoMay a b = 0 then byL a b else [])) : Nat) : Int))))) = false) (Ty.bool (decide ((twoMay a b) = (0 : Int))))) tx ax (.tmp 178) := d0 rfl
       have e12 : At (Ty.bool ((decide ((twoMay a b) ≠ (twoMay a b))) || ((decide ((twoMay a b) ≠ (0 : Int))) && (decide ((0 : Int) < (((List.length (if twoMay a b = 0 then byL a b else [])) : Nat) : Int)))))) tx ax (.tmp 176) := d1 rfl
       refine run_guard (T := (Ty.bool (decide ((twoMay a b) = (0 : Int))))) okx rfl rfl (by decide) e12 (fun hg => ?_)
       obtain ⟨d173, d174⟩ := Bool.or_eq_false_iff.mp hg
       have d173 := of_decide_eq_false d173
       exact y_move (e14.1 hg)
     · intro ax tx hs okx sm d0
       have e15 : At (Ty.grd (((decide ((twoMay a b) ≠ (twoMay a b))) || ((decide ((twoMay a b) ≠ (0 : Int))) && (decide ((0 : Int) < (((List.length (if twoMay a b = 0 then byL a b else [])) : Nat) : Int))))) = false) (Ty.bool (decide ((twoMay a b) = (0 : Int))))) tx ax (.tmp 179) := d0 rfl
       refine run_guard2 (T := (Ty.lst Ty.int (if twoMay a b = 0 then byL a b else []))) okx rfl rfl (by decide) e15 (fun hg => ?_)
       have hp := of_decide_eq_true hg.2
       exact y_move (kp (sm 25 rfl) hs q192)
     · intro ax tx hs okx sm d0
       have e15 : At (Ty.grd (((decide ((twoMay a b) ≠ (twoMay a b))) || ((decide ((twoMay a b) ≠ (0 : Int))) && (decide ((0 : Int) < (((List.length (if twoMay a b = 0 then byL a b else [])) : Nat) : Int))))) = false) (Ty.bool (decide ((twoMay a b) = (0 : Int))))) tx ax (.tmp 179) := d0 rfl
       refine run_guard2 (T := (Ty.lst Ty.int a)) okx rfl rfl (by decide) e15 (fun hg => ?_)
       have hp := of_decide_eq_true hg.2
       exact y_move (kp (sm 0 rfl) hs q187)
     · intro ax tx hs okx sm d0
       have e15 : At (Ty.grd (((decide ((twoMay a b) ≠ (twoMay a b))) || ((decide ((twoMay a b) ≠ (0 : Int))) && (decide ((0 : Int) < (((List.length (if twoMay a b = 0 then byL a b else [])) : Nat) : Int))))) = false) (Ty.bool (decide ((twoMay a b) = (0 : Int))))) tx ax (.tmp 179) := d0 rfl
       refine run_guard2 (T := (Ty.lst Ty.int b)) okx rfl rfl (by decide) e15 (fun hg => ?_)
       have hp := of_decide_eq_true hg.2
       exact y_move (kp (sm 1 rfl) hs q188)
     · intro ax tx hs okx sm d0 d1 d2 d3
       have e17 : At (Ty.grd ((((decide ((twoMay a b) ≠ (twoMay a b))) || ((decide ((twoMay a b) ≠ (0 : Int))) && (decide ((0 : Int) < (((List.length (if twoMay a b = 0 then byL a b else [])) : Nat) : Int))))) = false) ∧ (decide ((twoMay a b) = (0 : Int))) = true) (Ty.lst Ty.int a)) tx ax (.tmp 181) := d0 rfl
       have e18 : At (Ty.grd ((((decide ((twoMay a b) ≠ (twoMay a b))) || ((decide ((twoMay a b) ≠ (0 : Int))) && (decide ((0 : Int) < (((List.length (if twoMay a b = 0 then byL a b else [])) : Nat) : Int))))) = false) ∧ (decide ((twoMay a b) = (0 : Int))) = true) (Ty.lst Ty.int b)) tx ax (.tmp 182) := d1 rfl
       have e15 : At (Ty.grd (((decide ((twoMay a b) ≠ (twoMay a b))) || ((decide ((twoMay a b) ≠ (0 : Int))) && (decide ((0 : Int) < (((List.length (if twoMay a b = 0 then byL a b else [])) : Nat) : Int))))) = false) (Ty.bool (decide ((twoMay a b) = (0 : Int))))) tx ax (.tmp 179) := d2 rfl
       refine run_guard2 (T := (Ty.lst Ty.int (byL a b))) okx rfl rfl (by decide) e15 (fun hg => ?_)
       have hp := of_decide_eq_true hg.2
       obtain ⟨hra, hrb, hlb⟩ := twoMay_ok.1 hp
       have hbl := hrb.le
       have hbd : ∀ i, i < b.length → 0 ≤ b.getD i 0 ∧ b.getD i 0 < a.length := fun i hi => by rw [hlb]; exact hrb.at hi
       exact y_call #[ax.eval (.tmp 181), ax.eval (.tmp 182)] Try.func51 rfl rfl (by simp only [List.map_toArray, List.map_cons, List.map_nil]) (rBy_fn (a) (b) _ _ _ (e17.1 hg) (e18.1 hg) (by first | assumption | omega) (by first | assumption | omega))
     · intro ax tx hs okx sm d0 d1 d2 d3
       have e16 : At (Ty.grd ((((decide ((twoMay a b) ≠ (twoMay a b))) || ((decide ((twoMay a b) ≠ (0 : Int))) && (decide ((0 : Int) < (((List.length (if twoMay a b = 0 then byL a b else [])) : Nat) : Int))))) = false) ∧ (decide ((twoMay a b) = (0 : Int))) = true) (Ty.lst Ty.int (if twoMay a b = 0 then byL a b else []))) tx ax (.tmp 180) := d0 rfl
       have e19 : At (Ty.grd ((((decide ((twoMay a b) ≠ (twoMay a b))) || ((decide ((twoMay a b) ≠ (0 : Int))) && (decide ((0 : Int) < (((List.length (if twoMay a b = 0 then byL a b else [])) : Nat) : Int))))) = false) ∧ (decide ((twoMay a b) = (0 : Int))) = true) (Ty.lst Ty.int (byL a b))) tx ax (.tmp 183) := d1 rfl
       have e15 : At (Ty.grd (((decide ((twoMay a b) ≠ (twoMay a b))) || ((decide ((twoMay a b) ≠ (0 : Int))) && (decide ((0 : Int) < (((List.length (if twoMay a b = 0 then byL a b else [])) : Nat) : Int))))) = false) (Ty.bool (decide ((twoMay a b) = (0 : Int))))) tx ax (.tmp 179) := d3 rfl
       refine run_guard2 (T := (Ty.bool (decide (((if twoMay a b = 0 then byL a b else [])) = ((byL a b)))))) okx rfl rfl (by decide) e15 (fun hg => ?_)
       have hp := of_decide_eq_true hg.2
       exact y_call #[ax.eval (.tmp 180), ax.eval (.tmp 183)] Try.func25 rfl rfl (by simp only [List.map_toArray, List.map_cons, List.map_nil]) (rsame_fn ((if twoMay a b = 0 then byL a b else [])) ((byL a b)) _ _ _ (e16.1 hg) (e19.1 hg) )
     · intro ax tx hs okx sm d0 d1
       have e20 : At (Ty.grd ((((decide ((twoMay a b) ≠ (twoMay a b))) || ((decide ((twoMay a b) ≠ (0 : Int))) && (decide ((0 : Int) < (((List.length (if twoMay a b = 0 then byL a b else [])) : Nat) : Int))))) = false) ∧ (decide ((twoMay a b) = (0 : Int))) = true) (Ty.bool (decide (((if twoMay a b = 0 then byL a b else [])) = ((byL a b)))))) tx ax (.tmp 184) := d0 rfl
       have e15 : At (Ty.grd (((decide ((twoMay a b) ≠ (twoMay a b))) || ((decide ((twoMay a b) ≠ (0 : Int))) && (decide ((0 : Int) < (((List.length (if twoMay a b = 0 then byL a b else [])) : Nat) : Int))))) = false) (Ty.bool (decide ((twoMay a b) = (0 : Int))))) tx ax (.tmp 179) := d1 rfl
       refine run_guard2 (T := (Ty.bool (!(decide (((if twoMay a b = 0 then byL a b else [])) = ((byL a b))))))) okx rfl rfl (by decide) e15 (fun hg => ?_)
       have hp := of_decide_eq_true hg.2
       exact y_not (e20.1 hg)
     · intro ax tx hs okx sm d0 d1 d2
       have e15 : At (Ty.grd (((decide ((twoMay a b) ≠ (twoMay a b))) || ((decide ((twoMay a b) ≠ (0 : Int))) && (decide ((0 : Int) < (((List.length (if twoMay a b = 0 then byL a b else [])) : Nat) : Int))))) = false) (Ty.bool (decide ((twoMay a b) = (0 : Int))))) tx ax (.tmp 179) := d0 rfl
       have e21 : At (Ty.grd ((((decide ((twoMay a b) ≠ (twoMay a b))) || ((decide ((twoMay a b) ≠ (0 : Int))) && (decide ((0 : Int) < (((List.length (if twoMay a b = 0 then byL a b else [])) : Nat) : Int))))) = false) ∧ (decide ((twoMay a b) = (0 : Int))) = true) (Ty.bool (!(decide (((if twoMay a b = 0 then byL a b else [])) = ((byL a b))))))) tx ax (.tmp 185) := d1 rfl
       have e12 : At (Ty.bool ((decide ((twoMay a b) ≠ (twoMay a b))) || ((decide ((twoMay a b) ≠ (0 : Int))) && (decide ((0 : Int) < (((List.length (if twoMay a b = 0 then byL a b else [])) : Nat) : Int)))))) tx ax (.tmp 176) := d2 rfl
       refine run_guard (T := (Ty.bool ((decide ((twoMay a b) = (0 : Int))) && (!(decide (((if twoMay a b = 0 then byL a b else [])) = ((byL a b)))))))) okx rfl rfl (by decide) e12 (fun hg => ?_)
       obtain ⟨d175, d176⟩ := Bool.or_eq_false_iff.mp hg
       have d175 := of_decide_eq_false d175
       exact y_pick_and (e15.1 hg) (grd_part hg e21) rfl
     · intro ax tx hs okx sm d0 d1
       have e12 : At (Ty.bool ((decide ((twoMay a b) ≠ (twoMay a b))) || ((decide ((twoMay a b) ≠ (0 : Int))) && (decide ((0 : Int) < (((List.length (if twoMay a b = 0 then byL a b else [])) : Nat) : Int)))))) tx ax (.tmp 176) := d0 rfl
       have e22 : At (Ty.grd (((decide ((twoMay a b) ≠ (twoMay a b))) || ((decide ((twoMay a b) ≠ (0 : Int))) && (decide ((0 : Int) < (((List.length (if twoMay a b = 0 then byL a b else [])) : Nat) : Int))))) = false) (Ty.bool ((decide ((twoMay a b) = (0 : Int))) && (!(decide (((if twoMay a b = 0 then byL a b else [])) = ((byL a b)))))))) tx ax (.tmp 186) := d1 rfl
       exact run_plain rfl (y_pick_or e12 rfl e22)
     intro a24 s18 D18
     have ok21 := D18.ok
     have F21 := F20.step0 D18.stp
     have q194 : At (Ty.int n) s18 a24 (.tmp 2) := D18.kt q189 rfl
     have q195 : At (Ty.int k) s18 a24 (.tmp 3) := D18.kt q190 rfl
     have q196 : At (Ty.val (Value.string s)) s18 a24 (.tmp 4) := D18.kt q191 rfl
     have q197 : At (Ty.bool (((decide ((twoMay a b) ≠ (twoMay a b))) || ((decide ((twoMay a b) ≠ (0 : Int))) && (decide ((0 : Int) < (((List.length (if twoMay a b = 0 then byL a b else [])) : Nat) : Int))))) || ((decide ((twoMay a b) = (0 : Int))) && (!(decide (((if twoMay a b = 0 then byL a b else [])) = ((byL a b)))))))) s18 a24 (.tmp 187) := D18.done 23
     clear D18
     refine tn ?_
     refine cond_t q197 (fun c7 => ?_) (fun c7 => ?_)
     ·
      exfalso
      by_cases ht : twoMay a b = 0 <;> simp [ht] at c7
     ·
      obtain ⟨d177, d178⟩ := Bool.or_eq_false_iff.mp c7
      obtain ⟨d179, d180⟩ := Bool.or_eq_false_iff.mp d177
      replace d179 := of_decide_eq_false d179
      refine wp_skip ?_
      refine tn ?_
      refine wp_seq ?_
      refine reg (a := a24) (σ := s18) rfl (fun i_ => List.getD [(Ty.pr (Ty.int n)), (Ty.pr (Ty.tup2 (Ty.lst Ty.int (if 1 ≤ n ∧ n ≤ 12 then roundsL (n).toNat else [])) (Ty.int (if 1 ≤ n ∧ n ≤ 12 then 0 else 1)))), (Ty.pr (Ty.tup2 (Ty.lst Ty.int (if 1 ≤ n ∧ n ≤ 12 then roundsL (n).toNat else [])) (Ty.int (if 1 ≤ n ∧ n ≤ 12 then 0 else 1)))), (Ty.pr (Ty.lst Ty.int (if 1 ≤ n ∧ n ≤ 12 then roundsL (n).toNat else []))), (Ty.pr (Ty.int (if 1 ≤ n ∧ n ≤ 12 then 0 else 1))), (Ty.pr (Ty.lst Ty.int (if 1 ≤ n ∧ n ≤ 12 then roundsL (n).toNat else []))), (Ty.pr (Ty.int (if 1 ≤ n ∧ n ≤ 12 then 0 else 1)))] i_ Pr.any) ok21 rfl ⟨?_, ?_, ?_, ?_, ?_, ?_, ?_, trivial⟩ ?_
      · intro ax tx hs okx sm
        exact run_plain rfl (y_move (kp (sm 2 rfl) hs q194))
      · intro ax tx hs okx sm d0
        have e0 : At (Ty.int n) tx ax (.tmp 189) := d0 rfl
        exact run_plain rfl (y_call #[ax.eval (.tmp 189)] Try.func52 rfl rfl (by simp only [List.map_toArray, List.map_cons, List.map_nil]) (roundsA_fn (n) _ _ e0 (by omega)))
      · intro ax tx hs okx sm d0
        have e1 : At (Ty.tup2 (Ty.lst Ty.int (if 1 ≤ n ∧ n ≤ 12 then roundsL (n).toNat else [])) (Ty.int (if 1 ≤ n ∧ n ≤ 12 then 0 else 1))) tx ax (.tmp 190) := d0 rfl
        exact run_plain rfl (y_move e1)
      · intro ax tx hs okx sm d0
        have e2 : At (Ty.tup2 (Ty.lst Ty.int (if 1 ≤ n ∧ n ≤ 12 then roundsL (n).toNat else [])) (Ty.int (if 1 ≤ n ∧ n ≤ 12 then 0 else 1))) tx ax (.tmp 188) := d0 rfl
        exact run_plain rfl (y_ext2_0 e2)
      · intro ax tx hs okx sm d0 d1
        have e2 : At (Ty.tup2 (Ty.lst Ty.int (if 1 ≤ n ∧ n ≤ 12 then roundsL (n).toNat else [])) (Ty.int (if 1 ≤ n ∧ n ≤ 12 then 0 else 1))) tx ax (.tmp 188) := d0 rfl
        exact run_plain rfl (y_ext2_1 e2)
      · intro ax tx hs okx sm d0 d1 d2 d3 d4 d5 d6
        have e3 : At (Ty.lst Ty.int (if 1 ≤ n ∧ n ≤ 12 then roundsL (n).toNat else [])) tx ax (.tmp 191) := d0 rfl
        have e1 : At (Ty.tup2 (Ty.lst Ty.int (if 1 ≤ n ∧ n ≤ 12 then roundsL (n).toNat else [])) (Ty.int (if 1 ≤ n ∧ n ≤ 12 then 0 else 1))) tx ax (.tmp 190) := d1 rfl
        have e0 : At (Ty.int n) tx ax (.tmp 189) := d2 rfl
        have e2 : At (Ty.tup2 (Ty.lst Ty.int (if 1 ≤ n ∧ n ≤ 12 then roundsL (n).toNat else [])) (Ty.int (if 1 ≤ n ∧ n ≤ 12 then 0 else 1))) tx ax (.tmp 188) := d4 rfl
        exact run_plain rfl (y_assign e3)
      · intro ax tx hs okx sm d0 d1 d2 d3 d4 d5 d6 d7
        have e4 : At (Ty.int (if 1 ≤ n ∧ n ≤ 12 then 0 else 1)) tx ax (.tmp 192) := d0 rfl
        have e5 : At (Ty.lst Ty.int (if 1 ≤ n ∧ n ≤ 12 then roundsL (n).toNat else [])) tx ax (.tmp 26) := d1 rfl
        have e0 : At (Ty.int n) tx ax (.tmp 189) := d2 rfl
        have e1 : At (Ty.tup2 (Ty.lst Ty.int (if 1 ≤ n ∧ n ≤ 12 then roundsL (n).toNat else [])) (Ty.int (if 1 ≤ n ∧ n ≤ 12 then 0 else 1))) tx ax (.tmp 190) := d3 rfl
        have e2 : At (Ty.tup2 (Ty.lst Ty.int (if 1 ≤ n ∧ n ≤ 12 then roundsL (n).toNat else [])) (Ty.int (if 1 ≤ n ∧ n ≤ 12 then 0 else 1))) tx ax (.tmp 188) := d4 rfl
        have e3 : At (Ty.lst Ty.int (if 1 ≤ n ∧ n ≤ 12 then roundsL (n).toNat else [])) tx ax (.tmp 191) := d5 rfl
        exact run_plain rfl (y_assign e4)
      intro a25 s19 D19
      have ok22 := D19.ok
      have F22 := F21.step0 D19.stp
      have q198 : At (Ty.int n) s19 a25 (.tmp 2) := D19.kt q194 rfl
      have q199 : At (Ty.int k) s19 a25 (.tmp 3) := D19.kt q195 rfl
      have q200 : At (Ty.val (Value.string s)) s19 a25 (.tmp 4) := D19.kt q196 rfl
      have q201 : At (Ty.lst Ty.int (if 1 ≤ n ∧ n ≤ 12 then roundsL (n).toNat else [])) s19 a25 (.tmp 26) := D19.done 5
      have q202 : At (Ty.int (if 1 ≤ n ∧ n ≤ 12 then 0 else 1)) s19 a25 (.tmp 13) := D19.done 6
      clear D19
      refine tn ?_
      refine wp_seq ?_
      refine reg (a := a25) (σ := s19) rfl (fun i_ => List.getD [(Ty.pr (Ty.int n)), (Ty.pr (Ty.int k)), (Ty.pr (Ty.tup2 (Ty.lst Ty.int (if atMay n k = 0 then atL (n).toNat (k).toNat else [])) (Ty.int (atMay n k)))), (Ty.pr (Ty.tup2 (Ty.lst Ty.int (if atMay n k = 0 then atL (n).toNat (k).toNat else [])) (Ty.int (atMay n k)))), (Ty.pr (Ty.lst Ty.int (if atMay n k = 0 then atL (n).toNat (k).toNat else []))), (Ty.pr (Ty.int (atMay n k))), (Ty.pr (Ty.lst Ty.int (if atMay n k = 0 then atL (n).toNat (k).toNat else []))), (Ty.pr (Ty.int (atMay n k)))] i_ Pr.any) ok22 rfl ⟨?_, ?_, ?_, ?_, ?_, ?_, ?_, ?_, trivial⟩ ?_
      · intro ax tx hs okx sm
        exact run_plain rfl (y_move (kp (sm 2 rfl) hs q198))
      · intro ax tx hs okx sm
        exact run_plain rfl (y_move (kp (sm 3 rfl) hs q199))
      · intro ax tx hs okx sm d0 d1
        have e0 : At (Ty.int n) tx ax (.tmp 194) := d0 rfl
        have e1 : At (Ty.int k) tx ax (.tmp 195) := d1 rfl
        exact run_plain rfl (y_call #[ax.eval (.tmp 194), ax.eval (.tmp 195)] Try.func53 rfl rfl (by simp only [List.map_toArray, List.map_cons, List.map_nil]) (rowAt_fn (n) (k) _ _ _ e0 e1 (by omega) (by omega)))
      · intro ax tx hs okx sm d0
        have e2 : At (Ty.tup2 (Ty.lst Ty.int (if atMay n k = 0 then atL (n).toNat (k).toNat else [])) (Ty.int (atMay n k))) tx ax (.tmp 196) := d0 rfl
        exact run_plain rfl (y_move e2)
      · intro ax tx hs okx sm d0
        have e3 : At (Ty.tup2 (Ty.lst Ty.int (if atMay n k = 0 then atL (n).toNat (k).toNat else [])) (Ty.int (atMay n k))) tx ax (.tmp 193) := d0 rfl
        exact run_plain rfl (y_ext2_0 e3)
      · intro ax tx hs okx sm d0 d1
        have e3 : At (Ty.tup2 (Ty.lst Ty.int (if atMay n k = 0 then atL (n).toNat (k).toNat else [])) (Ty.int (atMay n k))) tx ax (.tmp 193) := d0 rfl
        exact run_plain rfl (y_ext2_1 e3)
      · intro ax tx hs okx sm d0 d1 d2 d3 d4 d5 d6 d7
        have e4 : At (Ty.lst Ty.int (if atMay n k = 0 then atL (n).toNat (k).toNat else [])) tx ax (.tmp 197) := d0 rfl
        have e2 : At (Ty.tup2 (Ty.lst Ty.int (if atMay n k = 0 then atL (n).toNat (k).toNat else [])) (Ty.int (atMay n k))) tx ax (.tmp 196) := d1 rfl
        have e0 : At (Ty.int n) tx ax (.tmp 194) := d2 rfl
        have e1 : At (Ty.int k) tx ax (.tmp 195) := d3 rfl
        have e3 : At (Ty.tup2 (Ty.lst Ty.int (if atMay n k = 0 then atL (n).toNat (k).toNat else [])) (Ty.int (atMay n k))) tx ax (.tmp 193) := d5 rfl
        exact run_plain rfl (y_assign e4)
      · intro ax tx hs okx sm d0 d1 d2 d3 d4 d5 d6 d7 d8
        have e5 : At (Ty.int (atMay n k)) tx ax (.tmp 198) := d0 rfl
        have e6 : At (Ty.lst Ty.int (if atMay n k = 0 then atL (n).toNat (k).toNat else [])) tx ax (.tmp 27) := d1 rfl
        have e0 : At (Ty.int n) tx ax (.tmp 194) := d2 rfl
        have e1 : At (Ty.int k) tx ax (.tmp 195) := d3 rfl
        have e2 : At (Ty.tup2 (Ty.lst Ty.int (if atMay n k = 0 then atL (n).toNat (k).toNat else [])) (Ty.int (atMay n k))) tx ax (.tmp 196) := d4 rfl
        have e3 : At (Ty.tup2 (Ty.lst Ty.int (if atMay n k = 0 then atL (n).toNat (k).toNat else [])) (Ty.int (atMay n k))) tx ax (.tmp 193) := d5 rfl
        have e4 : At (Ty.lst Ty.int (if atMay n k = 0 then atL (n).toNat (k).toNat else [])) tx ax (.tmp 197) := d6 rfl
        exact run_plain rfl (y_assign e5)
      intro a26 s20 D20
      have ok23 := D20.ok
      have F23 := F22.step0 D20.stp
      have q203 : At (Ty.int n) s20 a26 (.tmp 2) := D20.kt q198 rfl
      have q204 : At (Ty.int k) s20 a26 (.tmp 3) := D20.kt q199 rfl
      have q205 : At (Ty.val (Value.string s)) s20 a26 (.tmp 4) := D20.kt q200 rfl
      have q206 : At (Ty.lst Ty.int (if 1 ≤ n ∧ n ≤ 12 then roundsL (n).toNat else [])) s20 a26 (.tmp 26) := D20.kt q201 rfl
      have q207 : At (Ty.int (if 1 ≤ n ∧ n ≤ 12 then 0 else 1)) s20 a26 (.tmp 13) := D20.kt q202 rfl
      have q208 : At (Ty.lst Ty.int (if atMay n k = 0 then atL (n).toNat (k).toNat else [])) s20 a26 (.tmp 27) := D20.done 6
      have q209 : At (Ty.int (atMay n k)) s20 a26 (.tmp 16) := D20.done 7
      clear D20
      refine tn ?_
      refine wp_seq ?_
      refine wp_seq ?_
      refine reg (a := a26) (σ := s20) rfl (fun i_ => List.getD [(Ty.pr (Ty.int n)), (Ty.pr (Ty.bool (decide (n < (1 : Int))))), (Ty.pr (Ty.bool (decide (n < (1 : Int))))), (Ty.pr (Ty.grd ((decide (n < (1 : Int))) = false) (Ty.int n))), (Ty.pr (Ty.grd ((decide (n < (1 : Int))) = false) (Ty.bool (decide ((12 : Int) < n))))), (Ty.pr (Ty.bool ((decide (n < (1 : Int))) || (decide ((12 : Int) < n)))))] i_ Pr.any) ok23 rfl ⟨?_, ?_, ?_, ?_, ?_, ?_, trivial⟩ ?_
      · intro ax tx hs okx sm
        exact run_plain rfl (y_move (kp (sm 2 rfl) hs q203))
      · intro ax tx hs okx sm d0
        have e0 : At (Ty.int n) tx ax (.tmp 199) := d0 rfl
        exact run_plain rfl (y_lss e0 rfl)
      · intro ax tx hs okx sm d0
        have e1 : At (Ty.bool (decide (n < (1 : Int)))) tx ax (.tmp 200) := d0 rfl
        exact run_plain rfl (y_move e1)
      · intro ax tx hs okx sm d0
        have e2 : At (Ty.bool (decide (n < (1 : Int)))) tx ax (.tmp 201) := d0 rfl
        refine run_guard (T := (Ty.int n)) okx rfl rfl (by decide) e2 (fun hg => ?_)
        have hp := of_decide_eq_false hg
        exact y_move (kp (sm 2 rfl) hs q203)
      · intro ax tx hs okx sm d0 d1
        have e3 : At (Ty.grd ((decide (n < (1 : Int))) = false) (Ty.int n)) tx ax (.tmp 202) := d0 rfl
        have e2 : At (Ty.bool (decide (n < (1 : Int)))) tx ax (.tmp 201) := d1 rfl
        refine run_guard (T := (Ty.bool (decide ((12 : Int) < n)))) okx rfl rfl (by decide) e2 (fun hg => ?_)
        have hp := of_decide_eq_false hg
        exact y_gtr (e3.1 hg) rfl
      · intro ax tx hs okx sm d0 d1
        have e2 : At (Ty.bool (decide (n < (1 : Int)))) tx ax (.tmp 201) := d0 rfl
        have e4 : At (Ty.grd ((decide (n < (1 : Int))) = false) (Ty.bool (decide ((12 : Int) < n)))) tx ax (.tmp 203) := d1 rfl
        exact run_plain rfl (y_pick_or e2 rfl e4)
      intro a27 s21 D21
      have ok24 := D21.ok
      have F24 := F23.step0 D21.stp
      have q210 : At (Ty.int n) s21 a27 (.tmp 2) := D21.kt q203 rfl
      have q211 : At (Ty.int k) s21 a27 (.tmp 3) := D21.kt q204 rfl
      have q212 : At (Ty.val (Value.string s)) s21 a27 (.tmp 4) := D21.kt q205 rfl
      have q213 : At (Ty.lst Ty.int (if 1 ≤ n ∧ n ≤ 12 then roundsL (n).toNat else [])) s21 a27 (.tmp 26) := D21.kt q206 rfl
      have q214 : At (Ty.int (if 1 ≤ n ∧ n ≤ 12 then 0 else 1)) s21 a27 (.tmp 13) := D21.kt q207 rfl
      have q215 : At (Ty.lst Ty.int (if atMay n k = 0 then atL (n).toNat (k).toNat else [])) s21 a27 (.tmp 27) := D21.kt q208 rfl
      have q216 : At (Ty.int (atMay n k)) s21 a27 (.tmp 16) := D21.kt q209 rfl
      have q217 : At (Ty.bool ((decide (n < (1 : Int))) || (decide ((12 : Int) < n)))) s21 a27 (.tmp 204) := D21.done 5
      clear D21
      refine tn ?_
      refine Go.KL.join_then (Q' := fun a28 w7 => ∃ (t7 : GW), t7.w = w7 ∧ FromL [] s0 t7 ∧ Ok 284 a28 ∧ At (Ty.val (Value.string s)) t7 a28 (.tmp 4) ∧ True) ?_ ?_
      ·
       refine cond_t q217 (fun c8 => ?_) (fun c8 => ?_)
       ·
        simp only [Bool.or_eq_true, decide_eq_true_eq] at c8; have hc8 : n < 1 ∨ 12 < n := (by omega)
        have q218 : At (Ty.int (1 : Int)) s21 a27 (.tmp 13) := cvt (T := (Ty.int (if 1 ≤ n ∧ n ≤ 12 then 0 else 1))) (U := (Ty.int (1 : Int))) (by rw [if_neg (by omega)]) q214
        have q219 : At (Ty.int (1 : Int)) s21 a27 (.tmp 16) := cvt (T := (Ty.int (atMay n k))) (U := (Ty.int (1 : Int))) (by rw [atMay_cnt hc8]) q216
        have q220 : At (Ty.lst Ty.int ([] : List Int)) s21 a27 (.tmp 26) := cvt (T := (Ty.lst Ty.int (if 1 ≤ n ∧ n ≤ 12 then roundsL (n).toNat else []))) (U := (Ty.lst Ty.int ([] : List Int))) (by rw [if_neg (by omega)]) q213
        have q221 : At (Ty.lst Ty.int ([] : List Int)) s21 a27 (.tmp 27) := cvt (T := (Ty.lst Ty.int (if atMay n k = 0 then atL (n).toNat (k).toNat else []))) (U := (Ty.lst Ty.int ([] : List Int))) (by rw [atMay_cnt hc8, if_neg (by decide)]) q215
        refine wp_seq ?_
        refine reg (a := a27) (σ := s21) rfl (fun i_ => List.getD [(Ty.pr (Ty.int (1 : Int))), (Ty.pr (Ty.bool false)), (Ty.pr (Ty.bool false)), (Ty.pr (Ty.grd (false = false) (Ty.int (1 : Int)))), (Ty.pr (Ty.grd (false = false) (Ty.bool false))), (Ty.pr (Ty.bool (false || false))), (Ty.pr (Ty.bool (false || false))), (Ty.pr (Ty.grd ((false || false) = false) (Ty.lst Ty.int ([] : List Int)))), (Ty.pr (Ty.grd ((false || false) = false) (Ty.nat (List.length ([] : List Int))))), (Ty.pr (Ty.grd ((false || false) = false) (Ty.lst Ty.int ([] : List Int)))), (Ty.pr (Ty.grd ((false || false) = false) (Ty.nat (List.length ([] : List Int))))), (Ty.pr (Ty.grd ((false || false) = false) (Ty.nat ((List.length ([] : List Int)) + (List.length ([] : List Int)))))), (Ty.pr (Ty.grd ((false || false) = false) (Ty.bool (decide ((0 : Int) < ((((List.length ([] : List Int)) + (List.length ([] : List Int))) : Nat) : Int)))))), (Ty.pr (Ty.bool ((false || false) || (decide ((0 : Int) < ((((List.length ([] : List Int)) + (List.length ([] : List Int))) : Nat) : Int))))))] i_ Pr.any) ok24 rfl ⟨?_, ?_, ?_, ?_, ?_, ?_, ?_, ?_, ?_, ?_, ?_, ?_, ?_, ?_, trivial⟩ ?_
        · intro ax tx hs okx sm
          exact run_plain rfl (y_move (kp (sm 13 rfl) hs q218))
        · intro ax tx hs okx sm d0
          have e0 : At (Ty.int (1 : Int)) tx ax (.tmp 205) := d0 rfl
          exact run_plain rfl ((y_neq e0 rfl).mono (fun τ _ h => cvb (σ := τ) (by decide) h))
        · intro ax tx hs okx sm d0
          have e1 : At (Ty.bool false) tx ax (.tmp 206) := d0 rfl
          exact run_plain rfl (y_move e1)
        · intro ax tx hs okx sm d0
          have e2 : At (Ty.bool false) tx ax (.tmp 207) := d0 rfl
          refine run_guard (T := (Ty.int (1 : Int))) okx rfl rfl (by decide) e2 (fun hg => ?_)
          exact y_move (kp (sm 16 rfl) hs q219)
        · intro ax tx hs okx sm d0 d1
          have e3 : At (Ty.grd (false = false) (Ty.int (1 : Int))) tx ax (.tmp 208) := d0 rfl
          have e2 : At (Ty.bool false) tx ax (.tmp 207) := d1 rfl
          refine run_guard (T := (Ty.bool false)) okx rfl rfl (by decide) e2 (fun hg => ?_)
          exact (y_neq (e3.1 hg) rfl).mono (fun τ _ h => cvb (σ := τ) (by decide) h)
        · intro ax tx hs okx sm d0 d1
          have e2 : At (Ty.bool false) tx ax (.tmp 207) := d0 rfl
          have e4 : At (Ty.grd (false = false) (Ty.bool false)) tx ax (.tmp 209) := d1 rfl
          exact run_plain rfl (y_pick_or e2 rfl e4)
        · intro ax tx hs okx sm d0 d1
          have e5 : At (Ty.bool (false || false)) tx ax (.tmp 210) := d0 rfl
          have e2 : At (Ty.bool false) tx ax (.tmp 207) := d1 rfl
          exact run_plain rfl (y_move e5)
        · intro ax tx hs okx sm d0
          have e6 : At (Ty.bool (false || false)) tx ax (.tmp 211) := d0 rfl
          refine run_guard (T := (Ty.lst Ty.int ([] : List Int))) okx rfl rfl (by decide) e6 (fun hg => ?_)
          obtain ⟨d181, d182⟩ := Bool.or_eq_false_iff.mp hg
          exact y_move (kp (sm 26 rfl) hs q220)
        · intro ax tx hs okx sm d0 d1
          have e7 : At (Ty.grd ((false || false) = false) (Ty.lst Ty.int ([] : List Int))) tx ax (.tmp 212) := d0 rfl
          have e6 : At (Ty.bool (false || false)) tx ax (.tmp 211) := d1 rfl
          refine run_guard (T := (Ty.nat (List.length ([] : List Int)))) okx rfl rfl (by decide) e6 (fun hg => ?_)
          obtain ⟨d183, d184⟩ := Bool.or_eq_false_iff.mp hg
          exact y_len Try.underlying34 (e7.1 hg)
        · intro ax tx hs okx sm d0
          have e6 : At (Ty.bool (false || false)) tx ax (.tmp 211) := d0 rfl
          refine run_guard (T := (Ty.lst Ty.int ([] : List Int))) okx rfl rfl (by decide) e6 (fun hg => ?_)
          obtain ⟨d185, d186⟩ := Bool.or_eq_false_iff.mp hg
          exact y_move (kp (sm 27 rfl) hs q221)
        · intro ax tx hs okx sm d0 d1
          have e9 : At (Ty.grd ((false || false) = false) (Ty.lst Ty.int ([] : List Int))) tx ax (.tmp 214) := d0 rfl
          have e6 : At (Ty.bool (false || false)) tx ax (.tmp 211) := d1 rfl
          refine run_guard (T := (Ty.nat (List.length ([] : List Int)))) okx rfl rfl (by decide) e6 (fun hg => ?_)
          obtain ⟨d187, d188⟩ := Bool.or_eq_false_iff.mp hg
          exact y_len Try.underlying34 (e9.1 hg)
        · intro ax tx hs okx sm d0 d1 d2
          have e8 : At (Ty.grd ((false || false) = false) (Ty.nat (List.length ([] : List Int)))) tx ax (.tmp 213) := d0 rfl
          have e10 : At (Ty.grd ((false || false) = false) (Ty.nat (List.length ([] : List Int)))) tx ax (.tmp 215) := d1 rfl
          have e6 : At (Ty.bool (false || false)) tx ax (.tmp 211) := d2 rfl
          refine run_guard (T := (Ty.nat ((List.length ([] : List Int)) + (List.length ([] : List Int))))) okx rfl rfl (by decide) e6 (fun hg => ?_)
          obtain ⟨d189, d190⟩ := Bool.or_eq_false_iff.mp hg
          exact (y_add (e8.1 hg) (e10.1 hg) (w64 (by omega) (by omega))).mono (fun τ _ h => cvi (σ := τ) (by first | omega | exact (Int.natCast_mul _ _).symm) h)
        · intro ax tx hs okx sm d0 d1
          have e11 : At (Ty.grd ((false || false) = false) (Ty.nat ((List.length ([] : List Int)) + (List.length ([] : List Int))))) tx ax (.tmp 216) := d0 rfl
          have e6 : At (Ty.bool (false || false)) tx ax (.tmp 211) := d1 rfl
          refine run_guard (T := (Ty.bool (decide ((0 : Int) < ((((List.length ([] : List Int)) + (List.length ([] : List Int))) : Nat) : Int))))) okx rfl rfl (by decide) e6 (fun hg => ?_)
          obtain ⟨d191, d192⟩ := Bool.or_eq_false_iff.mp hg
          exact y_gtr (e11.1 hg) rfl
        · intro ax tx hs okx sm d0 d1
          have e6 : At (Ty.bool (false || false)) tx ax (.tmp 211) := d0 rfl
          have e12 : At (Ty.grd ((false || false) = false) (Ty.bool (decide ((0 : Int) < ((((List.length ([] : List Int)) + (List.length ([] : List Int))) : Nat) : Int))))) tx ax (.tmp 217) := d1 rfl
          exact run_plain rfl (y_pick_or e6 rfl e12)
        intro a29 s22 D22
        have ok25 := D22.ok
        have F25 := F24.step0 D22.stp
        have q222 : At (Ty.val (Value.string s)) s22 a29 (.tmp 4) := D22.kt q212 rfl
        have q223 : At (Ty.bool ((false || false) || (decide ((0 : Int) < ((((List.length ([] : List Int)) + (List.length ([] : List Int))) : Nat) : Int))))) s22 a29 (.tmp 218) := D22.done 13
        clear D22
        refine tn ?_
        refine cond_t q223 (fun c9 => ?_) (fun c9 => ?_)
        ·
         exfalso
         simp at c9
        ·
         obtain ⟨d193, d194⟩ := Bool.or_eq_false_iff.mp c9
         obtain ⟨d195, d196⟩ := Bool.or_eq_false_iff.mp d193
         replace d194 := of_decide_eq_false d194
         refine wp_skip ?_
         exact tn ⟨s22, rfl, F25, ok25, q222, trivial⟩
       ·
        obtain ⟨d197, d198⟩ := Bool.or_eq_false_iff.mp c8
        replace d197 := of_decide_eq_false d197
        replace d198 := of_decide_eq_false d198
        simp only [Bool.or_eq_false_iff, decide_eq_false_iff_not] at c8; have hc8 : ¬ (n < 1 ∨ 12 < n) := (by omega)
        have q224 : At (Ty.int (0 : Int)) s21 a27 (.tmp 13) := cvt (T := (Ty.int (if 1 ≤ n ∧ n ≤ 12 then 0 else 1))) (U := (Ty.int (0 : Int))) (by rw [if_pos (by omega)]) q214
        have q225 : At (Ty.lst Ty.int (roundsL (n).toNat)) s21 a27 (.tmp 26) := cvt (T := (Ty.lst Ty.int (if 1 ≤ n ∧ n ≤ 12 then roundsL (n).toNat else []))) (U := (Ty.lst Ty.int (roundsL (n).toNat))) (by rw [if_pos (by omega)]) q213
        refine wp_seq ?_
        refine reg (a := a27) (σ := s21) rfl (fun i_ => List.getD [(Ty.pr (Ty.int k)), (Ty.pr (Ty.bool (decide ((0 : Int) ≤ k)))), (Ty.pr (Ty.bool (decide ((0 : Int) ≤ k)))), (Ty.pr (Ty.grd ((decide ((0 : Int) ≤ k)) = true) (Ty.int k))), (Ty.pr (Ty.grd ((decide ((0 : Int) ≤ k)) = true) (Ty.int n))), (Ty.pr (Ty.grd ((decide ((0 : Int) ≤ k)) = true) (Ty.nat (fct ((n).toNat))))), (Ty.pr (Ty.grd ((decide ((0 : Int) ≤ k)) = true) (Ty.bool (decide (k < (((fct ((n).toNat)) : Nat) : Int)))))), (Ty.pr (Ty.bool ((decide ((0 : Int) ≤ k)) && (decide (k < (((fct ((n).toNat)) : Nat) : Int)))))), (Ty.pr (Ty.bool ((decide ((0 : Int) ≤ k)) && (decide (k < (((fct ((n).toNat)) : Nat) : Int))))))] i_ Pr.any) ok24 rfl ⟨?_, ?_, ?_, ?_, ?_, ?_, ?_, ?_, ?_, trivial⟩ ?_
        · intro ax tx hs okx sm
          exact run_plain rfl (y_move (kp (sm 3 rfl) hs q211))
        · intro ax tx hs okx sm d0
          have e0 : At (Ty.int k) tx ax (.tmp 219) := d0 rfl
          exact run_plain rfl (y_geq e0 rfl)
        · intro ax tx hs okx sm d0
          have e1 : At (Ty.bool (decide ((0 : Int) ≤ k))) tx ax (.tmp 220) := d0 rfl
          exact run_plain rfl (y_move e1)
        · intro ax tx hs okx sm d0
          have e2 : At (Ty.bool (decide ((0 : Int) ≤ k))) tx ax (.tmp 221) := d0 rfl
          refine run_guard (T := (Ty.int k)) okx rfl rfl (by decide) e2 (fun hg => ?_)
          have hp := of_decide_eq_true hg
          exact y_move (kp (sm 3 rfl) hs q211)
        · intro ax tx hs okx sm d0
          have e2 : At (Ty.bool (decide ((0 : Int) ≤ k))) tx ax (.tmp 221) := d0 rfl
          refine run_guard (T := (Ty.int n)) okx rfl rfl (by decide) e2 (fun hg => ?_)
          have hp := of_decide_eq_true hg
          exact y_move (kp (sm 2 rfl) hs q210)
        · intro ax tx hs okx sm d0 d1 d2
          have e4 : At (Ty.grd ((decide ((0 : Int) ≤ k)) = true) (Ty.int n)) tx ax (.tmp 223) := d0 rfl
          have e2 : At (Ty.bool (decide ((0 : Int) ≤ k))) tx ax (.tmp 221) := d1 rfl
          refine run_guard (T := (Ty.nat (fct ((n).toNat)))) okx rfl rfl (by decide) e2 (fun hg => ?_)
          have hp := of_decide_eq_true hg
          exact y_call #[ax.eval (.tmp 223)] Try.func35 rfl rfl (by simp only [List.map_toArray, List.map_cons, List.map_nil]) (rFact_fn (((n).toNat)) ((n).toNat) _ _ (cvi (σ := tx) (by omega) (e4.1 hg)) (by omega) (by omega))
        · intro ax tx hs okx sm d0 d1 d2
          have e3 : At (Ty.grd ((decide ((0 : Int) ≤ k)) = true) (Ty.int k)) tx ax (.tmp 222) := d0 rfl
          have e5 : At (Ty.grd ((decide ((0 : Int) ≤ k)) = true) (Ty.nat (fct ((n).toNat)))) tx ax (.tmp 224) := d1 rfl
          have e2 : At (Ty.bool (decide ((0 : Int) ≤ k))) tx ax (.tmp 221) := d2 rfl
          refine run_guard (T := (Ty.bool (decide (k < (((fct ((n).toNat)) : Nat) : Int))))) okx rfl rfl (by decide) e2 (fun hg => ?_)
          have hp := of_decide_eq_true hg
          exact y_lss (e3.1 hg) (e5.1 hg)
        · intro ax tx hs okx sm d0 d1
          have e2 : At (Ty.bool (decide ((0 : Int) ≤ k))) tx ax (.tmp 221) := d0 rfl
          have e6 : At (Ty.grd ((decide ((0 : Int) ≤ k)) = true) (Ty.bool (decide (k < (((fct ((n).toNat)) : Nat) : Int))))) tx ax (.tmp 225) := d1 rfl
          exact run_plain rfl (y_pick_and e2 e6 rfl)
        · intro ax tx hs okx sm d0 d1 d2 d3 d4 d5 d6 d7 d8 d9
          have e7 : At (Ty.bool ((decide ((0 : Int) ≤ k)) && (decide (k < (((fct ((n).toNat)) : Nat) : Int))))) tx ax (.tmp 226) := d0 rfl
          have e5 : At (Ty.grd ((decide ((0 : Int) ≤ k)) = true) (Ty.nat (fct ((n).toNat)))) tx ax (.tmp 224) := d1 rfl
          have e0 : At (Ty.int k) tx ax (.tmp 219) := d2 rfl
          have e1 : At (Ty.bool (decide ((0 : Int) ≤ k))) tx ax (.tmp 220) := d3 rfl
          have e2 : At (Ty.bool (decide ((0 : Int) ≤ k))) tx ax (.tmp 221) := d4 rfl
          have e3 : At (Ty.grd ((decide ((0 : Int) ≤ k)) = true) (Ty.int k)) tx ax (.tmp 222) := d5 rfl
          have e4 : At (Ty.grd ((decide ((0 : Int) ≤ k)) = true) (Ty.int n)) tx ax (.tmp 223) := d6 rfl
          have e6 : At (Ty.grd ((decide ((0 : Int) ≤ k)) = true) (Ty.bool (decide (k < (((fct ((n).toNat)) : Nat) : Int))))) tx ax (.tmp 225) := d8 rfl
          exact run_plain rfl (y_assign e7)
        intro a30 s23 D23
        have ok26 := D23.ok
        have F26 := F24.step0 D23.stp
        have q226 : At (Ty.int n) s23 a30 (.tmp 2) := D23.kt q210 rfl
        have q227 : At (Ty.int k) s23 a30 (.tmp 3) := D23.kt q211 rfl
        have q228 : At (Ty.val (Value.string s)) s23 a30 (.tmp 4) := D23.kt q212 rfl
        have q229 : At (Ty.lst Ty.int (roundsL (n).toNat)) s23 a30 (.tmp 26) := D23.kt q225 rfl
        have q230 : At (Ty.int (0 : Int)) s23 a30 (.tmp 13) := D23.kt q224 rfl
        have q231 : At (Ty.lst Ty.int (if atMay n k = 0 then atL (n).toNat (k).toNat else [])) s23 a30 (.tmp 27) := D23.kt q215 rfl
        have q232 : At (Ty.int (atMay n k)) s23 a30 (.tmp 16) := D23.kt q216 rfl
        have q233 : At (Ty.bool ((decide ((0 : Int) ≤ k)) && (decide (k < (((fct ((n).toNat)) : Nat) : Int))))) s23 a30 (.tmp 28) := D23.done 8
        clear D23
        have q234 : At (Ty.bool (decide (atMay n k = 0))) s23 a30 (.tmp 28) := (cvb (by (exact (at_dec hc8).symm)) q233)
        refine tn ?_
        refine wp_seq ?_
        refine reg (a := a30) (σ := s23) rfl (fun i_ => List.getD [(Ty.pr (Ty.int (0 : Int))), (Ty.pr (Ty.bool false)), (Ty.pr (Ty.bool false)), (Ty.pr (Ty.grd (false = false) (Ty.lst Ty.int (roundsL (n).toNat)))), (Ty.pr (Ty.grd (false = false) (Ty.int n))), (Ty.pr (Ty.grd (false = false) (Ty.lst Ty.int (roundsL ((n).toNat))))), (Ty.pr (Ty.grd (false = false) (Ty.bool (decide (((roundsL (n).toNat)) = ((roundsL ((n).toNat)))))))), (Ty.pr (Ty.grd (false = false) (Ty.bool (!(decide (((roundsL (n).toNat)) = ((roundsL ((n).toNat))))))))), (Ty.pr (Ty.bool (false || (!(decide (((roundsL (n).toNat)) = ((roundsL ((n).toNat))))))))), (Ty.pr (Ty.bool (false || (!(decide (((roundsL (n).toNat)) = ((roundsL ((n).toNat))))))))), (Ty.pr (Ty.grd ((false || (!(decide (((roundsL (n).toNat)) = ((roundsL ((n).toNat))))))) = false) (Ty.bool (decide (atMay n k = 0))))), (Ty.pr (Ty.grd ((false || (!(decide (((roundsL (n).toNat)) = ((roundsL ((n).toNat))))))) = false) (Ty.int (atMay n k)))), (Ty.pr (Ty.grd ((false || (!(decide (((roundsL (n).toNat)) = ((roundsL ((n).toNat))))))) = false) (Ty.bool (decide ((atMay n k) = (0 : Int)))))), (Ty.pr (Ty.grd ((false || (!(decide (((roundsL (n).toNat)) = ((roundsL ((n).toNat))))))) = false) (Ty.bool ((decide (atMay n k = 0)) != (decide ((atMay n k) = (0 : Int))))))), (Ty.pr (Ty.bool ((false || (!(decide (((roundsL (n).toNat)) = ((roundsL ((n).toNat))))))) || ((decide (atMay n k = 0)) != (decide ((atMay n k) = (0 : Int))))))), (Ty.pr (Ty.bool ((false || (!(decide (((roundsL (n).toNat)) = ((roundsL ((n).toNat))))))) || ((decide (atMay n k = 0)) != (decide ((atMay n k) = (0 : Int))))))), (Ty.pr (Ty.grd (((false || (!(decide (((roundsL (n).toNat)) = ((roundsL ((n).toNat))))))) || ((decide (atMay n k = 0)) != (decide ((atMay n k) = (0 : Int))))) = false) (Ty.bool (decide (atMay n k = 0))))), (Ty.pr (Ty.grd (((false || (!(decide (((roundsL (n).toNat)) = ((roundsL ((n).toNat))))))) || ((decide (atMay n k = 0)) != (decide ((atMay n k) = (0 : Int))))) = false) (Ty.bool (!(decide (atMay n k = 0)))))), (Ty.pr (Ty.grd (((false || (!(decide (((roundsL (n).toNat)) = ((roundsL ((n).toNat))))))) || ((decide (atMay n k = 0)) != (decide ((atMay n k) = (0 : Int))))) = false) (Ty.bool (!(decide (atMay n k = 0)))))), (Ty.pr (Ty.grd ((((false || (!(decide (((roundsL (n).toNat)) = ((roundsL ((n).toNat))))))) || ((decide (atMay n k = 0)) != (decide ((atMay n k) = (0 : Int))))) = false) ∧ (!(decide (atMay n k = 0))) = true) (Ty.int (atMay n k)))), (Ty.pr (Ty.grd ((((false || (!(decide (((roundsL (n).toNat)) = ((roundsL ((n).toNat))))))) || ((decide (atMay n k = 0)) != (decide ((atMay n k) = (0 : Int))))) = false) ∧ (!(decide (atMay n k = 0))) = true) (Ty.bool (decide ((atMay n k) ≠ (12 : Int)))))), (Ty.pr (Ty.grd ((((false || (!(decide (((roundsL (n).toNat)) = ((roundsL ((n).toNat))))))) || ((decide (atMay n k = 0)) != (decide ((atMay n k) = (0 : Int))))) = false) ∧ (!(decide (atMay n k = 0))) = true) (Ty.bool (decide ((atMay n k) ≠ (12 : Int)))))), (Ty.pr (Ty.grd (((((false || (!(decide (((roundsL (n).toNat)) = ((roundsL ((n).toNat))))))) || ((decide (atMay n k = 0)) != (decide ((atMay n k) = (0 : Int))))) = false) ∧ (!(decide (atMay n k = 0))) = true) ∧ (decide ((atMay n k) ≠ (12 : Int))) = false) (Ty.lst Ty.int (if atMay n k = 0 then atL (n).toNat (k).toNat else [])))), (Ty.pr (Ty.grd (((((false || (!(decide (((roundsL (n).toNat)) = ((roundsL ((n).toNat))))))) || ((decide (atMay n k = 0)) != (decide ((atMay n k) = (0 : Int))))) = false) ∧ (!(decide (atMay n k = 0))) = true) ∧ (decide ((atMay n k) ≠ (12 : Int))) = false) (Ty.nat (List.length (if atMay n k = 0 then atL (n).toNat (k).toNat else []))))), (Ty.pr (Ty.grd (((((false || (!(decide (((roundsL (n).toNat)) = ((roundsL ((n).toNat))))))) || ((decide (atMay n k = 0)) != (decide ((atMay n k) = (0 : Int))))) = false) ∧ (!(decide (atMay n k = 0))) = true) ∧ (decide ((atMay n k) ≠ (12 : Int))) = false) (Ty.bool (decide ((0 : Int) < (((List.length (if atMay n k = 0 then atL (n).toNat (k).toNat else [])) : Nat) : Int)))))), (Ty.pr (Ty.grd ((((false || (!(decide (((roundsL (n).toNat)) = ((roundsL ((n).toNat))))))) || ((decide (atMay n k = 0)) != (decide ((atMay n k) = (0 : Int))))) = false) ∧ (!(decide (atMay n k = 0))) = true) (Ty.bool ((decide ((atMay n k) ≠ (12 : Int))) || (decide ((0 : Int) < (((List.length (if atMay n k = 0 then atL (n).toNat (k).toNat else [])) : Nat) : Int))))))), (Ty.pr (Ty.grd (((false || (!(decide (((roundsL (n).toNat)) = ((roundsL ((n).toNat))))))) || ((decide (atMay n k = 0)) != (decide ((atMay n k) = (0 : Int))))) = false) (Ty.bool ((!(decide (atMay n k = 0))) && ((decide ((atMay n k) ≠ (12 : Int))) || (decide ((0 : Int) < (((List.length (if atMay n k = 0 then atL (n).toNat (k).toNat else [])) : Nat) : Int)))))))), (Ty.pr (Ty.bool (((false || (!(decide (((roundsL (n).toNat)) = ((roundsL ((n).toNat))))))) || ((decide (atMay n k = 0)) != (decide ((atMay n k) = (0 : Int))))) || ((!(decide (atMay n k = 0))) && ((decide ((atMay n k) ≠ (12 : Int))) || (decide ((0 : Int) < (((List.length (if atMay n k = 0 then atL (n).toNat (k).toNat else [])) : Nat) : Int)))))))), (Ty.pr (Ty.bool (((false || (!(decide (((roundsL (n).toNat)) = ((roundsL ((n).toNat))))))) || ((decide (atMay n k = 0)) != (decide ((atMay n k) = (0 : Int))))) || ((!(decide (atMay n k = 0))) && ((decide ((atMay n k) ≠ (12 : Int))) || (decide ((0 : Int) < (((List.length (if atMay n k = 0 then atL (n).toNat (k).toNat else [])) : Nat) : Int)))))))), (Ty.pr (Ty.grd ((((false || (!(decide (((roundsL (n).toNat)) = ((roundsL ((n).toNat))))))) || ((decide (atMay n k = 0)) != (decide ((atMay n k) = (0 : Int))))) || ((!(decide (atMay n k = 0))) && ((decide ((atMay n k) ≠ (12 : Int))) || (decide ((0 : Int) < (((List.length (if atMay n k = 0 then atL (n).toNat (k).toNat else [])) : Nat) : Int)))))) = false) (Ty.bool (decide (atMay n k = 0))))), (Ty.pr (Ty.grd ((((false || (!(decide (((roundsL (n).toNat)) = ((roundsL ((n).toNat))))))) || ((decide (atMay n k = 0)) != (decide ((atMay n k) = (0 : Int))))) || ((!(decide (atMay n k = 0))) && ((decide ((atMay n k) ≠ (12 : Int))) || (decide ((0 : Int) < (((List.length (if atMay n k = 0 then atL (n).toNat (k).toNat else [])) : Nat) : Int)))))) = false) (Ty.bool (decide (atMay n k = 0))))), (Ty.pr (Ty.grd (((((false || (!(decide (((roundsL (n).toNat)) = ((roundsL ((n).toNat))))))) || ((decide (atMay n k = 0)) != (decide ((atMay n k) = (0 : Int))))) || ((!(decide (atMay n k = 0))) && ((decide ((atMay n k) ≠ (12 : Int))) || (decide ((0 : Int) < (((List.length (if atMay n k = 0 then atL (n).toNat (k).toNat else [])) : Nat) : Int)))))) = false) ∧ (decide (atMay n k = 0)) = true) (Ty.lst Ty.int (if atMay n k = 0 then atL (n).toNat (k).toNat else [])))), (Ty.pr (Ty.grd (((((false || (!(decide (((roundsL (n).toNat)) = ((roundsL ((n).toNat))))))) || ((decide (atMay n k = 0)) != (decide ((atMay n k) = (0 : Int))))) || ((!(decide (atMay n k = 0))) && ((decide ((atMay n k) ≠ (12 : Int))) || (decide ((0 : Int) < (((List.length (if atMay n k = 0 then atL (n).toNat (k).toNat else [])) : Nat) : Int)))))) = false) ∧ (decide (atMay n k = 0)) = true) (Ty.int n))), (Ty.pr (Ty.grd (((((false || (!(decide (((roundsL (n).toNat)) = ((roundsL ((n).toNat))))))) || ((decide (atMay n k = 0)) != (decide ((atMay n k) = (0 : Int))))) || ((!(decide (atMay n k = 0))) && ((decide ((atMay n k) ≠ (12 : Int))) || (decide ((0 : Int) < (((List.length (if atMay n k = 0 then atL (n).toNat (k).toNat else [])) : Nat) : Int)))))) = false) ∧ (decide (atMay n k = 0)) = true) (Ty.int k))), (Ty.pr (Ty.grd (((((false || (!(decide (((roundsL (n).toNat)) = ((roundsL ((n).toNat))))))) || ((decide (atMay n k = 0)) != (decide ((atMay n k) = (0 : Int))))) || ((!(decide (atMay n k = 0))) && ((decide ((atMay n k) ≠ (12 : Int))) || (decide ((0 : Int) < (((List.length (if atMay n k = 0 then atL (n).toNat (k).toNat else [])) : Nat) : Int)))))) = false) ∧ (decide (atMay n k = 0)) = true) (Ty.lst Ty.int (atL ((n).toNat) ((k).toNat))))), (Ty.pr (Ty.grd (((((false || (!(decide (((roundsL (n).toNat)) = ((roundsL ((n).toNat))))))) || ((decide (atMay n k = 0)) != (decide ((atMay n k) = (0 : Int))))) || ((!(decide (atMay n k = 0))) && ((decide ((atMay n k) ≠ (12 : Int))) || (decide ((0 : Int) < (((List.length (if atMay n k = 0 then atL (n).toNat (k).toNat else [])) : Nat) : Int)))))) = false) ∧ (decide (atMay n k = 0)) = true) (Ty.bool (decide (((if atMay n k = 0 then atL (n).toNat (k).toNat else [])) = ((atL ((n).toNat) ((k).toNat)))))))), (Ty.pr (Ty.grd (((((false || (!(decide (((roundsL (n).toNat)) = ((roundsL ((n).toNat))))))) || ((decide (atMay n k = 0)) != (decide ((atMay n k) = (0 : Int))))) || ((!(decide (atMay n k = 0))) && ((decide ((atMay n k) ≠ (12 : Int))) || (decide ((0 : Int) < (((List.length (if atMay n k = 0 then atL (n).toNat (k).toNat else [])) : Nat) : Int)))))) = false) ∧ (decide (atMay n k = 0)) = true) (Ty.bool (!(decide (((if atMay n k = 0 then atL (n).toNat (k).toNat else [])) = ((atL ((n).toNat) ((k).toNat))))))))), (Ty.pr (Ty.grd ((((false || (!(decide (((roundsL (n).toNat)) = ((roundsL ((n).toNat))))))) || ((decide (atMay n k = 0)) != (decide ((atMay n k) = (0 : Int))))) || ((!(decide (atMay n k = 0))) && ((decide ((atMay n k) ≠ (12 : Int))) || (decide ((0 : Int) < (((List.length (if atMay n k = 0 then atL (n).toNat (k).toNat else [])) : Nat) : Int)))))) = false) (Ty.bool ((decide (atMay n k = 0)) && (!(decide (((if atMay n k = 0 then atL (n).toNat (k).toNat else [])) = ((atL ((n).toNat) ((k).toNat)))))))))), (Ty.pr (Ty.bool ((((false || (!(decide (((roundsL (n).toNat)) = ((roundsL ((n).toNat))))))) || ((decide (atMay n k = 0)) != (decide ((atMay n k) = (0 : Int))))) || ((!(decide (atMay n k = 0))) && ((decide ((atMay n k) ≠ (12 : Int))) || (decide ((0 : Int) < (((List.length (if atMay n k = 0 then atL (n).toNat (k).toNat else [])) : Nat) : Int)))))) || ((decide (atMay n k = 0)) && (!(decide (((if atMay n k = 0 then atL (n).toNat (k).toNat else [])) = ((atL ((n).toNat) ((k).toNat))))))))))] i_ Pr.any) ok26 rfl ⟨?_, ?_, ?_, ?_, ?_, ?_, ?_, ?_, ?_, ?_, ?_, ?_, ?_, ?_, ?_, ?_, ?_, ?_, ?_, ?_, ?_, ?_, ?_, ?_, ?_, ?_, ?_, ?_, ?_, ?_, ?_, ?_, ?_, ?_, ?_, ?_, ?_, ?_, ?_, trivial⟩ ?_
        · intro ax tx hs okx sm
          exact run_plain rfl (y_move (kp (sm 13 rfl) hs q230))
        · intro ax tx hs okx sm d0
          have e0 : At (Ty.int (0 : Int)) tx ax (.tmp 227) := d0 rfl
          exact run_plain rfl ((y_neq e0 rfl).mono (fun τ _ h => cvb (σ := τ) (by decide) h))
        · intro ax tx hs okx sm d0
          have e1 : At (Ty.bool false) tx ax (.tmp 228) := d0 rfl
          exact run_plain rfl (y_move e1)
        · intro ax tx hs okx sm d0
          have e2 : At (Ty.bool false) tx ax (.tmp 229) := d0 rfl
          refine run_guard (T := (Ty.lst Ty.int (roundsL (n).toNat))) okx rfl rfl (by decide) e2 (fun hg => ?_)
          exact y_move (kp (sm 26 rfl) hs q229)
        · intro ax tx hs okx sm d0
          have e2 : At (Ty.bool false) tx ax (.tmp 229) := d0 rfl
          refine run_guard (T := (Ty.int n)) okx rfl rfl (by decide) e2 (fun hg => ?_)
          exact y_move (kp (sm 2 rfl) hs q226)
        · intro ax tx hs okx sm d0 d1 d2
          have e4 : At (Ty.grd (false = false) (Ty.int n)) tx ax (.tmp 231) := d0 rfl
          have e2 : At (Ty.bool false) tx ax (.tmp 229) := d1 rfl
          refine run_guard (T := (Ty.lst Ty.int (roundsL ((n).toNat)))) okx rfl rfl (by decide) e2 (fun hg => ?_)
          exact y_call #[ax.eval (.tmp 231)] Try.func24 rfl rfl (by simp only [List.map_toArray, List.map_cons, List.map_nil]) (rRounds_fn ((n).toNat) _ _ (cvi (σ := tx) (by omega) (e4.1 hg)) (by omega))
        · intro ax tx hs okx sm d0 d1 d2 d3
          have e3 : At (Ty.grd (false = false) (Ty.lst Ty.int (roundsL (n).toNat))) tx ax (.tmp 230) := d0 rfl
          have e5 : At (Ty.grd (false = false) (Ty.lst Ty.int (roundsL ((n).toNat)))) tx ax (.tmp 232) := d1 rfl
          have e2 : At (Ty.bool false) tx ax (.tmp 229) := d3 rfl
          refine run_guard (T := (Ty.bool (decide (((roundsL (n).toNat)) = ((roundsL ((n).toNat))))))) okx rfl rfl (by decide) e2 (fun hg => ?_)
          exact y_call #[ax.eval (.tmp 230), ax.eval (.tmp 232)] Try.func25 rfl rfl (by simp only [List.map_toArray, List.map_cons, List.map_nil]) (rsame_fn ((roundsL (n).toNat)) ((roundsL ((n).toNat))) _ _ _ (e3.1 hg) (e5.1 hg) )
        · intro ax tx hs okx sm d0 d1
          have e6 : At (Ty.grd (false = false) (Ty.bool (decide (((roundsL (n).toNat)) = ((roundsL ((n).toNat))))))) tx ax (.tmp 233) := d0 rfl
          have e2 : At (Ty.bool false) tx ax (.tmp 229) := d1 rfl
          refine run_guard (T := (Ty.bool (!(decide (((roundsL (n).toNat)) = ((roundsL ((n).toNat)))))))) okx rfl rfl (by decide) e2 (fun hg => ?_)
          exact y_not (e6.1 hg)
        · intro ax tx hs okx sm d0 d1
          have e2 : At (Ty.bool false) tx ax (.tmp 229) := d0 rfl
          have e7 : At (Ty.grd (false = false) (Ty.bool (!(decide (((roundsL (n).toNat)) = ((roundsL ((n).toNat)))))))) tx ax (.tmp 234) := d1 rfl
          exact run_plain rfl (y_pick_or e2 rfl e7)
        · intro ax tx hs okx sm d0 d1
          have e8 : At (Ty.bool (false || (!(decide (((roundsL (n).toNat)) = ((roundsL ((n).toNat)))))))) tx ax (.tmp 235) := d0 rfl
          have e6 : At (Ty.grd (false = false) (Ty.bool (decide (((roundsL (n).toNat)) = ((roundsL ((n).toNat))))))) tx ax (.tmp 233) := d1 rfl
          exact run_plain rfl (y_move e8)
        · intro ax tx hs okx sm d0
          have e9 : At (Ty.bool (false || (!(decide (((roundsL (n).toNat)) = ((roundsL ((n).toNat)))))))) tx ax (.tmp 236) := d0 rfl
          refine run_guard (T := (Ty.bool (decide (atMay n k = 0)))) okx rfl rfl (by decide) e9 (fun hg => ?_)
          obtain ⟨d199, d200⟩ := Bool.or_eq_false_iff.mp hg
          exact y_move (kp (sm 28 rfl) hs q234)
        · intro ax tx hs okx sm d0
          have e9 : At (Ty.bool (false || (!(decide (((roundsL (n).toNat)) = ((roundsL ((n).toNat)))))))) tx ax (.tmp 236) := d0 rfl
          refine run_guard (T := (Ty.int (atMay n k))) okx rfl rfl (by decide) e9 (fun hg => ?_)
          obtain ⟨d201, d202⟩ := Bool.or_eq_false_iff.mp hg
          exact y_move (kp (sm 16 rfl) hs q232)
        · intro ax tx hs okx sm d0 d1
          have e11 : At (Ty.grd ((false || (!(decide (((roundsL (n).toNat)) = ((roundsL ((n).toNat))))))) = false) (Ty.int (atMay n k))) tx ax (.tmp 238) := d0 rfl
          have e9 : At (Ty.bool (false || (!(decide (((roundsL (n).toNat)) = ((roundsL ((n).toNat)))))))) tx ax (.tmp 236) := d1 rfl
          refine run_guard (T := (Ty.bool (decide ((atMay n k) = (0 : Int))))) okx rfl rfl (by decide) e9 (fun hg => ?_)
          obtain ⟨d203, d204⟩ := Bool.or_eq_false_iff.mp hg
          exact y_eql (e11.1 hg) rfl
        · intro ax tx hs okx sm d0 d1 d2
          have e10 : At (Ty.grd ((false || (!(decide (((roundsL (n).toNat)) = ((roundsL ((n).toNat))))))) = false) (Ty.bool (decide (atMay n k = 0)))) tx ax (.tmp 237) := d0 rfl
          have e12 : At (Ty.grd ((false || (!(decide (((roundsL (n).toNat)) = ((roundsL ((n).toNat))))))) = false) (Ty.bool (decide ((atMay n k) = (0 : Int))))) tx ax (.tmp 239) := d1 rfl
          have e9 : At (Ty.bool (false || (!(decide (((roundsL (n).toNat)) = ((roundsL ((n).toNat)))))))) tx ax (.tmp 236) := d2 rfl
          refine run_guard (T := (Ty.bool ((decide (atMay n k = 0)) != (decide ((atMay n k) = (0 : Int)))))) okx rfl rfl (by decide) e9 (fun hg => ?_)
          obtain ⟨d205, d206⟩ := Bool.or_eq_false_iff.mp hg
          exact y_neqB Try.underlying4 (e10.1 hg) (e12.1 hg)
        · intro ax tx hs okx sm d0 d1
          have e9 : At (Ty.bool (false || (!(decide (((roundsL (n).toNat)) = ((roundsL ((n).toNat)))))))) tx ax (.tmp 236) := d0 rfl
          have e13 : At (Ty.grd ((false || (!(decide (((roundsL (n).toNat)) = ((roundsL ((n).toNat))))))) = false) (Ty.bool ((decide (atMay n k = 0)) != (decide ((atMay n k) = (0 : Int)))))) tx ax (.tmp 240) := d1 rfl
          exact run_plain rfl (y_pick_or e9 rfl e13)
        · intro ax tx hs okx sm d0 d1
          have e14 : At (Ty.bool ((false || (!(decide (((roundsL (n).toNat)) = ((roundsL ((n).toNat))))))) || ((decide (atMay n k = 0)) != (decide ((atMay n k) = (0 : Int)))))) tx ax (.tmp 241) := d0 rfl
          have e9 : At (Ty.bool (false || (!(decide (((roundsL (n).toNat)) = ((roundsL ((n).toNat)))))))) tx ax (.tmp 236) := d1 rfl
          exact run_plain rfl (y_move e14)
        · intro ax tx hs okx sm d0
          have e15 : At (Ty.bool ((false || (!(decide (((roundsL (n).toNat)) = ((roundsL ((n).toNat))))))) || ((decide (atMay n k = 0)) != (decide ((atMay n k) = (0 : Int)))))) tx ax (.tmp 242) := d0 rfl
          refine run_guard (T := (Ty.bool (decide (atMay n k = 0)))) okx rfl rfl (by decide) e15 (fun hg => ?_)
          obtain ⟨d207, d208⟩ := Bool.or_eq_false_iff.mp hg
          obtain ⟨d209, d210⟩ := Bool.or_eq_false_iff.mp d207
          exact y_move (kp (sm 28 rfl) hs q234)
        · intro ax tx hs okx sm d0 d1
          have e16 : At (Ty.grd (((false || (!(decide (((roundsL (n).toNat)) = ((roundsL ((n).toNat))))))) || ((decide (atMay n k = 0)) != (decide ((atMay n k) = (0 : Int))))) = false) (Ty.bool (decide (atMay n k = 0)))) tx ax (.tmp 243) := d0 rfl
          have e15 : At (Ty.bool ((false || (!(decide (((roundsL (n).toNat)) = ((roundsL ((n).toNat))))))) || ((decide (atMay n k = 0)) != (decide ((atMay n k) = (0 : Int)))))) tx ax (.tmp 242) := d1 rfl
          refine run_guard (T := (Ty.bool (!(decide (atMay n k = 0))))) okx rfl rfl (by decide) e15 (fun hg => ?_)
          obtain ⟨d211, d212⟩ := Bool.or_eq_false_iff.mp hg
          obtain ⟨d213, d214⟩ := Bool.or_eq_false_iff.mp d211
          exact y_not (e16.1 hg)
        · intro ax tx hs okx sm d0 d1 d2
          have e17 : At (Ty.grd (((false || (!(decide (((roundsL (n).toNat)) = ((roundsL ((n).toNat))))))) || ((decide (atMay n k = 0)) != (decide ((atMay n k) = (0 : Int))))) = false) (Ty.bool (!(decide (atMay n k = 0))))) tx ax (.tmp 244) := d0 rfl
          have e15 : At (Ty.bool ((false || (!(decide (((roundsL (n).toNat)) = ((roundsL ((n).toNat))))))) || ((decide (atMay n k = 0)) != (decide ((atMay n k) = (0 : Int)))))) tx ax (.tmp 242) := d1 rfl
          refine run_guard (T := (Ty.bool (!(decide (atMay n k = 0))))) okx rfl rfl (by decide) e15 (fun hg => ?_)
          obtain ⟨d215, d216⟩ := Bool.or_eq_false_iff.mp hg
          obtain ⟨d217, d218⟩ := Bool.or_eq_false_iff.mp d215
          exact y_move (e17.1 hg)
        · intro ax tx hs okx sm d0
          have e18 : At (Ty.grd (((false || (!(decide (((roundsL (n).toNat)) = ((roundsL ((n).toNat))))))) || ((decide (atMay n k = 0)) != (decide ((atMay n k) = (0 : Int))))) = false) (Ty.bool (!(decide (atMay n k = 0))))) tx ax (.tmp 245) := d0 rfl
          refine run_guard2 (T := (Ty.int (atMay n k))) okx rfl rfl (by decide) e18 (fun hg => ?_)
          exact y_move (kp (sm 16 rfl) hs q232)
        · intro ax tx hs okx sm d0 d1
          have e19 : At (Ty.grd ((((false || (!(decide (((roundsL (n).toNat)) = ((roundsL ((n).toNat))))))) || ((decide (atMay n k = 0)) != (decide ((atMay n k) = (0 : Int))))) = false) ∧ (!(decide (atMay n k = 0))) = true) (Ty.int (atMay n k))) tx ax (.tmp 246) := d0 rfl
          have e18 : At (Ty.grd (((false || (!(decide (((roundsL (n).toNat)) = ((roundsL ((n).toNat))))))) || ((decide (atMay n k = 0)) != (decide ((atMay n k) = (0 : Int))))) = false) (Ty.bool (!(decide (atMay n k = 0))))) tx ax (.tmp 245) := d1 rfl
          refine run_guard2 (T := (Ty.bool (decide ((atMay n k) ≠ (12 : Int))))) okx rfl rfl (by decide) e18 (fun hg => ?_)
          exact y_neq (e19.1 hg) rfl
        · intro ax tx hs okx sm d0 d1 d2
          have e20 : At (Ty.grd ((((false || (!(decide (((roundsL (n).toNat)) = ((roundsL ((n).toNat))))))) || ((decide (atMay n k = 0)) != (decide ((atMay n k) = (0 : Int))))) = false) ∧ (!(decide (atMay n k = 0))) = true) (Ty.bool (decide ((atMay n k) ≠ (12 : Int))))) tx ax (.tmp 247) := d0 rfl
          have e18 : At (Ty.grd (((false || (!(decide (((roundsL (n).toNat)) = ((roundsL ((n).toNat))))))) || ((decide (atMay n k = 0)) != (decide ((atMay n k) = (0 : Int))))) = false) (Ty.bool (!(decide (atMay n k = 0))))) tx ax (.tmp 245) := d1 rfl
          refine run_guard2 (T := (Ty.bool (decide ((atMay n k) ≠ (12 : Int))))) okx rfl rfl (by decide) e18 (fun hg => ?_)
          exact y_move (e20.1 hg)
        · intro ax tx hs okx sm d0
          have e21 : At (Ty.grd ((((false || (!(decide (((roundsL (n).toNat)) = ((roundsL ((n).toNat))))))) || ((decide (atMay n k = 0)) != (decide ((atMay n k) = (0 : Int))))) = false) ∧ (!(decide (atMay n k = 0))) = true) (Ty.bool (decide ((atMay n k) ≠ (12 : Int))))) tx ax (.tmp 248) := d0 rfl
          refine run_guard2 (T := (Ty.lst Ty.int (if atMay n k = 0 then atL (n).toNat (k).toNat else []))) okx rfl rfl (by decide) e21 (fun hg => ?_)
          have hp := of_decide_eq_false hg.2
          exact y_move (kp (sm 27 rfl) hs q231)
        · intro ax tx hs okx sm d0 d1
          have e22 : At (Ty.grd (((((false || (!(decide (((roundsL (n).toNat)) = ((roundsL ((n).toNat))))))) || ((decide (atMay n k = 0)) != (decide ((atMay n k) = (0 : Int))))) = false) ∧ (!(decide (atMay n k = 0))) = true) ∧ (decide ((atMay n k) ≠ (12 : Int))) = false) (Ty.lst Ty.int (if atMay n k = 0 then atL (n).toNat (k).toNat else []))) tx ax (.tmp 249) := d0 rfl
          have e21 : At (Ty.grd ((((false || (!(decide (((roundsL (n).toNat)) = ((roundsL ((n).toNat))))))) || ((decide (atMay n k = 0)) != (decide ((atMay n k) = (0 : Int))))) = false) ∧ (!(decide (atMay n k = 0))) = true) (Ty.bool (decide ((atMay n k) ≠ (12 : Int))))) tx ax (.tmp 248) := d1 rfl
          refine run_guard2 (T := (Ty.nat (List.length (if atMay n k = 0 then atL (n).toNat (k).toNat else [])))) okx rfl rfl (by decide) e21 (fun hg => ?_)
          have hp := of_decide_eq_false hg.2
          exact y_len Try.underlying34 (e22.1 hg)
        · intro ax tx hs okx sm d0 d1
          have e23 : At (Ty.grd (((((false || (!(decide (((roundsL (n).toNat)) = ((roundsL ((n).toNat))))))) || ((decide (atMay n k = 0)) != (decide ((atMay n k) = (0 : Int))))) = false) ∧ (!(decide (atMay n k = 0))) = true) ∧ (decide ((atMay n k) ≠ (12 : Int))) = false) (Ty.nat (List.length (if atMay n k = 0 then atL (n).toNat (k).toNat else [])))) tx ax (.tmp 250) := d0 rfl
          have e21 : At (Ty.grd ((((false || (!(decide (((roundsL (n).toNat)) = ((roundsL ((n).toNat))))))) || ((decide (atMay n k = 0)) != (decide ((atMay n k) = (0 : Int))))) = false) ∧ (!(decide (atMay n k = 0))) = true) (Ty.bool (decide ((atMay n k) ≠ (12 : Int))))) tx ax (.tmp 248) := d1 rfl
          refine run_guard2 (T := (Ty.bool (decide ((0 : Int) < (((List.length (if atMay n k = 0 then atL (n).toNat (k).toNat else [])) : Nat) : Int))))) okx rfl rfl (by decide) e21 (fun hg => ?_)
          have hp := of_decide_eq_false hg.2
          exact y_gtr (e23.1 hg) rfl
        · intro ax tx hs okx sm d0 d1 d2
          have e21 : At (Ty.grd ((((false || (!(decide (((roundsL (n).toNat)) = ((roundsL ((n).toNat))))))) || ((decide (atMay n k = 0)) != (decide ((atMay n k) = (0 : Int))))) = false) ∧ (!(decide (atMay n k = 0))) = true) (Ty.bool (decide ((atMay n k) ≠ (12 : Int))))) tx ax (.tmp 248) := d0 rfl
          have e24 : At (Ty.grd (((((false || (!(decide (((roundsL (n).toNat)) = ((roundsL ((n).toNat))))))) || ((decide (atMay n k = 0)) != (decide ((atMay n k) = (0 : Int))))) = false) ∧ (!(decide (atMay n k = 0))) = true) ∧ (decide ((atMay n k) ≠ (12 : Int))) = false) (Ty.bool (decide ((0 : Int) < (((List.length (if atMay n k = 0 then atL (n).toNat (k).toNat else [])) : Nat) : Int))))) tx ax (.tmp 251) := d1 rfl
          have e18 : At (Ty.grd (((false || (!(decide (((roundsL (n).toNat)) = ((roundsL ((n).toNat))))))) || ((decide (atMay n k = 0)) != (decide ((atMay n k) = (0 : Int))))) = false) (Ty.bool (!(decide (atMay n k = 0))))) tx ax (.tmp 245) := d2 rfl
          refine run_guard2 (T := (Ty.bool ((decide ((atMay n k) ≠ (12 : Int))) || (decide ((0 : Int) < (((List.length (if atMay n k = 0 then atL (n).toNat (k).toNat else [])) : Nat) : Int)))))) okx rfl rfl (by decide) e18 (fun hg => ?_)
          exact y_pick_or (e21.1 hg) rfl (grd_part hg e24)
        · intro ax tx hs okx sm d0 d1 d2
          have e18 : At (Ty.grd (((false || (!(decide (((roundsL (n).toNat)) = ((roundsL ((n).toNat))))))) || ((decide (atMay n k = 0)) != (decide ((atMay n k) = (0 : Int))))) = false) (Ty.bool (!(decide (atMay n k = 0))))) tx ax (.tmp 245) := d0 rfl
          have e25 : At (Ty.grd ((((false || (!(decide (((roundsL (n).toNat)) = ((roundsL ((n).toNat))))))) || ((decide (atMay n k = 0)) != (decide ((atMay n k) = (0 : Int))))) = false) ∧ (!(decide (atMay n k = 0))) = true) (Ty.bool ((decide ((atMay n k) ≠ (12 : Int))) || (decide ((0 : Int) < (((List.length (if atMay n k = 0 then atL (n).toNat (k).toNat else [])) : Nat) : Int)))))) tx ax (.tmp 252) := d1 rfl
          have e15 : At (Ty.bool ((false || (!(decide (((roundsL (n).toNat)) = ((roundsL ((n).toNat))))))) || ((decide (atMay n k = 0)) != (decide ((atMay n k) = (0 : Int)))))) tx ax (.tmp 242) := d2 rfl
          refine run_guard (T := (Ty.bool ((!(decide (atMay n k = 0))) && ((decide ((atMay n k) ≠ (12 : Int))) || (decide ((0 : Int) < (((List.length (if atMay n k = 0 then atL (n).toNat (k).toNat else [])) : Nat) : Int))))))) okx rfl rfl (by decide) e15 (fun hg => ?_)
          obtain ⟨d219, d220⟩ := Bool.or_eq_false_iff.mp hg
          obtain ⟨d221, d222⟩ := Bool.or_eq_false_iff.mp d219
          exact y_pick_and (e18.1 hg) (grd_part hg e25) rfl
        · intro ax tx hs okx sm d0 d1
          have e15 : At (Ty.bool ((false || (!(decide (((roundsL (n).toNat)) = ((roundsL ((n).toNat))))))) || ((decide (atMay n k = 0)) != (decide ((atMay n k) = (0 : Int)))))) tx ax (.tmp 242) := d0 rfl
          have e26 : At (Ty.grd (((false || (!(decide (((roundsL (n).toNat)) = ((roundsL ((n).toNat))))))) || ((decide (atMay n k = 0)) != (decide ((atMay n k) = (0 : Int))))) = false) (Ty.bool ((!(decide (atMay n k = 0))) && ((decide ((atMay n k) ≠ (12 : Int))) || (decide ((0 : Int) < (((List.length (if atMay n k = 0 then atL (n).toNat (k).toNat else [])) : Nat) : Int))))))) tx ax (.tmp 253) := d1 rfl
          exact run_plain rfl (y_pick_or e15 rfl e26)
        · intro ax tx hs okx sm d0 d1
          have e27 : At (Ty.bool (((false || (!(decide (((roundsL (n).toNat)) = ((roundsL ((n).toNat))))))) || ((decide (atMay n k = 0)) != (decide ((atMay n k) = (0 : Int))))) || ((!(decide (atMay n k = 0))) && ((decide ((atMay n k) ≠ (12 : Int))) || (decide ((0 : Int) < (((List.length (if atMay n k = 0 then atL (n).toNat (k).toNat else [])) : Nat) : Int))))))) tx ax (.tmp 254) := d0 rfl
          have e21 : At (Ty.grd ((((false || (!(decide (((roundsL (n).toNat)) = ((roundsL ((n).toNat))))))) || ((decide (atMay n k = 0)) != (decide ((atMay n k) = (0 : Int))))) = false) ∧ (!(decide (atMay n k = 0))) = true) (Ty.bool (decide ((atMay n k) ≠ (12 : Int))))) tx ax (.tmp 248) := d1 rfl
          exact run_plain rfl (y_move e27)
        · intro ax tx hs okx sm d0
          have e28 : At (Ty.bool (((false || (!(decide (((roundsL (n).toNat)) = ((roundsL ((n).toNat))))))) || ((decide (atMay n k = 0)) != (decide ((atMay n k) = (0 : Int))))) || ((!(decide (atMay n k = 0))) && ((decide ((atMay n k) ≠ (12 : Int))) || (decide ((0 : Int) < (((List.length (if atMay n k = 0 then atL (n).toNat (k).toNat else [])) : Nat) : Int))))))) tx ax (.tmp 255) := d0 rfl
          refine run_guard (T := (Ty.bool (decide (atMay n k = 0)))) okx rfl rfl (by decide) e28 (fun hg => ?_)
          obtain ⟨d223, d224⟩ := Bool.or_eq_false_iff.mp hg
          obtain ⟨d225, d226⟩ := Bool.or_eq_false_iff.mp d223
          obtain ⟨d227, d228⟩ := Bool.or_eq_false_iff.mp d225
          exact y_move (kp (sm 28 rfl) hs q234)
        · intro ax tx hs okx sm d0 d1 d2
          have e29 : At (Ty.grd ((((false || (!(decide (((roundsL (n).toNat)) = ((roundsL ((n).toNat))))))) || ((decide (atMay n k = 0)) != (decide ((atMay n k) = (0 : Int))))) || ((!(decide (atMay n k = 0))) && ((decide ((atMay n k) ≠ (12 : Int))) || (decide ((0 : Int) < (((List.length (if atMay n k = 0 then atL (n).toNat (k).toNat else [])) : Nat) : Int)))))) = false) (Ty.bool (decide (atMay n k = 0)))) tx ax (.tmp 256) := d0 rfl
          have e28 : At (Ty.bool (((false || (!(decide (((roundsL (n).toNat)) = ((roundsL ((n).toNat))))))) || ((decide (atMay n k = 0)) != (decide ((atMay n k) = (0 : Int))))) || ((!(decide (atMay n k = 0))) && ((decide ((atMay n k) ≠ (12 : Int))) || (decide ((0 : Int) < (((List.length (if atMay n k = 0 then atL (n).toNat (k).toNat else [])) : Nat) : Int))))))) tx ax (.tmp 255) := d1 rfl
          refine run_guard (T := (Ty.bool (decide (atMay n k = 0)))) okx rfl rfl (by decide) e28 (fun hg => ?_)
          obtain ⟨d229, d230⟩ := Bool.or_eq_false_iff.mp hg
          obtain ⟨d231, d232⟩ := Bool.or_eq_false_iff.mp d229
          obtain ⟨d233, d234⟩ := Bool.or_eq_false_iff.mp d231
          exact y_move (e29.1 hg)
        · intro ax tx hs okx sm d0
          have e30 : At (Ty.grd ((((false || (!(decide (((roundsL (n).toNat)) = ((roundsL ((n).toNat))))))) || ((decide (atMay n k = 0)) != (decide ((atMay n k) = (0 : Int))))) || ((!(decide (atMay n k = 0))) && ((decide ((atMay n k) ≠ (12 : Int))) || (decide ((0 : Int) < (((List.length (if atMay n k = 0 then atL (n).toNat (k).toNat else [])) : Nat) : Int)))))) = false) (Ty.bool (decide (atMay n k = 0)))) tx ax (.tmp 257) := d0 rfl
          refine run_guard2 (T := (Ty.lst Ty.int (if atMay n k = 0 then atL (n).toNat (k).toNat else []))) okx rfl rfl (by decide) e30 (fun hg => ?_)
          exact y_move (kp (sm 27 rfl) hs q231)
        · intro ax tx hs okx sm d0
          have e30 : At (Ty.grd ((((false || (!(decide (((roundsL (n).toNat)) = ((roundsL ((n).toNat))))))) || ((decide (atMay n k = 0)) != (decide ((atMay n k) = (0 : Int))))) || ((!(decide (atMay n k = 0))) && ((decide ((atMay n k) ≠ (12 : Int))) || (decide ((0 : Int) < (((List.length (if atMay n k = 0 then atL (n).toNat (k).toNat else [])) : Nat) : Int)))))) = false) (Ty.bool (decide (atMay n k = 0)))) tx ax (.tmp 257) := d0 rfl
          refine run_guard2 (T := (Ty.int n)) okx rfl rfl (by decide) e30 (fun hg => ?_)
          exact y_move (kp (sm 2 rfl) hs q226)
        · intro ax tx hs okx sm d0
          have e30 : At (Ty.grd ((((false || (!(decide (((roundsL (n).toNat)) = ((roundsL ((n).toNat))))))) || ((decide (atMay n k = 0)) != (decide ((atMay n k) = (0 : Int))))) || ((!(decide (atMay n k = 0))) && ((decide ((atMay n k) ≠ (12 : Int))) || (decide ((0 : Int) < (((List.length (if atMay n k = 0 then atL (n).toNat (k).toNat else [])) : Nat) : Int)))))) = false) (Ty.bool (decide (atMay n k = 0)))) tx ax (.tmp 257) := d0 rfl
          refine run_guard2 (T := (Ty.int k)) okx rfl rfl (by decide) e30 (fun hg => ?_)
          exact y_move (kp (sm 3 rfl) hs q227)
        · intro ax tx hs okx sm d0 d1 d2 d3
          have e32 : At (Ty.grd (((((false || (!(decide (((roundsL (n).toNat)) = ((roundsL ((n).toNat))))))) || ((decide (atMay n k = 0)) != (decide ((atMay n k) = (0 : Int))))) || ((!(decide (atMay n k = 0))) && ((decide ((atMay n k) ≠ (12 : Int))) || (decide ((0 : Int) < (((List.length (if atMay n k = 0 then atL (n).toNat (k).toNat else [])) : Nat) : Int)))))) = false) ∧ (decide (atMay n k = 0)) = true) (Ty.int n)) tx ax (.tmp 259) := d0 rfl
          have e33 : At (Ty.grd (((((false || (!(decide (((roundsL (n).toNat)) = ((roundsL ((n).toNat))))))) || ((decide (atMay n k = 0)) != (decide ((atMay n k) = (0 : Int))))) || ((!(decide (atMay n k = 0))) && ((decide ((atMay n k) ≠ (12 : Int))) || (decide ((0 : Int) < (((List.length (if atMay n k = 0 then atL (n).toNat (k).toNat else [])) : Nat) : Int)))))) = false) ∧ (decide (atMay n k = 0)) = true) (Ty.int k)) tx ax (.tmp 260) := d1 rfl
          have e30 : At (Ty.grd ((((false || (!(decide (((roundsL (n).toNat)) = ((roundsL ((n).toNat))))))) || ((decide (atMay n k = 0)) != (decide ((atMay n k) = (0 : Int))))) || ((!(decide (atMay n k = 0))) && ((decide ((atMay n k) ≠ (12 : Int))) || (decide ((0 : Int) < (((List.length (if atMay n k = 0 then atL (n).toNat (k).toNat else [])) : Nat) : Int)))))) = false) (Ty.bool (decide (atMay n k = 0)))) tx ax (.tmp 257) := d2 rfl
          refine run_guard2 (T := (Ty.lst Ty.int (atL ((n).toNat) ((k).toNat)))) okx rfl rfl (by decide) e30 (fun hg => ?_)
          have hkn := at_in (of_decide_eq_true hg.2)
          exact y_call #[ax.eval (.tmp 259), ax.eval (.tmp 260)] Try.func37 rfl rfl (by simp only [List.map_toArray, List.map_cons, List.map_nil]) (rAt_fn ((n).toNat) ((k).toNat) _ _ _ (cvi (σ := tx) (by first | omega | assumption) (e32.1 hg)) (cvi (σ := tx) (by first | omega | assumption) (e33.1 hg)) (by first | omega | assumption) (by first | omega | assumption))
        · intro ax tx hs okx sm d0 d1 d2 d3
          have e31 : At (Ty.grd (((((false || (!(decide (((roundsL (n).toNat)) = ((roundsL ((n).toNat))))))) || ((decide (atMay n k = 0)) != (decide ((atMay n k) = (0 : Int))))) || ((!(decide (atMay n k = 0))) && ((decide ((atMay n k) ≠ (12 : Int))) || (decide ((0 : Int) < (((List.length (if atMay n k = 0 then atL (n).toNat (k).toNat else [])) : Nat) : Int)))))) = false) ∧ (decide (atMay n k = 0)) = true) (Ty.lst Ty.int (if atMay n k = 0 then atL (n).toNat (k).toNat else []))) tx ax (.tmp 258) := d0 rfl
          have e34 : At (Ty.grd (((((false || (!(decide (((roundsL (n).toNat)) = ((roundsL ((n).toNat))))))) || ((decide (atMay n k = 0)) != (decide ((atMay n k) = (0 : Int))))) || ((!(decide (atMay n k = 0))) && ((decide ((atMay n k) ≠ (12 : Int))) || (decide ((0 : Int) < (((List.length (if atMay n k = 0 then atL (n).toNat (k).toNat else [])) : Nat) : Int)))))) = false) ∧ (decide (atMay n k = 0)) = true) (Ty.lst Ty.int (atL ((n).toNat) ((k).toNat)))) tx ax (.tmp 261) := d1 rfl
          have e30 : At (Ty.grd ((((false || (!(decide (((roundsL (n).toNat)) = ((roundsL ((n).toNat))))))) || ((decide (atMay n k = 0)) != (decide ((atMay n k) = (0 : Int))))) || ((!(decide (atMay n k = 0))) && ((decide ((atMay n k) ≠ (12 : Int))) || (decide ((0 : Int) < (((List.length (if atMay n k = 0 then atL (n).toNat (k).toNat else [])) : Nat) : Int)))))) = false) (Ty.bool (decide (atMay n k = 0)))) tx ax (.tmp 257) := d3 rfl
          refine run_guard2 (T := (Ty.bool (decide (((if atMay n k = 0 then atL (n).toNat (k).toNat else [])) = ((atL ((n).toNat) ((k).toNat))))))) okx rfl rfl (by decide) e30 (fun hg => ?_)
          exact y_call #[ax.eval (.tmp 258), ax.eval (.tmp 261)] Try.func25 rfl rfl (by simp only [List.map_toArray, List.map_cons, List.map_nil]) (rsame_fn ((if atMay n k = 0 then atL (n).toNat (k).toNat else [])) ((atL ((n).toNat) ((k).toNat))) _ _ _ (e31.1 hg) (e34.1 hg) )
        · intro ax tx hs okx sm d0 d1
          have e35 : At (Ty.grd (((((false || (!(decide (((roundsL (n).toNat)) = ((roundsL ((n).toNat))))))) || ((decide (atMay n k = 0)) != (decide ((atMay n k) = (0 : Int))))) || ((!(decide (atMay n k = 0))) && ((decide ((atMay n k) ≠ (12 : Int))) || (decide ((0 : Int) < (((List.length (if atMay n k = 0 then atL (n).toNat (k).toNat else [])) : Nat) : Int)))))) = false) ∧ (decide (atMay n k = 0)) = true) (Ty.bool (decide (((if atMay n k = 0 then atL (n).toNat (k).toNat else [])) = ((atL ((n).toNat) ((k).toNat))))))) tx ax (.tmp 262) := d0 rfl
          have e30 : At (Ty.grd ((((false || (!(decide (((roundsL (n).toNat)) = ((roundsL ((n).toNat))))))) || ((decide (atMay n k = 0)) != (decide ((atMay n k) = (0 : Int))))) || ((!(decide (atMay n k = 0))) && ((decide ((atMay n k) ≠ (12 : Int))) || (decide ((0 : Int) < (((List.length (if atMay n k = 0 then atL (n).toNat (k).toNat else [])) : Nat) : Int)))))) = false) (Ty.bool (decide (atMay n k = 0)))) tx ax (.tmp 257) := d1 rfl
          refine run_guard2 (T := (Ty.bool (!(decide (((if atMay n k = 0 then atL (n).toNat (k).toNat else [])) = ((atL ((n).toNat) ((k).toNat)))))))) okx rfl rfl (by decide) e30 (fun hg => ?_)
          exact y_not (e35.1 hg)
        · intro ax tx hs okx sm d0 d1 d2
          have e30 : At (Ty.grd ((((false || (!(decide (((roundsL (n).toNat)) = ((roundsL ((n).toNat))))))) || ((decide (atMay n k = 0)) != (decide ((atMay n k) = (0 : Int))))) || ((!(decide (atMay n k = 0))) && ((decide ((atMay n k) ≠ (12 : Int))) || (decide ((0 : Int) < (((List.length (if atMay n k = 0 then atL (n).toNat (k).toNat else [])) : Nat) : Int)))))) = false) (Ty.bool (decide (atMay n k = 0)))) tx ax (.tmp 257) := d0 rfl
          have e36 : At (Ty.grd (((((false || (!(decide (((roundsL (n).toNat)) = ((roundsL ((n).toNat))))))) || ((decide (atMay n k = 0)) != (decide ((atMay n k) = (0 : Int))))) || ((!(decide (atMay n k = 0))) && ((decide ((atMay n k) ≠ (12 : Int))) || (decide ((0 : Int) < (((List.length (if atMay n k = 0 then atL (n).toNat (k).toNat else [])) : Nat) : Int)))))) = false) ∧ (decide (atMay n k = 0)) = true) (Ty.bool (!(decide (((if atMay n k = 0 then atL (n).toNat (k).toNat else [])) = ((atL ((n).toNat) ((k).toNat)))))))) tx ax (.tmp 263) := d1 rfl
          have e28 : At (Ty.bool (((false || (!(decide (((roundsL (n).toNat)) = ((roundsL ((n).toNat))))))) || ((decide (atMay n k = 0)) != (decide ((atMay n k) = (0 : Int))))) || ((!(decide (atMay n k = 0))) && ((decide ((atMay n k) ≠ (12 : Int))) || (decide ((0 : Int) < (((List.length (if atMay n k = 0 then atL (n).toNat (k).toNat else [])) : Nat) : Int))))))) tx ax (.tmp 255) := d2 rfl
          refine run_guard (T := (Ty.bool ((decide (atMay n k = 0)) && (!(decide (((if atMay n k = 0 then atL (n).toNat (k).toNat else [])) = ((atL ((n).toNat) ((k).toNat))))))))) okx rfl rfl (by decide) e28 (fun hg => ?_)
          obtain ⟨d235, d236⟩ := Bool.or_eq_false_iff.mp hg
          obtain ⟨d237, d238⟩ := Bool.or_eq_false_iff.mp d235
          obtain ⟨d239, d240⟩ := Bool.or_eq_false_iff.mp d237
          exact y_pick_and (e30.1 hg) (grd_part hg e36) rfl
        · intro ax tx hs okx sm d0 d1
          have e28 : At (Ty.bool (((false || (!(decide (((roundsL (n).toNat)) = ((roundsL ((n).toNat))))))) || ((decide (atMay n k = 0)) != (decide ((atMay n k) = (0 : Int))))) || ((!(decide (atMay n k = 0))) && ((decide ((atMay n k) ≠ (12 : Int))) || (decide ((0 : Int) < (((List.length (if atMay n k = 0 then atL (n).toNat (k).toNat else [])) : Nat) : Int))))))) tx ax (.tmp 255) := d0 rfl
          have e37 : At (Ty.grd ((((false || (!(decide (((roundsL (n).toNat)) = ((roundsL ((n).toNat))))))) || ((decide (atMay n k = 0)) != (decide ((atMay n k) = (0 : Int))))) || ((!(decide (atMay n k = 0))) && ((decide ((atMay n k) ≠ (12 : Int))) || (decide ((0 : Int) < (((List.length (if atMay n k = 0 then atL (n).toNat (k).toNat else [])) : Nat) : Int)))))) = false) (Ty.bool ((decide (atMay n k = 0)) && (!(decide (((if atMay n k = 0 then atL (n).toNat (k).toNat else [])) = ((atL ((n).toNat) ((k).toNat))))))))) tx ax (.tmp 264) := d1 rfl
          exact run_plain rfl (y_pick_or e28 rfl e37)
        intro a31 s24 D24
        have ok27 := D24.ok
        have F27 := F26.step0 D24.stp
        have q235 : At (Ty.val (Value.string s)) s24 a31 (.tmp 4) := D24.kt q228 rfl
        have q236 : At (Ty.bool ((((false || (!(decide (((roundsL (n).toNat)) = ((roundsL ((n).toNat))))))) || ((decide (atMay n k = 0)) != (decide ((atMay n k) = (0 : Int))))) || ((!(decide (atMay n k = 0))) && ((decide ((atMay n k) ≠ (12 : Int))) || (decide ((0 : Int) < (((List.length (if atMay n k = 0 then atL (n).toNat (k).toNat else [])) : Nat) : Int)))))) || ((decide (atMay n k = 0)) && (!(decide (((if atMay n k = 0 then atL (n).toNat (k).toNat else [])) = ((atL ((n).toNat) ((k).toNat))))))))) s24 a31 (.tmp 265) := D24.done 38
        clear D24
        refine tn ?_
        refine cond_t q236 (fun c10 => ?_) (fun c10 => ?_)
        ·
         exfalso
         rcases at_or hc8 (k := k) with ht | ht <;> simp [ht] at c10
        ·
         obtain ⟨d241, d242⟩ := Bool.or_eq_false_iff.mp c10
         obtain ⟨d243, d244⟩ := Bool.or_eq_false_iff.mp d241
         obtain ⟨d245, d246⟩ := Bool.or_eq_false_iff.mp d243
         obtain ⟨d247, d248⟩ := Bool.or_eq_false_iff.mp d245
         refine wp_skip ?_
         exact tn ⟨s24, rfl, F27, ok27, q235, trivial⟩
      ·
       rintro a32 w8 ⟨t8, rfl, F28, ok28, q237, -⟩
       refine wp_seq ?_
       refine reg (a := a32) (σ := t8) rfl (fun i_ => List.getD [(Ty.pr (Ty.val (Value.string s))), (Ty.pr (Ty.tup2 (Ty.lst Ty.int (if txtMay s = 0 then readTo s s.size else [])) (Ty.int (txtMay s)))), (Ty.pr (Ty.tup2 (Ty.lst Ty.int (if txtMay s = 0 then readTo s s.size else [])) (Ty.int (txtMay s)))), (Ty.pr (Ty.lst Ty.int (if txtMay s = 0 then readTo s s.size else []))), (Ty.pr (Ty.int (txtMay s))), (Ty.pr (Ty.lst Ty.int (if txtMay s = 0 then readTo s s.size else []))), (Ty.pr (Ty.int (txtMay s)))] i_ Pr.any) ok28 rfl ⟨?_, ?_, ?_, ?_, ?_, ?_, ?_, trivial⟩ ?_
       · intro ax tx hs okx sm
         exact run_plain rfl (y_move (kp (sm 4 rfl) hs q237))
       · intro ax tx hs okx sm d0
         have e0 : At (Ty.val (Value.string s)) tx ax (.tmp 267) := d0 rfl
         exact run_plain rfl (y_call #[ax.eval (.tmp 267)] Try.func54 rfl rfl (by simp only [List.map_toArray, List.map_cons, List.map_nil]) (rowRead_fn (s) _ _ e0 (by first | omega | (have := run1_bd s p; omega))))
       · intro ax tx hs okx sm d0
         have e1 : At (Ty.tup2 (Ty.lst Ty.int (if txtMay s = 0 then readTo s s.size else [])) (Ty.int (txtMay s))) tx ax (.tmp 268) := d0 rfl
         exact run_plain rfl (y_move e1)
       · intro ax tx hs okx sm d0
         have e2 : At (Ty.tup2 (Ty.lst Ty.int (if txtMay s = 0 then readTo s s.size else [])) (Ty.int (txtMay s))) tx ax (.tmp 266) := d0 rfl
         exact run_plain rfl (y_ext2_0 e2)
       · intro ax tx hs okx sm d0 d1
         have e2 : At (Ty.tup2 (Ty.lst Ty.int (if txtMay s = 0 then readTo s s.size else [])) (Ty.int (txtMay s))) tx ax (.tmp 266) := d0 rfl
         exact run_plain rfl (y_ext2_1 e2)
       · intro ax tx hs okx sm d0 d1 d2 d3 d4 d5 d6
         have e3 : At (Ty.lst Ty.int (if txtMay s = 0 then readTo s s.size else [])) tx ax (.tmp 269) := d0 rfl
         have e1 : At (Ty.tup2 (Ty.lst Ty.int (if txtMay s = 0 then readTo s s.size else [])) (Ty.int (txtMay s))) tx ax (.tmp 268) := d1 rfl
         have e0 : At (Ty.val (Value.string s)) tx ax (.tmp 267) := d2 rfl
         have e2 : At (Ty.tup2 (Ty.lst Ty.int (if txtMay s = 0 then readTo s s.size else [])) (Ty.int (txtMay s))) tx ax (.tmp 266) := d4 rfl
         exact run_plain rfl (y_assign e3)
       · intro ax tx hs okx sm d0 d1 d2 d3 d4 d5 d6 d7
         have e4 : At (Ty.int (txtMay s)) tx ax (.tmp 270) := d0 rfl
         have e5 : At (Ty.lst Ty.int (if txtMay s = 0 then readTo s s.size else [])) tx ax (.tmp 29) := d1 rfl
         have e0 : At (Ty.val (Value.string s)) tx ax (.tmp 267) := d2 rfl
         have e1 : At (Ty.tup2 (Ty.lst Ty.int (if txtMay s = 0 then readTo s s.size else [])) (Ty.int (txtMay s))) tx ax (.tmp 268) := d3 rfl
         have e2 : At (Ty.tup2 (Ty.lst Ty.int (if txtMay s = 0 then readTo s s.size else [])) (Ty.int (txtMay s))) tx ax (.tmp 266) := d4 rfl
         have e3 : At (Ty.lst Ty.int (if txtMay s = 0 then readTo s s.size else [])) tx ax (.tmp 269) := d5 rfl
         exact run_plain rfl (y_assign e4)
       intro a33 s25 D25
       have ok29 := D25.ok
       have F29 := F28.step0 D25.stp
       have q238 : At (Ty.val (Value.string s)) s25 a33 (.tmp 4) := D25.kt q237 rfl
       have q239 : At (Ty.lst Ty.int (if txtMay s = 0 then readTo s s.size else [])) s25 a33 (.tmp 29) := D25.done 5
       have q240 : At (Ty.int (txtMay s)) s25 a33 (.tmp 13) := D25.done 6
       clear D25
       refine tn ?_
       refine wp_seq ?_
       refine reg (a := a33) (σ := s25) rfl (fun i_ => List.getD [(Ty.pr (Ty.val (Value.string s))), (Ty.pr (Ty.tup2 (Ty.lst Ty.int (if txtMay s = 0 then readTo s s.size else [])) (Ty.int (txtMay s)))), (Ty.pr (Ty.tup2 (Ty.lst Ty.int (if txtMay s = 0 then readTo s s.size else [])) (Ty.int (txtMay s)))), (Ty.pr (Ty.lst Ty.int (if txtMay s = 0 then readTo s s.size else []))), (Ty.pr (Ty.int (txtMay s))), (Ty.pr (Ty.lst Ty.int (if txtMay s = 0 then readTo s s.size else []))), (Ty.pr (Ty.int (txtMay s)))] i_ Pr.any) ok29 rfl ⟨?_, ?_, ?_, ?_, ?_, ?_, ?_, trivial⟩ ?_
       · intro ax tx hs okx sm
         exact run_plain rfl (y_move (kp (sm 4 rfl) hs q238))
       · intro ax tx hs okx sm d0
         have e0 : At (Ty.val (Value.string s)) tx ax (.tmp 272) := d0 rfl
         exact run_plain rfl (y_call #[ax.eval (.tmp 272)] Try.func55 rfl rfl (by simp only [List.map_toArray, List.map_cons, List.map_nil]) (rReadRow_fn (s) _ _ e0 (by omega)))
       · intro ax tx hs okx sm d0
         have e1 : At (Ty.tup2 (Ty.lst Ty.int (if txtMay s = 0 then readTo s s.size else [])) (Ty.int (txtMay s))) tx ax (.tmp 273) := d0 rfl
         exact run_plain rfl (y_move e1)
       · intro ax tx hs okx sm d0
         have e2 : At (Ty.tup2 (Ty.lst Ty.int (if txtMay s = 0 then readTo s s.size else [])) (Ty.int (txtMay s))) tx ax (.tmp 271) := d0 rfl
         exact run_plain rfl (y_ext2_0 e2)
       · intro ax tx hs okx sm d0 d1
         have e2 : At (Ty.tup2 (Ty.lst Ty.int (if txtMay s = 0 then readTo s s.size else [])) (Ty.int (txtMay s))) tx ax (.tmp 271) := d0 rfl
         exact run_plain rfl (y_ext2_1 e2)
       · intro ax tx hs okx sm d0 d1 d2 d3 d4 d5 d6
         have e3 : At (Ty.lst Ty.int (if txtMay s = 0 then readTo s s.size else [])) tx ax (.tmp 274) := d0 rfl
         have e1 : At (Ty.tup2 (Ty.lst Ty.int (if txtMay s = 0 then readTo s s.size else [])) (Ty.int (txtMay s))) tx ax (.tmp 273) := d1 rfl
         have e0 : At (Ty.val (Value.string s)) tx ax (.tmp 272) := d2 rfl
         have e2 : At (Ty.tup2 (Ty.lst Ty.int (if txtMay s = 0 then readTo s s.size else [])) (Ty.int (txtMay s))) tx ax (.tmp 271) := d4 rfl
         exact run_plain rfl (y_assign e3)
       · intro ax tx hs okx sm d0 d1 d2 d3 d4 d5 d6 d7
         have e4 : At (Ty.int (txtMay s)) tx ax (.tmp 275) := d0 rfl
         have e5 : At (Ty.lst Ty.int (if txtMay s = 0 then readTo s s.size else [])) tx ax (.tmp 30) := d1 rfl
         have e0 : At (Ty.val (Value.string s)) tx ax (.tmp 272) := d2 rfl
         have e1 : At (Ty.tup2 (Ty.lst Ty.int (if txtMay s = 0 then readTo s s.size else [])) (Ty.int (txtMay s))) tx ax (.tmp 273) := d3 rfl
         have e2 : At (Ty.tup2 (Ty.lst Ty.int (if txtMay s = 0 then readTo s s.size else [])) (Ty.int (txtMay s))) tx ax (.tmp 271) := d4 rfl
         have e3 : At (Ty.lst Ty.int (if txtMay s = 0 then readTo s s.size else [])) tx ax (.tmp 274) := d5 rfl
         exact run_plain rfl (y_assign e4)
       intro a34 s26 D26
       have ok30 := D26.ok
       have F30 := F29.step0 D26.stp
       have q241 : At (Ty.lst Ty.int (if txtMay s = 0 then readTo s s.size else [])) s26 a34 (.tmp 29) := D26.kt q239 rfl
       have q242 : At (Ty.int (txtMay s)) s26 a34 (.tmp 13) := D26.kt q240 rfl
       have q243 : At (Ty.lst Ty.int (if txtMay s = 0 then readTo s s.size else [])) s26 a34 (.tmp 30) := D26.done 5
       have q244 : At (Ty.int (txtMay s)) s26 a34 (.tmp 16) := D26.done 6
       clear D26
       refine tn ?_
       refine wp_seq ?_
       refine reg (a := a34) (σ := s26) rfl (fun i_ => List.getD [(Ty.pr (Ty.int (txtMay s))), (Ty.pr (Ty.int (txtMay s))), (Ty.pr (Ty.bool (decide ((txtMay s) = (txtMay s))))), (Ty.pr (Ty.bool (decide ((txtMay s) = (txtMay s))))), (Ty.pr (Ty.grd ((decide ((txtMay s) = (txtMay s))) = true) (Ty.lst Ty.int (if txtMay s = 0 then readTo s s.size else [])))), (Ty.pr (Ty.grd ((decide ((txtMay s) = (txtMay s))) = true) (Ty.lst Ty.int (if txtMay s = 0 then readTo s s.size else [])))), (Ty.pr (Ty.grd ((decide ((txtMay s) = (txtMay s))) = true) (Ty.bool (decide (((if txtMay s = 0 then readTo s s.size else [])) = ((if txtMay s = 0 then readTo s s.size else []))))))), (Ty.pr (Ty.bool ((decide ((txtMay s) = (txtMay s))) && (decide (((if txtMay s = 0 then readTo s s.size else [])) = ((if txtMay s = 0 then readTo s s.size else []))))))), (Ty.pr (Ty.bool ((decide ((txtMay s) = (txtMay s))) && (decide (((if txtMay s = 0 then readTo s s.size else [])) = ((if txtMay s = 0 then readTo s s.size else [])))))))] i_ Pr.any) ok30 rfl ⟨?_, ?_, ?_, ?_, ?_, ?_, ?_, ?_, ?_, trivial⟩ ?_
       · intro ax tx hs okx sm
         exact run_plain rfl (y_move (kp (sm 13 rfl) hs q242))
       · intro ax tx hs okx sm
         exact run_plain rfl (y_move (kp (sm 16 rfl) hs q244))
       · intro ax tx hs okx sm d0 d1
         have e0 : At (Ty.int (txtMay s)) tx ax (.tmp 276) := d0 rfl
         have e1 : At (Ty.int (txtMay s)) tx ax (.tmp 277) := d1 rfl
         exact run_plain rfl (y_eql e0 e1)
       · intro ax tx hs okx sm d0
         have e2 : At (Ty.bool (decide ((txtMay s) = (txtMay s)))) tx ax (.tmp 278) := d0 rfl
         exact run_plain rfl (y_move e2)
       · intro ax tx hs okx sm d0
         have e3 : At (Ty.bool (decide ((txtMay s) = (txtMay s)))) tx ax (.tmp 279) := d0 rfl
         refine run_guard (T := (Ty.lst Ty.int (if txtMay s = 0 then readTo s s.size else []))) okx rfl rfl (by decide) e3 (fun hg => ?_)
         have hp := of_decide_eq_true hg
         exact y_move (kp (sm 29 rfl) hs q241)
       · intro ax tx hs okx sm d0
         have e3 : At (Ty.bool (decide ((txtMay s) = (txtMay s)))) tx ax (.tmp 279) := d0 rfl
         refine run_guard (T := (Ty.lst Ty.int (if txtMay s = 0 then readTo s s.size else []))) okx rfl rfl (by decide) e3 (fun hg => ?_)
         have hp := of_decide_eq_true hg
         exact y_move (kp (sm 30 rfl) hs q243)
       · intro ax tx hs okx sm d0 d1 d2 d3
         have e4 : At (Ty.grd ((decide ((txtMay s) = (txtMay s))) = true) (Ty.lst Ty.int (if txtMay s = 0 then readTo s s.size else []))) tx ax (.tmp 280) := d0 rfl
         have e5 : At (Ty.grd ((decide ((txtMay s) = (txtMay s))) = true) (Ty.lst Ty.int (if txtMay s = 0 then readTo s s.size else []))) tx ax (.tmp 281) := d1 rfl
         have e3 : At (Ty.bool (decide ((txtMay s) = (txtMay s)))) tx ax (.tmp 279) := d2 rfl
         refine run_guard (T := (Ty.bool (decide (((if txtMay s = 0 then readTo s s.size else [])) = ((if txtMay s = 0 then readTo s s.size else [])))))) okx rfl rfl (by decide) e3 (fun hg => ?_)
         have hp := of_decide_eq_true hg
         exact y_call #[ax.eval (.tmp 280), ax.eval (.tmp 281)] Try.func25 rfl rfl (by simp only [List.map_toArray, List.map_cons, List.map_nil]) (rsame_fn ((if txtMay s = 0 then readTo s s.size else [])) ((if txtMay s = 0 then readTo s s.size else [])) _ _ _ (e4.1 hg) (e5.1 hg) )
       · intro ax tx hs okx sm d0 d1
         have e3 : At (Ty.bool (decide ((txtMay s) = (txtMay s)))) tx ax (.tmp 279) := d0 rfl
         have e6 : At (Ty.grd ((decide ((txtMay s) = (txtMay s))) = true) (Ty.bool (decide (((if txtMay s = 0 then readTo s s.size else [])) = ((if txtMay s = 0 then readTo s s.size else [])))))) tx ax (.tmp 282) := d1 rfl
         exact run_plain rfl (y_pick_and e3 e6 rfl)
       · intro ax tx hs okx sm d0 d1 d2 d3 d4 d5 d6 d7 d8 d9
         have e7 : At (Ty.bool ((decide ((txtMay s) = (txtMay s))) && (decide (((if txtMay s = 0 then readTo s s.size else [])) = ((if txtMay s = 0 then readTo s s.size else [])))))) tx ax (.tmp 283) := d0 rfl
         have e6 : At (Ty.grd ((decide ((txtMay s) = (txtMay s))) = true) (Ty.bool (decide (((if txtMay s = 0 then readTo s s.size else [])) = ((if txtMay s = 0 then readTo s s.size else [])))))) tx ax (.tmp 282) := d1 rfl
         have e0 : At (Ty.int (txtMay s)) tx ax (.tmp 276) := d2 rfl
         have e1 : At (Ty.int (txtMay s)) tx ax (.tmp 277) := d3 rfl
         have e2 : At (Ty.bool (decide ((txtMay s) = (txtMay s)))) tx ax (.tmp 278) := d4 rfl
         have e3 : At (Ty.bool (decide ((txtMay s) = (txtMay s)))) tx ax (.tmp 279) := d5 rfl
         have e4 : At (Ty.grd ((decide ((txtMay s) = (txtMay s))) = true) (Ty.lst Ty.int (if txtMay s = 0 then readTo s s.size else []))) tx ax (.tmp 280) := d6 rfl
         have e5 : At (Ty.grd ((decide ((txtMay s) = (txtMay s))) = true) (Ty.lst Ty.int (if txtMay s = 0 then readTo s s.size else []))) tx ax (.tmp 281) := d7 rfl
         exact run_plain rfl (y_assign e7)
       intro a35 s27 D27
       have ok31 := D27.ok
       have F31 := F30.step0 D27.stp
       have q245 : At (Ty.bool ((decide ((txtMay s) = (txtMay s))) && (decide (((if txtMay s = 0 then readTo s s.size else [])) = ((if txtMay s = 0 then readTo s s.size else [])))))) s27 a35 (.tmp 10) := D27.done 8
       clear D27
       refine tn ?_
       refine wp_ret ?_
       exact retL1 rfl ok31 F31 (cvb (by (simp)) q245)


end Go.Proofs.Ytlhnpkaohfoicaa
