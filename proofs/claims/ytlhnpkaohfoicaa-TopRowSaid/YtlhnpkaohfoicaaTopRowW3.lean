/- The functions that the law TopRow reaches, each by its contract. Part 3. -/
import Derived.Test.YtlhnpkaohfoicaaTopRowW2
namespace Go.Proofs.Ytlhnpkaohfoicaa
open Go.KL

set_option maxHeartbeats 4000000 in
set_option maxRecDepth 100000 in
theorem topRow_fn (a : Int) (b : Int) (c : Int) (n : Int) (σ : GW)  (v0 v1 v2 v3 : Value) (hv0 : Ty.has (Ty.int a) σ v0) (hv1 : Ty.has (Ty.int b) σ v1) (hv2 : Ty.has (Ty.int c) σ v2) (hv3 : Ty.has (Ty.int n) σ v3)  (ha : -9223372036854775808 ≤ a ∧ a ≤ 9223372036854775807) (hb : -9223372036854775808 ≤ b ∧ b ≤ 9223372036854775807) (hc : -9223372036854775808 ≤ c ∧ c ≤ 9223372036854775807) (hn : -9223372036854775808 ≤ n ∧ n ≤ 9223372036854775807) :
    FnC Try.prog 12 #[v0, v1, v2, v3] σ (Ty.bool true) := by
 have hp12 := pick_lt n (n := 12) (by omega)
 obtain ⟨N, hN⟩ : ∃ N, N = 1 + pick n 12 := ⟨_, rfl⟩
 have hfp := fct_pos N
 have hf12 := fct_le12 (n := N) (by omega)
 obtain ⟨K, hK⟩ : ∃ K, K = pick a (fct N) := ⟨_, rfl⟩
 obtain ⟨K2, hK2⟩ : ∃ K, K = pick b (fct N) := ⟨_, rfl⟩
 obtain ⟨K3, hK3⟩ : ∃ K, K = pick c (fct N) := ⟨_, rfl⟩
 have hl1 : K < fct N := hK ▸ pick_lt a (by omega)
 have hl2 : K2 < fct N := hK2 ▸ pick_lt b (by omega)
 have hl3 : K3 < fct N := hK3 ▸ pick_lt c (by omega)
 obtain ⟨m1, r1, n1, k1⟩ := at_facts (by omega) (by omega) hl1
 obtain ⟨m2, r2, n2, k2⟩ := at_facts (by omega) (by omega) hl2
 obtain ⟨m3, r3, n3, k3⟩ := at_facts (by omega) (by omega) hl3
 obtain ⟨X, hX⟩ : ∃ X, X = atL N K := ⟨_, rfl⟩
 obtain ⟨Y, hY⟩ : ∃ X, X = atL N K2 := ⟨_, rfl⟩
 obtain ⟨W, hW⟩ : ∃ X, X = atL N K3 := ⟨_, rfl⟩
 rw [← hX] at r1 n1 k1
 rw [← hY] at r2 n2 k2
 rw [← hW] at r3 n3 k3
 have x1 := rowMay_ok.2 r1
 have x2 := rowMay_ok.2 r2
 have hrt := read_text r1
 have hsz : (bsL (signsB X)).size ≤ 12 := by rw [bsL_size, signsB_len]; omega
 have r12 := byL_row r1 r2 (by omega)
 have r23 := byL_row r2 r3 (by omega)
 have l12 := byL_len X Y
 have l23 := byL_len Y W
 have hun := undo_row r1
 have hul := undoL_len X
 have x12 := rowMay_ok.2 r12
 have t1 : twoMay X Y = 0 := twoMay_ok.2 ⟨r1, r2, by omega⟩
 have t2 : twoMay Y W = 0 := twoMay_ok.2 ⟨r2, r3, by omega⟩
 have t3 : twoMay (byL X Y) W = 0 := twoMay_ok.2 ⟨r12, r3, by omega⟩
 have t4 : twoMay X (byL Y W) = 0 := twoMay_ok.2 ⟨r1, r23, by omega⟩
 have t5 : twoMay X (undoL X) = 0 := twoMay_ok.2 ⟨r1, hun.1, by omega⟩
 have has := byL_assoc X Y W (by have := r3.bds; rwa [show W.length = Y.length by omega] at this)
 have hpo := ordL_pos r1
 have hsg := oddL_by r1 r2 (by omega)
 refine fn_intro0 Try.func12 rfl Try.ntmps12 (Nat.le_of_ble_eq_true rfl) (fun s0 a0 hle F0 ok0 hargs => ?_)
 have p0 : At (Ty.int a) s0 a0 (.tmp 0) := by have e := hargs 0 _ rfl; show Ty.has _ _ _; rw [e]; exact Ty.up _ hle hv0
 have p1 : At (Ty.int b) s0 a0 (.tmp 1) := by have e := hargs 1 _ rfl; show Ty.has _ _ _; rw [e]; exact Ty.up _ hle hv1
 have p2 : At (Ty.int c) s0 a0 (.tmp 2) := by have e := hargs 2 _ rfl; show Ty.has _ _ _; rw [e]; exact Ty.up _ hle hv2
 have p3 : At (Ty.int n) s0 a0 (.tmp 3) := by have e := hargs 3 _ rfl; show Ty.has _ _ _; rw [e]; exact Ty.up _ hle hv3
 clear hargs
 refine wp_seq ?_
 refine reg (a := a0) (σ := s0) rfl (fun i_ => List.getD [(Ty.pr (Ty.bool false))] i_ Pr.any) ok0 rfl ⟨?_, trivial⟩ ?_
 · intro ax tx hs okx sm
   exact run_plain rfl (y_assign rfl)
 intro a1 s1 D1
 have ok1 := D1.ok
 have F1 := F0.step0 D1.stp
 have q1 : At (Ty.int a) s1 a1 (.tmp 0) := D1.kt p0 rfl
 have q2 : At (Ty.int b) s1 a1 (.tmp 1) := D1.kt p1 rfl
 have q3 : At (Ty.int c) s1 a1 (.tmp 2) := D1.kt p2 rfl
 have q4 : At (Ty.int n) s1 a1 (.tmp 3) := D1.kt p3 rfl
 clear D1
 refine tn ?_
 refine wp_seq ?_
 refine reg (a := a1) (σ := s1) rfl (fun i_ => List.getD [(Ty.pr (Ty.int n)), (Ty.pr (Ty.nat (pick (n) (12)))), (Ty.pr (Ty.nat (1 + (pick (n) (12))))), (Ty.pr (Ty.nat (1 + (pick (n) (12)))))] i_ Pr.any) ok1 rfl ⟨?_, ?_, ?_, ?_, trivial⟩ ?_
 · intro ax tx hs okx sm
   exact run_plain rfl (y_move (kp (sm 3 rfl) hs q4))
 · intro ax tx hs okx sm d0
   have e0 : At (Ty.int n) tx ax (.tmp 32) := d0 rfl
   exact run_plain rfl (y_call #[ax.eval (.tmp 32), ax.eval ((Operand.const (Value.int IntKind.i64 12)))] Try.func56 rfl rfl (by simp only [List.map_toArray, List.map_cons, List.map_nil]) (pick_fn (n) (12) _ _ _ (cvi (σ := tx) (by omega) e0) (cvi (σ := tx) (by omega) rfl) (by omega) (by omega)))
 · intro ax tx hs okx sm d0
   have e1 : At (Ty.nat (pick (n) (12))) tx ax (.tmp 33) := d0 rfl
   exact run_plain rfl ((y_add rfl e1 (w64 (by omega) (by omega))).mono (fun τ _ h => cvi (σ := τ) (by first | omega | exact (Int.natCast_mul _ _).symm) h))
 · intro ax tx hs okx sm d0 d1 d2 d3 d4
   have e2 : At (Ty.nat (1 + (pick (n) (12)))) tx ax (.tmp 34) := d0 rfl
   have e1 : At (Ty.nat (pick (n) (12))) tx ax (.tmp 33) := d1 rfl
   have e0 : At (Ty.int n) tx ax (.tmp 32) := d2 rfl
   exact run_plain rfl (y_assign e2)
 intro a2 s2 D2
 have ok2 := D2.ok
 have F2 := F1.step0 D2.stp
 have q5 : At (Ty.int a) s2 a2 (.tmp 0) := D2.kt q1 rfl
 have q6 : At (Ty.int b) s2 a2 (.tmp 1) := D2.kt q2 rfl
 have q7 : At (Ty.int c) s2 a2 (.tmp 2) := D2.kt q3 rfl
 have q8 : At (Ty.nat (1 + (pick (n) (12)))) s2 a2 (.tmp 3) := D2.done 3
 clear D2
 have q9 : At (Ty.nat N) s2 a2 (.tmp 3) := (cvi (by (omega)) q8)
 refine tn ?_
 refine wp_seq ?_
 refine reg (a := a2) (σ := s2) rfl (fun i_ => List.getD [(Ty.pr (Ty.int a)), (Ty.pr (Ty.nat N)), (Ty.pr (Ty.nat (fct (N)))), (Ty.pr (Ty.nat K)), (Ty.pr (Ty.nat K))] i_ Pr.any) ok2 rfl ⟨?_, ?_, ?_, ?_, ?_, trivial⟩ ?_
 · intro ax tx hs okx sm
   exact run_plain rfl (y_move (kp (sm 0 rfl) hs q5))
 · intro ax tx hs okx sm
   exact run_plain rfl (y_move (kp (sm 3 rfl) hs q9))
 · intro ax tx hs okx sm d0
   have e1 : At (Ty.nat N) tx ax (.tmp 36) := d0 rfl
   exact run_plain rfl (y_call #[ax.eval (.tmp 36)] Try.func35 rfl rfl (by simp only [List.map_toArray, List.map_cons, List.map_nil]) (rFact_fn ((N)) (N) _ _ (cvi (σ := tx) (by omega) e1) (by omega) (by omega)))
 · intro ax tx hs okx sm d0 d1 d2
   have e0 : At (Ty.int a) tx ax (.tmp 35) := d0 rfl
   have e2 : At (Ty.nat (fct (N))) tx ax (.tmp 37) := d1 rfl
   exact run_plain rfl ((y_call #[ax.eval (.tmp 35), ax.eval (.tmp 37)] Try.func56 rfl rfl (by simp only [List.map_toArray, List.map_cons, List.map_nil]) (pick_fn (a) ((fct (N))) _ _ _ (cvi (σ := tx) (by omega) e0) (cvi (σ := tx) (by omega) e2) (by omega) (by omega))).mono (fun τ _ h => cvt (σ := τ) (T := (Ty.nat (pick (a) ((fct (N)))))) (U := (Ty.nat K)) (by rw [hK]) h))
 · intro ax tx hs okx sm d0 d1 d2 d3 d4 d5
   have e3 : At (Ty.nat K) tx ax (.tmp 38) := d0 rfl
   have e0 : At (Ty.int a) tx ax (.tmp 35) := d2 rfl
   have e1 : At (Ty.nat N) tx ax (.tmp 36) := d3 rfl
   have e2 : At (Ty.nat (fct (N))) tx ax (.tmp 37) := d4 rfl
   exact run_plain rfl (y_assign e3)
 intro a3 s3 D3
 have ok3 := D3.ok
 have F3 := F2.step0 D3.stp
 have q10 : At (Ty.int b) s3 a3 (.tmp 1) := D3.kt q6 rfl
 have q11 : At (Ty.int c) s3 a3 (.tmp 2) := D3.kt q7 rfl
 have q12 : At (Ty.nat N) s3 a3 (.tmp 3) := D3.kt q9 rfl
 have q13 : At (Ty.nat K) s3 a3 (.tmp 9) := D3.done 4
 clear D3
 refine tn ?_
 refine wp_seq ?_
 refine reg (a := a3) (σ := s3) rfl (fun i_ => List.getD [(Ty.pr (Ty.nat N)), (Ty.pr (Ty.nat K)), (Ty.pr (Ty.tup2 (Ty.lst Ty.int X) (Ty.int (0 : Int)))), (Ty.pr (Ty.tup2 (Ty.lst Ty.int X) (Ty.int (0 : Int)))), (Ty.pr (Ty.lst Ty.int X)), (Ty.pr (Ty.int (0 : Int))), (Ty.pr (Ty.lst Ty.int X)), (Ty.pr (Ty.int (0 : Int)))] i_ Pr.any) ok3 rfl ⟨?_, ?_, ?_, ?_, ?_, ?_, ?_, ?_, trivial⟩ ?_
 · intro ax tx hs okx sm
   exact run_plain rfl (y_move (kp (sm 3 rfl) hs q12))
 · intro ax tx hs okx sm
   exact run_plain rfl (y_move (kp (sm 9 rfl) hs q13))
 · intro ax tx hs okx sm d0 d1
   have e0 : At (Ty.nat N) tx ax (.tmp 40) := d0 rfl
   have e1 : At (Ty.nat K) tx ax (.tmp 41) := d1 rfl
   exact run_plain rfl ((y_call #[ax.eval (.tmp 40), ax.eval (.tmp 41)] Try.func53 rfl rfl (by simp only [List.map_toArray, List.map_cons, List.map_nil]) (rowAt_fn (((N : Nat) : Int)) (((K : Nat) : Int)) _ _ _ (cvi (σ := tx) (by omega) e0) (cvi (σ := tx) (by omega) e1) (by omega) (by omega))).mono (fun τ _ h => cvt (σ := τ) (T := (Ty.tup2 (Ty.lst Ty.int (if atMay (((N : Nat) : Int)) (((K : Nat) : Int)) = 0 then atL ((((N : Nat) : Int))).toNat ((((K : Nat) : Int))).toNat else [])) (Ty.int (atMay (((N : Nat) : Int)) (((K : Nat) : Int)))))) (U := (Ty.tup2 (Ty.lst Ty.int X) (Ty.int (0 : Int)))) (by simp only [m1, if_true, Int.toNat_natCast, hX]) h))
 · intro ax tx hs okx sm d0
   have e2 : At (Ty.tup2 (Ty.lst Ty.int X) (Ty.int (0 : Int))) tx ax (.tmp 42) := d0 rfl
   exact run_plain rfl (y_move e2)
 · intro ax tx hs okx sm d0
   have e3 : At (Ty.tup2 (Ty.lst Ty.int X) (Ty.int (0 : Int))) tx ax (.tmp 39) := d0 rfl
   exact run_plain rfl (y_ext2_0 e3)
 · intro ax tx hs okx sm d0 d1
   have e3 : At (Ty.tup2 (Ty.lst Ty.int X) (Ty.int (0 : Int))) tx ax (.tmp 39) := d0 rfl
   exact run_plain rfl (y_ext2_1 e3)
 · intro ax tx hs okx sm d0 d1 d2 d3 d4 d5 d6 d7
   have e4 : At (Ty.lst Ty.int X) tx ax (.tmp 43) := d0 rfl
   have e2 : At (Ty.tup2 (Ty.lst Ty.int X) (Ty.int (0 : Int))) tx ax (.tmp 42) := d1 rfl
   have e0 : At (Ty.nat N) tx ax (.tmp 40) := d2 rfl
   have e1 : At (Ty.nat K) tx ax (.tmp 41) := d3 rfl
   have e3 : At (Ty.tup2 (Ty.lst Ty.int X) (Ty.int (0 : Int))) tx ax (.tmp 39) := d5 rfl
   exact run_plain rfl (y_assign e4)
 · intro ax tx hs okx sm d0 d1 d2 d3 d4 d5 d6 d7 d8
   have e5 : At (Ty.int (0 : Int)) tx ax (.tmp 44) := d0 rfl
   have e6 : At (Ty.lst Ty.int X) tx ax (.tmp 10) := d1 rfl
   have e0 : At (Ty.nat N) tx ax (.tmp 40) := d2 rfl
   have e1 : At (Ty.nat K) tx ax (.tmp 41) := d3 rfl
   have e2 : At (Ty.tup2 (Ty.lst Ty.int X) (Ty.int (0 : Int))) tx ax (.tmp 42) := d4 rfl
   have e3 : At (Ty.tup2 (Ty.lst Ty.int X) (Ty.int (0 : Int))) tx ax (.tmp 39) := d5 rfl
   have e4 : At (Ty.lst Ty.int X) tx ax (.tmp 43) := d6 rfl
   exact run_plain rfl (y_assign e5)
 intro a4 s4 D4
 have ok4 := D4.ok
 have F4 := F3.step0 D4.stp
 have q14 : At (Ty.int b) s4 a4 (.tmp 1) := D4.kt q10 rfl
 have q15 : At (Ty.int c) s4 a4 (.tmp 2) := D4.kt q11 rfl
 have q16 : At (Ty.nat N) s4 a4 (.tmp 3) := D4.kt q12 rfl
 have q17 : At (Ty.nat K) s4 a4 (.tmp 9) := D4.kt q13 rfl
 have q18 : At (Ty.lst Ty.int X) s4 a4 (.tmp 10) := D4.done 6
 have q19 : At (Ty.int (0 : Int)) s4 a4 (.tmp 11) := D4.done 7
 clear D4
 refine tn ?_
 refine wp_seq ?_
 refine reg (a := a4) (σ := s4) rfl (fun i_ => List.getD [(Ty.pr (Ty.nat N)), (Ty.pr (Ty.int b)), (Ty.pr (Ty.nat N)), (Ty.pr (Ty.nat (fct (N)))), (Ty.pr (Ty.nat K2)), (Ty.pr (Ty.tup2 (Ty.lst Ty.int Y) (Ty.int (0 : Int)))), (Ty.pr (Ty.tup2 (Ty.lst Ty.int Y) (Ty.int (0 : Int)))), (Ty.pr (Ty.lst Ty.int Y)), (Ty.pr (Ty.int (0 : Int))), (Ty.pr (Ty.lst Ty.int Y)), (Ty.pr (Ty.int (0 : Int)))] i_ Pr.any) ok4 rfl ⟨?_, ?_, ?_, ?_, ?_, ?_, ?_, ?_, ?_, ?_, ?_, trivial⟩ ?_
 · intro ax tx hs okx sm
   exact run_plain rfl (y_move (kp (sm 3 rfl) hs q16))
 · intro ax tx hs okx sm
   exact run_plain rfl (y_move (kp (sm 1 rfl) hs q14))
 · intro ax tx hs okx sm
   exact run_plain rfl (y_move (kp (sm 3 rfl) hs q16))
 · intro ax tx hs okx sm d0
   have e2 : At (Ty.nat N) tx ax (.tmp 48) := d0 rfl
   exact run_plain rfl (y_call #[ax.eval (.tmp 48)] Try.func35 rfl rfl (by simp only [List.map_toArray, List.map_cons, List.map_nil]) (rFact_fn ((N)) (N) _ _ (cvi (σ := tx) (by omega) e2) (by omega) (by omega)))
 · intro ax tx hs okx sm d0 d1 d2
   have e1 : At (Ty.int b) tx ax (.tmp 47) := d0 rfl
   have e3 : At (Ty.nat (fct (N))) tx ax (.tmp 49) := d1 rfl
   exact run_plain rfl ((y_call #[ax.eval (.tmp 47), ax.eval (.tmp 49)] Try.func56 rfl rfl (by simp only [List.map_toArray, List.map_cons, List.map_nil]) (pick_fn (b) ((fct (N))) _ _ _ (cvi (σ := tx) (by omega) e1) (cvi (σ := tx) (by omega) e3) (by omega) (by omega))).mono (fun τ _ h => cvt (σ := τ) (T := (Ty.nat (pick (b) ((fct (N)))))) (U := (Ty.nat K2)) (by rw [hK2]) h))
 · intro ax tx hs okx sm d0 d1 d2
   have e0 : At (Ty.nat N) tx ax (.tmp 46) := d0 rfl
   have e4 : At (Ty.nat K2) tx ax (.tmp 50) := d1 rfl
   exact run_plain rfl ((y_call #[ax.eval (.tmp 46), ax.eval (.tmp 50)] Try.func53 rfl rfl (by simp only [List.map_toArray, List.map_cons, List.map_nil]) (rowAt_fn (((N : Nat) : Int)) (((K2 : Nat) : Int)) _ _ _ (cvi (σ := tx) (by omega) e0) (cvi (σ := tx) (by omega) e4) (by omega) (by omega))).mono (fun τ _ h => cvt (σ := τ) (T := (Ty.tup2 (Ty.lst Ty.int (if atMay (((N : Nat) : Int)) (((K2 : Nat) : Int)) = 0 then atL ((((N : Nat) : Int))).toNat ((((K2 : Nat) : Int))).toNat else [])) (Ty.int (atMay (((N : Nat) : Int)) (((K2 : Nat) : Int)))))) (U := (Ty.tup2 (Ty.lst Ty.int Y) (Ty.int (0 : Int)))) (by simp only [m2, if_true, Int.toNat_natCast, hY]) h))
 · intro ax tx hs okx sm d0
   have e5 : At (Ty.tup2 (Ty.lst Ty.int Y) (Ty.int (0 : Int))) tx ax (.tmp 51) := d0 rfl
   exact run_plain rfl (y_move e5)
 · intro ax tx hs okx sm d0
   have e6 : At (Ty.tup2 (Ty.lst Ty.int Y) (Ty.int (0 : Int))) tx ax (.tmp 45) := d0 rfl
   exact run_plain rfl (y_ext2_0 e6)
 · intro ax tx hs okx sm d0 d1
   have e6 : At (Ty.tup2 (Ty.lst Ty.int Y) (Ty.int (0 : Int))) tx ax (.tmp 45) := d0 rfl
   exact run_plain rfl (y_ext2_1 e6)
 · intro ax tx hs okx sm d0 d1 d2 d3 d4 d5 d6 d7 d8 d9 d10
   have e7 : At (Ty.lst Ty.int Y) tx ax (.tmp 52) := d0 rfl
   have e5 : At (Ty.tup2 (Ty.lst Ty.int Y) (Ty.int (0 : Int))) tx ax (.tmp 51) := d1 rfl
   have e0 : At (Ty.nat N) tx ax (.tmp 46) := d2 rfl
   have e1 : At (Ty.int b) tx ax (.tmp 47) := d3 rfl
   have e2 : At (Ty.nat N) tx ax (.tmp 48) := d4 rfl
   have e3 : At (Ty.nat (fct (N))) tx ax (.tmp 49) := d5 rfl
   have e4 : At (Ty.nat K2) tx ax (.tmp 50) := d6 rfl
   have e6 : At (Ty.tup2 (Ty.lst Ty.int Y) (Ty.int (0 : Int))) tx ax (.tmp 45) := d8 rfl
   exact run_plain rfl (y_assign e7)
 · intro ax tx hs okx sm d0 d1 d2 d3 d4 d5 d6 d7 d8 d9 d10 d11
   have e8 : At (Ty.int (0 : Int)) tx ax (.tmp 53) := d0 rfl
   have e9 : At (Ty.lst Ty.int Y) tx ax (.tmp 12) := d1 rfl
   have e0 : At (Ty.nat N) tx ax (.tmp 46) := d2 rfl
   have e1 : At (Ty.int b) tx ax (.tmp 47) := d3 rfl
   have e2 : At (Ty.nat N) tx ax (.tmp 48) := d4 rfl
   have e3 : At (Ty.nat (fct (N))) tx ax (.tmp 49) := d5 rfl
   have e4 : At (Ty.nat K2) tx ax (.tmp 50) := d6 rfl
   have e5 : At (Ty.tup2 (Ty.lst Ty.int Y) (Ty.int (0 : Int))) tx ax (.tmp 51) := d7 rfl
   have e6 : At (Ty.tup2 (Ty.lst Ty.int Y) (Ty.int (0 : Int))) tx ax (.tmp 45) := d8 rfl
   have e7 : At (Ty.lst Ty.int Y) tx ax (.tmp 52) := d9 rfl
   exact run_plain rfl (y_assign e8)
 intro a5 s5 D5
 have ok5 := D5.ok
 have F5 := F4.step0 D5.stp
 have q20 : At (Ty.int c) s5 a5 (.tmp 2) := D5.kt q15 rfl
 have q21 : At (Ty.nat N) s5 a5 (.tmp 3) := D5.kt q16 rfl
 have q22 : At (Ty.nat K) s5 a5 (.tmp 9) := D5.kt q17 rfl
 have q23 : At (Ty.lst Ty.int X) s5 a5 (.tmp 10) := D5.kt q18 rfl
 have q24 : At (Ty.int (0 : Int)) s5 a5 (.tmp 11) := D5.kt q19 rfl
 have q25 : At (Ty.lst Ty.int Y) s5 a5 (.tmp 12) := D5.done 9
 have q26 : At (Ty.int (0 : Int)) s5 a5 (.tmp 13) := D5.done 10
 clear D5
 refine tn ?_
 refine wp_seq ?_
 refine reg (a := a5) (σ := s5) rfl (fun i_ => List.getD [(Ty.pr (Ty.nat N)), (Ty.pr (Ty.int c)), (Ty.pr (Ty.nat N)), (Ty.pr (Ty.nat (fct (N)))), (Ty.pr (Ty.nat K3)), (Ty.pr (Ty.tup2 (Ty.lst Ty.int W) (Ty.int (0 : Int)))), (Ty.pr (Ty.tup2 (Ty.lst Ty.int W) (Ty.int (0 : Int)))), (Ty.pr (Ty.lst Ty.int W)), (Ty.pr (Ty.int (0 : Int))), (Ty.pr (Ty.lst Ty.int W)), (Ty.pr (Ty.int (0 : Int)))] i_ Pr.any) ok5 rfl ⟨?_, ?_, ?_, ?_, ?_, ?_, ?_, ?_, ?_, ?_, ?_, trivial⟩ ?_
 · intro ax tx hs okx sm
   exact run_plain rfl (y_move (kp (sm 3 rfl) hs q21))
 · intro ax tx hs okx sm
   exact run_plain rfl (y_move (kp (sm 2 rfl) hs q20))
 · intro ax tx hs okx sm
   exact run_plain rfl (y_move (kp (sm 3 rfl) hs q21))
 · intro ax tx hs okx sm d0
   have e2 : At (Ty.nat N) tx ax (.tmp 57) := d0 rfl
   exact run_plain rfl (y_call #[ax.eval (.tmp 57)] Try.func35 rfl rfl (by simp only [List.map_toArray, List.map_cons, List.map_nil]) (rFact_fn ((N)) (N) _ _ (cvi (σ := tx) (by omega) e2) (by omega) (by omega)))
 · intro ax tx hs okx sm d0 d1 d2
   have e1 : At (Ty.int c) tx ax (.tmp 56) := d0 rfl
   have e3 : At (Ty.nat (fct (N))) tx ax (.tmp 58) := d1 rfl
   exact run_plain rfl ((y_call #[ax.eval (.tmp 56), ax.eval (.tmp 58)] Try.func56 rfl rfl (by simp only [List.map_toArray, List.map_cons, List.map_nil]) (pick_fn (c) ((fct (N))) _ _ _ e1 (cvi (σ := tx) (by omega) e3) (by omega) (by omega))).mono (fun τ _ h => cvt (σ := τ) (T := (Ty.nat (pick c ((fct (N)))))) (U := (Ty.nat K3)) (by rw [hK3]) h))
 · intro ax tx hs okx sm d0 d1 d2
   have e0 : At (Ty.nat N) tx ax (.tmp 55) := d0 rfl
   have e4 : At (Ty.nat K3) tx ax (.tmp 59) := d1 rfl
   exact run_plain rfl ((y_call #[ax.eval (.tmp 55), ax.eval (.tmp 59)] Try.func53 rfl rfl (by simp only [List.map_toArray, List.map_cons, List.map_nil]) (rowAt_fn (((N : Nat) : Int)) (((K3 : Nat) : Int)) _ _ _ (cvi (σ := tx) (by omega) e0) (cvi (σ := tx) (by omega) e4) (by omega) (by omega))).mono (fun τ _ h => cvt (σ := τ) (T := (Ty.tup2 (Ty.lst Ty.int (if atMay (((N : Nat) : Int)) (((K3 : Nat) : Int)) = 0 then atL ((((N : Nat) : Int))).toNat ((((K3 : Nat) : Int))).toNat else [])) (Ty.int (atMay (((N : Nat) : Int)) (((K3 : Nat) : Int)))))) (U := (Ty.tup2 (Ty.lst Ty.int W) (Ty.int (0 : Int)))) (by simp only [m3, if_true, Int.toNat_natCast, hW]) h))
 · intro ax tx hs okx sm d0
   have e5 : At (Ty.tup2 (Ty.lst Ty.int W) (Ty.int (0 : Int))) tx ax (.tmp 60) := d0 rfl
   exact run_plain rfl (y_move e5)
 · intro ax tx hs okx sm d0
   have e6 : At (Ty.tup2 (Ty.lst Ty.int W) (Ty.int (0 : Int))) tx ax (.tmp 54) := d0 rfl
   exact run_plain rfl (y_ext2_0 e6)
 · intro ax tx hs okx sm d0 d1
   have e6 : At (Ty.tup2 (Ty.lst Ty.int W) (Ty.int (0 : Int))) tx ax (.tmp 54) := d0 rfl
   exact run_plain rfl (y_ext2_1 e6)
 · intro ax tx hs okx sm d0 d1 d2 d3 d4 d5 d6 d7 d8 d9 d10
   have e7 : At (Ty.lst Ty.int W) tx ax (.tmp 61) := d0 rfl
   have e5 : At (Ty.tup2 (Ty.lst Ty.int W) (Ty.int (0 : Int))) tx ax (.tmp 60) := d1 rfl
   have e0 : At (Ty.nat N) tx ax (.tmp 55) := d2 rfl
   have e1 : At (Ty.int c) tx ax (.tmp 56) := d3 rfl
   have e2 : At (Ty.nat N) tx ax (.tmp 57) := d4 rfl
   have e3 : At (Ty.nat (fct (N))) tx ax (.tmp 58) := d5 rfl
   have e4 : At (Ty.nat K3) tx ax (.tmp 59) := d6 rfl
   have e6 : At (Ty.tup2 (Ty.lst Ty.int W) (Ty.int (0 : Int))) tx ax (.tmp 54) := d8 rfl
   exact run_plain rfl (y_assign e7)
 · intro ax tx hs okx sm d0 d1 d2 d3 d4 d5 d6 d7 d8 d9 d10 d11
   have e8 : At (Ty.int (0 : Int)) tx ax (.tmp 62) := d0 rfl
   have e9 : At (Ty.lst Ty.int W) tx ax (.tmp 14) := d1 rfl
   have e0 : At (Ty.nat N) tx ax (.tmp 55) := d2 rfl
   have e1 : At (Ty.int c) tx ax (.tmp 56) := d3 rfl
   have e2 : At (Ty.nat N) tx ax (.tmp 57) := d4 rfl
   have e3 : At (Ty.nat (fct (N))) tx ax (.tmp 58) := d5 rfl
   have e4 : At (Ty.nat K3) tx ax (.tmp 59) := d6 rfl
   have e5 : At (Ty.tup2 (Ty.lst Ty.int W) (Ty.int (0 : Int))) tx ax (.tmp 60) := d7 rfl
   have e6 : At (Ty.tup2 (Ty.lst Ty.int W) (Ty.int (0 : Int))) tx ax (.tmp 54) := d8 rfl
   have e7 : At (Ty.lst Ty.int W) tx ax (.tmp 61) := d9 rfl
   exact run_plain rfl (y_assign e8)
 intro a6 s6 D6
 have ok6 := D6.ok
 have F6 := F5.step0 D6.stp
 have q27 : At (Ty.nat N) s6 a6 (.tmp 3) := D6.kt q21 rfl
 have q28 : At (Ty.nat K) s6 a6 (.tmp 9) := D6.kt q22 rfl
 have q29 : At (Ty.lst Ty.int X) s6 a6 (.tmp 10) := D6.kt q23 rfl
 have q30 : At (Ty.int (0 : Int)) s6 a6 (.tmp 11) := D6.kt q24 rfl
 have q31 : At (Ty.lst Ty.int Y) s6 a6 (.tmp 12) := D6.kt q25 rfl
 have q32 : At (Ty.int (0 : Int)) s6 a6 (.tmp 13) := D6.kt q26 rfl
 have q33 : At (Ty.lst Ty.int W) s6 a6 (.tmp 14) := D6.done 9
 have q34 : At (Ty.int (0 : Int)) s6 a6 (.tmp 15) := D6.done 10
 clear D6
 refine tn ?_
 refine wp_seq ?_
 refine wp_seq ?_
 refine reg (a := a6) (σ := s6) rfl (fun i_ => List.getD [(Ty.pr (Ty.int (0 : Int))), (Ty.pr (Ty.bool false)), (Ty.pr (Ty.bool false)), (Ty.pr (Ty.grd (false = false) (Ty.int (0 : Int)))), (Ty.pr (Ty.grd (false = false) (Ty.bool false))), (Ty.pr (Ty.bool (false || false))), (Ty.pr (Ty.bool (false || false))), (Ty.pr (Ty.grd ((false || false) = false) (Ty.int (0 : Int)))), (Ty.pr (Ty.grd ((false || false) = false) (Ty.bool false))), (Ty.pr (Ty.bool ((false || false) || false)))] i_ Pr.any) ok6 rfl ⟨?_, ?_, ?_, ?_, ?_, ?_, ?_, ?_, ?_, ?_, trivial⟩ ?_
 · intro ax tx hs okx sm
   exact run_plain rfl (y_move (kp (sm 11 rfl) hs q30))
 · intro ax tx hs okx sm d0
   have e0 : At (Ty.int (0 : Int)) tx ax (.tmp 63) := d0 rfl
   exact run_plain rfl ((y_neq e0 rfl).mono (fun τ _ h => cvb (σ := τ) (by decide) h))
 · intro ax tx hs okx sm d0
   have e1 : At (Ty.bool false) tx ax (.tmp 64) := d0 rfl
   exact run_plain rfl (y_move e1)
 · intro ax tx hs okx sm d0
   have e2 : At (Ty.bool false) tx ax (.tmp 65) := d0 rfl
   refine run_guard (T := (Ty.int (0 : Int))) okx rfl rfl (by decide) e2 (fun hg => ?_)
   exact y_move (kp (sm 13 rfl) hs q32)
 · intro ax tx hs okx sm d0 d1
   have e3 : At (Ty.grd (false = false) (Ty.int (0 : Int))) tx ax (.tmp 66) := d0 rfl
   have e2 : At (Ty.bool false) tx ax (.tmp 65) := d1 rfl
   refine run_guard (T := (Ty.bool false)) okx rfl rfl (by decide) e2 (fun hg => ?_)
   exact (y_neq (e3.1 hg) rfl).mono (fun τ _ h => cvb (σ := τ) (by decide) h)
 · intro ax tx hs okx sm d0 d1
   have e2 : At (Ty.bool false) tx ax (.tmp 65) := d0 rfl
   have e4 : At (Ty.grd (false = false) (Ty.bool false)) tx ax (.tmp 67) := d1 rfl
   exact run_plain rfl (y_pick_or e2 rfl e4)
 · intro ax tx hs okx sm d0 d1
   have e5 : At (Ty.bool (false || false)) tx ax (.tmp 68) := d0 rfl
   have e2 : At (Ty.bool false) tx ax (.tmp 65) := d1 rfl
   exact run_plain rfl (y_move e5)
 · intro ax tx hs okx sm d0
   have e6 : At (Ty.bool (false || false)) tx ax (.tmp 69) := d0 rfl
   refine run_guard (T := (Ty.int (0 : Int))) okx rfl rfl (by decide) e6 (fun hg => ?_)
   obtain ⟨d1, d2⟩ := Bool.or_eq_false_iff.mp hg
   exact y_move (kp (sm 15 rfl) hs q34)
 · intro ax tx hs okx sm d0 d1
   have e7 : At (Ty.grd ((false || false) = false) (Ty.int (0 : Int))) tx ax (.tmp 70) := d0 rfl
   have e6 : At (Ty.bool (false || false)) tx ax (.tmp 69) := d1 rfl
   refine run_guard (T := (Ty.bool false)) okx rfl rfl (by decide) e6 (fun hg => ?_)
   obtain ⟨d3, d4⟩ := Bool.or_eq_false_iff.mp hg
   exact (y_neq (e7.1 hg) rfl).mono (fun τ _ h => cvb (σ := τ) (by decide) h)
 · intro ax tx hs okx sm d0 d1
   have e6 : At (Ty.bool (false || false)) tx ax (.tmp 69) := d0 rfl
   have e8 : At (Ty.grd ((false || false) = false) (Ty.bool false)) tx ax (.tmp 71) := d1 rfl
   exact run_plain rfl (y_pick_or e6 rfl e8)
 intro a7 s7 D7
 have ok7 := D7.ok
 have F7 := F6.step0 D7.stp
 have q35 : At (Ty.nat N) s7 a7 (.tmp 3) := D7.kt q27 rfl
 have q36 : At (Ty.nat K) s7 a7 (.tmp 9) := D7.kt q28 rfl
 have q37 : At (Ty.lst Ty.int X) s7 a7 (.tmp 10) := D7.kt q29 rfl
 have q38 : At (Ty.lst Ty.int Y) s7 a7 (.tmp 12) := D7.kt q31 rfl
 have q39 : At (Ty.lst Ty.int W) s7 a7 (.tmp 14) := D7.kt q33 rfl
 have q40 : At (Ty.bool ((false || false) || false)) s7 a7 (.tmp 72) := D7.done 9
 clear D7
 refine tn ?_
 refine cond_t q40 (fun c1 => ?_) (fun c1 => ?_)
 ·
  exfalso
  simp at c1
 ·
  obtain ⟨d5, d6⟩ := Bool.or_eq_false_iff.mp c1
  obtain ⟨d7, d8⟩ := Bool.or_eq_false_iff.mp d5
  refine wp_skip ?_
  refine tn ?_
  refine wp_seq ?_
  refine reg (a := a7) (σ := s7) rfl (fun i_ => List.getD [(Ty.pr (Ty.lst Ty.int X)), (Ty.pr (Ty.tup2 (Ty.nat K) (Ty.int (0 : Int)))), (Ty.pr (Ty.tup2 (Ty.nat K) (Ty.int (0 : Int)))), (Ty.pr (Ty.nat K)), (Ty.pr (Ty.int (0 : Int))), (Ty.pr (Ty.nat K)), (Ty.pr (Ty.int (0 : Int)))] i_ Pr.any) ok7 rfl ⟨?_, ?_, ?_, ?_, ?_, ?_, ?_, trivial⟩ ?_
  · intro ax tx hs okx sm
    exact run_plain rfl (y_move (kp (sm 10 rfl) hs q37))
  · intro ax tx hs okx sm d0
    have e0 : At (Ty.lst Ty.int X) tx ax (.tmp 74) := d0 rfl
    exact run_plain rfl ((y_call #[ax.eval (.tmp 74)] Try.func41 rfl rfl (by simp only [List.map_toArray, List.map_cons, List.map_nil]) (rowRank_fn (X) _ _ e0 )).mono (fun τ _ h => cvt (σ := τ) (T := (Ty.tup2 (Ty.nat (if rowMay (X) = 0 then rankL (X) else 0)) (Ty.int (rowMay (X))))) (U := (Ty.tup2 (Ty.nat K) (Ty.int (0 : Int)))) (by simp only [x1, if_true, k1]) h))
  · intro ax tx hs okx sm d0
    have e1 : At (Ty.tup2 (Ty.nat K) (Ty.int (0 : Int))) tx ax (.tmp 75) := d0 rfl
    exact run_plain rfl (y_move e1)
  · intro ax tx hs okx sm d0
    have e2 : At (Ty.tup2 (Ty.nat K) (Ty.int (0 : Int))) tx ax (.tmp 73) := d0 rfl
    exact run_plain rfl (y_ext2_0 e2)
  · intro ax tx hs okx sm d0 d1
    have e2 : At (Ty.tup2 (Ty.nat K) (Ty.int (0 : Int))) tx ax (.tmp 73) := d0 rfl
    exact run_plain rfl (y_ext2_1 e2)
  · intro ax tx hs okx sm d0 d1 d2 d3 d4 d5 d6
    have e3 : At (Ty.nat K) tx ax (.tmp 76) := d0 rfl
    have e1 : At (Ty.tup2 (Ty.nat K) (Ty.int (0 : Int))) tx ax (.tmp 75) := d1 rfl
    have e0 : At (Ty.lst Ty.int X) tx ax (.tmp 74) := d2 rfl
    have e2 : At (Ty.tup2 (Ty.nat K) (Ty.int (0 : Int))) tx ax (.tmp 73) := d4 rfl
    exact run_plain rfl (y_assign e3)
  · intro ax tx hs okx sm d0 d1 d2 d3 d4 d5 d6 d7
    have e4 : At (Ty.int (0 : Int)) tx ax (.tmp 77) := d0 rfl
    have e5 : At (Ty.nat K) tx ax (.tmp 16) := d1 rfl
    have e0 : At (Ty.lst Ty.int X) tx ax (.tmp 74) := d2 rfl
    have e1 : At (Ty.tup2 (Ty.nat K) (Ty.int (0 : Int))) tx ax (.tmp 75) := d3 rfl
    have e2 : At (Ty.tup2 (Ty.nat K) (Ty.int (0 : Int))) tx ax (.tmp 73) := d4 rfl
    have e3 : At (Ty.nat K) tx ax (.tmp 76) := d5 rfl
    exact run_plain rfl (y_assign e4)
  intro a8 s8 D8
  have ok8 := D8.ok
  have F8 := F7.step0 D8.stp
  have q41 : At (Ty.nat N) s8 a8 (.tmp 3) := D8.kt q35 rfl
  have q42 : At (Ty.nat K) s8 a8 (.tmp 9) := D8.kt q36 rfl
  have q43 : At (Ty.lst Ty.int X) s8 a8 (.tmp 10) := D8.kt q37 rfl
  have q44 : At (Ty.lst Ty.int Y) s8 a8 (.tmp 12) := D8.kt q38 rfl
  have q45 : At (Ty.lst Ty.int W) s8 a8 (.tmp 14) := D8.kt q39 rfl
  have q46 : At (Ty.nat K) s8 a8 (.tmp 16) := D8.done 5
  have q47 : At (Ty.int (0 : Int)) s8 a8 (.tmp 11) := D8.done 6
  clear D8
  refine tn ?_
  refine wp_seq ?_
  refine reg (a := a8) (σ := s8) rfl (fun i_ => List.getD [(Ty.pr (Ty.lst Ty.int X)), (Ty.pr (Ty.tup2 (Ty.val (Value.string (bsL (signsB X)))) (Ty.int (0 : Int)))), (Ty.pr (Ty.tup2 (Ty.val (Value.string (bsL (signsB X)))) (Ty.int (0 : Int)))), (Ty.pr (Ty.val (Value.string (bsL (signsB X))))), (Ty.pr (Ty.int (0 : Int))), (Ty.pr (Ty.val (Value.string (bsL (signsB X))))), (Ty.pr (Ty.int (0 : Int)))] i_ Pr.any) ok8 rfl ⟨?_, ?_, ?_, ?_, ?_, ?_, ?_, trivial⟩ ?_
  · intro ax tx hs okx sm
    exact run_plain rfl (y_move (kp (sm 10 rfl) hs q43))
  · intro ax tx hs okx sm d0
    have e0 : At (Ty.lst Ty.int X) tx ax (.tmp 79) := d0 rfl
    exact run_plain rfl ((y_call #[ax.eval (.tmp 79)] Try.func43 rfl rfl (by simp only [List.map_toArray, List.map_cons, List.map_nil]) (rowText_fn (X) _ _ e0 )).mono (fun τ _ h => cvt (σ := τ) (T := (Ty.tup2 (Ty.val (Value.string (if rowMay (X) = 0 then bsL (signsB (X)) else ByteArray.empty))) (Ty.int (rowMay (X))))) (U := (Ty.tup2 (Ty.val (Value.string (bsL (signsB X)))) (Ty.int (0 : Int)))) (by simp only [x1, if_true]) h))
  · intro ax tx hs okx sm d0
    have e1 : At (Ty.tup2 (Ty.val (Value.string (bsL (signsB X)))) (Ty.int (0 : Int))) tx ax (.tmp 80) := d0 rfl
    exact run_plain rfl (y_move e1)
  · intro ax tx hs okx sm d0
    have e2 : At (Ty.tup2 (Ty.val (Value.string (bsL (signsB X)))) (Ty.int (0 : Int))) tx ax (.tmp 78) := d0 rfl
    exact run_plain rfl (y_ext2_0 e2)
  · intro ax tx hs okx sm d0 d1
    have e2 : At (Ty.tup2 (Ty.val (Value.string (bsL (signsB X)))) (Ty.int (0 : Int))) tx ax (.tmp 78) := d0 rfl
    exact run_plain rfl (y_ext2_1 e2)
  · intro ax tx hs okx sm d0 d1 d2 d3 d4 d5 d6
    have e3 : At (Ty.val (Value.string (bsL (signsB X)))) tx ax (.tmp 81) := d0 rfl
    have e1 : At (Ty.tup2 (Ty.val (Value.string (bsL (signsB X)))) (Ty.int (0 : Int))) tx ax (.tmp 80) := d1 rfl
    have e0 : At (Ty.lst Ty.int X) tx ax (.tmp 79) := d2 rfl
    have e2 : At (Ty.tup2 (Ty.val (Value.string (bsL (signsB X)))) (Ty.int (0 : Int))) tx ax (.tmp 78) := d4 rfl
    exact run_plain rfl (y_assign e3)
  · intro ax tx hs okx sm d0 d1 d2 d3 d4 d5 d6 d7
    have e4 : At (Ty.int (0 : Int)) tx ax (.tmp 82) := d0 rfl
    have e5 : At (Ty.val (Value.string (bsL (signsB X)))) tx ax (.tmp 17) := d1 rfl
    have e0 : At (Ty.lst Ty.int X) tx ax (.tmp 79) := d2 rfl
    have e1 : At (Ty.tup2 (Ty.val (Value.string (bsL (signsB X)))) (Ty.int (0 : Int))) tx ax (.tmp 80) := d3 rfl
    have e2 : At (Ty.tup2 (Ty.val (Value.string (bsL (signsB X)))) (Ty.int (0 : Int))) tx ax (.tmp 78) := d4 rfl
    have e3 : At (Ty.val (Value.string (bsL (signsB X)))) tx ax (.tmp 81) := d5 rfl
    exact run_plain rfl (y_assign e4)
  intro a9 s9 D9
  have ok9 := D9.ok
  have F9 := F8.step0 D9.stp
  have q48 : At (Ty.nat N) s9 a9 (.tmp 3) := D9.kt q41 rfl
  have q49 : At (Ty.nat K) s9 a9 (.tmp 9) := D9.kt q42 rfl
  have q50 : At (Ty.lst Ty.int X) s9 a9 (.tmp 10) := D9.kt q43 rfl
  have q51 : At (Ty.lst Ty.int Y) s9 a9 (.tmp 12) := D9.kt q44 rfl
  have q52 : At (Ty.lst Ty.int W) s9 a9 (.tmp 14) := D9.kt q45 rfl
  have q53 : At (Ty.nat K) s9 a9 (.tmp 16) := D9.kt q46 rfl
  have q54 : At (Ty.int (0 : Int)) s9 a9 (.tmp 11) := D9.kt q47 rfl
  have q55 : At (Ty.val (Value.string (bsL (signsB X)))) s9 a9 (.tmp 17) := D9.done 5
  have q56 : At (Ty.int (0 : Int)) s9 a9 (.tmp 13) := D9.done 6
  clear D9
  refine tn ?_
  refine wp_seq ?_
  refine reg (a := a9) (σ := s9) rfl (fun i_ => List.getD [(Ty.pr (Ty.val (Value.string (bsL (signsB X))))), (Ty.pr (Ty.tup2 (Ty.lst Ty.int X) (Ty.int (0 : Int)))), (Ty.pr (Ty.tup2 (Ty.lst Ty.int X) (Ty.int (0 : Int)))), (Ty.pr (Ty.lst Ty.int X)), (Ty.pr (Ty.int (0 : Int))), (Ty.pr (Ty.lst Ty.int X)), (Ty.pr (Ty.int (0 : Int)))] i_ Pr.any) ok9 rfl ⟨?_, ?_, ?_, ?_, ?_, ?_, ?_, trivial⟩ ?_
  · intro ax tx hs okx sm
    exact run_plain rfl (y_move (kp (sm 17 rfl) hs q55))
  · intro ax tx hs okx sm d0
    have e0 : At (Ty.val (Value.string (bsL (signsB X)))) tx ax (.tmp 84) := d0 rfl
    exact run_plain rfl ((y_call #[ax.eval (.tmp 84)] Try.func54 rfl rfl (by simp only [List.map_toArray, List.map_cons, List.map_nil]) (rowRead_fn ((bsL (signsB X))) _ _ e0 (by first | omega | (have := run1_bd s p; omega)))).mono (fun τ _ h => cvt (σ := τ) (T := (Ty.tup2 (Ty.lst Ty.int (if txtMay ((bsL (signsB X))) = 0 then readTo ((bsL (signsB X))) ((bsL (signsB X))).size else [])) (Ty.int (txtMay ((bsL (signsB X))))))) (U := (Ty.tup2 (Ty.lst Ty.int X) (Ty.int (0 : Int)))) (by simp only [hrt.1, hrt.2, if_true]) h))
  · intro ax tx hs okx sm d0
    have e1 : At (Ty.tup2 (Ty.lst Ty.int X) (Ty.int (0 : Int))) tx ax (.tmp 85) := d0 rfl
    exact run_plain rfl (y_move e1)
  · intro ax tx hs okx sm d0
    have e2 : At (Ty.tup2 (Ty.lst Ty.int X) (Ty.int (0 : Int))) tx ax (.tmp 83) := d0 rfl
    exact run_plain rfl (y_ext2_0 e2)
  · intro ax tx hs okx sm d0 d1
    have e2 : At (Ty.tup2 (Ty.lst Ty.int X) (Ty.int (0 : Int))) tx ax (.tmp 83) := d0 rfl
    exact run_plain rfl (y_ext2_1 e2)
  · intro ax tx hs okx sm d0 d1 d2 d3 d4 d5 d6
    have e3 : At (Ty.lst Ty.int X) tx ax (.tmp 86) := d0 rfl
    have e1 : At (Ty.tup2 (Ty.lst Ty.int X) (Ty.int (0 : Int))) tx ax (.tmp 85) := d1 rfl
    have e0 : At (Ty.val (Value.string (bsL (signsB X)))) tx ax (.tmp 84) := d2 rfl
    have e2 : At (Ty.tup2 (Ty.lst Ty.int X) (Ty.int (0 : Int))) tx ax (.tmp 83) := d4 rfl
    exact run_plain rfl (y_assign e3)
  · intro ax tx hs okx sm d0 d1 d2 d3 d4 d5 d6 d7
    have e4 : At (Ty.int (0 : Int)) tx ax (.tmp 87) := d0 rfl
    have e5 : At (Ty.lst Ty.int X) tx ax (.tmp 18) := d1 rfl
    have e0 : At (Ty.val (Value.string (bsL (signsB X)))) tx ax (.tmp 84) := d2 rfl
    have e1 : At (Ty.tup2 (Ty.lst Ty.int X) (Ty.int (0 : Int))) tx ax (.tmp 85) := d3 rfl
    have e2 : At (Ty.tup2 (Ty.lst Ty.int X) (Ty.int (0 : Int))) tx ax (.tmp 83) := d4 rfl
    have e3 : At (Ty.lst Ty.int X) tx ax (.tmp 86) := d5 rfl
    exact run_plain rfl (y_assign e4)
  intro a10 s10 D10
  have ok10 := D10.ok
  have F10 := F9.step0 D10.stp
  have q57 : At (Ty.nat N) s10 a10 (.tmp 3) := D10.kt q48 rfl
  have q58 : At (Ty.nat K) s10 a10 (.tmp 9) := D10.kt q49 rfl
  have q59 : At (Ty.lst Ty.int X) s10 a10 (.tmp 10) := D10.kt q50 rfl
  have q60 : At (Ty.lst Ty.int Y) s10 a10 (.tmp 12) := D10.kt q51 rfl
  have q61 : At (Ty.lst Ty.int W) s10 a10 (.tmp 14) := D10.kt q52 rfl
  have q62 : At (Ty.nat K) s10 a10 (.tmp 16) := D10.kt q53 rfl
  have q63 : At (Ty.int (0 : Int)) s10 a10 (.tmp 11) := D10.kt q54 rfl
  have q64 : At (Ty.int (0 : Int)) s10 a10 (.tmp 13) := D10.kt q56 rfl
  have q65 : At (Ty.lst Ty.int X) s10 a10 (.tmp 18) := D10.done 5
  have q66 : At (Ty.int (0 : Int)) s10 a10 (.tmp 15) := D10.done 6
  clear D10
  refine tn ?_
  refine wp_seq ?_
  refine wp_seq ?_
  refine reg (a := a10) (σ := s10) rfl (fun i_ => List.getD [(Ty.pr (Ty.int (0 : Int))), (Ty.pr (Ty.bool false)), (Ty.pr (Ty.bool false)), (Ty.pr (Ty.grd (false = false) (Ty.int (0 : Int)))), (Ty.pr (Ty.grd (false = false) (Ty.bool false))), (Ty.pr (Ty.bool (false || false))), (Ty.pr (Ty.bool (false || false))), (Ty.pr (Ty.grd ((false || false) = false) (Ty.int (0 : Int)))), (Ty.pr (Ty.grd ((false || false) = false) (Ty.bool false))), (Ty.pr (Ty.bool ((false || false) || false))), (Ty.pr (Ty.bool ((false || false) || false))), (Ty.pr (Ty.grd (((false || false) || false) = false) (Ty.nat K))), (Ty.pr (Ty.grd (((false || false) || false) = false) (Ty.nat K))), (Ty.pr (Ty.grd (((false || false) || false) = false) (Ty.bool (decide (((K : Nat) : Int) ≠ ((K : Nat) : Int)))))), (Ty.pr (Ty.bool (((false || false) || false) || (decide (((K : Nat) : Int) ≠ ((K : Nat) : Int)))))), (Ty.pr (Ty.bool (((false || false) || false) || (decide (((K : Nat) : Int) ≠ ((K : Nat) : Int)))))), (Ty.pr (Ty.grd ((((false || false) || false) || (decide (((K : Nat) : Int) ≠ ((K : Nat) : Int)))) = false) (Ty.lst Ty.int X))), (Ty.pr (Ty.grd ((((false || false) || false) || (decide (((K : Nat) : Int) ≠ ((K : Nat) : Int)))) = false) (Ty.lst Ty.int X))), (Ty.pr (Ty.grd ((((false || false) || false) || (decide (((K : Nat) : Int) ≠ ((K : Nat) : Int)))) = false) (Ty.bool (decide ((X) = (X)))))), (Ty.pr (Ty.grd ((((false || false) || false) || (decide (((K : Nat) : Int) ≠ ((K : Nat) : Int)))) = false) (Ty.bool (!(decide ((X) = (X))))))), (Ty.pr (Ty.bool ((((false || false) || false) || (decide (((K : Nat) : Int) ≠ ((K : Nat) : Int)))) || (!(decide ((X) = (X)))))))] i_ Pr.any) ok10 rfl ⟨?_, ?_, ?_, ?_, ?_, ?_, ?_, ?_, ?_, ?_, ?_, ?_, ?_, ?_, ?_, ?_, ?_, ?_, ?_, ?_, ?_, trivial⟩ ?_
  · intro ax tx hs okx sm
    exact run_plain rfl (y_move (kp (sm 11 rfl) hs q63))
  · intro ax tx hs okx sm d0
    have e0 : At (Ty.int (0 : Int)) tx ax (.tmp 88) := d0 rfl
    exact run_plain rfl ((y_neq e0 rfl).mono (fun τ _ h => cvb (σ := τ) (by decide) h))
  · intro ax tx hs okx sm d0
    have e1 : At (Ty.bool false) tx ax (.tmp 89) := d0 rfl
    exact run_plain rfl (y_move e1)
  · intro ax tx hs okx sm d0
    have e2 : At (Ty.bool false) tx ax (.tmp 90) := d0 rfl
    refine run_guard (T := (Ty.int (0 : Int))) okx rfl rfl (by decide) e2 (fun hg => ?_)
    exact y_move (kp (sm 13 rfl) hs q64)
  · intro ax tx hs okx sm d0 d1
    have e3 : At (Ty.grd (false = false) (Ty.int (0 : Int))) tx ax (.tmp 91) := d0 rfl
    have e2 : At (Ty.bool false) tx ax (.tmp 90) := d1 rfl
    refine run_guard (T := (Ty.bool false)) okx rfl rfl (by decide) e2 (fun hg => ?_)
    exact (y_neq (e3.1 hg) rfl).mono (fun τ _ h => cvb (σ := τ) (by decide) h)
  · intro ax tx hs okx sm d0 d1
    have e2 : At (Ty.bool false) tx ax (.tmp 90) := d0 rfl
    have e4 : At (Ty.grd (false = false) (Ty.bool false)) tx ax (.tmp 92) := d1 rfl
    exact run_plain rfl (y_pick_or e2 rfl e4)
  · intro ax tx hs okx sm d0 d1
    have e5 : At (Ty.bool (false || false)) tx ax (.tmp 93) := d0 rfl
    have e2 : At (Ty.bool false) tx ax (.tmp 90) := d1 rfl
    exact run_plain rfl (y_move e5)
  · intro ax tx hs okx sm d0
    have e6 : At (Ty.bool (false || false)) tx ax (.tmp 94) := d0 rfl
    refine run_guard (T := (Ty.int (0 : Int))) okx rfl rfl (by decide) e6 (fun hg => ?_)
    obtain ⟨d9, d10⟩ := Bool.or_eq_false_iff.mp hg
    exact y_move (kp (sm 15 rfl) hs q66)
  · intro ax tx hs okx sm d0 d1
    have e7 : At (Ty.grd ((false || false) = false) (Ty.int (0 : Int))) tx ax (.tmp 95) := d0 rfl
    have e6 : At (Ty.bool (false || false)) tx ax (.tmp 94) := d1 rfl
    refine run_guard (T := (Ty.bool false)) okx rfl rfl (by decide) e6 (fun hg => ?_)
    obtain ⟨d11, d12⟩ := Bool.or_eq_false_iff.mp hg
    exact (y_neq (e7.1 hg) rfl).mono (fun τ _ h => cvb (σ := τ) (by decide) h)
  · intro ax tx hs okx sm d0 d1
    have e6 : At (Ty.bool (false || false)) tx ax (.tmp 94) := d0 rfl
    have e8 : At (Ty.grd ((false || false) = false) (Ty.bool false)) tx ax (.tmp 96) := d1 rfl
    exact run_plain rfl (y_pick_or e6 rfl e8)
  · intro ax tx hs okx sm d0 d1
    have e9 : At (Ty.bool ((false || false) || false)) tx ax (.tmp 97) := d0 rfl
    have e6 : At (Ty.bool (false || false)) tx ax (.tmp 94) := d1 rfl
    exact run_plain rfl (y_move e9)
  · intro ax tx hs okx sm d0
    have e10 : At (Ty.bool ((false || false) || false)) tx ax (.tmp 98) := d0 rfl
    refine run_guard (T := (Ty.nat K)) okx rfl rfl (by decide) e10 (fun hg => ?_)
    obtain ⟨d13, d14⟩ := Bool.or_eq_false_iff.mp hg
    obtain ⟨d15, d16⟩ := Bool.or_eq_false_iff.mp d13
    exact y_move (kp (sm 16 rfl) hs q62)
  · intro ax tx hs okx sm d0
    have e10 : At (Ty.bool ((false || false) || false)) tx ax (.tmp 98) := d0 rfl
    refine run_guard (T := (Ty.nat K)) okx rfl rfl (by decide) e10 (fun hg => ?_)
    obtain ⟨d17, d18⟩ := Bool.or_eq_false_iff.mp hg
    obtain ⟨d19, d20⟩ := Bool.or_eq_false_iff.mp d17
    exact y_move (kp (sm 9 rfl) hs q58)
  · intro ax tx hs okx sm d0 d1 d2
    have e11 : At (Ty.grd (((false || false) || false) = false) (Ty.nat K)) tx ax (.tmp 99) := d0 rfl
    have e12 : At (Ty.grd (((false || false) || false) = false) (Ty.nat K)) tx ax (.tmp 100) := d1 rfl
    have e10 : At (Ty.bool ((false || false) || false)) tx ax (.tmp 98) := d2 rfl
    refine run_guard (T := (Ty.bool (decide (((K : Nat) : Int) ≠ ((K : Nat) : Int))))) okx rfl rfl (by decide) e10 (fun hg => ?_)
    obtain ⟨d21, d22⟩ := Bool.or_eq_false_iff.mp hg
    obtain ⟨d23, d24⟩ := Bool.or_eq_false_iff.mp d21
    exact y_neq (e11.1 hg) (e12.1 hg)
  · intro ax tx hs okx sm d0 d1
    have e10 : At (Ty.bool ((false || false) || false)) tx ax (.tmp 98) := d0 rfl
    have e13 : At (Ty.grd (((false || false) || false) = false) (Ty.bool (decide (((K : Nat) : Int) ≠ ((K : Nat) : Int))))) tx ax (.tmp 101) := d1 rfl
    exact run_plain rfl (y_pick_or e10 rfl e13)
  · intro ax tx hs okx sm d0 d1
    have e14 : At (Ty.bool (((false || false) || false) || (decide (((K : Nat) : Int) ≠ ((K : Nat) : Int))))) tx ax (.tmp 102) := d0 rfl
    have e10 : At (Ty.bool ((false || false) || false)) tx ax (.tmp 98) := d1 rfl
    exact run_plain rfl (y_move e14)
  · intro ax tx hs okx sm d0
    have e15 : At (Ty.bool (((false || false) || false) || (decide (((K : Nat) : Int) ≠ ((K : Nat) : Int))))) tx ax (.tmp 103) := d0 rfl
    refine run_guard (T := (Ty.lst Ty.int X)) okx rfl rfl (by decide) e15 (fun hg => ?_)
    obtain ⟨d25, d26⟩ := Bool.or_eq_false_iff.mp hg
    obtain ⟨d27, d28⟩ := Bool.or_eq_false_iff.mp d25
    obtain ⟨d29, d30⟩ := Bool.or_eq_false_iff.mp d27
    have d26 := of_decide_eq_false d26
    exact y_move (kp (sm 18 rfl) hs q65)
  · intro ax tx hs okx sm d0
    have e15 : At (Ty.bool (((false || false) || false) || (decide (((K : Nat) : Int) ≠ ((K : Nat) : Int))))) tx ax (.tmp 103) := d0 rfl
    refine run_guard (T := (Ty.lst Ty.int X)) okx rfl rfl (by decide) e15 (fun hg => ?_)
    obtain ⟨d31, d32⟩ := Bool.or_eq_false_iff.mp hg
    obtain ⟨d33, d34⟩ := Bool.or_eq_false_iff.mp d31
    obtain ⟨d35, d36⟩ := Bool.or_eq_false_iff.mp d33
    have d32 := of_decide_eq_false d32
    exact y_move (kp (sm 10 rfl) hs q59)
  · intro ax tx hs okx sm d0 d1 d2 d3
    have e16 : At (Ty.grd ((((false || false) || false) || (decide (((K : Nat) : Int) ≠ ((K : Nat) : Int)))) = false) (Ty.lst Ty.int X)) tx ax (.tmp 104) := d0 rfl
    have e17 : At (Ty.grd ((((false || false) || false) || (decide (((K : Nat) : Int) ≠ ((K : Nat) : Int)))) = false) (Ty.lst Ty.int X)) tx ax (.tmp 105) := d1 rfl
    have e15 : At (Ty.bool (((false || false) || false) || (decide (((K : Nat) : Int) ≠ ((K : Nat) : Int))))) tx ax (.tmp 103) := d2 rfl
    refine run_guard (T := (Ty.bool (decide ((X) = (X))))) okx rfl rfl (by decide) e15 (fun hg => ?_)
    obtain ⟨d37, d38⟩ := Bool.or_eq_false_iff.mp hg
    obtain ⟨d39, d40⟩ := Bool.or_eq_false_iff.mp d37
    obtain ⟨d41, d42⟩ := Bool.or_eq_false_iff.mp d39
    have d38 := of_decide_eq_false d38
    exact y_call #[ax.eval (.tmp 104), ax.eval (.tmp 105)] Try.func25 rfl rfl (by simp only [List.map_toArray, List.map_cons, List.map_nil]) (rsame_fn (X) (X) _ _ _ (e16.1 hg) (e17.1 hg) )
  · intro ax tx hs okx sm d0 d1
    have e18 : At (Ty.grd ((((false || false) || false) || (decide (((K : Nat) : Int) ≠ ((K : Nat) : Int)))) = false) (Ty.bool (decide ((X) = (X))))) tx ax (.tmp 106) := d0 rfl
    have e15 : At (Ty.bool (((false || false) || false) || (decide (((K : Nat) : Int) ≠ ((K : Nat) : Int))))) tx ax (.tmp 103) := d1 rfl
    refine run_guard (T := (Ty.bool (!(decide ((X) = (X)))))) okx rfl rfl (by decide) e15 (fun hg => ?_)
    obtain ⟨d43, d44⟩ := Bool.or_eq_false_iff.mp hg
    obtain ⟨d45, d46⟩ := Bool.or_eq_false_iff.mp d43
    obtain ⟨d47, d48⟩ := Bool.or_eq_false_iff.mp d45
    have d44 := of_decide_eq_false d44
    exact y_not (e18.1 hg)
  · intro ax tx hs okx sm d0 d1
    have e15 : At (Ty.bool (((false || false) || false) || (decide (((K : Nat) : Int) ≠ ((K : Nat) : Int))))) tx ax (.tmp 103) := d0 rfl
    have e19 : At (Ty.grd ((((false || false) || false) || (decide (((K : Nat) : Int) ≠ ((K : Nat) : Int)))) = false) (Ty.bool (!(decide ((X) = (X)))))) tx ax (.tmp 107) := d1 rfl
    exact run_plain rfl (y_pick_or e15 rfl e19)
  intro a11 s11 D11
  have ok11 := D11.ok
  have F11 := F10.step0 D11.stp
  have q67 : At (Ty.nat N) s11 a11 (.tmp 3) := D11.kt q57 rfl
  have q68 : At (Ty.lst Ty.int X) s11 a11 (.tmp 10) := D11.kt q59 rfl
  have q69 : At (Ty.lst Ty.int Y) s11 a11 (.tmp 12) := D11.kt q60 rfl
  have q70 : At (Ty.lst Ty.int W) s11 a11 (.tmp 14) := D11.kt q61 rfl
  have q71 : At (Ty.bool ((((false || false) || false) || (decide (((K : Nat) : Int) ≠ ((K : Nat) : Int)))) || (!(decide ((X) = (X)))))) s11 a11 (.tmp 108) := D11.done 20
  clear D11
  refine tn ?_
  refine cond_t q71 (fun c2 => ?_) (fun c2 => ?_)
  ·
   exfalso
   simp at c2
  ·
   obtain ⟨d49, d50⟩ := Bool.or_eq_false_iff.mp c2
   obtain ⟨d51, d52⟩ := Bool.or_eq_false_iff.mp d49
   obtain ⟨d53, d54⟩ := Bool.or_eq_false_iff.mp d51
   obtain ⟨d55, d56⟩ := Bool.or_eq_false_iff.mp d53
   replace d52 := of_decide_eq_false d52
   refine wp_skip ?_
   refine tn ?_
   refine wp_seq ?_
   refine reg (a := a11) (σ := s11) rfl (fun i_ => List.getD [(Ty.pr (Ty.lst Ty.int X)), (Ty.pr (Ty.lst Ty.int Y)), (Ty.pr (Ty.tup2 (Ty.lst Ty.int (byL X Y)) (Ty.int (0 : Int)))), (Ty.pr (Ty.tup2 (Ty.lst Ty.int (byL X Y)) (Ty.int (0 : Int)))), (Ty.pr (Ty.lst Ty.int (byL X Y))), (Ty.pr (Ty.int (0 : Int))), (Ty.pr (Ty.lst Ty.int (byL X Y))), (Ty.pr (Ty.int (0 : Int)))] i_ Pr.any) ok11 rfl ⟨?_, ?_, ?_, ?_, ?_, ?_, ?_, ?_, trivial⟩ ?_
   · intro ax tx hs okx sm
     exact run_plain rfl (y_move (kp (sm 10 rfl) hs q68))
   · intro ax tx hs okx sm
     exact run_plain rfl (y_move (kp (sm 12 rfl) hs q69))
   · intro ax tx hs okx sm d0 d1
     have e0 : At (Ty.lst Ty.int X) tx ax (.tmp 110) := d0 rfl
     have e1 : At (Ty.lst Ty.int Y) tx ax (.tmp 111) := d1 rfl
     exact run_plain rfl ((y_call #[ax.eval (.tmp 110), ax.eval (.tmp 111)] Try.func50 rfl rfl (by simp only [List.map_toArray, List.map_cons, List.map_nil]) (times_fn (X) (Y) _ _ _ e0 e1 )).mono (fun τ _ h => cvt (σ := τ) (T := (Ty.tup2 (Ty.lst Ty.int (if twoMay (X) (Y) = 0 then byL (X) (Y) else [])) (Ty.int (twoMay (X) (Y))))) (U := (Ty.tup2 (Ty.lst Ty.int (byL X Y)) (Ty.int (0 : Int)))) (by simp only [t1, if_true]) h))
   · intro ax tx hs okx sm d0
     have e2 : At (Ty.tup2 (Ty.lst Ty.int (byL X Y)) (Ty.int (0 : Int))) tx ax (.tmp 112) := d0 rfl
     exact run_plain rfl (y_move e2)
   · intro ax tx hs okx sm d0
     have e3 : At (Ty.tup2 (Ty.lst Ty.int (byL X Y)) (Ty.int (0 : Int))) tx ax (.tmp 109) := d0 rfl
     exact run_plain rfl (y_ext2_0 e3)
   · intro ax tx hs okx sm d0 d1
     have e3 : At (Ty.tup2 (Ty.lst Ty.int (byL X Y)) (Ty.int (0 : Int))) tx ax (.tmp 109) := d0 rfl
     exact run_plain rfl (y_ext2_1 e3)
   · intro ax tx hs okx sm d0 d1 d2 d3 d4 d5 d6 d7
     have e4 : At (Ty.lst Ty.int (byL X Y)) tx ax (.tmp 113) := d0 rfl
     have e2 : At (Ty.tup2 (Ty.lst Ty.int (byL X Y)) (Ty.int (0 : Int))) tx ax (.tmp 112) := d1 rfl
     have e0 : At (Ty.lst Ty.int X) tx ax (.tmp 110) := d2 rfl
     have e1 : At (Ty.lst Ty.int Y) tx ax (.tmp 111) := d3 rfl
     have e3 : At (Ty.tup2 (Ty.lst Ty.int (byL X Y)) (Ty.int (0 : Int))) tx ax (.tmp 109) := d5 rfl
     exact run_plain rfl (y_assign e4)
   · intro ax tx hs okx sm d0 d1 d2 d3 d4 d5 d6 d7 d8
     have e5 : At (Ty.int (0 : Int)) tx ax (.tmp 114) := d0 rfl
     have e6 : At (Ty.lst Ty.int (byL X Y)) tx ax (.tmp 19) := d1 rfl
     have e0 : At (Ty.lst Ty.int X) tx ax (.tmp 110) := d2 rfl
     have e1 : At (Ty.lst Ty.int Y) tx ax (.tmp 111) := d3 rfl
     have e2 : At (Ty.tup2 (Ty.lst Ty.int (byL X Y)) (Ty.int (0 : Int))) tx ax (.tmp 112) := d4 rfl
     have e3 : At (Ty.tup2 (Ty.lst Ty.int (byL X Y)) (Ty.int (0 : Int))) tx ax (.tmp 109) := d5 rfl
     have e4 : At (Ty.lst Ty.int (byL X Y)) tx ax (.tmp 113) := d6 rfl
     exact run_plain rfl (y_assign e5)
   intro a12 s12 D12
   have ok12 := D12.ok
   have F12 := F11.step0 D12.stp
   have q72 : At (Ty.nat N) s12 a12 (.tmp 3) := D12.kt q67 rfl
   have q73 : At (Ty.lst Ty.int X) s12 a12 (.tmp 10) := D12.kt q68 rfl
   have q74 : At (Ty.lst Ty.int Y) s12 a12 (.tmp 12) := D12.kt q69 rfl
   have q75 : At (Ty.lst Ty.int W) s12 a12 (.tmp 14) := D12.kt q70 rfl
   have q76 : At (Ty.lst Ty.int (byL X Y)) s12 a12 (.tmp 19) := D12.done 6
   have q77 : At (Ty.int (0 : Int)) s12 a12 (.tmp 11) := D12.done 7
   clear D12
   refine tn ?_
   refine wp_seq ?_
   refine reg (a := a12) (σ := s12) rfl (fun i_ => List.getD [(Ty.pr (Ty.lst Ty.int Y)), (Ty.pr (Ty.lst Ty.int W)), (Ty.pr (Ty.tup2 (Ty.lst Ty.int (byL Y W)) (Ty.int (0 : Int)))), (Ty.pr (Ty.tup2 (Ty.lst Ty.int (byL Y W)) (Ty.int (0 : Int)))), (Ty.pr (Ty.lst Ty.int (byL Y W))), (Ty.pr (Ty.int (0 : Int))), (Ty.pr (Ty.lst Ty.int (byL Y W))), (Ty.pr (Ty.int (0 : Int)))] i_ Pr.any) ok12 rfl ⟨?_, ?_, ?_, ?_, ?_, ?_, ?_, ?_, trivial⟩ ?_
   · intro ax tx hs okx sm
     exact run_plain rfl (y_move (kp (sm 12 rfl) hs q74))
   · intro ax tx hs okx sm
     exact run_plain rfl (y_move (kp (sm 14 rfl) hs q75))
   · intro ax tx hs okx sm d0 d1
     have e0 : At (Ty.lst Ty.int Y) tx ax (.tmp 116) := d0 rfl
     have e1 : At (Ty.lst Ty.int W) tx ax (.tmp 117) := d1 rfl
     exact run_plain rfl ((y_call #[ax.eval (.tmp 116), ax.eval (.tmp 117)] Try.func50 rfl rfl (by simp only [List.map_toArray, List.map_cons, List.map_nil]) (times_fn (Y) (W) _ _ _ e0 e1 )).mono (fun τ _ h => cvt (σ := τ) (T := (Ty.tup2 (Ty.lst Ty.int (if twoMay (Y) (W) = 0 then byL (Y) (W) else [])) (Ty.int (twoMay (Y) (W))))) (U := (Ty.tup2 (Ty.lst Ty.int (byL Y W)) (Ty.int (0 : Int)))) (by simp only [t2, if_true]) h))
   · intro ax tx hs okx sm d0
     have e2 : At (Ty.tup2 (Ty.lst Ty.int (byL Y W)) (Ty.int (0 : Int))) tx ax (.tmp 118) := d0 rfl
     exact run_plain rfl (y_move e2)
   · intro ax tx hs okx sm d0
     have e3 : At (Ty.tup2 (Ty.lst Ty.int (byL Y W)) (Ty.int (0 : Int))) tx ax (.tmp 115) := d0 rfl
     exact run_plain rfl (y_ext2_0 e3)
   · intro ax tx hs okx sm d0 d1
     have e3 : At (Ty.tup2 (Ty.lst Ty.int (byL Y W)) (Ty.int (0 : Int))) tx ax (.tmp 115) := d0 rfl
     exact run_plain rfl (y_ext2_1 e3)
   · intro ax tx hs okx sm d0 d1 d2 d3 d4 d5 d6 d7
     have e4 : At (Ty.lst Ty.int (byL Y W)) tx ax (.tmp 119) := d0 rfl
     have e2 : At (Ty.tup2 (Ty.lst Ty.int (byL Y W)) (Ty.int (0 : Int))) tx ax (.tmp 118) := d1 rfl
     have e0 : At (Ty.lst Ty.int Y) tx ax (.tmp 116) := d2 rfl
     have e1 : At (Ty.lst Ty.int W) tx ax (.tmp 117) := d3 rfl
     have e3 : At (Ty.tup2 (Ty.lst Ty.int (byL Y W)) (Ty.int (0 : Int))) tx ax (.tmp 115) := d5 rfl
     exact run_plain rfl (y_assign e4)
   · intro ax tx hs okx sm d0 d1 d2 d3 d4 d5 d6 d7 d8
     have e5 : At (Ty.int (0 : Int)) tx ax (.tmp 120) := d0 rfl
     have e6 : At (Ty.lst Ty.int (byL Y W)) tx ax (.tmp 20) := d1 rfl
     have e0 : At (Ty.lst Ty.int Y) tx ax (.tmp 116) := d2 rfl
     have e1 : At (Ty.lst Ty.int W) tx ax (.tmp 117) := d3 rfl
     have e2 : At (Ty.tup2 (Ty.lst Ty.int (byL Y W)) (Ty.int (0 : Int))) tx ax (.tmp 118) := d4 rfl
     have e3 : At (Ty.tup2 (Ty.lst Ty.int (byL Y W)) (Ty.int (0 : Int))) tx ax (.tmp 115) := d5 rfl
     have e4 : At (Ty.lst Ty.int (byL Y W)) tx ax (.tmp 119) := d6 rfl
     exact run_plain rfl (y_assign e5)
   intro a13 s13 D13
   have ok13 := D13.ok
   have F13 := F12.step0 D13.stp
   have q78 : At (Ty.nat N) s13 a13 (.tmp 3) := D13.kt q72 rfl
   have q79 : At (Ty.lst Ty.int X) s13 a13 (.tmp 10) := D13.kt q73 rfl
   have q80 : At (Ty.lst Ty.int Y) s13 a13 (.tmp 12) := D13.kt q74 rfl
   have q81 : At (Ty.lst Ty.int W) s13 a13 (.tmp 14) := D13.kt q75 rfl
   have q82 : At (Ty.lst Ty.int (byL X Y)) s13 a13 (.tmp 19) := D13.kt q76 rfl
   have q83 : At (Ty.int (0 : Int)) s13 a13 (.tmp 11) := D13.kt q77 rfl
   have q84 : At (Ty.lst Ty.int (byL Y W)) s13 a13 (.tmp 20) := D13.done 6
   have q85 : At (Ty.int (0 : Int)) s13 a13 (.tmp 13) := D13.done 7
   clear D13
   refine tn ?_
   refine wp_seq ?_
   refine wp_seq ?_
   refine reg (a := a13) (σ := s13) rfl (fun i_ => List.getD [(Ty.pr (Ty.int (0 : Int))), (Ty.pr (Ty.bool false)), (Ty.pr (Ty.bool false)), (Ty.pr (Ty.grd (false = false) (Ty.int (0 : Int)))), (Ty.pr (Ty.grd (false = false) (Ty.bool false))), (Ty.pr (Ty.bool (false || false)))] i_ Pr.any) ok13 rfl ⟨?_, ?_, ?_, ?_, ?_, ?_, trivial⟩ ?_
   · intro ax tx hs okx sm
     exact run_plain rfl (y_move (kp (sm 11 rfl) hs q83))
   · intro ax tx hs okx sm d0
     have e0 : At (Ty.int (0 : Int)) tx ax (.tmp 121) := d0 rfl
     exact run_plain rfl ((y_neq e0 rfl).mono (fun τ _ h => cvb (σ := τ) (by decide) h))
   · intro ax tx hs okx sm d0
     have e1 : At (Ty.bool false) tx ax (.tmp 122) := d0 rfl
     exact run_plain rfl (y_move e1)
   · intro ax tx hs okx sm d0
     have e2 : At (Ty.bool false) tx ax (.tmp 123) := d0 rfl
     refine run_guard (T := (Ty.int (0 : Int))) okx rfl rfl (by decide) e2 (fun hg => ?_)
     exact y_move (kp (sm 13 rfl) hs q85)
   · intro ax tx hs okx sm d0 d1
     have e3 : At (Ty.grd (false = false) (Ty.int (0 : Int))) tx ax (.tmp 124) := d0 rfl
     have e2 : At (Ty.bool false) tx ax (.tmp 123) := d1 rfl
     refine run_guard (T := (Ty.bool false)) okx rfl rfl (by decide) e2 (fun hg => ?_)
     exact (y_neq (e3.1 hg) rfl).mono (fun τ _ h => cvb (σ := τ) (by decide) h)
   · intro ax tx hs okx sm d0 d1
     have e2 : At (Ty.bool false) tx ax (.tmp 123) := d0 rfl
     have e4 : At (Ty.grd (false = false) (Ty.bool false)) tx ax (.tmp 125) := d1 rfl
     exact run_plain rfl (y_pick_or e2 rfl e4)
   intro a14 s14 D14
   have ok14 := D14.ok
   have F14 := F13.step0 D14.stp
   have q86 : At (Ty.nat N) s14 a14 (.tmp 3) := D14.kt q78 rfl
   have q87 : At (Ty.lst Ty.int X) s14 a14 (.tmp 10) := D14.kt q79 rfl
   have q88 : At (Ty.lst Ty.int Y) s14 a14 (.tmp 12) := D14.kt q80 rfl
   have q89 : At (Ty.lst Ty.int W) s14 a14 (.tmp 14) := D14.kt q81 rfl
   have q90 : At (Ty.lst Ty.int (byL X Y)) s14 a14 (.tmp 19) := D14.kt q82 rfl
   have q91 : At (Ty.lst Ty.int (byL Y W)) s14 a14 (.tmp 20) := D14.kt q84 rfl
   have q92 : At (Ty.bool (false || false)) s14 a14 (.tmp 126) := D14.done 5
   clear D14
   refine tn ?_
   refine cond_t q92 (fun c3 => ?_) (fun c3 => ?_)
   ·
    exfalso
    simp at c3
   ·
    obtain ⟨d57, d58⟩ := Bool.or_eq_false_iff.mp c3
    refine wp_skip ?_
    refine tn ?_
    refine wp_seq ?_
    refine reg (a := a14) (σ := s14) rfl (fun i_ => List.getD [(Ty.pr (Ty.lst Ty.int (byL X Y))), (Ty.pr (Ty.lst Ty.int W)), (Ty.pr (Ty.tup2 (Ty.lst Ty.int (byL (byL X Y) W)) (Ty.int (0 : Int)))), (Ty.pr (Ty.tup2 (Ty.lst Ty.int (byL (byL X Y) W)) (Ty.int (0 : Int)))), (Ty.pr (Ty.lst Ty.int (byL (byL X Y) W))), (Ty.pr (Ty.int (0 : Int))), (Ty.pr (Ty.lst Ty.int (byL (byL X Y) W))), (Ty.pr (Ty.int (0 : Int)))] i_ Pr.any) ok14 rfl ⟨?_, ?_, ?_, ?_, ?_, ?_, ?_, ?_, trivial⟩ ?_
    · intro ax tx hs okx sm
      exact run_plain rfl (y_move (kp (sm 19 rfl) hs q90))
    · intro ax tx hs okx sm
      exact run_plain rfl (y_move (kp (sm 14 rfl) hs q89))
    · intro ax tx hs okx sm d0 d1
      have e0 : At (Ty.lst Ty.int (byL X Y)) tx ax (.tmp 128) := d0 rfl
      have e1 : At (Ty.lst Ty.int W) tx ax (.tmp 129) := d1 rfl
      exact run_plain rfl ((y_call #[ax.eval (.tmp 128), ax.eval (.tmp 129)] Try.func50 rfl rfl (by simp only [List.map_toArray, List.map_cons, List.map_nil]) (times_fn ((byL X Y)) (W) _ _ _ e0 e1 )).mono (fun τ _ h => cvt (σ := τ) (T := (Ty.tup2 (Ty.lst Ty.int (if twoMay ((byL X Y)) (W) = 0 then byL ((byL X Y)) (W) else [])) (Ty.int (twoMay ((byL X Y)) (W))))) (U := (Ty.tup2 (Ty.lst Ty.int (byL (byL X Y) W)) (Ty.int (0 : Int)))) (by simp only [t3, if_true]) h))
    · intro ax tx hs okx sm d0
      have e2 : At (Ty.tup2 (Ty.lst Ty.int (byL (byL X Y) W)) (Ty.int (0 : Int))) tx ax (.tmp 130) := d0 rfl
      exact run_plain rfl (y_move e2)
    · intro ax tx hs okx sm d0
      have e3 : At (Ty.tup2 (Ty.lst Ty.int (byL (byL X Y) W)) (Ty.int (0 : Int))) tx ax (.tmp 127) := d0 rfl
      exact run_plain rfl (y_ext2_0 e3)
    · intro ax tx hs okx sm d0 d1
      have e3 : At (Ty.tup2 (Ty.lst Ty.int (byL (byL X Y) W)) (Ty.int (0 : Int))) tx ax (.tmp 127) := d0 rfl
      exact run_plain rfl (y_ext2_1 e3)
    · intro ax tx hs okx sm d0 d1 d2 d3 d4 d5 d6 d7
      have e4 : At (Ty.lst Ty.int (byL (byL X Y) W)) tx ax (.tmp 131) := d0 rfl
      have e2 : At (Ty.tup2 (Ty.lst Ty.int (byL (byL X Y) W)) (Ty.int (0 : Int))) tx ax (.tmp 130) := d1 rfl
      have e0 : At (Ty.lst Ty.int (byL X Y)) tx ax (.tmp 128) := d2 rfl
      have e1 : At (Ty.lst Ty.int W) tx ax (.tmp 129) := d3 rfl
      have e3 : At (Ty.tup2 (Ty.lst Ty.int (byL (byL X Y) W)) (Ty.int (0 : Int))) tx ax (.tmp 127) := d5 rfl
      exact run_plain rfl (y_assign e4)
    · intro ax tx hs okx sm d0 d1 d2 d3 d4 d5 d6 d7 d8
      have e5 : At (Ty.int (0 : Int)) tx ax (.tmp 132) := d0 rfl
      have e6 : At (Ty.lst Ty.int (byL (byL X Y) W)) tx ax (.tmp 21) := d1 rfl
      have e0 : At (Ty.lst Ty.int (byL X Y)) tx ax (.tmp 128) := d2 rfl
      have e1 : At (Ty.lst Ty.int W) tx ax (.tmp 129) := d3 rfl
      have e2 : At (Ty.tup2 (Ty.lst Ty.int (byL (byL X Y) W)) (Ty.int (0 : Int))) tx ax (.tmp 130) := d4 rfl
      have e3 : At (Ty.tup2 (Ty.lst Ty.int (byL (byL X Y) W)) (Ty.int (0 : Int))) tx ax (.tmp 127) := d5 rfl
      have e4 : At (Ty.lst Ty.int (byL (byL X Y) W)) tx ax (.tmp 131) := d6 rfl
      exact run_plain rfl (y_assign e5)
    intro a15 s15 D15
    have ok15 := D15.ok
    have F15 := F14.step0 D15.stp
    have q93 : At (Ty.nat N) s15 a15 (.tmp 3) := D15.kt q86 rfl
    have q94 : At (Ty.lst Ty.int X) s15 a15 (.tmp 10) := D15.kt q87 rfl
    have q95 : At (Ty.lst Ty.int Y) s15 a15 (.tmp 12) := D15.kt q88 rfl
    have q96 : At (Ty.lst Ty.int (byL X Y)) s15 a15 (.tmp 19) := D15.kt q90 rfl
    have q97 : At (Ty.lst Ty.int (byL Y W)) s15 a15 (.tmp 20) := D15.kt q91 rfl
    have q98 : At (Ty.lst Ty.int (byL (byL X Y) W)) s15 a15 (.tmp 21) := D15.done 6
    have q99 : At (Ty.int (0 : Int)) s15 a15 (.tmp 11) := D15.done 7
    clear D15
    refine tn ?_
    refine wp_seq ?_
    refine reg (a := a15) (σ := s15) rfl (fun i_ => List.getD [(Ty.pr (Ty.lst Ty.int X)), (Ty.pr (Ty.lst Ty.int (byL Y W))), (Ty.pr (Ty.tup2 (Ty.lst Ty.int (byL X (byL Y W))) (Ty.int (0 : Int)))), (Ty.pr (Ty.tup2 (Ty.lst Ty.int (byL X (byL Y W))) (Ty.int (0 : Int)))), (Ty.pr (Ty.lst Ty.int (byL X (byL Y W)))), (Ty.pr (Ty.int (0 : Int))), (Ty.pr (Ty.lst Ty.int (byL X (byL Y W)))), (Ty.pr (Ty.int (0 : Int)))] i_ Pr.any) ok15 rfl ⟨?_, ?_, ?_, ?_, ?_, ?_, ?_, ?_, trivial⟩ ?_
    · intro ax tx hs okx sm
      exact run_plain rfl (y_move (kp (sm 10 rfl) hs q94))
    · intro ax tx hs okx sm
      exact run_plain rfl (y_move (kp (sm 20 rfl) hs q97))
    · intro ax tx hs okx sm d0 d1
      have e0 : At (Ty.lst Ty.int X) tx ax (.tmp 134) := d0 rfl
      have e1 : At (Ty.lst Ty.int (byL Y W)) tx ax (.tmp 135) := d1 rfl
      exact run_plain rfl ((y_call #[ax.eval (.tmp 134), ax.eval (.tmp 135)] Try.func50 rfl rfl (by simp only [List.map_toArray, List.map_cons, List.map_nil]) (times_fn (X) ((byL Y W)) _ _ _ e0 e1 )).mono (fun τ _ h => cvt (σ := τ) (T := (Ty.tup2 (Ty.lst Ty.int (if twoMay (X) ((byL Y W)) = 0 then byL (X) ((byL Y W)) else [])) (Ty.int (twoMay (X) ((byL Y W)))))) (U := (Ty.tup2 (Ty.lst Ty.int (byL X (byL Y W))) (Ty.int (0 : Int)))) (by simp only [t4, if_true]) h))
    · intro ax tx hs okx sm d0
      have e2 : At (Ty.tup2 (Ty.lst Ty.int (byL X (byL Y W))) (Ty.int (0 : Int))) tx ax (.tmp 136) := d0 rfl
      exact run_plain rfl (y_move e2)
    · intro ax tx hs okx sm d0
      have e3 : At (Ty.tup2 (Ty.lst Ty.int (byL X (byL Y W))) (Ty.int (0 : Int))) tx ax (.tmp 133) := d0 rfl
      exact run_plain rfl (y_ext2_0 e3)
    · intro ax tx hs okx sm d0 d1
      have e3 : At (Ty.tup2 (Ty.lst Ty.int (byL X (byL Y W))) (Ty.int (0 : Int))) tx ax (.tmp 133) := d0 rfl
      exact run_plain rfl (y_ext2_1 e3)
    · intro ax tx hs okx sm d0 d1 d2 d3 d4 d5 d6 d7
      have e4 : At (Ty.lst Ty.int (byL X (byL Y W))) tx ax (.tmp 137) := d0 rfl
      have e2 : At (Ty.tup2 (Ty.lst Ty.int (byL X (byL Y W))) (Ty.int (0 : Int))) tx ax (.tmp 136) := d1 rfl
      have e0 : At (Ty.lst Ty.int X) tx ax (.tmp 134) := d2 rfl
      have e1 : At (Ty.lst Ty.int (byL Y W)) tx ax (.tmp 135) := d3 rfl
      have e3 : At (Ty.tup2 (Ty.lst Ty.int (byL X (byL Y W))) (Ty.int (0 : Int))) tx ax (.tmp 133) := d5 rfl
      exact run_plain rfl (y_assign e4)
    · intro ax tx hs okx sm d0 d1 d2 d3 d4 d5 d6 d7 d8
      have e5 : At (Ty.int (0 : Int)) tx ax (.tmp 138) := d0 rfl
      have e6 : At (Ty.lst Ty.int (byL X (byL Y W))) tx ax (.tmp 22) := d1 rfl
      have e0 : At (Ty.lst Ty.int X) tx ax (.tmp 134) := d2 rfl
      have e1 : At (Ty.lst Ty.int (byL Y W)) tx ax (.tmp 135) := d3 rfl
      have e2 : At (Ty.tup2 (Ty.lst Ty.int (byL X (byL Y W))) (Ty.int (0 : Int))) tx ax (.tmp 136) := d4 rfl
      have e3 : At (Ty.tup2 (Ty.lst Ty.int (byL X (byL Y W))) (Ty.int (0 : Int))) tx ax (.tmp 133) := d5 rfl
      have e4 : At (Ty.lst Ty.int (byL X (byL Y W))) tx ax (.tmp 137) := d6 rfl
      exact run_plain rfl (y_assign e5)
    intro a16 s16 D16
    have ok16 := D16.ok
    have F16 := F15.step0 D16.stp
    have q100 : At (Ty.nat N) s16 a16 (.tmp 3) := D16.kt q93 rfl
    have q101 : At (Ty.lst Ty.int X) s16 a16 (.tmp 10) := D16.kt q94 rfl
    have q102 : At (Ty.lst Ty.int Y) s16 a16 (.tmp 12) := D16.kt q95 rfl
    have q103 : At (Ty.lst Ty.int (byL X Y)) s16 a16 (.tmp 19) := D16.kt q96 rfl
    have q104 : At (Ty.lst Ty.int (byL (byL X Y) W)) s16 a16 (.tmp 21) := D16.kt q98 rfl
    have q105 : At (Ty.int (0 : Int)) s16 a16 (.tmp 11) := D16.kt q99 rfl
    have q106 : At (Ty.lst Ty.int (byL X (byL Y W))) s16 a16 (.tmp 22) := D16.done 6
    have q107 : At (Ty.int (0 : Int)) s16 a16 (.tmp 13) := D16.done 7
    clear D16
    refine tn ?_
    refine wp_seq ?_
    refine reg (a := a16) (σ := s16) rfl (fun i_ => List.getD [(Ty.pr (Ty.lst Ty.int X)), (Ty.pr (Ty.tup2 (Ty.lst Ty.int (undoL X)) (Ty.int (0 : Int)))), (Ty.pr (Ty.tup2 (Ty.lst Ty.int (undoL X)) (Ty.int (0 : Int)))), (Ty.pr (Ty.lst Ty.int (undoL X))), (Ty.pr (Ty.int (0 : Int))), (Ty.pr (Ty.lst Ty.int (undoL X))), (Ty.pr (Ty.int (0 : Int)))] i_ Pr.any) ok16 rfl ⟨?_, ?_, ?_, ?_, ?_, ?_, ?_, trivial⟩ ?_
    · intro ax tx hs okx sm
      exact run_plain rfl (y_move (kp (sm 10 rfl) hs q101))
    · intro ax tx hs okx sm d0
      have e0 : At (Ty.lst Ty.int X) tx ax (.tmp 140) := d0 rfl
      exact run_plain rfl ((y_call #[ax.eval (.tmp 140)] Try.func42 rfl rfl (by simp only [List.map_toArray, List.map_cons, List.map_nil]) (rowBack_fn (X) _ _ e0 )).mono (fun τ _ h => cvt (σ := τ) (T := (Ty.tup2 (Ty.lst Ty.int (if rowMay (X) = 0 then undoL (X) else [])) (Ty.int (rowMay (X))))) (U := (Ty.tup2 (Ty.lst Ty.int (undoL X)) (Ty.int (0 : Int)))) (by simp only [x1, if_true]) h))
    · intro ax tx hs okx sm d0
      have e1 : At (Ty.tup2 (Ty.lst Ty.int (undoL X)) (Ty.int (0 : Int))) tx ax (.tmp 141) := d0 rfl
      exact run_plain rfl (y_move e1)
    · intro ax tx hs okx sm d0
      have e2 : At (Ty.tup2 (Ty.lst Ty.int (undoL X)) (Ty.int (0 : Int))) tx ax (.tmp 139) := d0 rfl
      exact run_plain rfl (y_ext2_0 e2)
    · intro ax tx hs okx sm d0 d1
      have e2 : At (Ty.tup2 (Ty.lst Ty.int (undoL X)) (Ty.int (0 : Int))) tx ax (.tmp 139) := d0 rfl
      exact run_plain rfl (y_ext2_1 e2)
    · intro ax tx hs okx sm d0 d1 d2 d3 d4 d5 d6
      have e3 : At (Ty.lst Ty.int (undoL X)) tx ax (.tmp 142) := d0 rfl
      have e1 : At (Ty.tup2 (Ty.lst Ty.int (undoL X)) (Ty.int (0 : Int))) tx ax (.tmp 141) := d1 rfl
      have e0 : At (Ty.lst Ty.int X) tx ax (.tmp 140) := d2 rfl
      have e2 : At (Ty.tup2 (Ty.lst Ty.int (undoL X)) (Ty.int (0 : Int))) tx ax (.tmp 139) := d4 rfl
      exact run_plain rfl (y_assign e3)
    · intro ax tx hs okx sm d0 d1 d2 d3 d4 d5 d6 d7
      have e4 : At (Ty.int (0 : Int)) tx ax (.tmp 143) := d0 rfl
      have e5 : At (Ty.lst Ty.int (undoL X)) tx ax (.tmp 23) := d1 rfl
      have e0 : At (Ty.lst Ty.int X) tx ax (.tmp 140) := d2 rfl
      have e1 : At (Ty.tup2 (Ty.lst Ty.int (undoL X)) (Ty.int (0 : Int))) tx ax (.tmp 141) := d3 rfl
      have e2 : At (Ty.tup2 (Ty.lst Ty.int (undoL X)) (Ty.int (0 : Int))) tx ax (.tmp 139) := d4 rfl
      have e3 : At (Ty.lst Ty.int (undoL X)) tx ax (.tmp 142) := d5 rfl
      exact run_plain rfl (y_assign e4)
    intro a17 s17 D17
    have ok17 := D17.ok
    have F17 := F16.step0 D17.stp
    have q108 : At (Ty.nat N) s17 a17 (.tmp 3) := D17.kt q100 rfl
    have q109 : At (Ty.lst Ty.int X) s17 a17 (.tmp 10) := D17.kt q101 rfl
    have q110 : At (Ty.lst Ty.int Y) s17 a17 (.tmp 12) := D17.kt q102 rfl
    have q111 : At (Ty.lst Ty.int (byL X Y)) s17 a17 (.tmp 19) := D17.kt q103 rfl
    have q112 : At (Ty.lst Ty.int (byL (byL X Y) W)) s17 a17 (.tmp 21) := D17.kt q104 rfl
    have q113 : At (Ty.int (0 : Int)) s17 a17 (.tmp 11) := D17.kt q105 rfl
    have q114 : At (Ty.lst Ty.int (byL X (byL Y W))) s17 a17 (.tmp 22) := D17.kt q106 rfl
    have q115 : At (Ty.int (0 : Int)) s17 a17 (.tmp 13) := D17.kt q107 rfl
    have q116 : At (Ty.lst Ty.int (undoL X)) s17 a17 (.tmp 23) := D17.done 5
    have q117 : At (Ty.int (0 : Int)) s17 a17 (.tmp 15) := D17.done 6
    clear D17
    refine tn ?_
    refine wp_seq ?_
    refine wp_seq ?_
    refine reg (a := a17) (σ := s17) rfl (fun i_ => List.getD [(Ty.pr (Ty.int (0 : Int))), (Ty.pr (Ty.bool false)), (Ty.pr (Ty.bool false)), (Ty.pr (Ty.grd (false = false) (Ty.int (0 : Int)))), (Ty.pr (Ty.grd (false = false) (Ty.bool false))), (Ty.pr (Ty.bool (false || false))), (Ty.pr (Ty.bool (false || false))), (Ty.pr (Ty.grd ((false || false) = false) (Ty.int (0 : Int)))), (Ty.pr (Ty.grd ((false || false) = false) (Ty.bool false))), (Ty.pr (Ty.bool ((false || false) || false))), (Ty.pr (Ty.bool ((false || false) || false))), (Ty.pr (Ty.grd (((false || false) || false) = false) (Ty.lst Ty.int (byL (byL X Y) W)))), (Ty.pr (Ty.grd (((false || false) || false) = false) (Ty.lst Ty.int (byL X (byL Y W))))), (Ty.pr (Ty.grd (((false || false) || false) = false) (Ty.bool (decide (((byL (byL X Y) W)) = ((byL X (byL Y W)))))))), (Ty.pr (Ty.grd (((false || false) || false) = false) (Ty.bool (!(decide (((byL (byL X Y) W)) = ((byL X (byL Y W))))))))), (Ty.pr (Ty.bool (((false || false) || false) || (!(decide (((byL (byL X Y) W)) = ((byL X (byL Y W)))))))))] i_ Pr.any) ok17 rfl ⟨?_, ?_, ?_, ?_, ?_, ?_, ?_, ?_, ?_, ?_, ?_, ?_, ?_, ?_, ?_, ?_, trivial⟩ ?_
    · intro ax tx hs okx sm
      exact run_plain rfl (y_move (kp (sm 11 rfl) hs q113))
    · intro ax tx hs okx sm d0
      have e0 : At (Ty.int (0 : Int)) tx ax (.tmp 144) := d0 rfl
      exact run_plain rfl ((y_neq e0 rfl).mono (fun τ _ h => cvb (σ := τ) (by decide) h))
    · intro ax tx hs okx sm d0
      have e1 : At (Ty.bool false) tx ax (.tmp 145) := d0 rfl
      exact run_plain rfl (y_move e1)
    · intro ax tx hs okx sm d0
      have e2 : At (Ty.bool false) tx ax (.tmp 146) := d0 rfl
      refine run_guard (T := (Ty.int (0 : Int))) okx rfl rfl (by decide) e2 (fun hg => ?_)
      exact y_move (kp (sm 13 rfl) hs q115)
    · intro ax tx hs okx sm d0 d1
      have e3 : At (Ty.grd (false = false) (Ty.int (0 : Int))) tx ax (.tmp 147) := d0 rfl
      have e2 : At (Ty.bool false) tx ax (.tmp 146) := d1 rfl
      refine run_guard (T := (Ty.bool false)) okx rfl rfl (by decide) e2 (fun hg => ?_)
      exact (y_neq (e3.1 hg) rfl).mono (fun τ _ h => cvb (σ := τ) (by decide) h)
    · intro ax tx hs okx sm d0 d1
      have e2 : At (Ty.bool false) tx ax (.tmp 146) := d0 rfl
      have e4 : At (Ty.grd (false = false) (Ty.bool false)) tx ax (.tmp 148) := d1 rfl
      exact run_plain rfl (y_pick_or e2 rfl e4)
    · intro ax tx hs okx sm d0 d1
      have e5 : At (Ty.bool (false || false)) tx ax (.tmp 149) := d0 rfl
      have e2 : At (Ty.bool false) tx ax (.tmp 146) := d1 rfl
      exact run_plain rfl (y_move e5)
    · intro ax tx hs okx sm d0
      have e6 : At (Ty.bool (false || false)) tx ax (.tmp 150) := d0 rfl
      refine run_guard (T := (Ty.int (0 : Int))) okx rfl rfl (by decide) e6 (fun hg => ?_)
      obtain ⟨d59, d60⟩ := Bool.or_eq_false_iff.mp hg
      exact y_move (kp (sm 15 rfl) hs q117)
    · intro ax tx hs okx sm d0 d1
      have e7 : At (Ty.grd ((false || false) = false) (Ty.int (0 : Int))) tx ax (.tmp 151) := d0 rfl
      have e6 : At (Ty.bool (false || false)) tx ax (.tmp 150) := d1 rfl
      refine run_guard (T := (Ty.bool false)) okx rfl rfl (by decide) e6 (fun hg => ?_)
      obtain ⟨d61, d62⟩ := Bool.or_eq_false_iff.mp hg
      exact (y_neq (e7.1 hg) rfl).mono (fun τ _ h => cvb (σ := τ) (by decide) h)
    · intro ax tx hs okx sm d0 d1
      have e6 : At (Ty.bool (false || false)) tx ax (.tmp 150) := d0 rfl
      have e8 : At (Ty.grd ((false || false) = false) (Ty.bool false)) tx ax (.tmp 152) := d1 rfl
      exact run_plain rfl (y_pick_or e6 rfl e8)
    · intro ax tx hs okx sm d0 d1
      have e9 : At (Ty.bool ((false || false) || false)) tx ax (.tmp 153) := d0 rfl
      have e6 : At (Ty.bool (false || false)) tx ax (.tmp 150) := d1 rfl
      exact run_plain rfl (y_move e9)
    · intro ax tx hs okx sm d0
      have e10 : At (Ty.bool ((false || false) || false)) tx ax (.tmp 154) := d0 rfl
      refine run_guard (T := (Ty.lst Ty.int (byL (byL X Y) W))) okx rfl rfl (by decide) e10 (fun hg => ?_)
      obtain ⟨d63, d64⟩ := Bool.or_eq_false_iff.mp hg
      obtain ⟨d65, d66⟩ := Bool.or_eq_false_iff.mp d63
      exact y_move (kp (sm 21 rfl) hs q112)
    · intro ax tx hs okx sm d0
      have e10 : At (Ty.bool ((false || false) || false)) tx ax (.tmp 154) := d0 rfl
      refine run_guard (T := (Ty.lst Ty.int (byL X (byL Y W)))) okx rfl rfl (by decide) e10 (fun hg => ?_)
      obtain ⟨d67, d68⟩ := Bool.or_eq_false_iff.mp hg
      obtain ⟨d69, d70⟩ := Bool.or_eq_false_iff.mp d67
      exact y_move (kp (sm 22 rfl) hs q114)
    · intro ax tx hs okx sm d0 d1 d2 d3
      have e11 : At (Ty.grd (((false || false) || false) = false) (Ty.lst Ty.int (byL (byL X Y) W))) tx ax (.tmp 155) := d0 rfl
      have e12 : At (Ty.grd (((false || false) || false) = false) (Ty.lst Ty.int (byL X (byL Y W)))) tx ax (.tmp 156) := d1 rfl
      have e10 : At (Ty.bool ((false || false) || false)) tx ax (.tmp 154) := d2 rfl
      refine run_guard (T := (Ty.bool (decide (((byL (byL X Y) W)) = ((byL X (byL Y W))))))) okx rfl rfl (by decide) e10 (fun hg => ?_)
      obtain ⟨d71, d72⟩ := Bool.or_eq_false_iff.mp hg
      obtain ⟨d73, d74⟩ := Bool.or_eq_false_iff.mp d71
      exact y_call #[ax.eval (.tmp 155), ax.eval (.tmp 156)] Try.func25 rfl rfl (by simp only [List.map_toArray, List.map_cons, List.map_nil]) (rsame_fn ((byL (byL X Y) W)) ((byL X (byL Y W))) _ _ _ (e11.1 hg) (e12.1 hg) )
    · intro ax tx hs okx sm d0 d1
      have e13 : At (Ty.grd (((false || false) || false) = false) (Ty.bool (decide (((byL (byL X Y) W)) = ((byL X (byL Y W))))))) tx ax (.tmp 157) := d0 rfl
      have e10 : At (Ty.bool ((false || false) || false)) tx ax (.tmp 154) := d1 rfl
      refine run_guard (T := (Ty.bool (!(decide (((byL (byL X Y) W)) = ((byL X (byL Y W)))))))) okx rfl rfl (by decide) e10 (fun hg => ?_)
      obtain ⟨d75, d76⟩ := Bool.or_eq_false_iff.mp hg
      obtain ⟨d77, d78⟩ := Bool.or_eq_false_iff.mp d75
      exact y_not (e13.1 hg)
    · intro ax tx hs okx sm d0 d1
      have e10 : At (Ty.bool ((false || false) || false)) tx ax (.tmp 154) := d0 rfl
      have e14 : At (Ty.grd (((false || false) || false) = false) (Ty.bool (!(decide (((byL (byL X Y) W)) = ((byL X (byL Y W)))))))) tx ax (.tmp 158) := d1 rfl
      exact run_plain rfl (y_pick_or e10 rfl e14)
    intro a18 s18 D18
    have ok18 := D18.ok
    have F18 := F17.step0 D18.stp
    have q118 : At (Ty.nat N) s18 a18 (.tmp 3) := D18.kt q108 rfl
    have q119 : At (Ty.lst Ty.int X) s18 a18 (.tmp 10) := D18.kt q109 rfl
    have q120 : At (Ty.lst Ty.int Y) s18 a18 (.tmp 12) := D18.kt q110 rfl
    have q121 : At (Ty.lst Ty.int (byL X Y)) s18 a18 (.tmp 19) := D18.kt q111 rfl
    have q122 : At (Ty.lst Ty.int (undoL X)) s18 a18 (.tmp 23) := D18.kt q116 rfl
    have q123 : At (Ty.bool (((false || false) || false) || (!(decide (((byL (byL X Y) W)) = ((byL X (byL Y W)))))))) s18 a18 (.tmp 159) := D18.done 15
    clear D18
    refine tn ?_
    refine cond_t q123 (fun c4 => ?_) (fun c4 => ?_)
    ·
     exfalso
     rw [has] at c4; simp at c4
    ·
     obtain ⟨d79, d80⟩ := Bool.or_eq_false_iff.mp c4
     obtain ⟨d81, d82⟩ := Bool.or_eq_false_iff.mp d79
     obtain ⟨d83, d84⟩ := Bool.or_eq_false_iff.mp d81
     refine wp_skip ?_
     refine tn ?_
     refine wp_seq ?_
     refine reg (a := a18) (σ := s18) rfl (fun i_ => List.getD [(Ty.pr (Ty.lst Ty.int X)), (Ty.pr (Ty.lst Ty.int (undoL X))), (Ty.pr (Ty.tup2 (Ty.lst Ty.int (byL X (undoL X))) (Ty.int (0 : Int)))), (Ty.pr (Ty.tup2 (Ty.lst Ty.int (byL X (undoL X))) (Ty.int (0 : Int)))), (Ty.pr (Ty.lst Ty.int (byL X (undoL X)))), (Ty.pr (Ty.int (0 : Int))), (Ty.pr (Ty.lst Ty.int (byL X (undoL X)))), (Ty.pr (Ty.int (0 : Int)))] i_ Pr.any) ok18 rfl ⟨?_, ?_, ?_, ?_, ?_, ?_, ?_, ?_, trivial⟩ ?_
     · intro ax tx hs okx sm
       exact run_plain rfl (y_move (kp (sm 10 rfl) hs q119))
     · intro ax tx hs okx sm
       exact run_plain rfl (y_move (kp (sm 23 rfl) hs q122))
     · intro ax tx hs okx sm d0 d1
       have e0 : At (Ty.lst Ty.int X) tx ax (.tmp 161) := d0 rfl
       have e1 : At (Ty.lst Ty.int (undoL X)) tx ax (.tmp 162) := d1 rfl
       exact run_plain rfl ((y_call #[ax.eval (.tmp 161), ax.eval (.tmp 162)] Try.func50 rfl rfl (by simp only [List.map_toArray, List.map_cons, List.map_nil]) (times_fn (X) ((undoL X)) _ _ _ e0 e1 )).mono (fun τ _ h => cvt (σ := τ) (T := (Ty.tup2 (Ty.lst Ty.int (if twoMay (X) ((undoL X)) = 0 then byL (X) ((undoL X)) else [])) (Ty.int (twoMay (X) ((undoL X)))))) (U := (Ty.tup2 (Ty.lst Ty.int (byL X (undoL X))) (Ty.int (0 : Int)))) (by simp only [t5, if_true]) h))
     · intro ax tx hs okx sm d0
       have e2 : At (Ty.tup2 (Ty.lst Ty.int (byL X (undoL X))) (Ty.int (0 : Int))) tx ax (.tmp 163) := d0 rfl
       exact run_plain rfl (y_move e2)
     · intro ax tx hs okx sm d0
       have e3 : At (Ty.tup2 (Ty.lst Ty.int (byL X (undoL X))) (Ty.int (0 : Int))) tx ax (.tmp 160) := d0 rfl
       exact run_plain rfl (y_ext2_0 e3)
     · intro ax tx hs okx sm d0 d1
       have e3 : At (Ty.tup2 (Ty.lst Ty.int (byL X (undoL X))) (Ty.int (0 : Int))) tx ax (.tmp 160) := d0 rfl
       exact run_plain rfl (y_ext2_1 e3)
     · intro ax tx hs okx sm d0 d1 d2 d3 d4 d5 d6 d7
       have e4 : At (Ty.lst Ty.int (byL X (undoL X))) tx ax (.tmp 164) := d0 rfl
       have e2 : At (Ty.tup2 (Ty.lst Ty.int (byL X (undoL X))) (Ty.int (0 : Int))) tx ax (.tmp 163) := d1 rfl
       have e0 : At (Ty.lst Ty.int X) tx ax (.tmp 161) := d2 rfl
       have e1 : At (Ty.lst Ty.int (undoL X)) tx ax (.tmp 162) := d3 rfl
       have e3 : At (Ty.tup2 (Ty.lst Ty.int (byL X (undoL X))) (Ty.int (0 : Int))) tx ax (.tmp 160) := d5 rfl
       exact run_plain rfl (y_assign e4)
     · intro ax tx hs okx sm d0 d1 d2 d3 d4 d5 d6 d7 d8
       have e5 : At (Ty.int (0 : Int)) tx ax (.tmp 165) := d0 rfl
       have e6 : At (Ty.lst Ty.int (byL X (undoL X))) tx ax (.tmp 24) := d1 rfl
       have e0 : At (Ty.lst Ty.int X) tx ax (.tmp 161) := d2 rfl
       have e1 : At (Ty.lst Ty.int (undoL X)) tx ax (.tmp 162) := d3 rfl
       have e2 : At (Ty.tup2 (Ty.lst Ty.int (byL X (undoL X))) (Ty.int (0 : Int))) tx ax (.tmp 163) := d4 rfl
       have e3 : At (Ty.tup2 (Ty.lst Ty.int (byL X (undoL X))) (Ty.int (0 : Int))) tx ax (.tmp 160) := d5 rfl
       have e4 : At (Ty.lst Ty.int (byL X (undoL X))) tx ax (.tmp 164) := d6 rfl
       exact run_plain rfl (y_assign e5)
     intro a19 s19 D19
     have ok19 := D19.ok
     have F19 := F18.step0 D19.stp
     have q124 : At (Ty.nat N) s19 a19 (.tmp 3) := D19.kt q118 rfl
     have q125 : At (Ty.lst Ty.int X) s19 a19 (.tmp 10) := D19.kt q119 rfl
     have q126 : At (Ty.lst Ty.int Y) s19 a19 (.tmp 12) := D19.kt q120 rfl
     have q127 : At (Ty.lst Ty.int (byL X Y)) s19 a19 (.tmp 19) := D19.kt q121 rfl
     have q128 : At (Ty.lst Ty.int (byL X (undoL X))) s19 a19 (.tmp 24) := D19.done 6
     have q129 : At (Ty.int (0 : Int)) s19 a19 (.tmp 11) := D19.done 7
     clear D19
     refine tn ?_
     refine wp_seq ?_
     refine reg (a := a19) (σ := s19) rfl (fun i_ => List.getD [(Ty.pr (Ty.lst Ty.int X)), (Ty.pr (Ty.tup3 (Ty.nat (ordL X)) (Ty.bool (oddL X)) (Ty.int (0 : Int)))), (Ty.pr (Ty.tup3 (Ty.nat (ordL X)) (Ty.bool (oddL X)) (Ty.int (0 : Int)))), (Ty.pr (Ty.nat (ordL X))), (Ty.pr (Ty.bool (oddL X))), (Ty.pr (Ty.int (0 : Int))), (Ty.pr (Ty.nat (ordL X))), (Ty.pr (Ty.bool (oddL X))), (Ty.pr (Ty.int (0 : Int)))] i_ Pr.any) ok19 rfl ⟨?_, ?_, ?_, ?_, ?_, ?_, ?_, ?_, ?_, trivial⟩ ?_
     · intro ax tx hs okx sm
       exact run_plain rfl (y_move (kp (sm 10 rfl) hs q125))
     · intro ax tx hs okx sm d0
       have e0 : At (Ty.lst Ty.int X) tx ax (.tmp 167) := d0 rfl
       exact run_plain rfl ((y_call #[ax.eval (.tmp 167)] Try.func40 rfl rfl (by simp only [List.map_toArray, List.map_cons, List.map_nil]) (order_fn (X) _ _ e0 )).mono (fun τ _ h => cvt (σ := τ) (T := (Ty.tup3 (Ty.nat (if rowMay (X) = 0 then ordL (X) else 0)) (Ty.bool (if rowMay (X) = 0 then oddL (X) else false)) (Ty.int (rowMay (X))))) (U := (Ty.tup3 (Ty.nat (ordL X)) (Ty.bool (oddL X)) (Ty.int (0 : Int)))) (by simp only [x1, if_true]) h))
     · intro ax tx hs okx sm d0
       have e1 : At (Ty.tup3 (Ty.nat (ordL X)) (Ty.bool (oddL X)) (Ty.int (0 : Int))) tx ax (.tmp 168) := d0 rfl
       exact run_plain rfl (y_move e1)
     · intro ax tx hs okx sm d0
       have e2 : At (Ty.tup3 (Ty.nat (ordL X)) (Ty.bool (oddL X)) (Ty.int (0 : Int))) tx ax (.tmp 166) := d0 rfl
       exact run_plain rfl (y_ext3_0 e2)
     · intro ax tx hs okx sm d0 d1
       have e2 : At (Ty.tup3 (Ty.nat (ordL X)) (Ty.bool (oddL X)) (Ty.int (0 : Int))) tx ax (.tmp 166) := d0 rfl
       exact run_plain rfl (y_ext3_1 e2)
     · intro ax tx hs okx sm d0 d1
       have e2 : At (Ty.tup3 (Ty.nat (ordL X)) (Ty.bool (oddL X)) (Ty.int (0 : Int))) tx ax (.tmp 166) := d0 rfl
       exact run_plain rfl (y_ext3_2 e2)
     · intro ax tx hs okx sm d0 d1 d2 d3 d4 d5 d6 d7
       have e3 : At (Ty.nat (ordL X)) tx ax (.tmp 169) := d0 rfl
       have e1 : At (Ty.tup3 (Ty.nat (ordL X)) (Ty.bool (oddL X)) (Ty.int (0 : Int))) tx ax (.tmp 168) := d1 rfl
       have e0 : At (Ty.lst Ty.int X) tx ax (.tmp 167) := d2 rfl
       have e2 : At (Ty.tup3 (Ty.nat (ordL X)) (Ty.bool (oddL X)) (Ty.int (0 : Int))) tx ax (.tmp 166) := d4 rfl
       exact run_plain rfl (y_assign e3)
     · intro ax tx hs okx sm d0 d1 d2 d3 d4 d5 d6 d7 d8
       have e4 : At (Ty.bool (oddL X)) tx ax (.tmp 170) := d0 rfl
       have e6 : At (Ty.nat (ordL X)) tx ax (.tmp 25) := d1 rfl
       have e0 : At (Ty.lst Ty.int X) tx ax (.tmp 167) := d2 rfl
       have e1 : At (Ty.tup3 (Ty.nat (ordL X)) (Ty.bool (oddL X)) (Ty.int (0 : Int))) tx ax (.tmp 168) := d3 rfl
       have e2 : At (Ty.tup3 (Ty.nat (ordL X)) (Ty.bool (oddL X)) (Ty.int (0 : Int))) tx ax (.tmp 166) := d4 rfl
       have e3 : At (Ty.nat (ordL X)) tx ax (.tmp 169) := d5 rfl
       exact run_plain rfl (y_assign e4)
     · intro ax tx hs okx sm d0 d1 d2 d3 d4 d5 d6 d7 d8 d9
       have e5 : At (Ty.int (0 : Int)) tx ax (.tmp 171) := d0 rfl
       have e7 : At (Ty.bool (oddL X)) tx ax (.tmp 26) := d1 rfl
       have e0 : At (Ty.lst Ty.int X) tx ax (.tmp 167) := d2 rfl
       have e1 : At (Ty.tup3 (Ty.nat (ordL X)) (Ty.bool (oddL X)) (Ty.int (0 : Int))) tx ax (.tmp 168) := d3 rfl
       have e2 : At (Ty.tup3 (Ty.nat (ordL X)) (Ty.bool (oddL X)) (Ty.int (0 : Int))) tx ax (.tmp 166) := d4 rfl
       have e3 : At (Ty.nat (ordL X)) tx ax (.tmp 169) := d5 rfl
       have e4 : At (Ty.bool (oddL X)) tx ax (.tmp 170) := d6 rfl
       have e6 : At (Ty.nat (ordL X)) tx ax (.tmp 25) := d8 rfl
       exact run_plain rfl (y_assign e5)
     intro a20 s20 D20
     have ok20 := D20.ok
     have F20 := F19.step0 D20.stp
     have q130 : At (Ty.nat N) s20 a20 (.tmp 3) := D20.kt q124 rfl
     have q131 : At (Ty.lst Ty.int Y) s20 a20 (.tmp 12) := D20.kt q126 rfl
     have q132 : At (Ty.lst Ty.int (byL X Y)) s20 a20 (.tmp 19) := D20.kt q127 rfl
     have q133 : At (Ty.lst Ty.int (byL X (undoL X))) s20 a20 (.tmp 24) := D20.kt q128 rfl
     have q134 : At (Ty.int (0 : Int)) s20 a20 (.tmp 11) := D20.kt q129 rfl
     have q135 : At (Ty.nat (ordL X)) s20 a20 (.tmp 25) := D20.done 6
     have q136 : At (Ty.bool (oddL X)) s20 a20 (.tmp 26) := D20.done 7
     have q137 : At (Ty.int (0 : Int)) s20 a20 (.tmp 13) := D20.done 8
     clear D20
     refine tn ?_
     refine wp_seq ?_
     refine reg (a := a20) (σ := s20) rfl (fun i_ => List.getD [(Ty.pr (Ty.lst Ty.int Y)), (Ty.pr (Ty.tup3 (Ty.nat (ordL Y)) (Ty.bool (oddL Y)) (Ty.int (0 : Int)))), (Ty.pr (Ty.tup3 (Ty.nat (ordL Y)) (Ty.bool (oddL Y)) (Ty.int (0 : Int)))), (Ty.pr (Ty.nat (ordL Y))), (Ty.pr (Ty.bool (oddL Y))), (Ty.pr (Ty.int (0 : Int))), (Ty.pr (Ty.nat (ordL Y))), (Ty.pr (Ty.bool (oddL Y))), (Ty.pr (Ty.int (0 : Int)))] i_ Pr.any) ok20 rfl ⟨?_, ?_, ?_, ?_, ?_, ?_, ?_, ?_, ?_, trivial⟩ ?_
     · intro ax tx hs okx sm
       exact run_plain rfl (y_move (kp (sm 12 rfl) hs q131))
     · intro ax tx hs okx sm d0
       have e0 : At (Ty.lst Ty.int Y) tx ax (.tmp 173) := d0 rfl
       exact run_plain rfl ((y_call #[ax.eval (.tmp 173)] Try.func40 rfl rfl (by simp only [List.map_toArray, List.map_cons, List.map_nil]) (order_fn (Y) _ _ e0 )).mono (fun τ _ h => cvt (σ := τ) (T := (Ty.tup3 (Ty.nat (if rowMay (Y) = 0 then ordL (Y) else 0)) (Ty.bool (if rowMay (Y) = 0 then oddL (Y) else false)) (Ty.int (rowMay (Y))))) (U := (Ty.tup3 (Ty.nat (ordL Y)) (Ty.bool (oddL Y)) (Ty.int (0 : Int)))) (by simp only [x2, if_true]) h))
     · intro ax tx hs okx sm d0
       have e1 : At (Ty.tup3 (Ty.nat (ordL Y)) (Ty.bool (oddL Y)) (Ty.int (0 : Int))) tx ax (.tmp 174) := d0 rfl
       exact run_plain rfl (y_move e1)
     · intro ax tx hs okx sm d0
       have e2 : At (Ty.tup3 (Ty.nat (ordL Y)) (Ty.bool (oddL Y)) (Ty.int (0 : Int))) tx ax (.tmp 172) := d0 rfl
       exact run_plain rfl (y_ext3_0 e2)
     · intro ax tx hs okx sm d0 d1
       have e2 : At (Ty.tup3 (Ty.nat (ordL Y)) (Ty.bool (oddL Y)) (Ty.int (0 : Int))) tx ax (.tmp 172) := d0 rfl
       exact run_plain rfl (y_ext3_1 e2)
     · intro ax tx hs okx sm d0 d1
       have e2 : At (Ty.tup3 (Ty.nat (ordL Y)) (Ty.bool (oddL Y)) (Ty.int (0 : Int))) tx ax (.tmp 172) := d0 rfl
       exact run_plain rfl (y_ext3_2 e2)
     · intro ax tx hs okx sm d0 d1 d2 d3 d4 d5 d6 d7
       have e3 : At (Ty.nat (ordL Y)) tx ax (.tmp 175) := d0 rfl
       have e1 : At (Ty.tup3 (Ty.nat (ordL Y)) (Ty.bool (oddL Y)) (Ty.int (0 : Int))) tx ax (.tmp 174) := d1 rfl
       have e0 : At (Ty.lst Ty.int Y) tx ax (.tmp 173) := d2 rfl
       have e2 : At (Ty.tup3 (Ty.nat (ordL Y)) (Ty.bool (oddL Y)) (Ty.int (0 : Int))) tx ax (.tmp 172) := d4 rfl
       exact run_plain rfl (y_assign e3)
     · intro ax tx hs okx sm d0 d1 d2 d3 d4 d5 d6 d7 d8
       have e4 : At (Ty.bool (oddL Y)) tx ax (.tmp 176) := d0 rfl
       have e6 : At (Ty.nat (ordL Y)) tx ax (.tmp 27) := d1 rfl
       have e0 : At (Ty.lst Ty.int Y) tx ax (.tmp 173) := d2 rfl
       have e1 : At (Ty.tup3 (Ty.nat (ordL Y)) (Ty.bool (oddL Y)) (Ty.int (0 : Int))) tx ax (.tmp 174) := d3 rfl
       have e2 : At (Ty.tup3 (Ty.nat (ordL Y)) (Ty.bool (oddL Y)) (Ty.int (0 : Int))) tx ax (.tmp 172) := d4 rfl
       have e3 : At (Ty.nat (ordL Y)) tx ax (.tmp 175) := d5 rfl
       exact run_plain rfl (y_assign e4)
     · intro ax tx hs okx sm d0 d1 d2 d3 d4 d5 d6 d7 d8 d9
       have e5 : At (Ty.int (0 : Int)) tx ax (.tmp 177) := d0 rfl
       have e7 : At (Ty.bool (oddL Y)) tx ax (.tmp 28) := d1 rfl
       have e0 : At (Ty.lst Ty.int Y) tx ax (.tmp 173) := d2 rfl
       have e1 : At (Ty.tup3 (Ty.nat (ordL Y)) (Ty.bool (oddL Y)) (Ty.int (0 : Int))) tx ax (.tmp 174) := d3 rfl
       have e2 : At (Ty.tup3 (Ty.nat (ordL Y)) (Ty.bool (oddL Y)) (Ty.int (0 : Int))) tx ax (.tmp 172) := d4 rfl
       have e3 : At (Ty.nat (ordL Y)) tx ax (.tmp 175) := d5 rfl
       have e4 : At (Ty.bool (oddL Y)) tx ax (.tmp 176) := d6 rfl
       have e6 : At (Ty.nat (ordL Y)) tx ax (.tmp 27) := d8 rfl
       exact run_plain rfl (y_assign e5)
     intro a21 s21 D21
     have ok21 := D21.ok
     have F21 := F20.step0 D21.stp
     have q138 : At (Ty.nat N) s21 a21 (.tmp 3) := D21.kt q130 rfl
     have q139 : At (Ty.lst Ty.int (byL X Y)) s21 a21 (.tmp 19) := D21.kt q132 rfl
     have q140 : At (Ty.lst Ty.int (byL X (undoL X))) s21 a21 (.tmp 24) := D21.kt q133 rfl
     have q141 : At (Ty.int (0 : Int)) s21 a21 (.tmp 11) := D21.kt q134 rfl
     have q142 : At (Ty.nat (ordL X)) s21 a21 (.tmp 25) := D21.kt q135 rfl
     have q143 : At (Ty.bool (oddL X)) s21 a21 (.tmp 26) := D21.kt q136 rfl
     have q144 : At (Ty.int (0 : Int)) s21 a21 (.tmp 13) := D21.kt q137 rfl
     have q145 : At (Ty.bool (oddL Y)) s21 a21 (.tmp 28) := D21.done 7
     have q146 : At (Ty.int (0 : Int)) s21 a21 (.tmp 15) := D21.done 8
     clear D21
     refine tn ?_
     refine wp_seq ?_
     refine reg (a := a21) (σ := s21) rfl (fun i_ => List.getD [(Ty.pr (Ty.lst Ty.int (byL X Y))), (Ty.pr (Ty.tup3 (Ty.nat (ordL (byL X Y))) (Ty.bool (oddL (byL X Y))) (Ty.int (0 : Int)))), (Ty.pr (Ty.tup3 (Ty.nat (ordL (byL X Y))) (Ty.bool (oddL (byL X Y))) (Ty.int (0 : Int)))), (Ty.pr (Ty.nat (ordL (byL X Y)))), (Ty.pr (Ty.bool (oddL (byL X Y)))), (Ty.pr (Ty.int (0 : Int))), (Ty.pr (Ty.nat (ordL (byL X Y)))), (Ty.pr (Ty.bool (oddL (byL X Y)))), (Ty.pr (Ty.int (0 : Int)))] i_ Pr.any) ok21 rfl ⟨?_, ?_, ?_, ?_, ?_, ?_, ?_, ?_, ?_, trivial⟩ ?_
     · intro ax tx hs okx sm
       exact run_plain rfl (y_move (kp (sm 19 rfl) hs q139))
     · intro ax tx hs okx sm d0
       have e0 : At (Ty.lst Ty.int (byL X Y)) tx ax (.tmp 179) := d0 rfl
       exact run_plain rfl ((y_call #[ax.eval (.tmp 179)] Try.func40 rfl rfl (by simp only [List.map_toArray, List.map_cons, List.map_nil]) (order_fn ((byL X Y)) _ _ e0 )).mono (fun τ _ h => cvt (σ := τ) (T := (Ty.tup3 (Ty.nat (if rowMay ((byL X Y)) = 0 then ordL ((byL X Y)) else 0)) (Ty.bool (if rowMay ((byL X Y)) = 0 then oddL ((byL X Y)) else false)) (Ty.int (rowMay ((byL X Y)))))) (U := (Ty.tup3 (Ty.nat (ordL (byL X Y))) (Ty.bool (oddL (byL X Y))) (Ty.int (0 : Int)))) (by simp only [x12, if_true]) h))
     · intro ax tx hs okx sm d0
       have e1 : At (Ty.tup3 (Ty.nat (ordL (byL X Y))) (Ty.bool (oddL (byL X Y))) (Ty.int (0 : Int))) tx ax (.tmp 180) := d0 rfl
       exact run_plain rfl (y_move e1)
     · intro ax tx hs okx sm d0
       have e2 : At (Ty.tup3 (Ty.nat (ordL (byL X Y))) (Ty.bool (oddL (byL X Y))) (Ty.int (0 : Int))) tx ax (.tmp 178) := d0 rfl
       exact run_plain rfl (y_ext3_0 e2)
     · intro ax tx hs okx sm d0 d1
       have e2 : At (Ty.tup3 (Ty.nat (ordL (byL X Y))) (Ty.bool (oddL (byL X Y))) (Ty.int (0 : Int))) tx ax (.tmp 178) := d0 rfl
       exact run_plain rfl (y_ext3_1 e2)
     · intro ax tx hs okx sm d0 d1
       have e2 : At (Ty.tup3 (Ty.nat (ordL (byL X Y))) (Ty.bool (oddL (byL X Y))) (Ty.int (0 : Int))) tx ax (.tmp 178) := d0 rfl
       exact run_plain rfl (y_ext3_2 e2)
     · intro ax tx hs okx sm d0 d1 d2 d3 d4 d5 d6 d7
       have e3 : At (Ty.nat (ordL (byL X Y))) tx ax (.tmp 181) := d0 rfl
       have e1 : At (Ty.tup3 (Ty.nat (ordL (byL X Y))) (Ty.bool (oddL (byL X Y))) (Ty.int (0 : Int))) tx ax (.tmp 180) := d1 rfl
       have e0 : At (Ty.lst Ty.int (byL X Y)) tx ax (.tmp 179) := d2 rfl
       have e2 : At (Ty.tup3 (Ty.nat (ordL (byL X Y))) (Ty.bool (oddL (byL X Y))) (Ty.int (0 : Int))) tx ax (.tmp 178) := d4 rfl
       exact run_plain rfl (y_assign e3)
     · intro ax tx hs okx sm d0 d1 d2 d3 d4 d5 d6 d7 d8
       have e4 : At (Ty.bool (oddL (byL X Y))) tx ax (.tmp 182) := d0 rfl
       have e6 : At (Ty.nat (ordL (byL X Y))) tx ax (.tmp 29) := d1 rfl
       have e0 : At (Ty.lst Ty.int (byL X Y)) tx ax (.tmp 179) := d2 rfl
       have e1 : At (Ty.tup3 (Ty.nat (ordL (byL X Y))) (Ty.bool (oddL (byL X Y))) (Ty.int (0 : Int))) tx ax (.tmp 180) := d3 rfl
       have e2 : At (Ty.tup3 (Ty.nat (ordL (byL X Y))) (Ty.bool (oddL (byL X Y))) (Ty.int (0 : Int))) tx ax (.tmp 178) := d4 rfl
       have e3 : At (Ty.nat (ordL (byL X Y))) tx ax (.tmp 181) := d5 rfl
       exact run_plain rfl (y_assign e4)
     · intro ax tx hs okx sm d0 d1 d2 d3 d4 d5 d6 d7 d8 d9
       have e5 : At (Ty.int (0 : Int)) tx ax (.tmp 183) := d0 rfl
       have e7 : At (Ty.bool (oddL (byL X Y))) tx ax (.tmp 30) := d1 rfl
       have e0 : At (Ty.lst Ty.int (byL X Y)) tx ax (.tmp 179) := d2 rfl
       have e1 : At (Ty.tup3 (Ty.nat (ordL (byL X Y))) (Ty.bool (oddL (byL X Y))) (Ty.int (0 : Int))) tx ax (.tmp 180) := d3 rfl
       have e2 : At (Ty.tup3 (Ty.nat (ordL (byL X Y))) (Ty.bool (oddL (byL X Y))) (Ty.int (0 : Int))) tx ax (.tmp 178) := d4 rfl
       have e3 : At (Ty.nat (ordL (byL X Y))) tx ax (.tmp 181) := d5 rfl
       have e4 : At (Ty.bool (oddL (byL X Y))) tx ax (.tmp 182) := d6 rfl
       have e6 : At (Ty.nat (ordL (byL X Y))) tx ax (.tmp 29) := d8 rfl
       exact run_plain rfl (y_assign e5)
     intro a22 s22 D22
     have ok22 := D22.ok
     have F22 := F21.step0 D22.stp
     have q147 : At (Ty.nat N) s22 a22 (.tmp 3) := D22.kt q138 rfl
     have q148 : At (Ty.lst Ty.int (byL X (undoL X))) s22 a22 (.tmp 24) := D22.kt q140 rfl
     have q149 : At (Ty.int (0 : Int)) s22 a22 (.tmp 11) := D22.kt q141 rfl
     have q150 : At (Ty.nat (ordL X)) s22 a22 (.tmp 25) := D22.kt q142 rfl
     have q151 : At (Ty.bool (oddL X)) s22 a22 (.tmp 26) := D22.kt q143 rfl
     have q152 : At (Ty.int (0 : Int)) s22 a22 (.tmp 13) := D22.kt q144 rfl
     have q153 : At (Ty.bool (oddL Y)) s22 a22 (.tmp 28) := D22.kt q145 rfl
     have q154 : At (Ty.int (0 : Int)) s22 a22 (.tmp 15) := D22.kt q146 rfl
     have q155 : At (Ty.bool (oddL (byL X Y))) s22 a22 (.tmp 30) := D22.done 7
     have q156 : At (Ty.int (0 : Int)) s22 a22 (.tmp 31) := D22.done 8
     clear D22
     refine tn ?_
     refine wp_seq ?_
     refine reg (a := a22) (σ := s22) rfl (fun i_ => List.getD [(Ty.pr (Ty.int (0 : Int))), (Ty.pr (Ty.bool true)), (Ty.pr (Ty.bool true)), (Ty.pr (Ty.grd (true = true) (Ty.int (0 : Int)))), (Ty.pr (Ty.grd (true = true) (Ty.bool true))), (Ty.pr (Ty.bool (true && true))), (Ty.pr (Ty.bool (true && true))), (Ty.pr (Ty.grd ((true && true) = true) (Ty.int (0 : Int)))), (Ty.pr (Ty.grd ((true && true) = true) (Ty.bool true))), (Ty.pr (Ty.bool ((true && true) && true))), (Ty.pr (Ty.bool ((true && true) && true))), (Ty.pr (Ty.grd (((true && true) && true) = true) (Ty.int (0 : Int)))), (Ty.pr (Ty.grd (((true && true) && true) = true) (Ty.bool true))), (Ty.pr (Ty.bool (((true && true) && true) && true))), (Ty.pr (Ty.bool (((true && true) && true) && true))), (Ty.pr (Ty.grd ((((true && true) && true) && true) = true) (Ty.lst Ty.int (byL X (undoL X))))), (Ty.pr (Ty.grd ((((true && true) && true) && true) = true) (Ty.nat N))), (Ty.pr (Ty.grd ((((true && true) && true) && true) = true) (Ty.lst Ty.int (roundsL (N))))), (Ty.pr (Ty.grd ((((true && true) && true) && true) = true) (Ty.bool (decide (((byL X (undoL X))) = ((roundsL (N)))))))), (Ty.pr (Ty.bool ((((true && true) && true) && true) && (decide (((byL X (undoL X))) = ((roundsL (N)))))))), (Ty.pr (Ty.bool ((((true && true) && true) && true) && (decide (((byL X (undoL X))) = ((roundsL (N)))))))), (Ty.pr (Ty.grd (((((true && true) && true) && true) && (decide (((byL X (undoL X))) = ((roundsL (N)))))) = true) (Ty.nat (ordL X)))), (Ty.pr (Ty.grd (((((true && true) && true) && true) && (decide (((byL X (undoL X))) = ((roundsL (N)))))) = true) (Ty.bool (decide ((0 : Int) < (((ordL X) : Nat) : Int)))))), (Ty.pr (Ty.bool (((((true && true) && true) && true) && (decide (((byL X (undoL X))) = ((roundsL (N)))))) && (decide ((0 : Int) < (((ordL X) : Nat) : Int)))))), (Ty.pr (Ty.bool (((((true && true) && true) && true) && (decide (((byL X (undoL X))) = ((roundsL (N)))))) && (decide ((0 : Int) < (((ordL X) : Nat) : Int)))))), (Ty.pr (Ty.grd ((((((true && true) && true) && true) && (decide (((byL X (undoL X))) = ((roundsL (N)))))) && (decide ((0 : Int) < (((ordL X) : Nat) : Int)))) = true) (Ty.bool (oddL (byL X Y))))), (Ty.pr (Ty.grd ((((((true && true) && true) && true) && (decide (((byL X (undoL X))) = ((roundsL (N)))))) && (decide ((0 : Int) < (((ordL X) : Nat) : Int)))) = true) (Ty.bool (oddL X)))), (Ty.pr (Ty.grd ((((((true && true) && true) && true) && (decide (((byL X (undoL X))) = ((roundsL (N)))))) && (decide ((0 : Int) < (((ordL X) : Nat) : Int)))) = true) (Ty.bool (oddL Y)))), (Ty.pr (Ty.grd ((((((true && true) && true) && true) && (decide (((byL X (undoL X))) = ((roundsL (N)))))) && (decide ((0 : Int) < (((ordL X) : Nat) : Int)))) = true) (Ty.bool ((oddL X) != (oddL Y))))), (Ty.pr (Ty.grd ((((((true && true) && true) && true) && (decide (((byL X (undoL X))) = ((roundsL (N)))))) && (decide ((0 : Int) < (((ordL X) : Nat) : Int)))) = true) (Ty.bool ((oddL (byL X Y)) == ((oddL X) != (oddL Y)))))), (Ty.pr (Ty.bool ((((((true && true) && true) && true) && (decide (((byL X (undoL X))) = ((roundsL (N)))))) && (decide ((0 : Int) < (((ordL X) : Nat) : Int)))) && ((oddL (byL X Y)) == ((oddL X) != (oddL Y)))))), (Ty.pr (Ty.bool ((((((true && true) && true) && true) && (decide (((byL X (undoL X))) = ((roundsL (N)))))) && (decide ((0 : Int) < (((ordL X) : Nat) : Int)))) && ((oddL (byL X Y)) == ((oddL X) != (oddL Y))))))] i_ Pr.any) ok22 rfl ⟨?_, ?_, ?_, ?_, ?_, ?_, ?_, ?_, ?_, ?_, ?_, ?_, ?_, ?_, ?_, ?_, ?_, ?_, ?_, ?_, ?_, ?_, ?_, ?_, ?_, ?_, ?_, ?_, ?_, ?_, ?_, ?_, trivial⟩ ?_
     · intro ax tx hs okx sm
       exact run_plain rfl (y_move (kp (sm 11 rfl) hs q149))
     · intro ax tx hs okx sm d0
       have e0 : At (Ty.int (0 : Int)) tx ax (.tmp 184) := d0 rfl
       exact run_plain rfl ((y_eql e0 rfl).mono (fun τ _ h => cvb (σ := τ) (by decide) h))
     · intro ax tx hs okx sm d0
       have e1 : At (Ty.bool true) tx ax (.tmp 185) := d0 rfl
       exact run_plain rfl (y_move e1)
     · intro ax tx hs okx sm d0
       have e2 : At (Ty.bool true) tx ax (.tmp 186) := d0 rfl
       refine run_guard (T := (Ty.int (0 : Int))) okx rfl rfl (by decide) e2 (fun hg => ?_)
       exact y_move (kp (sm 13 rfl) hs q152)
     · intro ax tx hs okx sm d0 d1
       have e3 : At (Ty.grd (true = true) (Ty.int (0 : Int))) tx ax (.tmp 187) := d0 rfl
       have e2 : At (Ty.bool true) tx ax (.tmp 186) := d1 rfl
       refine run_guard (T := (Ty.bool true)) okx rfl rfl (by decide) e2 (fun hg => ?_)
       exact (y_eql (e3.1 hg) rfl).mono (fun τ _ h => cvb (σ := τ) (by decide) h)
     · intro ax tx hs okx sm d0 d1
       have e2 : At (Ty.bool true) tx ax (.tmp 186) := d0 rfl
       have e4 : At (Ty.grd (true = true) (Ty.bool true)) tx ax (.tmp 188) := d1 rfl
       exact run_plain rfl (y_pick_and e2 e4 rfl)
     · intro ax tx hs okx sm d0 d1
       have e5 : At (Ty.bool (true && true)) tx ax (.tmp 189) := d0 rfl
       have e2 : At (Ty.bool true) tx ax (.tmp 186) := d1 rfl
       exact run_plain rfl (y_move e5)
     · intro ax tx hs okx sm d0
       have e6 : At (Ty.bool (true && true)) tx ax (.tmp 190) := d0 rfl
       refine run_guard (T := (Ty.int (0 : Int))) okx rfl rfl (by decide) e6 (fun hg => ?_)
       obtain ⟨d85, d86⟩ := Bool.and_eq_true_iff.mp hg
       exact y_move (kp (sm 15 rfl) hs q154)
     · intro ax tx hs okx sm d0 d1
       have e7 : At (Ty.grd ((true && true) = true) (Ty.int (0 : Int))) tx ax (.tmp 191) := d0 rfl
       have e6 : At (Ty.bool (true && true)) tx ax (.tmp 190) := d1 rfl
       refine run_guard (T := (Ty.bool true)) okx rfl rfl (by decide) e6 (fun hg => ?_)
       obtain ⟨d87, d88⟩ := Bool.and_eq_true_iff.mp hg
       exact (y_eql (e7.1 hg) rfl).mono (fun τ _ h => cvb (σ := τ) (by decide) h)
     · intro ax tx hs okx sm d0 d1
       have e6 : At (Ty.bool (true && true)) tx ax (.tmp 190) := d0 rfl
       have e8 : At (Ty.grd ((true && true) = true) (Ty.bool true)) tx ax (.tmp 192) := d1 rfl
       exact run_plain rfl (y_pick_and e6 e8 rfl)
     · intro ax tx hs okx sm d0 d1
       have e9 : At (Ty.bool ((true && true) && true)) tx ax (.tmp 193) := d0 rfl
       have e6 : At (Ty.bool (true && true)) tx ax (.tmp 190) := d1 rfl
       exact run_plain rfl (y_move e9)
     · intro ax tx hs okx sm d0
       have e10 : At (Ty.bool ((true && true) && true)) tx ax (.tmp 194) := d0 rfl
       refine run_guard (T := (Ty.int (0 : Int))) okx rfl rfl (by decide) e10 (fun hg => ?_)
       obtain ⟨d89, d90⟩ := Bool.and_eq_true_iff.mp hg
       obtain ⟨d91, d92⟩ := Bool.and_eq_true_iff.mp d89
       exact y_move (kp (sm 31 rfl) hs q156)
     · intro ax tx hs okx sm d0 d1
       have e11 : At (Ty.grd (((true && true) && true) = true) (Ty.int (0 : Int))) tx ax (.tmp 195) := d0 rfl
       have e10 : At (Ty.bool ((true && true) && true)) tx ax (.tmp 194) := d1 rfl
       refine run_guard (T := (Ty.bool true)) okx rfl rfl (by decide) e10 (fun hg => ?_)
       obtain ⟨d93, d94⟩ := Bool.and_eq_true_iff.mp hg
       obtain ⟨d95, d96⟩ := Bool.and_eq_true_iff.mp d93
       exact (y_eql (e11.1 hg) rfl).mono (fun τ _ h => cvb (σ := τ) (by decide) h)
     · intro ax tx hs okx sm d0 d1
       have e10 : At (Ty.bool ((true && true) && true)) tx ax (.tmp 194) := d0 rfl
       have e12 : At (Ty.grd (((true && true) && true) = true) (Ty.bool true)) tx ax (.tmp 196) := d1 rfl
       exact run_plain rfl (y_pick_and e10 e12 rfl)
     · intro ax tx hs okx sm d0 d1
       have e13 : At (Ty.bool (((true && true) && true) && true)) tx ax (.tmp 197) := d0 rfl
       have e10 : At (Ty.bool ((true && true) && true)) tx ax (.tmp 194) := d1 rfl
       exact run_plain rfl (y_move e13)
     · intro ax tx hs okx sm d0
       have e14 : At (Ty.bool (((true && true) && true) && true)) tx ax (.tmp 198) := d0 rfl
       refine run_guard (T := (Ty.lst Ty.int (byL X (undoL X)))) okx rfl rfl (by decide) e14 (fun hg => ?_)
       obtain ⟨d97, d98⟩ := Bool.and_eq_true_iff.mp hg
       obtain ⟨d99, d100⟩ := Bool.and_eq_true_iff.mp d97
       obtain ⟨d101, d102⟩ := Bool.and_eq_true_iff.mp d99
       exact y_move (kp (sm 24 rfl) hs q148)
     · intro ax tx hs okx sm d0
       have e14 : At (Ty.bool (((true && true) && true) && true)) tx ax (.tmp 198) := d0 rfl
       refine run_guard (T := (Ty.nat N)) okx rfl rfl (by decide) e14 (fun hg => ?_)
       obtain ⟨d103, d104⟩ := Bool.and_eq_true_iff.mp hg
       obtain ⟨d105, d106⟩ := Bool.and_eq_true_iff.mp d103
       obtain ⟨d107, d108⟩ := Bool.and_eq_true_iff.mp d105
       exact y_move (kp (sm 3 rfl) hs q147)
     · intro ax tx hs okx sm d0 d1 d2
       have e16 : At (Ty.grd ((((true && true) && true) && true) = true) (Ty.nat N)) tx ax (.tmp 200) := d0 rfl
       have e14 : At (Ty.bool (((true && true) && true) && true)) tx ax (.tmp 198) := d1 rfl
       refine run_guard (T := (Ty.lst Ty.int (roundsL (N)))) okx rfl rfl (by decide) e14 (fun hg => ?_)
       obtain ⟨d109, d110⟩ := Bool.and_eq_true_iff.mp hg
       obtain ⟨d111, d112⟩ := Bool.and_eq_true_iff.mp d109
       obtain ⟨d113, d114⟩ := Bool.and_eq_true_iff.mp d111
       exact y_call #[ax.eval (.tmp 200)] Try.func24 rfl rfl (by simp only [List.map_toArray, List.map_cons, List.map_nil]) (rRounds_fn (N) _ _ (cvi (σ := tx) (by omega) (e16.1 hg)) (by omega))
     · intro ax tx hs okx sm d0 d1 d2 d3
       have e15 : At (Ty.grd ((((true && true) && true) && true) = true) (Ty.lst Ty.int (byL X (undoL X)))) tx ax (.tmp 199) := d0 rfl
       have e17 : At (Ty.grd ((((true && true) && true) && true) = true) (Ty.lst Ty.int (roundsL (N)))) tx ax (.tmp 201) := d1 rfl
       have e14 : At (Ty.bool (((true && true) && true) && true)) tx ax (.tmp 198) := d3 rfl
       refine run_guard (T := (Ty.bool (decide (((byL X (undoL X))) = ((roundsL (N))))))) okx rfl rfl (by decide) e14 (fun hg => ?_)
       obtain ⟨d115, d116⟩ := Bool.and_eq_true_iff.mp hg
       obtain ⟨d117, d118⟩ := Bool.and_eq_true_iff.mp d115
       obtain ⟨d119, d120⟩ := Bool.and_eq_true_iff.mp d117
       exact y_call #[ax.eval (.tmp 199), ax.eval (.tmp 201)] Try.func25 rfl rfl (by simp only [List.map_toArray, List.map_cons, List.map_nil]) (rsame_fn ((byL X (undoL X))) ((roundsL (N))) _ _ _ (e15.1 hg) (e17.1 hg) )
     · intro ax tx hs okx sm d0 d1
       have e14 : At (Ty.bool (((true && true) && true) && true)) tx ax (.tmp 198) := d0 rfl
       have e18 : At (Ty.grd ((((true && true) && true) && true) = true) (Ty.bool (decide (((byL X (undoL X))) = ((roundsL (N))))))) tx ax (.tmp 202) := d1 rfl
       exact run_plain rfl (y_pick_and e14 e18 rfl)
     · intro ax tx hs okx sm d0 d1
       have e19 : At (Ty.bool ((((true && true) && true) && true) && (decide (((byL X (undoL X))) = ((roundsL (N))))))) tx ax (.tmp 203) := d0 rfl
       have e18 : At (Ty.grd ((((true && true) && true) && true) = true) (Ty.bool (decide (((byL X (undoL X))) = ((roundsL (N))))))) tx ax (.tmp 202) := d1 rfl
       exact run_plain rfl (y_move e19)
     · intro ax tx hs okx sm d0
       have e20 : At (Ty.bool ((((true && true) && true) && true) && (decide (((byL X (undoL X))) = ((roundsL (N))))))) tx ax (.tmp 204) := d0 rfl
       refine run_guard (T := (Ty.nat (ordL X))) okx rfl rfl (by decide) e20 (fun hg => ?_)
       obtain ⟨d121, d122⟩ := Bool.and_eq_true_iff.mp hg
       obtain ⟨d123, d124⟩ := Bool.and_eq_true_iff.mp d121
       obtain ⟨d125, d126⟩ := Bool.and_eq_true_iff.mp d123
       obtain ⟨d127, d128⟩ := Bool.and_eq_true_iff.mp d125
       exact y_move (kp (sm 25 rfl) hs q150)
     · intro ax tx hs okx sm d0 d1
       have e21 : At (Ty.grd (((((true && true) && true) && true) && (decide (((byL X (undoL X))) = ((roundsL (N)))))) = true) (Ty.nat (ordL X))) tx ax (.tmp 205) := d0 rfl
       have e20 : At (Ty.bool ((((true && true) && true) && true) && (decide (((byL X (undoL X))) = ((roundsL (N))))))) tx ax (.tmp 204) := d1 rfl
       refine run_guard (T := (Ty.bool (decide ((0 : Int) < (((ordL X) : Nat) : Int))))) okx rfl rfl (by decide) e20 (fun hg => ?_)
       obtain ⟨d129, d130⟩ := Bool.and_eq_true_iff.mp hg
       obtain ⟨d131, d132⟩ := Bool.and_eq_true_iff.mp d129
       obtain ⟨d133, d134⟩ := Bool.and_eq_true_iff.mp d131
       obtain ⟨d135, d136⟩ := Bool.and_eq_true_iff.mp d133
       exact y_gtr (e21.1 hg) rfl
     · intro ax tx hs okx sm d0 d1
       have e20 : At (Ty.bool ((((true && true) && true) && true) && (decide (((byL X (undoL X))) = ((roundsL (N))))))) tx ax (.tmp 204) := d0 rfl
       have e22 : At (Ty.grd (((((true && true) && true) && true) && (decide (((byL X (undoL X))) = ((roundsL (N)))))) = true) (Ty.bool (decide ((0 : Int) < (((ordL X) : Nat) : Int))))) tx ax (.tmp 206) := d1 rfl
       exact run_plain rfl (y_pick_and e20 e22 rfl)
     · intro ax tx hs okx sm d0 d1
       have e23 : At (Ty.bool (((((true && true) && true) && true) && (decide (((byL X (undoL X))) = ((roundsL (N)))))) && (decide ((0 : Int) < (((ordL X) : Nat) : Int))))) tx ax (.tmp 207) := d0 rfl
       have e20 : At (Ty.bool ((((true && true) && true) && true) && (decide (((byL X (undoL X))) = ((roundsL (N))))))) tx ax (.tmp 204) := d1 rfl
       exact run_plain rfl (y_move e23)
     · intro ax tx hs okx sm d0
       have e24 : At (Ty.bool (((((true && true) && true) && true) && (decide (((byL X (undoL X))) = ((roundsL (N)))))) && (decide ((0 : Int) < (((ordL X) : Nat) : Int))))) tx ax (.tmp 208) := d0 rfl
       refine run_guard (T := (Ty.bool (oddL (byL X Y)))) okx rfl rfl (by decide) e24 (fun hg => ?_)
       obtain ⟨d137, d138⟩ := Bool.and_eq_true_iff.mp hg
       obtain ⟨d139, d140⟩ := Bool.and_eq_true_iff.mp d137
       obtain ⟨d141, d142⟩ := Bool.and_eq_true_iff.mp d139
       obtain ⟨d143, d144⟩ := Bool.and_eq_true_iff.mp d141
       obtain ⟨d145, d146⟩ := Bool.and_eq_true_iff.mp d143
       have d138 := of_decide_eq_true d138
       exact y_move (kp (sm 30 rfl) hs q155)
     · intro ax tx hs okx sm d0
       have e24 : At (Ty.bool (((((true && true) && true) && true) && (decide (((byL X (undoL X))) = ((roundsL (N)))))) && (decide ((0 : Int) < (((ordL X) : Nat) : Int))))) tx ax (.tmp 208) := d0 rfl
       refine run_guard (T := (Ty.bool (oddL X))) okx rfl rfl (by decide) e24 (fun hg => ?_)
       obtain ⟨d147, d148⟩ := Bool.and_eq_true_iff.mp hg
       obtain ⟨d149, d150⟩ := Bool.and_eq_true_iff.mp d147
       obtain ⟨d151, d152⟩ := Bool.and_eq_true_iff.mp d149
       obtain ⟨d153, d154⟩ := Bool.and_eq_true_iff.mp d151
       obtain ⟨d155, d156⟩ := Bool.and_eq_true_iff.mp d153
       have d148 := of_decide_eq_true d148
       exact y_move (kp (sm 26 rfl) hs q151)
     · intro ax tx hs okx sm d0
       have e24 : At (Ty.bool (((((true && true) && true) && true) && (decide (((byL X (undoL X))) = ((roundsL (N)))))) && (decide ((0 : Int) < (((ordL X) : Nat) : Int))))) tx ax (.tmp 208) := d0 rfl
       refine run_guard (T := (Ty.bool (oddL Y))) okx rfl rfl (by decide) e24 (fun hg => ?_)
       obtain ⟨d157, d158⟩ := Bool.and_eq_true_iff.mp hg
       obtain ⟨d159, d160⟩ := Bool.and_eq_true_iff.mp d157
       obtain ⟨d161, d162⟩ := Bool.and_eq_true_iff.mp d159
       obtain ⟨d163, d164⟩ := Bool.and_eq_true_iff.mp d161
       obtain ⟨d165, d166⟩ := Bool.and_eq_true_iff.mp d163
       have d158 := of_decide_eq_true d158
       exact y_move (kp (sm 28 rfl) hs q153)
     · intro ax tx hs okx sm d0 d1 d2
       have e26 : At (Ty.grd ((((((true && true) && true) && true) && (decide (((byL X (undoL X))) = ((roundsL (N)))))) && (decide ((0 : Int) < (((ordL X) : Nat) : Int)))) = true) (Ty.bool (oddL X))) tx ax (.tmp 210) := d0 rfl
       have e27 : At (Ty.grd ((((((true && true) && true) && true) && (decide (((byL X (undoL X))) = ((roundsL (N)))))) && (decide ((0 : Int) < (((ordL X) : Nat) : Int)))) = true) (Ty.bool (oddL Y))) tx ax (.tmp 211) := d1 rfl
       have e24 : At (Ty.bool (((((true && true) && true) && true) && (decide (((byL X (undoL X))) = ((roundsL (N)))))) && (decide ((0 : Int) < (((ordL X) : Nat) : Int))))) tx ax (.tmp 208) := d2 rfl
       refine run_guard (T := (Ty.bool ((oddL X) != (oddL Y)))) okx rfl rfl (by decide) e24 (fun hg => ?_)
       obtain ⟨d167, d168⟩ := Bool.and_eq_true_iff.mp hg
       obtain ⟨d169, d170⟩ := Bool.and_eq_true_iff.mp d167
       obtain ⟨d171, d172⟩ := Bool.and_eq_true_iff.mp d169
       obtain ⟨d173, d174⟩ := Bool.and_eq_true_iff.mp d171
       obtain ⟨d175, d176⟩ := Bool.and_eq_true_iff.mp d173
       have d168 := of_decide_eq_true d168
       exact y_neqB Try.underlying4 (e26.1 hg) (e27.1 hg)
     · intro ax tx hs okx sm d0 d1 d2
       have e25 : At (Ty.grd ((((((true && true) && true) && true) && (decide (((byL X (undoL X))) = ((roundsL (N)))))) && (decide ((0 : Int) < (((ordL X) : Nat) : Int)))) = true) (Ty.bool (oddL (byL X Y)))) tx ax (.tmp 209) := d0 rfl
       have e28 : At (Ty.grd ((((((true && true) && true) && true) && (decide (((byL X (undoL X))) = ((roundsL (N)))))) && (decide ((0 : Int) < (((ordL X) : Nat) : Int)))) = true) (Ty.bool ((oddL X) != (oddL Y)))) tx ax (.tmp 212) := d1 rfl
       have e24 : At (Ty.bool (((((true && true) && true) && true) && (decide (((byL X (undoL X))) = ((roundsL (N)))))) && (decide ((0 : Int) < (((ordL X) : Nat) : Int))))) tx ax (.tmp 208) := d2 rfl
       refine run_guard (T := (Ty.bool ((oddL (byL X Y)) == ((oddL X) != (oddL Y))))) okx rfl rfl (by decide) e24 (fun hg => ?_)
       obtain ⟨d177, d178⟩ := Bool.and_eq_true_iff.mp hg
       obtain ⟨d179, d180⟩ := Bool.and_eq_true_iff.mp d177
       obtain ⟨d181, d182⟩ := Bool.and_eq_true_iff.mp d179
       obtain ⟨d183, d184⟩ := Bool.and_eq_true_iff.mp d181
       obtain ⟨d185, d186⟩ := Bool.and_eq_true_iff.mp d183
       have d178 := of_decide_eq_true d178
       exact y_eqlB Try.underlying4 (e25.1 hg) (e28.1 hg)
     · intro ax tx hs okx sm d0 d1
       have e24 : At (Ty.bool (((((true && true) && true) && true) && (decide (((byL X (undoL X))) = ((roundsL (N)))))) && (decide ((0 : Int) < (((ordL X) : Nat) : Int))))) tx ax (.tmp 208) := d0 rfl
       have e29 : At (Ty.grd ((((((true && true) && true) && true) && (decide (((byL X (undoL X))) = ((roundsL (N)))))) && (decide ((0 : Int) < (((ordL X) : Nat) : Int)))) = true) (Ty.bool ((oddL (byL X Y)) == ((oddL X) != (oddL Y))))) tx ax (.tmp 213) := d1 rfl
       exact run_plain rfl (y_pick_and e24 e29 rfl)
     · intro ax tx hs okx sm d0 d1 d2 d3 d4 d5 d6 d7 d8 d9 d10 d11 d12 d13 d14 d15 d16 d17 d18 d19 d20 d21 d22 d23 d24 d25 d26 d27 d28 d29 d30 d31 d32
       have e30 : At (Ty.bool ((((((true && true) && true) && true) && (decide (((byL X (undoL X))) = ((roundsL (N)))))) && (decide ((0 : Int) < (((ordL X) : Nat) : Int)))) && ((oddL (byL X Y)) == ((oddL X) != (oddL Y))))) tx ax (.tmp 214) := d0 rfl
       have e24 : At (Ty.bool (((((true && true) && true) && true) && (decide (((byL X (undoL X))) = ((roundsL (N)))))) && (decide ((0 : Int) < (((ordL X) : Nat) : Int))))) tx ax (.tmp 208) := d1 rfl
       have e0 : At (Ty.int (0 : Int)) tx ax (.tmp 184) := d2 rfl
       have e1 : At (Ty.bool true) tx ax (.tmp 185) := d3 rfl
       have e2 : At (Ty.bool true) tx ax (.tmp 186) := d4 rfl
       have e3 : At (Ty.grd (true = true) (Ty.int (0 : Int))) tx ax (.tmp 187) := d5 rfl
       have e4 : At (Ty.grd (true = true) (Ty.bool true)) tx ax (.tmp 188) := d6 rfl
       have e5 : At (Ty.bool (true && true)) tx ax (.tmp 189) := d7 rfl
       have e6 : At (Ty.bool (true && true)) tx ax (.tmp 190) := d8 rfl
       have e7 : At (Ty.grd ((true && true) = true) (Ty.int (0 : Int))) tx ax (.tmp 191) := d9 rfl
       have e8 : At (Ty.grd ((true && true) = true) (Ty.bool true)) tx ax (.tmp 192) := d10 rfl
       have e9 : At (Ty.bool ((true && true) && true)) tx ax (.tmp 193) := d11 rfl
       have e10 : At (Ty.bool ((true && true) && true)) tx ax (.tmp 194) := d12 rfl
       have e11 : At (Ty.grd (((true && true) && true) = true) (Ty.int (0 : Int))) tx ax (.tmp 195) := d13 rfl
       have e12 : At (Ty.grd (((true && true) && true) = true) (Ty.bool true)) tx ax (.tmp 196) := d14 rfl
       have e13 : At (Ty.bool (((true && true) && true) && true)) tx ax (.tmp 197) := d15 rfl
       have e14 : At (Ty.bool (((true && true) && true) && true)) tx ax (.tmp 198) := d16 rfl
       have e15 : At (Ty.grd ((((true && true) && true) && true) = true) (Ty.lst Ty.int (byL X (undoL X)))) tx ax (.tmp 199) := d17 rfl
       have e16 : At (Ty.grd ((((true && true) && true) && true) = true) (Ty.nat N)) tx ax (.tmp 200) := d18 rfl
       have e17 : At (Ty.grd ((((true && true) && true) && true) = true) (Ty.lst Ty.int (roundsL (N)))) tx ax (.tmp 201) := d19 rfl
       have e18 : At (Ty.grd ((((true && true) && true) && true) = true) (Ty.bool (decide (((byL X (undoL X))) = ((roundsL (N))))))) tx ax (.tmp 202) := d20 rfl
       have e19 : At (Ty.bool ((((true && true) && true) && true) && (decide (((byL X (undoL X))) = ((roundsL (N))))))) tx ax (.tmp 203) := d21 rfl
       have e20 : At (Ty.bool ((((true && true) && true) && true) && (decide (((byL X (undoL X))) = ((roundsL (N))))))) tx ax (.tmp 204) := d22 rfl
       have e21 : At (Ty.grd (((((true && true) && true) && true) && (decide (((byL X (undoL X))) = ((roundsL (N)))))) = true) (Ty.nat (ordL X))) tx ax (.tmp 205) := d23 rfl
       have e22 : At (Ty.grd (((((true && true) && true) && true) && (decide (((byL X (undoL X))) = ((roundsL (N)))))) = true) (Ty.bool (decide ((0 : Int) < (((ordL X) : Nat) : Int))))) tx ax (.tmp 206) := d24 rfl
       have e23 : At (Ty.bool (((((true && true) && true) && true) && (decide (((byL X (undoL X))) = ((roundsL (N)))))) && (decide ((0 : Int) < (((ordL X) : Nat) : Int))))) tx ax (.tmp 207) := d25 rfl
       have e25 : At (Ty.grd ((((((true && true) && true) && true) && (decide (((byL X (undoL X))) = ((roundsL (N)))))) && (decide ((0 : Int) < (((ordL X) : Nat) : Int)))) = true) (Ty.bool (oddL (byL X Y)))) tx ax (.tmp 209) := d27 rfl
       have e26 : At (Ty.grd ((((((true && true) && true) && true) && (decide (((byL X (undoL X))) = ((roundsL (N)))))) && (decide ((0 : Int) < (((ordL X) : Nat) : Int)))) = true) (Ty.bool (oddL X))) tx ax (.tmp 210) := d28 rfl
       have e27 : At (Ty.grd ((((((true && true) && true) && true) && (decide (((byL X (undoL X))) = ((roundsL (N)))))) && (decide ((0 : Int) < (((ordL X) : Nat) : Int)))) = true) (Ty.bool (oddL Y))) tx ax (.tmp 211) := d29 rfl
       have e28 : At (Ty.grd ((((((true && true) && true) && true) && (decide (((byL X (undoL X))) = ((roundsL (N)))))) && (decide ((0 : Int) < (((ordL X) : Nat) : Int)))) = true) (Ty.bool ((oddL X) != (oddL Y)))) tx ax (.tmp 212) := d30 rfl
       have e29 : At (Ty.grd ((((((true && true) && true) && true) && (decide (((byL X (undoL X))) = ((roundsL (N)))))) && (decide ((0 : Int) < (((ordL X) : Nat) : Int)))) = true) (Ty.bool ((oddL (byL X Y)) == ((oddL X) != (oddL Y))))) tx ax (.tmp 213) := d31 rfl
       exact run_plain rfl (y_assign e30)
     intro a23 s23 D23
     have ok23 := D23.ok
     have F23 := F22.step0 D23.stp
     have q157 : At (Ty.bool ((((((true && true) && true) && true) && (decide (((byL X (undoL X))) = ((roundsL (N)))))) && (decide ((0 : Int) < (((ordL X) : Nat) : Int)))) && ((oddL (byL X Y)) == ((oddL X) != (oddL Y))))) s23 a23 (.tmp 8) := D23.done 31
     clear D23
     refine tn ?_
     refine wp_ret ?_
     exact retL1 rfl ok23 F23 (cvb (by (rw [hun.2, n1, hsg]; simp; omega)) q157)


end Go.Proofs.Ytlhnpkaohfoicaa
