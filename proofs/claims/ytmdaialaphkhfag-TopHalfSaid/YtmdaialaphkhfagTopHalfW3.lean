/-  Part 3. -/
import Derived.Test.YtmdaialaphkhfagTopHalfW2
namespace Go.Proofs.Ytmdaialaphkhfag
open Go.KL

set_option maxRecDepth 100000 in
theorem topHalf_fn (raw : List Int) (n : Int) (changes : Int) (odd : Bool) (σ : GW) (v0 v1 v2 v3 : Value) (hv0 : Ty.has (Ty.lst Ty.int raw) σ v0) (hv1 : Ty.has (Ty.int n) σ v1) (hv2 : Ty.has (Ty.int changes) σ v2) (hv3 : Ty.has (Ty.bool odd) σ v3) (hraw : ∀ x ∈ raw, -9223372036854775808 ≤ x ∧ x ≤ 9223372036854775807) (hn : -9223372036854775808 ≤ n ∧ n ≤ 9223372036854775807) (hchanges : -9223372036854775808 ≤ changes ∧ changes ≤ 9223372036854775807) :
    FnC Try.prog 3 #[v0, v1, v2, v3] σ (Ty.bool true) := by
 have hr : ∀ k, -9223372036854775808 ≤ rawAt raw k ∧ rawAt raw k ≤ 9223372036854775807 := fun k => rawAt_bd hraw k
 have hpl := pick_lt n (n := 9) (by omega)
 have hpk := pick_lt changes (n := 20) (by omega)
 obtain ⟨M, hM⟩ : ∃ M, M = 3 + pick n 9 := ⟨_, rfl⟩
 obtain ⟨K, hK⟩ : ∃ K, K = 1 + pick changes 20 := ⟨_, rfl⟩
 have hmo : MethOk (ByteArray.mk #[72, 97, 108, 102]) M (halfL raw M odd K) := half_meth (by decide +kernel) (by omega) (by omega) (by omega) (by omega)
 have hbs : (ByteArray.mk #[72, 97, 108, 102]).size ≤ 1099511627776 := by (show 4 ≤ 1099511627776; omega)
 have hmay := hmo.may
 have htn : (((M : Nat) : Int)).toNat = M := Int.toNat_natCast _
 have hsg := fun k => half_sign (raw := raw) (n := M) (many := K) (odd := odd) (by omega) (by omega) k
 have hll := halfL_len raw M odd K
 have hfl := fromL_len (roundsL M) (halfL raw M odd K)
 refine fn_intro Try.func3 rfl Try.ntmps3 (Nat.le_of_ble_eq_true rfl) (fun s0 a0 hle F0 ok0 hargs => ?_)
 have p0 : At (Ty.lst Ty.int raw) s0 a0 (.tmp 0) := by have e := hargs 0 _ rfl; show Ty.has _ _ _; rw [e]; exact Ty.up _ hle hv0
 have b1 := sl_le p0
 have p1 : At (Ty.int n) s0 a0 (.tmp 1) := by have e := hargs 1 _ rfl; show Ty.has _ _ _; rw [e]; exact Ty.up _ hle hv1
 have p2 : At (Ty.int changes) s0 a0 (.tmp 2) := by have e := hargs 2 _ rfl; show Ty.has _ _ _; rw [e]; exact Ty.up _ hle hv2
 have p3 : At (Ty.bool odd) s0 a0 (.tmp 3) := by have e := hargs 3 _ rfl; show Ty.has _ _ _; rw [e]; exact Ty.up _ hle hv3
 clear hargs
 refine wp_seq ?_
 refine reg (a := a0) (σ := s0) rfl (fun i_ => List.getD [(Ty.pr (Ty.bool false))] i_ Pr.any) ok0 rfl ⟨?_, trivial⟩ ?_
 · intro ax tx hs okx sm
   exact run_plain rfl (y_assign rfl)
 intro a1 s1 D1
 have ok1 := D1.ok
 have F1 := F0.step0 D1.stp
 have q1 : At (Ty.lst Ty.int raw) s1 a1 (.tmp 0) := D1.kt p0 rfl
 have q2 : At (Ty.int n) s1 a1 (.tmp 1) := D1.kt p1 rfl
 have q3 : At (Ty.int changes) s1 a1 (.tmp 2) := D1.kt p2 rfl
 have q4 : At (Ty.bool odd) s1 a1 (.tmp 3) := D1.kt p3 rfl
 clear D1
 refine tn ?_
 refine wp_seq ?_
 refine wp_seq ?_
 refine reg (a := a1) (σ := s1) rfl (fun i_ => List.getD [(Ty.pr (Ty.lst Ty.int raw)), (Ty.pr (Ty.nat (List.length raw))), (Ty.pr (Ty.bool (decide ((256 : Int) < (((List.length raw) : Nat) : Int)))))] i_ Pr.any) ok1 rfl ⟨?_, ?_, ?_, trivial⟩ ?_
 · intro ax tx hs okx sm
   exact run_plain rfl (y_move (kp (sm 0 rfl) hs q1))
 · intro ax tx hs okx sm d0
   have e0 : At (Ty.lst Ty.int raw) tx ax (.tmp 19) := d0 rfl
   exact run_plain rfl (y_len Try.underlying22 e0)
 · intro ax tx hs okx sm d0
   have e1 : At (Ty.nat (List.length raw)) tx ax (.tmp 20) := d0 rfl
   exact run_plain rfl (y_gtr e1 rfl)
 intro a2 s2 D2
 have ok2 := D2.ok
 have F2 := F1.step0 D2.stp
 have q5 : At (Ty.lst Ty.int raw) s2 a2 (.tmp 0) := D2.kt q1 rfl
 have q6 : At (Ty.int n) s2 a2 (.tmp 1) := D2.kt q2 rfl
 have q7 : At (Ty.int changes) s2 a2 (.tmp 2) := D2.kt q3 rfl
 have q8 : At (Ty.bool odd) s2 a2 (.tmp 3) := D2.kt q4 rfl
 have q9 : At (Ty.bool (decide ((256 : Int) < (((List.length raw) : Nat) : Int)))) s2 a2 (.tmp 21) := D2.done 2
 clear D2
 refine tn ?_
 refine cond_p (p := ((256 : Int) < (((List.length raw) : Nat) : Int))) q9 (fun c1 => ?_) (fun c1 => ?_)
 ·
  refine wp_seq ?_
  refine reg (a := a2) (σ := s2) rfl (fun i_ => List.getD [(Ty.pr (Ty.bool true))] i_ Pr.any) ok2 rfl ⟨?_, trivial⟩ ?_
  · intro ax tx hs okx sm
    exact run_plain rfl (y_assign rfl)
  intro a3 s3 D3
  have ok3 := D3.ok
  have F3 := F2.step0 D3.stp
  have q10 : At (Ty.bool true) s3 a3 (.tmp 8) := D3.done 0
  clear D3
  refine tn ?_
  refine wp_ret ?_
  refine tr ?_
  exact ret1 rfl ok3 F3 q10
 ·
  refine wp_skip ?_
  refine tn ?_
  refine wp_seq ?_
  refine reg (a := a2) (σ := s2) rfl (fun i_ => List.getD [(Ty.pr (Ty.int n)), (Ty.pr (Ty.nat (pick (n) (9)))), (Ty.pr (Ty.nat (3 + (pick (n) (9))))), (Ty.pr (Ty.nat (3 + (pick (n) (9)))))] i_ Pr.any) ok2 rfl ⟨?_, ?_, ?_, ?_, trivial⟩ ?_
  · intro ax tx hs okx sm
    exact run_plain rfl (y_move (kp (sm 1 rfl) hs q6))
  · intro ax tx hs okx sm d0
    have e0 : At (Ty.int n) tx ax (.tmp 22) := d0 rfl
    exact run_plain rfl (y_call #[ax.eval (.tmp 22), ax.eval ((Operand.const (Value.int IntKind.i64 9)))] Try.func8 rfl rfl (by simp only [List.map_toArray, List.map_cons, List.map_nil]) (pick_fn (n) (9) _ _ _ e0 rfl (by omega) (by omega)))
  · intro ax tx hs okx sm d0
    have e1 : At (Ty.nat (pick (n) (9))) tx ax (.tmp 23) := d0 rfl
    exact run_plain rfl ((y_add rfl e1 (w64 (by omega) (by omega))).mono (fun τ _ h => cvi (σ := τ) (by first | omega | exact (Int.natCast_mul _ _).symm) h))
  · intro ax tx hs okx sm d0 d1 d2 d3 d4
    have e2 : At (Ty.nat (3 + (pick (n) (9)))) tx ax (.tmp 24) := d0 rfl
    have e1 : At (Ty.nat (pick (n) (9))) tx ax (.tmp 23) := d1 rfl
    have e0 : At (Ty.int n) tx ax (.tmp 22) := d2 rfl
    exact run_plain rfl (y_assign e2)
  intro a4 s4 D4
  have ok4 := D4.ok
  have F4 := F2.step0 D4.stp
  have q11 : At (Ty.lst Ty.int raw) s4 a4 (.tmp 0) := D4.kt q5 rfl
  have q12 : At (Ty.int changes) s4 a4 (.tmp 2) := D4.kt q7 rfl
  have q13 : At (Ty.bool odd) s4 a4 (.tmp 3) := D4.kt q8 rfl
  have q14 : At (Ty.nat (3 + (pick (n) (9)))) s4 a4 (.tmp 1) := D4.done 3
  clear D4
  refine tn ?_
  refine wp_seq ?_
  refine reg (a := a4) (σ := s4) rfl (fun i_ => List.getD [(Ty.pr (Ty.val (Value.slice none 0 0)))] i_ Pr.any) ok4 rfl ⟨?_, trivial⟩ ?_
  · intro ax tx hs okx sm
    exact run_plain rfl (y_assign rfl)
  intro a5 s5 D5
  have ok5 := D5.ok
  have F5 := F4.step0 D5.stp
  have q15 : At (Ty.lst Ty.int raw) s5 a5 (.tmp 0) := D5.kt q11 rfl
  have q16 : At (Ty.int changes) s5 a5 (.tmp 2) := D5.kt q12 rfl
  have q17 : At (Ty.bool odd) s5 a5 (.tmp 3) := D5.kt q13 rfl
  have q18 : At (Ty.nat (3 + (pick (n) (9)))) s5 a5 (.tmp 1) := D5.kt q14 rfl
  have q19 : At (Ty.val (Value.slice none 0 0)) s5 a5 (.tmp 9) := D5.done 0
  clear D5
  refine tn ?_
  refine wp_seq ?_
  refine wp_seq ?_
  refine reg (a := a5) (σ := s5) rfl (fun i_ => List.getD [(Ty.pr (Ty.int (0 : Int)))] i_ Pr.any) ok5 rfl ⟨?_, trivial⟩ ?_
  · intro ax tx hs okx sm
    exact run_plain rfl (y_assign rfl)
  intro a6 s6 D6
  have ok6 := D6.ok
  have F6 := F5.step0 D6.stp
  have q20 : At (Ty.lst Ty.int raw) s6 a6 (.tmp 0) := D6.kt q15 rfl
  have q21 : At (Ty.int changes) s6 a6 (.tmp 2) := D6.kt q16 rfl
  have q22 : At (Ty.bool odd) s6 a6 (.tmp 3) := D6.kt q17 rfl
  have q23 : At (Ty.nat (3 + (pick (n) (9)))) s6 a6 (.tmp 1) := D6.kt q18 rfl
  have q24 : At (Ty.val (Value.slice none 0 0)) s6 a6 (.tmp 9) := D6.kt q19 rfl
  have q25 : At (Ty.int (0 : Int)) s6 a6 (.tmp 10) := D6.done 0
  clear D6
  refine tn ?_
  refine wp_block ?_
  refine loop (fun n1 a7 w1 => ∃ (t1 : GW) (k : Nat), t1.w = w1 ∧ From s0 t1 ∧ Ok 109 a7 ∧ At (Ty.nat k) t1 a7 (.tmp 10) ∧ At (Ty.nat M) t1 a7 (.tmp 1) ∧ (Pr.own 2 22 1 (List.length (halfL raw M odd k)) (List.map Ty.ints (halfL raw M odd k))).has t1 (a7.eval (.tmp 9)) ∧ At (Ty.lst Ty.int raw) t1 a7 (.tmp 0) ∧ At (Ty.int changes) t1 a7 (.tmp 2) ∧ At (Ty.bool odd) t1 a7 (.tmp 3) ∧ (k ≤ K) ∧ n1 = K - k) (K - (0)) ?_ ?_
  ·
   exact ⟨s6, 0, rfl, F6, ok6, (cvi (by (first | rfl | omega | (simp_all; done) | (simp_all; omega))) q25), (cvi (by (rw [hM])) q23), (by have e : a6.eval (.tmp 9) = _ := q24; rw [e]; have z : (halfL raw M odd (0)) = [] := (by rfl); rw [z]; exact Own.nil _ _ _ _), q20, q21, q22, by omega, rfl⟩
  ·
   rintro n2 a8 w2 ⟨t2, k, rfl, F7, ok7, q26, q27, q28, q29, q30, q31, hk, rfl⟩
   have hrk := hr k
   have hlk := halfL_len raw M odd k
   have hcl := (ord_inv (changeOf_ok (rawAt raw k) M) (by omega) (by omega)).2.2.2
   refine wp_seq ?_
   refine wp_seq ?_
   refine reg (a := a8) (σ := t2) rfl (fun i_ => List.getD [(Ty.pr (Ty.nat k)), (Ty.pr (Ty.int changes)), (Ty.pr (Ty.nat (pick (changes) (20)))), (Ty.pr (Ty.nat (1 + (pick (changes) (20))))), (Ty.pr (Ty.bool (decide (((k : Nat) : Int) < (((1 + (pick (changes) (20))) : Nat) : Int)))))] i_ Pr.any) ok7 rfl ⟨?_, ?_, ?_, ?_, ?_, trivial⟩ ?_
   · intro ax tx hs okx sm
     exact run_plain rfl (y_move (kp (sm 10 rfl) hs q26))
   · intro ax tx hs okx sm
     exact run_plain rfl (y_move (kp (sm 2 rfl) hs q30))
   · intro ax tx hs okx sm d0
     have e1 : At (Ty.int changes) tx ax (.tmp 26) := d0 rfl
     exact run_plain rfl (y_call #[ax.eval (.tmp 26), ax.eval ((Operand.const (Value.int IntKind.i64 20)))] Try.func8 rfl rfl (by simp only [List.map_toArray, List.map_cons, List.map_nil]) (pick_fn (changes) (20) _ _ _ e1 rfl (by omega) (by omega)))
   · intro ax tx hs okx sm d0
     have e2 : At (Ty.nat (pick (changes) (20))) tx ax (.tmp 27) := d0 rfl
     exact run_plain rfl ((y_add rfl e2 (w64 (by omega) (by omega))).mono (fun τ _ h => cvi (σ := τ) (by first | omega | exact (Int.natCast_mul _ _).symm) h))
   · intro ax tx hs okx sm d0 d1
     have e0 : At (Ty.nat k) tx ax (.tmp 25) := d0 rfl
     have e3 : At (Ty.nat (1 + (pick (changes) (20)))) tx ax (.tmp 28) := d1 rfl
     exact run_plain rfl (y_lss e0 e3)
   intro a9 s7 D7
   have ok8 := D7.ok
   have F8 := F7.step0 D7.stp
   have q32 : At (Ty.nat k) s7 a9 (.tmp 10) := D7.kt q26 rfl
   have q33 : At (Ty.nat M) s7 a9 (.tmp 1) := D7.kt q27 rfl
   have q34 : (Pr.own 2 22 1 (List.length (halfL raw M odd k)) (List.map Ty.ints (halfL raw M odd k))).has s7 (a9.eval (.tmp 9)) := D7.ko q28 rfl
   have q35 : At (Ty.lst Ty.int raw) s7 a9 (.tmp 0) := D7.kt q29 rfl
   have q36 : At (Ty.int changes) s7 a9 (.tmp 2) := D7.kt q30 rfl
   have q37 : At (Ty.bool odd) s7 a9 (.tmp 3) := D7.kt q31 rfl
   have q38 : At (Ty.bool (decide (((k : Nat) : Int) < (((1 + (pick (changes) (20))) : Nat) : Int)))) s7 a9 (.tmp 29) := D7.done 4
   clear D7
   refine tn ?_
   refine cond_p (p := (((k : Nat) : Int) < (((1 + (pick (changes) (20))) : Nat) : Int))) q38 (fun c2 => ?_) (fun c2 => ?_)
   ·
    refine wp_skip ?_
    refine tn ?_
    refine wp_seq ?_
    refine wp_block ?_
    refine wp_seq ?_
    refine reg (a := a9) (σ := s7) rfl (fun i_ => List.getD [(Ty.pr (Ty.lst Ty.int raw)), (Ty.pr (Ty.nat k)), (Ty.pr (Ty.int (rawAt raw k))), (Ty.pr (Ty.nat M)), (Ty.pr (Ty.lst Ty.int (changeOf ((rawAt raw k)) (M)))), (Ty.pr (Ty.lst Ty.int (changeOf ((rawAt raw k)) (M))))] i_ Pr.any) ok8 rfl ⟨?_, ?_, ?_, ?_, ?_, ?_, trivial⟩ ?_
    · intro ax tx hs okx sm
      exact run_plain rfl (y_move (kp (sm 0 rfl) hs q35))
    · intro ax tx hs okx sm
      exact run_plain rfl (y_move (kp (sm 10 rfl) hs q32))
    · intro ax tx hs okx sm d0 d1
      have e0 : At (Ty.lst Ty.int raw) tx ax (.tmp 32) := d0 rfl
      have e1 : At (Ty.nat k) tx ax (.tmp 33) := d1 rfl
      exact run_plain rfl (y_call #[ax.eval (.tmp 32), ax.eval (.tmp 33)] Try.func10 rfl rfl (by simp only [List.map_toArray, List.map_cons, List.map_nil]) (raw_fn (raw) (k) _ _ _ e0 e1 ))
    · intro ax tx hs okx sm
      exact run_plain rfl (y_move (kp (sm 1 rfl) hs q33))
    · intro ax tx hs okx sm d0 d1 d2
      have e2 : At (Ty.int (rawAt raw k)) tx ax (.tmp 34) := d0 rfl
      have e3 : At (Ty.nat M) tx ax (.tmp 35) := d1 rfl
      exact run_plain rfl (y_call #[ax.eval (.tmp 34), ax.eval (.tmp 35)] Try.func9 rfl rfl (by simp only [List.map_toArray, List.map_cons, List.map_nil]) (changeOf_fn ((rawAt raw k)) (M) _ _ _ e2 e3 (by omega) (by omega)))
    · intro ax tx hs okx sm d0 d1 d2 d3 d4 d5 d6
      have e4 : At (Ty.lst Ty.int (changeOf ((rawAt raw k)) (M))) tx ax (.tmp 36) := d0 rfl
      have e0 : At (Ty.lst Ty.int raw) tx ax (.tmp 32) := d2 rfl
      have e1 : At (Ty.nat k) tx ax (.tmp 33) := d3 rfl
      have e2 : At (Ty.int (rawAt raw k)) tx ax (.tmp 34) := d4 rfl
      have e3 : At (Ty.nat M) tx ax (.tmp 35) := d5 rfl
      exact run_plain rfl (y_assign e4)
    intro a10 s8 D8
    have ok9 := D8.ok
    have F9 := F8.step0 D8.stp
    have q39 : At (Ty.nat k) s8 a10 (.tmp 10) := D8.kt q32 rfl
    have q40 : At (Ty.nat M) s8 a10 (.tmp 1) := D8.kt q33 rfl
    have q41 : (Pr.own 2 22 1 (List.length (halfL raw M odd k)) (List.map Ty.ints (halfL raw M odd k))).has s8 (a10.eval (.tmp 9)) := D8.ko q34 rfl
    have q42 : At (Ty.lst Ty.int raw) s8 a10 (.tmp 0) := D8.kt q35 rfl
    have q43 : At (Ty.int changes) s8 a10 (.tmp 2) := D8.kt q36 rfl
    have q44 : At (Ty.bool odd) s8 a10 (.tmp 3) := D8.kt q37 rfl
    have q45 : At (Ty.lst Ty.int (changeOf ((rawAt raw k)) (M))) s8 a10 (.tmp 11) := D8.done 5
    clear D8
    refine tn ?_
    refine wp_seq ?_
    refine wp_seq ?_
    refine reg (a := a10) (σ := s8) rfl (fun i_ => List.getD [(Ty.pr (Ty.nat M)), (Ty.pr (Ty.lst Ty.int (changeOf ((rawAt raw k)) (M)))), (Ty.pr (Ty.nat (List.length (changeOf ((rawAt raw k)) (M))))), (Ty.pr (Ty.int (((M : Nat) : Int) - (((List.length (changeOf ((rawAt raw k)) (M))) : Nat) : Int)))), (Ty.pr (Ty.nat (((((M : Nat) : Int) - (((List.length (changeOf ((rawAt raw k)) (M))) : Nat) : Int))).toNat / 2))), (Ty.pr (Ty.nat ((((((M : Nat) : Int) - (((List.length (changeOf ((rawAt raw k)) (M))) : Nat) : Int))).toNat / 2) % 2))), (Ty.pr (Ty.bool (decide (((((((((M : Nat) : Int) - (((List.length (changeOf ((rawAt raw k)) (M))) : Nat) : Int))).toNat / 2) % 2) : Nat) : Int) = (1 : Int))))), (Ty.pr (Ty.bool odd)), (Ty.pr (Ty.bool ((decide (((((((((M : Nat) : Int) - (((List.length (changeOf ((rawAt raw k)) (M))) : Nat) : Int))).toNat / 2) % 2) : Nat) : Int) = (1 : Int))) != odd)))] i_ Pr.any) ok9 rfl ⟨?_, ?_, ?_, ?_, ?_, ?_, ?_, ?_, ?_, trivial⟩ ?_
    · intro ax tx hs okx sm
      exact run_plain rfl (y_move (kp (sm 1 rfl) hs q40))
    · intro ax tx hs okx sm
      exact run_plain rfl (y_move (kp (sm 11 rfl) hs q45))
    · intro ax tx hs okx sm d0
      have e1 : At (Ty.lst Ty.int (changeOf ((rawAt raw k)) (M))) tx ax (.tmp 38) := d0 rfl
      exact run_plain rfl (y_len Try.underlying22 e1)
    · intro ax tx hs okx sm d0 d1
      have e0 : At (Ty.nat M) tx ax (.tmp 37) := d0 rfl
      have e2 : At (Ty.nat (List.length (changeOf ((rawAt raw k)) (M)))) tx ax (.tmp 39) := d1 rfl
      exact run_plain rfl (y_sub e0 e2 (w64 (by omega) (by omega)))
    · intro ax tx hs okx sm d0
      have e3 : At (Ty.int (((M : Nat) : Int) - (((List.length (changeOf ((rawAt raw k)) (M))) : Nat) : Int))) tx ax (.tmp 40) := d0 rfl
      exact run_plain rfl (y_quoN (toN (σ := tx) e3 (by omega)) (toN (σ := tx) rfl (by omega)) (by omega) (by omega))
    · intro ax tx hs okx sm d0
      have e4 : At (Ty.nat (((((M : Nat) : Int) - (((List.length (changeOf ((rawAt raw k)) (M))) : Nat) : Int))).toNat / 2)) tx ax (.tmp 41) := d0 rfl
      exact run_plain rfl (y_remN e4 (toN (σ := tx) rfl (by omega)) (by omega))
    · intro ax tx hs okx sm d0
      have e5 : At (Ty.nat ((((((M : Nat) : Int) - (((List.length (changeOf ((rawAt raw k)) (M))) : Nat) : Int))).toNat / 2) % 2)) tx ax (.tmp 42) := d0 rfl
      exact run_plain rfl (y_eql e5 rfl)
    · intro ax tx hs okx sm
      exact run_plain rfl (y_move (kp (sm 3 rfl) hs q44))
    · intro ax tx hs okx sm d0 d1
      have e6 : At (Ty.bool (decide (((((((((M : Nat) : Int) - (((List.length (changeOf ((rawAt raw k)) (M))) : Nat) : Int))).toNat / 2) % 2) : Nat) : Int) = (1 : Int)))) tx ax (.tmp 43) := d0 rfl
      have e7 : At (Ty.bool odd) tx ax (.tmp 44) := d1 rfl
      exact run_plain rfl (y_neqB Try.underlying4 e6 e7)
    intro a11 s9 D9
    have ok10 := D9.ok
    have F10 := F9.step0 D9.stp
    have q46 : At (Ty.nat k) s9 a11 (.tmp 10) := D9.kt q39 rfl
    have q47 : At (Ty.nat M) s9 a11 (.tmp 1) := D9.kt q40 rfl
    have q48 : (Pr.own 2 22 1 (List.length (halfL raw M odd k)) (List.map Ty.ints (halfL raw M odd k))).has s9 (a11.eval (.tmp 9)) := D9.ko q41 rfl
    have q49 : At (Ty.lst Ty.int raw) s9 a11 (.tmp 0) := D9.kt q42 rfl
    have q50 : At (Ty.int changes) s9 a11 (.tmp 2) := D9.kt q43 rfl
    have q51 : At (Ty.bool odd) s9 a11 (.tmp 3) := D9.kt q44 rfl
    have q52 : At (Ty.lst Ty.int (changeOf ((rawAt raw k)) (M))) s9 a11 (.tmp 11) := D9.kt q45 rfl
    have q53 : At (Ty.bool ((decide (((((((((M : Nat) : Int) - (((List.length (changeOf ((rawAt raw k)) (M))) : Nat) : Int))).toNat / 2) % 2) : Nat) : Int) = (1 : Int))) != odd)) s9 a11 (.tmp 45) := D9.done 8
    clear D9
    refine tn ?_
    refine cond_t q53 (fun c3 => ?_) (fun c3 => ?_)
    ·
     have hh : halfC M odd (changeOf (rawAt raw k) M) = fillC odd M := if_pos c3
     refine wp_seq ?_
     refine reg (a := a11) (σ := s9) rfl (fun i_ => List.getD [(Ty.pr (Ty.val (Value.slice none 0 0)))] i_ Pr.any) ok10 rfl ⟨?_, trivial⟩ ?_
     · intro ax tx hs okx sm
       exact run_plain rfl (y_assign rfl)
     intro a12 s10 D10
     have ok11 := D10.ok
     have F11 := F10.step0 D10.stp
     have q54 : At (Ty.nat k) s10 a12 (.tmp 10) := D10.kt q46 rfl
     have q55 : At (Ty.nat M) s10 a12 (.tmp 1) := D10.kt q47 rfl
     have q56 : (Pr.own 2 22 1 (List.length (halfL raw M odd k)) (List.map Ty.ints (halfL raw M odd k))).has s10 (a12.eval (.tmp 9)) := D10.ko q48 rfl
     have q57 : At (Ty.lst Ty.int raw) s10 a12 (.tmp 0) := D10.kt q49 rfl
     have q58 : At (Ty.int changes) s10 a12 (.tmp 2) := D10.kt q50 rfl
     have q59 : At (Ty.bool odd) s10 a12 (.tmp 3) := D10.kt q51 rfl
     have q60 : At (Ty.val (Value.slice none 0 0)) s10 a12 (.tmp 11) := D10.done 0
     clear D10
     refine tn ?_
     refine wp_seq ?_
     refine reg (a := a12) (σ := s10) rfl (fun i_ => List.getD [(Ty.pr (Ty.int (1 : Int)))] i_ Pr.any) ok11 rfl ⟨?_, trivial⟩ ?_
     · intro ax tx hs okx sm
       exact run_plain rfl (y_assign rfl)
     intro a13 s11 D11
     have ok12 := D11.ok
     have F12 := F11.step0 D11.stp
     have q61 : At (Ty.nat k) s11 a13 (.tmp 10) := D11.kt q54 rfl
     have q62 : At (Ty.nat M) s11 a13 (.tmp 1) := D11.kt q55 rfl
     have q63 : (Pr.own 2 22 1 (List.length (halfL raw M odd k)) (List.map Ty.ints (halfL raw M odd k))).has s11 (a13.eval (.tmp 9)) := D11.ko q56 rfl
     have q64 : At (Ty.lst Ty.int raw) s11 a13 (.tmp 0) := D11.kt q57 rfl
     have q65 : At (Ty.int changes) s11 a13 (.tmp 2) := D11.kt q58 rfl
     have q66 : At (Ty.bool odd) s11 a13 (.tmp 3) := D11.kt q59 rfl
     have q67 : At (Ty.val (Value.slice none 0 0)) s11 a13 (.tmp 11) := D11.kt q60 rfl
     have q68 : At (Ty.int (1 : Int)) s11 a13 (.tmp 12) := D11.done 0
     clear D11
     refine tn ?_
     refine wp_block ?_
     refine loop (fun n3 a14 w3 => ∃ (t3 : GW) (m : Nat), t3.w = w3 ∧ From s0 t3 ∧ Ok 109 a14 ∧ At (Ty.nat (m+1)) t3 a14 (.tmp 12) ∧ (Pr.own 3 3 1 (List.length (fillC odd m)) (List.map Ty.int (fillC odd m))).has t3 (a14.eval (.tmp 11)) ∧ At (Ty.nat k) t3 a14 (.tmp 10) ∧ At (Ty.nat M) t3 a14 (.tmp 1) ∧ (Pr.own 2 22 1 (List.length (halfL raw M odd k)) (List.map Ty.ints (halfL raw M odd k))).has t3 (a14.eval (.tmp 9)) ∧ At (Ty.lst Ty.int raw) t3 a14 (.tmp 0) ∧ At (Ty.int changes) t3 a14 (.tmp 2) ∧ At (Ty.bool odd) t3 a14 (.tmp 3) ∧ (m ≤ M) ∧ n3 = M - m) (M - (0)) ?_ ?_
     ·
      exact ⟨s11, 0, rfl, F12, ok12, (cvi (by (rfl)) q68), (by have e : a13.eval (.tmp 11) = _ := q67; rw [e]; have z : (fillC odd (0)) = [] := (by rfl); rw [z]; exact Own.nil _ _ _ _), q61, q62, q63, q64, q65, q66, by omega, rfl⟩
     ·
      rintro n4 a15 w4 ⟨t4, m, rfl, F13, ok13, q69, q70, q71, q72, q73, q74, q75, q76, hk, rfl⟩
      have hfm := fillC_len odd m
      refine wp_seq ?_
      refine wp_seq ?_
      refine reg (a := a15) (σ := t4) rfl (fun i_ => List.getD [(Ty.pr (Ty.nat (m+1))), (Ty.pr (Ty.nat M)), (Ty.pr (Ty.bool (decide ((((m+1) : Nat) : Int) ≤ ((M : Nat) : Int)))))] i_ Pr.any) ok13 rfl ⟨?_, ?_, ?_, trivial⟩ ?_
      · intro ax tx hs okx sm
        exact run_plain rfl (y_move (kp (sm 12 rfl) hs q69))
      · intro ax tx hs okx sm
        exact run_plain rfl (y_move (kp (sm 1 rfl) hs q72))
      · intro ax tx hs okx sm d0 d1
        have e0 : At (Ty.nat (m+1)) tx ax (.tmp 46) := d0 rfl
        have e1 : At (Ty.nat M) tx ax (.tmp 47) := d1 rfl
        exact run_plain rfl (y_leq e0 e1)
      intro a16 s12 D12
      have ok14 := D12.ok
      have F14 := F13.step0 D12.stp
      have q77 : At (Ty.nat (m+1)) s12 a16 (.tmp 12) := D12.kt q69 rfl
      have q78 : (Pr.own 3 3 1 (List.length (fillC odd m)) (List.map Ty.int (fillC odd m))).has s12 (a16.eval (.tmp 11)) := D12.ko q70 rfl
      have q79 : At (Ty.nat k) s12 a16 (.tmp 10) := D12.kt q71 rfl
      have q80 : At (Ty.nat M) s12 a16 (.tmp 1) := D12.kt q72 rfl
      have q81 : (Pr.own 2 22 1 (List.length (halfL raw M odd k)) (List.map Ty.ints (halfL raw M odd k))).has s12 (a16.eval (.tmp 9)) := D12.ko q73 rfl
      have q82 : At (Ty.lst Ty.int raw) s12 a16 (.tmp 0) := D12.kt q74 rfl
      have q83 : At (Ty.int changes) s12 a16 (.tmp 2) := D12.kt q75 rfl
      have q84 : At (Ty.bool odd) s12 a16 (.tmp 3) := D12.kt q76 rfl
      have q85 : At (Ty.bool (decide ((((m+1) : Nat) : Int) ≤ ((M : Nat) : Int)))) s12 a16 (.tmp 48) := D12.done 2
      clear D12
      refine tn ?_
      refine cond_p (p := ((((m+1) : Nat) : Int) ≤ ((M : Nat) : Int))) q85 (fun c4 => ?_) (fun c4 => ?_)
      ·
       refine wp_skip ?_
       refine tn ?_
       refine wp_seq ?_
       refine wp_block ?_
       refine wp_seq ?_
       refine reg (a := a16) (σ := s12) rfl (fun i_ => List.getD [(Ty.pr (Ty.bool odd)), (Ty.pr (Ty.bool (!odd))), (Ty.pr (Ty.bool (!odd))), (Ty.pr (Ty.grd ((!odd) = false) (Ty.nat (m+1)))), (Ty.pr (Ty.grd ((!odd) = false) (Ty.bool (decide ((2 : Int) < (((m+1) : Nat) : Int)))))), (Ty.pr (Ty.bool ((!odd) || (decide ((2 : Int) < (((m+1) : Nat) : Int))))))] i_ Pr.any) ok14 rfl ⟨?_, ?_, ?_, ?_, ?_, ?_, trivial⟩ ?_
       · intro ax tx hs okx sm
         exact run_plain rfl (y_move (kp (sm 3 rfl) hs q84))
       · intro ax tx hs okx sm d0
         have e0 : At (Ty.bool odd) tx ax (.tmp 51) := d0 rfl
         exact run_plain rfl (y_not e0)
       · intro ax tx hs okx sm d0
         have e1 : At (Ty.bool (!odd)) tx ax (.tmp 52) := d0 rfl
         exact run_plain rfl (y_move e1)
       · intro ax tx hs okx sm d0
         have e2 : At (Ty.bool (!odd)) tx ax (.tmp 53) := d0 rfl
         refine run_guard (T := (Ty.nat (m+1))) okx rfl rfl (by decide) e2 (fun hg => ?_)
         exact y_move (kp (sm 12 rfl) hs q77)
       · intro ax tx hs okx sm d0 d1
         have e3 : At (Ty.grd ((!odd) = false) (Ty.nat (m+1))) tx ax (.tmp 54) := d0 rfl
         have e2 : At (Ty.bool (!odd)) tx ax (.tmp 53) := d1 rfl
         refine run_guard (T := (Ty.bool (decide ((2 : Int) < (((m+1) : Nat) : Int))))) okx rfl rfl (by decide) e2 (fun hg => ?_)
         exact y_gtr (e3.1 hg) rfl
       · intro ax tx hs okx sm d0 d1
         have e2 : At (Ty.bool (!odd)) tx ax (.tmp 53) := d0 rfl
         have e4 : At (Ty.grd ((!odd) = false) (Ty.bool (decide ((2 : Int) < (((m+1) : Nat) : Int))))) tx ax (.tmp 55) := d1 rfl
         exact run_plain rfl (y_pick_or e2 rfl e4)
       intro a17 s13 D13
       have ok15 := D13.ok
       have F15 := F14.step0 D13.stp
       have q86 : At (Ty.nat (m+1)) s13 a17 (.tmp 12) := D13.kt q77 rfl
       have q87 : (Pr.own 3 3 1 (List.length (fillC odd m)) (List.map Ty.int (fillC odd m))).has s13 (a17.eval (.tmp 11)) := D13.ko q78 rfl
       have q88 : At (Ty.nat k) s13 a17 (.tmp 10) := D13.kt q79 rfl
       have q89 : At (Ty.nat M) s13 a17 (.tmp 1) := D13.kt q80 rfl
       have q90 : (Pr.own 2 22 1 (List.length (halfL raw M odd k)) (List.map Ty.ints (halfL raw M odd k))).has s13 (a17.eval (.tmp 9)) := D13.ko q81 rfl
       have q91 : At (Ty.lst Ty.int raw) s13 a17 (.tmp 0) := D13.kt q82 rfl
       have q92 : At (Ty.int changes) s13 a17 (.tmp 2) := D13.kt q83 rfl
       have q93 : At (Ty.bool odd) s13 a17 (.tmp 3) := D13.kt q84 rfl
       have q94 : At (Ty.bool ((!odd) || (decide ((2 : Int) < (((m+1) : Nat) : Int))))) s13 a17 (.tmp 56) := D13.done 5
       clear D13
       refine tn ?_
       refine cond_t q94 (fun c5 => ?_) (fun c5 => ?_)
       ·
        refine reg2 (a := a17) (σ := s13) rfl 3 (fun i_ => List.getD [(Ty.pr (Ty.val (a17.eval (.tmp 11)))), (Ty.pr (Ty.nat (m+1))), (Ty.pr (Ty.sl 1 1 [(Ty.nat (m+1))]))] i_ Pr.any) ok15 rfl (by decide) rfl ⟨?_, ?_, ?_, trivial⟩ ?_
        · intro ax tx hs okx sm
          exact run_plain rfl (y_move (sm 11 rfl))
        · intro ax tx hs okx sm
          exact run_plain rfl (y_move (kp (sm 12 rfl) hs q86))
        · intro ax tx hs okx sm d0
          have e1 : At (Ty.nat (m+1)) tx ax (.tmp 58) := d0 rfl
          exact run_plain rfl (y_build1o Try.underlying22 Try.inf3 rfl (one_val rfl) e1)
        intro a18 s14 D14
        have ok16 := D14.ok
        have F16 := F15.step0 D14.stp
        have q95 := (Pr.own 3 3 1 (List.length (fillC odd m)) (List.map Ty.int (fillC odd m))).up D14.stp q87
        have q96 := (Pr.own 2 22 1 (List.length (halfL raw M odd k)) (List.map Ty.ints (halfL raw M odd k))).up D14.stp q90
        have q97 : At (Ty.nat (m+1)) s14 a18 (.tmp 12) := D14.kt q86 rfl
        have q98 : a18.eval (.tmp 11) = a17.eval (.tmp 11) := D14.same 11 rfl
        have q99 : At (Ty.nat k) s14 a18 (.tmp 10) := D14.kt q88 rfl
        have q100 : At (Ty.nat M) s14 a18 (.tmp 1) := D14.kt q89 rfl
        have q101 : a18.eval (.tmp 9) = a17.eval (.tmp 9) := D14.same 9 rfl
        have q102 : At (Ty.lst Ty.int raw) s14 a18 (.tmp 0) := D14.kt q91 rfl
        have q103 : At (Ty.int changes) s14 a18 (.tmp 2) := D14.kt q92 rfl
        have q104 : At (Ty.bool odd) s14 a18 (.tmp 3) := D14.kt q93 rfl
        have q105 : At (Ty.val (a17.eval (.tmp 11))) s14 a18 (.tmp 57) := D14.done 0 (by decide)
        have q106 : At (Ty.sl 1 1 [(Ty.nat (m+1))]) s14 a18 (.tmp 59) := D14.done 2 (by decide)
        clear D14
        refine tail_step (m := 3) (R := (fun v τ => Own τ 3 3 1 v ((List.length (fillC odd m)) + 1) ((List.map Ty.int (fillC odd m)) ++ [(Ty.nat (m+1))]))) rfl rfl (by decide) ok16 (m_append Try.underlying22 Try.inf3 (by decide) rfl (by decide) (al q105 q95) q106 (by intro U hU; simp at hU;  subst hU; exact one_val rfl) (by omega) (by omega)) (fun a19 s15 hs1 ok17 r1 sm1 => ?_)
        have F17 := F16.step hs1 (by decide)
        have q107 := Own.keep q96 hs1 (by decide) (.inr (by decide))
        have q108 : At (Ty.nat (m+1)) s15 a19 (.tmp 12) := kpm hs1 (by decide) (sm1 12 (by decide)) q97
        have q109 : At (Ty.nat k) s15 a19 (.tmp 10) := kpm hs1 (by decide) (sm1 10 (by decide)) q99
        have q110 : At (Ty.nat M) s15 a19 (.tmp 1) := kpm hs1 (by decide) (sm1 1 (by decide)) q100
        have q111 := (sm1 9 (by decide)).trans q101
        have q112 : At (Ty.lst Ty.int raw) s15 a19 (.tmp 0) := kpm hs1 (by decide) (sm1 0 (by decide)) q102
        have q113 : At (Ty.int changes) s15 a19 (.tmp 2) := kpm hs1 (by decide) (sm1 2 (by decide)) q103
        have q114 : At (Ty.bool odd) s15 a19 (.tmp 3) := kpm hs1 (by decide) (sm1 3 (by decide)) q104
        have q115 : At (Ty.sl 1 1 [(Ty.nat (m+1))]) s15 a19 (.tmp 59) := kpm hs1 (by decide) (sm1 59 (by decide)) q106
        have q116 : (Pr.own 3 3 1 (List.length ((fillC odd m) ++ [(((m+1) : Nat) : Int)])) (List.map Ty.int ((fillC odd m) ++ [(((m+1) : Nat) : Int)]))).has s15 (a19.eval (.tmp 60)) := (cvo (by simp) (by first | (rw [List.map_append]; rfl) | simp) r1)
        refine tail_step (m := 0) (R := (fun v τ => Pr.has (Pr.own 3 3 1 (List.length ((fillC odd m) ++ [(((m+1) : Nat) : Int)])) (List.map Ty.int ((fillC odd m) ++ [(((m+1) : Nat) : Int)]))) τ v)) rfl rfl (by decide) ok17 (Yld.toM (y_assign q116)) (fun a20 s16 hs2 ok18 r2 sm2 => ?_)
        have F18 := F17.step hs2 (by decide)
        have q117 := Own.keep q107 hs2 (by decide) (.inl rfl)
        have q118 : At (Ty.nat (m+1)) s16 a20 (.tmp 12) := kpm hs2 (by decide) (sm2 12 (by decide)) q108
        have q119 : At (Ty.nat k) s16 a20 (.tmp 10) := kpm hs2 (by decide) (sm2 10 (by decide)) q109
        have q120 : At (Ty.nat M) s16 a20 (.tmp 1) := kpm hs2 (by decide) (sm2 1 (by decide)) q110
        have q121 := (sm2 9 (by decide)).trans q111
        have q122 : At (Ty.lst Ty.int raw) s16 a20 (.tmp 0) := kpm hs2 (by decide) (sm2 0 (by decide)) q112
        have q123 : At (Ty.int changes) s16 a20 (.tmp 2) := kpm hs2 (by decide) (sm2 2 (by decide)) q113
        have q124 : At (Ty.bool odd) s16 a20 (.tmp 3) := kpm hs2 (by decide) (sm2 3 (by decide)) q114
        have q125 : At (Ty.sl 1 1 [(Ty.nat (m+1))]) s16 a20 (.tmp 59) := kpm hs2 (by decide) (sm2 59 (by decide)) q115
        have q126 : (Pr.own 3 3 1 (List.length ((fillC odd m) ++ [(((m+1) : Nat) : Int)])) (List.map Ty.int ((fillC odd m) ++ [(((m+1) : Nat) : Int)]))).has s16 (a20.eval (.tmp 60)) := kpmo hs2 (by decide) (.inl rfl) (sm2 60 (by decide)) q116
        have q127 : (Pr.own 3 3 1 (List.length ((fillC odd m) ++ [(((m+1) : Nat) : Int)])) (List.map Ty.int ((fillC odd m) ++ [(((m+1) : Nat) : Int)]))).has s16 (a20.eval (.tmp 11)) := r2
        refine wpList_nil ?_
        have q128 : (Pr.own 2 22 1 (List.length (halfL raw M odd k)) (List.map Ty.ints (halfL raw M odd k))).has s16 (a20.eval (.tmp 9)) := al q121 q117
        refine bn ?_
        refine tn ?_
        refine reg (a := a20) (σ := s16) rfl (fun i_ => List.getD [(Ty.pr (Ty.nat (m+1))), (Ty.pr (Ty.nat ((m+1) + 1))), (Ty.pr (Ty.nat ((m+1) + 1)))] i_ Pr.any) ok18 rfl ⟨?_, ?_, ?_, trivial⟩ ?_
        · intro ax tx hs okx sm
          exact run_plain rfl (y_move (kp (sm 12 rfl) hs q118))
        · intro ax tx hs okx sm d0
          have e0 : At (Ty.nat (m+1)) tx ax (.tmp 49) := d0 rfl
          exact run_plain rfl ((y_add e0 rfl (w64 (by omega) (by omega))).mono (fun τ _ h => cvi (σ := τ) (by first | omega | exact (Int.natCast_mul _ _).symm) h))
        · intro ax tx hs okx sm d0 d1 d2
          have e1 : At (Ty.nat ((m+1) + 1)) tx ax (.tmp 50) := d0 rfl
          have e0 : At (Ty.nat (m+1)) tx ax (.tmp 49) := d1 rfl
          exact run_plain rfl (y_assign e1)
        intro a21 s17 D15
        have ok19 := D15.ok
        have F19 := F18.step0 D15.stp
        have q129 : At (Ty.nat k) s17 a21 (.tmp 10) := D15.kt q119 rfl
        have q130 : At (Ty.nat M) s17 a21 (.tmp 1) := D15.kt q120 rfl
        have q131 : (Pr.own 2 22 1 (List.length (halfL raw M odd k)) (List.map Ty.ints (halfL raw M odd k))).has s17 (a21.eval (.tmp 9)) := D15.ko q128 rfl
        have q132 : At (Ty.lst Ty.int raw) s17 a21 (.tmp 0) := D15.kt q122 rfl
        have q133 : At (Ty.int changes) s17 a21 (.tmp 2) := D15.kt q123 rfl
        have q134 : At (Ty.bool odd) s17 a21 (.tmp 3) := D15.kt q124 rfl
        have q135 : (Pr.own 3 3 1 (List.length ((fillC odd m) ++ [(((m+1) : Nat) : Int)])) (List.map Ty.int ((fillC odd m) ++ [(((m+1) : Nat) : Int)]))).has s17 (a21.eval (.tmp 11)) := D15.ko q127 rfl
        have q136 : At (Ty.nat ((m+1) + 1)) s17 a21 (.tmp 12) := D15.done 2
        clear D15
        exact tn ⟨M - ((m+1)), by omega, s17, (m+1), rfl, F19, ok19, (cvi (by (first | rfl | omega | (simp_all; done) | (simp_all; omega))) q136), (cvo (by (rw [fillC_yes c5])) (by (rw [fillC_yes c5])) q135), q129, q130, q131, q132, q133, q134, by omega, rfl⟩
       ·
        obtain ⟨d1, d2⟩ := Bool.or_eq_false_iff.mp c5
        replace d2 := of_decide_eq_false d2
        refine wp_skip ?_
        refine bn ?_
        refine tn ?_
        refine reg (a := a17) (σ := s13) rfl (fun i_ => List.getD [(Ty.pr (Ty.nat (m+1))), (Ty.pr (Ty.nat ((m+1) + 1))), (Ty.pr (Ty.nat ((m+1) + 1)))] i_ Pr.any) ok15 rfl ⟨?_, ?_, ?_, trivial⟩ ?_
        · intro ax tx hs okx sm
          exact run_plain rfl (y_move (kp (sm 12 rfl) hs q86))
        · intro ax tx hs okx sm d0
          have e0 : At (Ty.nat (m+1)) tx ax (.tmp 49) := d0 rfl
          exact run_plain rfl ((y_add e0 rfl (w64 (by omega) (by omega))).mono (fun τ _ h => cvi (σ := τ) (by first | omega | exact (Int.natCast_mul _ _).symm) h))
        · intro ax tx hs okx sm d0 d1 d2
          have e1 : At (Ty.nat ((m+1) + 1)) tx ax (.tmp 50) := d0 rfl
          have e0 : At (Ty.nat (m+1)) tx ax (.tmp 49) := d1 rfl
          exact run_plain rfl (y_assign e1)
        intro a22 s18 D16
        have ok20 := D16.ok
        have F20 := F15.step0 D16.stp
        have q137 : (Pr.own 3 3 1 (List.length (fillC odd m)) (List.map Ty.int (fillC odd m))).has s18 (a22.eval (.tmp 11)) := D16.ko q87 rfl
        have q138 : At (Ty.nat k) s18 a22 (.tmp 10) := D16.kt q88 rfl
        have q139 : At (Ty.nat M) s18 a22 (.tmp 1) := D16.kt q89 rfl
        have q140 : (Pr.own 2 22 1 (List.length (halfL raw M odd k)) (List.map Ty.ints (halfL raw M odd k))).has s18 (a22.eval (.tmp 9)) := D16.ko q90 rfl
        have q141 : At (Ty.lst Ty.int raw) s18 a22 (.tmp 0) := D16.kt q91 rfl
        have q142 : At (Ty.int changes) s18 a22 (.tmp 2) := D16.kt q92 rfl
        have q143 : At (Ty.bool odd) s18 a22 (.tmp 3) := D16.kt q93 rfl
        have q144 : At (Ty.nat ((m+1) + 1)) s18 a22 (.tmp 12) := D16.done 2
        clear D16
        exact tn ⟨M - ((m+1)), by omega, s18, (m+1), rfl, F20, ok20, (cvi (by (first | rfl | omega | (simp_all; done) | (simp_all; omega))) q144), (cvo (by (rw [fillC_no c5])) (by (rw [fillC_no c5])) q137), q138, q139, q140, q141, q142, q143, by omega, rfl⟩
      ·
       refine wp_exit ?_
       refine tx ?_
       refine tx ?_
       refine bx ?_
       refine tn ?_
       obtain ⟨t5, e1, h1, q145⟩ := Own.seal q78 (by decide)
       rw [← e1]
       have F21 := F14.step h1 (by decide)
       have q146 := Ty.up (Ty.nat (m+1)) (h1.le (by decide)) q77
       have q147 := Ty.up (Ty.nat k) (h1.le (by decide)) q79
       have q148 := Ty.up (Ty.nat M) (h1.le (by decide)) q80
       have q149 := Own.keep q81 h1 (by decide) (.inr (by decide))
       have q150 := Ty.up (Ty.lst Ty.int raw) (h1.le (by decide)) q82
       have q151 := Ty.up (Ty.int changes) (h1.le (by decide)) q83
       have q152 := Ty.up (Ty.bool odd) (h1.le (by decide)) q84
       have q153 := Ty.up (Ty.bool (decide ((((m+1) : Nat) : Int) ≤ ((M : Nat) : Int)))) (h1.le (by decide)) q85
       refine reg2 (a := a16) (σ := t5) rfl 3 (fun i_ => List.getD [(Ty.pr (Ty.val (a16.eval (.tmp 9)))), (Ty.pr (Ty.lst Ty.int (fillC odd m))), (Ty.pr (Ty.sl 1 1 [(Ty.lst Ty.int (fillC odd m))]))] i_ Pr.any) ok14 rfl (by decide) rfl ⟨?_, ?_, ?_, trivial⟩ ?_
       · intro ax tx hs okx sm
         exact run_plain rfl (y_move (sm 9 rfl))
       · intro ax tx hs okx sm
         exact run_plain rfl (y_move (kp (sm 11 rfl) hs q145))
       · intro ax tx hs okx sm d0
         have e1 : At (Ty.lst Ty.int (fillC odd m)) tx ax (.tmp 62) := d0 rfl
         exact run_plain rfl (y_build1o Try.underlying24 Try.inf22 rfl (one_sl) e1)
       intro a23 s19 D17
       have ok21 := D17.ok
       have F22 := F21.step0 D17.stp
       have q154 := (Pr.own 2 22 1 (List.length (halfL raw M odd k)) (List.map Ty.ints (halfL raw M odd k))).up D17.stp q149
       have q155 : At (Ty.nat k) s19 a23 (.tmp 10) := D17.kt q147 rfl
       have q156 : At (Ty.nat M) s19 a23 (.tmp 1) := D17.kt q148 rfl
       have q157 : a23.eval (.tmp 9) = a16.eval (.tmp 9) := D17.same 9 rfl
       have q158 : At (Ty.lst Ty.int raw) s19 a23 (.tmp 0) := D17.kt q150 rfl
       have q159 : At (Ty.int changes) s19 a23 (.tmp 2) := D17.kt q151 rfl
       have q160 : At (Ty.bool odd) s19 a23 (.tmp 3) := D17.kt q152 rfl
       have q161 : At (Ty.val (a16.eval (.tmp 9))) s19 a23 (.tmp 61) := D17.done 0 (by decide)
       have q162 : At (Ty.sl 1 1 [(Ty.lst Ty.int (fillC odd m))]) s19 a23 (.tmp 63) := D17.done 2 (by decide)
       clear D17
       refine tail_step (m := 2) (R := (fun v τ => Own τ 2 22 1 v ((List.length (halfL raw M odd k)) + 1) ((List.map Ty.ints (halfL raw M odd k)) ++ [(Ty.lst Ty.int (fillC odd m))]))) rfl rfl (by decide) ok21 (m_append Try.underlying24 Try.inf22 (by decide) rfl (by decide) (al q161 q154) q162 (by intro U hU; simp at hU;  subst hU; exact one_sl) (by omega) (by omega)) (fun a24 s20 hs3 ok22 r3 sm3 => ?_)
       have F23 := F22.step hs3 (by decide)
       have q163 : At (Ty.nat k) s20 a24 (.tmp 10) := kpm hs3 (by decide) (sm3 10 (by decide)) q155
       have q164 : At (Ty.nat M) s20 a24 (.tmp 1) := kpm hs3 (by decide) (sm3 1 (by decide)) q156
       have q165 : At (Ty.lst Ty.int raw) s20 a24 (.tmp 0) := kpm hs3 (by decide) (sm3 0 (by decide)) q158
       have q166 : At (Ty.int changes) s20 a24 (.tmp 2) := kpm hs3 (by decide) (sm3 2 (by decide)) q159
       have q167 : At (Ty.bool odd) s20 a24 (.tmp 3) := kpm hs3 (by decide) (sm3 3 (by decide)) q160
       have q168 : At (Ty.sl 1 1 [(Ty.lst Ty.int (fillC odd m))]) s20 a24 (.tmp 63) := kpm hs3 (by decide) (sm3 63 (by decide)) q162
       have q169 : (Pr.own 2 22 1 (List.length ((halfL raw M odd k) ++ [(fillC odd m)])) (List.map Ty.ints ((halfL raw M odd k) ++ [(fillC odd m)]))).has s20 (a24.eval (.tmp 64)) := (cvo (by simp) (by first | (rw [List.map_append]; rfl) | simp) r3)
       refine tail_step (m := 0) (R := (fun v τ => Pr.has (Pr.own 2 22 1 (List.length ((halfL raw M odd k) ++ [(fillC odd m)])) (List.map Ty.ints ((halfL raw M odd k) ++ [(fillC odd m)]))) τ v)) rfl rfl (by decide) ok22 (Yld.toM (y_assign q169)) (fun a25 s21 hs4 ok23 r4 sm4 => ?_)
       have F24 := F23.step hs4 (by decide)
       have q170 : At (Ty.nat k) s21 a25 (.tmp 10) := kpm hs4 (by decide) (sm4 10 (by decide)) q163
       have q171 : At (Ty.nat M) s21 a25 (.tmp 1) := kpm hs4 (by decide) (sm4 1 (by decide)) q164
       have q172 : At (Ty.lst Ty.int raw) s21 a25 (.tmp 0) := kpm hs4 (by decide) (sm4 0 (by decide)) q165
       have q173 : At (Ty.int changes) s21 a25 (.tmp 2) := kpm hs4 (by decide) (sm4 2 (by decide)) q166
       have q174 : At (Ty.bool odd) s21 a25 (.tmp 3) := kpm hs4 (by decide) (sm4 3 (by decide)) q167
       have q175 : At (Ty.sl 1 1 [(Ty.lst Ty.int (fillC odd m))]) s21 a25 (.tmp 63) := kpm hs4 (by decide) (sm4 63 (by decide)) q168
       have q176 : (Pr.own 2 22 1 (List.length ((halfL raw M odd k) ++ [(fillC odd m)])) (List.map Ty.ints ((halfL raw M odd k) ++ [(fillC odd m)]))).has s21 (a25.eval (.tmp 64)) := kpmo hs4 (by decide) (.inl rfl) (sm4 64 (by decide)) q169
       have q177 : (Pr.own 2 22 1 (List.length ((halfL raw M odd k) ++ [(fillC odd m)])) (List.map Ty.ints ((halfL raw M odd k) ++ [(fillC odd m)]))).has s21 (a25.eval (.tmp 9)) := r4
       refine wpList_nil ?_
       refine bn ?_
       refine tn ?_
       refine reg (a := a25) (σ := s21) rfl (fun i_ => List.getD [(Ty.pr (Ty.nat k)), (Ty.pr (Ty.nat (k + 1))), (Ty.pr (Ty.nat (k + 1)))] i_ Pr.any) ok23 rfl ⟨?_, ?_, ?_, trivial⟩ ?_
       · intro ax tx hs okx sm
         exact run_plain rfl (y_move (kp (sm 10 rfl) hs q170))
       · intro ax tx hs okx sm d0
         have e0 : At (Ty.nat k) tx ax (.tmp 30) := d0 rfl
         exact run_plain rfl ((y_add e0 rfl (w64 (by omega) (by omega))).mono (fun τ _ h => cvi (σ := τ) (by first | omega | exact (Int.natCast_mul _ _).symm) h))
       · intro ax tx hs okx sm d0 d1 d2
         have e1 : At (Ty.nat (k + 1)) tx ax (.tmp 31) := d0 rfl
         have e0 : At (Ty.nat k) tx ax (.tmp 30) := d1 rfl
         exact run_plain rfl (y_assign e1)
       intro a26 s22 D18
       have ok24 := D18.ok
       have F25 := F24.step0 D18.stp
       have q178 : At (Ty.nat M) s22 a26 (.tmp 1) := D18.kt q171 rfl
       have q179 : At (Ty.lst Ty.int raw) s22 a26 (.tmp 0) := D18.kt q172 rfl
       have q180 : At (Ty.int changes) s22 a26 (.tmp 2) := D18.kt q173 rfl
       have q181 : At (Ty.bool odd) s22 a26 (.tmp 3) := D18.kt q174 rfl
       have q182 : (Pr.own 2 22 1 (List.length ((halfL raw M odd k) ++ [(fillC odd m)])) (List.map Ty.ints ((halfL raw M odd k) ++ [(fillC odd m)]))).has s22 (a26.eval (.tmp 9)) := D18.ko q177 rfl
       have q183 : At (Ty.nat (k + 1)) s22 a26 (.tmp 10) := D18.done 2
       clear D18
       exact tn ⟨K - ((k+1)), by omega, s22, (k+1), rfl, F25, ok24, (cvi (by (first | rfl | omega | (simp_all; done) | (simp_all; omega))) q183), q178, (cvo (by (have em : m = M := (by omega); rw [em, halfL_succ, hh])) (by (have em : m = M := (by omega); rw [em, halfL_succ, hh])) q182), q179, q180, q181, by omega, rfl⟩
    ·
     have hh : halfC M odd (changeOf (rawAt raw k) M) = changeOf (rawAt raw k) M := if_neg (by rw [Bool.not_eq_true]; exact c3)
     refine wp_skip ?_
     refine tn ?_
     refine reg2 (a := a11) (σ := s9) rfl 3 (fun i_ => List.getD [(Ty.pr (Ty.val (a11.eval (.tmp 9)))), (Ty.pr (Ty.lst Ty.int (changeOf ((rawAt raw k)) (M)))), (Ty.pr (Ty.sl 1 1 [(Ty.lst Ty.int (changeOf ((rawAt raw k)) (M)))]))] i_ Pr.any) ok10 rfl (by decide) rfl ⟨?_, ?_, ?_, trivial⟩ ?_
     · intro ax tx hs okx sm
       exact run_plain rfl (y_move (sm 9 rfl))
     · intro ax tx hs okx sm
       exact run_plain rfl (y_move (kp (sm 11 rfl) hs q52))
     · intro ax tx hs okx sm d0
       have e1 : At (Ty.lst Ty.int (changeOf ((rawAt raw k)) (M))) tx ax (.tmp 62) := d0 rfl
       exact run_plain rfl (y_build1o Try.underlying24 Try.inf22 rfl (one_sl) e1)
     intro a27 s23 D19
     have ok25 := D19.ok
     have F26 := F10.step0 D19.stp
     have q184 := (Pr.own 2 22 1 (List.length (halfL raw M odd k)) (List.map Ty.ints (halfL raw M odd k))).up D19.stp q48
     have q185 : At (Ty.nat k) s23 a27 (.tmp 10) := D19.kt q46 rfl
     have q186 : At (Ty.nat M) s23 a27 (.tmp 1) := D19.kt q47 rfl
     have q187 : a27.eval (.tmp 9) = a11.eval (.tmp 9) := D19.same 9 rfl
     have q188 : At (Ty.lst Ty.int raw) s23 a27 (.tmp 0) := D19.kt q49 rfl
     have q189 : At (Ty.int changes) s23 a27 (.tmp 2) := D19.kt q50 rfl
     have q190 : At (Ty.bool odd) s23 a27 (.tmp 3) := D19.kt q51 rfl
     have q191 : At (Ty.val (a11.eval (.tmp 9))) s23 a27 (.tmp 61) := D19.done 0 (by decide)
     have q192 : At (Ty.sl 1 1 [(Ty.lst Ty.int (changeOf ((rawAt raw k)) (M)))]) s23 a27 (.tmp 63) := D19.done 2 (by decide)
     clear D19
     refine tail_step (m := 2) (R := (fun v τ => Own τ 2 22 1 v ((List.length (halfL raw M odd k)) + 1) ((List.map Ty.ints (halfL raw M odd k)) ++ [(Ty.lst Ty.int (changeOf ((rawAt raw k)) (M)))]))) rfl rfl (by decide) ok25 (m_append Try.underlying24 Try.inf22 (by decide) rfl (by decide) (al q191 q184) q192 (by intro U hU; simp at hU;  subst hU; exact one_sl) (by omega) (by omega)) (fun a28 s24 hs5 ok26 r5 sm5 => ?_)
     have F27 := F26.step hs5 (by decide)
     have q193 : At (Ty.nat k) s24 a28 (.tmp 10) := kpm hs5 (by decide) (sm5 10 (by decide)) q185
     have q194 : At (Ty.nat M) s24 a28 (.tmp 1) := kpm hs5 (by decide) (sm5 1 (by decide)) q186
     have q195 : At (Ty.lst Ty.int raw) s24 a28 (.tmp 0) := kpm hs5 (by decide) (sm5 0 (by decide)) q188
     have q196 : At (Ty.int changes) s24 a28 (.tmp 2) := kpm hs5 (by decide) (sm5 2 (by decide)) q189
     have q197 : At (Ty.bool odd) s24 a28 (.tmp 3) := kpm hs5 (by decide) (sm5 3 (by decide)) q190
     have q198 : At (Ty.sl 1 1 [(Ty.lst Ty.int (changeOf ((rawAt raw k)) (M)))]) s24 a28 (.tmp 63) := kpm hs5 (by decide) (sm5 63 (by decide)) q192
     have q199 : (Pr.own 2 22 1 (List.length ((halfL raw M odd k) ++ [(changeOf ((rawAt raw k)) (M))])) (List.map Ty.ints ((halfL raw M odd k) ++ [(changeOf ((rawAt raw k)) (M))]))).has s24 (a28.eval (.tmp 64)) := (cvo (by simp) (by first | (rw [List.map_append]; rfl) | simp) r5)
     refine tail_step (m := 0) (R := (fun v τ => Pr.has (Pr.own 2 22 1 (List.length ((halfL raw M odd k) ++ [(changeOf ((rawAt raw k)) (M))])) (List.map Ty.ints ((halfL raw M odd k) ++ [(changeOf ((rawAt raw k)) (M))]))) τ v)) rfl rfl (by decide) ok26 (Yld.toM (y_assign q199)) (fun a29 s25 hs6 ok27 r6 sm6 => ?_)
     have F28 := F27.step hs6 (by decide)
     have q200 : At (Ty.nat k) s25 a29 (.tmp 10) := kpm hs6 (by decide) (sm6 10 (by decide)) q193
     have q201 : At (Ty.nat M) s25 a29 (.tmp 1) := kpm hs6 (by decide) (sm6 1 (by decide)) q194
     have q202 : At (Ty.lst Ty.int raw) s25 a29 (.tmp 0) := kpm hs6 (by decide) (sm6 0 (by decide)) q195
     have q203 : At (Ty.int changes) s25 a29 (.tmp 2) := kpm hs6 (by decide) (sm6 2 (by decide)) q196
     have q204 : At (Ty.bool odd) s25 a29 (.tmp 3) := kpm hs6 (by decide) (sm6 3 (by decide)) q197
     have q205 : At (Ty.sl 1 1 [(Ty.lst Ty.int (changeOf ((rawAt raw k)) (M)))]) s25 a29 (.tmp 63) := kpm hs6 (by decide) (sm6 63 (by decide)) q198
     have q206 : (Pr.own 2 22 1 (List.length ((halfL raw M odd k) ++ [(changeOf ((rawAt raw k)) (M))])) (List.map Ty.ints ((halfL raw M odd k) ++ [(changeOf ((rawAt raw k)) (M))]))).has s25 (a29.eval (.tmp 64)) := kpmo hs6 (by decide) (.inl rfl) (sm6 64 (by decide)) q199
     have q207 : (Pr.own 2 22 1 (List.length ((halfL raw M odd k) ++ [(changeOf ((rawAt raw k)) (M))])) (List.map Ty.ints ((halfL raw M odd k) ++ [(changeOf ((rawAt raw k)) (M))]))).has s25 (a29.eval (.tmp 9)) := r6
     refine wpList_nil ?_
     refine bn ?_
     refine tn ?_
     refine reg (a := a29) (σ := s25) rfl (fun i_ => List.getD [(Ty.pr (Ty.nat k)), (Ty.pr (Ty.nat (k + 1))), (Ty.pr (Ty.nat (k + 1)))] i_ Pr.any) ok27 rfl ⟨?_, ?_, ?_, trivial⟩ ?_
     · intro ax tx hs okx sm
       exact run_plain rfl (y_move (kp (sm 10 rfl) hs q200))
     · intro ax tx hs okx sm d0
       have e0 : At (Ty.nat k) tx ax (.tmp 30) := d0 rfl
       exact run_plain rfl ((y_add e0 rfl (w64 (by omega) (by omega))).mono (fun τ _ h => cvi (σ := τ) (by first | omega | exact (Int.natCast_mul _ _).symm) h))
     · intro ax tx hs okx sm d0 d1 d2
       have e1 : At (Ty.nat (k + 1)) tx ax (.tmp 31) := d0 rfl
       have e0 : At (Ty.nat k) tx ax (.tmp 30) := d1 rfl
       exact run_plain rfl (y_assign e1)
     intro a30 s26 D20
     have ok28 := D20.ok
     have F29 := F28.step0 D20.stp
     have q208 : At (Ty.nat M) s26 a30 (.tmp 1) := D20.kt q201 rfl
     have q209 : At (Ty.lst Ty.int raw) s26 a30 (.tmp 0) := D20.kt q202 rfl
     have q210 : At (Ty.int changes) s26 a30 (.tmp 2) := D20.kt q203 rfl
     have q211 : At (Ty.bool odd) s26 a30 (.tmp 3) := D20.kt q204 rfl
     have q212 : (Pr.own 2 22 1 (List.length ((halfL raw M odd k) ++ [(changeOf ((rawAt raw k)) (M))])) (List.map Ty.ints ((halfL raw M odd k) ++ [(changeOf ((rawAt raw k)) (M))]))).has s26 (a30.eval (.tmp 9)) := D20.ko q207 rfl
     have q213 : At (Ty.nat (k + 1)) s26 a30 (.tmp 10) := D20.done 2
     clear D20
     exact tn ⟨K - ((k+1)), by omega, s26, (k+1), rfl, F29, ok28, (cvi (by (first | rfl | omega | (simp_all; done) | (simp_all; omega))) q213), q208, (cvo (by (rw [halfL_succ, hh])) (by (rw [halfL_succ, hh])) q212), q209, q210, q211, by omega, rfl⟩
   ·
    have ek : k = K := (by omega)
    refine wp_exit ?_
    refine tx ?_
    refine tx ?_
    refine bx ?_
    refine tn ?_
    refine wp_seq ?_
    obtain ⟨t6, e2, h2, q214⟩ := Own.seal q34 (by decide)
    rw [← e2]
    have F30 := F8.step h2 (by decide)
    have q215 := Ty.up (Ty.nat k) (h2.le (by decide)) q32
    have q216 := Ty.up (Ty.nat M) (h2.le (by decide)) q33
    have q217 := Ty.up (Ty.lst Ty.int raw) (h2.le (by decide)) q35
    have q218 := Ty.up (Ty.int changes) (h2.le (by decide)) q36
    have q219 := Ty.up (Ty.bool odd) (h2.le (by decide)) q37
    have q220 := Ty.up (Ty.bool (decide (((k : Nat) : Int) < (((1 + (pick (changes) (20))) : Nat) : Int)))) (h2.le (by decide)) q38
    refine reg (a := a9) (σ := t6) rfl (fun i_ => List.getD [(Ty.pr (Ty.nat M)), (Ty.pr (Ty.lst Ty.ints (halfL raw M odd k))), (Ty.pr (Ty.agg [(Ty.val (Value.string (ByteArray.mk #[72, 97, 108, 102]))), (Ty.nat M), (Ty.lst Ty.ints (halfL raw M odd k))])), (Ty.pr (Ty.tup2 (Ty.lst Ty.ints (fromL (roundsL M) (halfL raw M odd K))) (Ty.int (0 : Int)))), (Ty.pr (Ty.tup2 (Ty.lst Ty.ints (fromL (roundsL M) (halfL raw M odd K))) (Ty.int (0 : Int)))), (Ty.pr (Ty.lst Ty.ints (fromL (roundsL M) (halfL raw M odd K)))), (Ty.pr (Ty.int (0 : Int))), (Ty.pr (Ty.lst Ty.ints (fromL (roundsL M) (halfL raw M odd K)))), (Ty.pr (Ty.int (0 : Int)))] i_ Pr.any) ok8 rfl ⟨?_, ?_, ?_, ?_, ?_, ?_, ?_, ?_, ?_, trivial⟩ ?_
    · intro ax tx hs okx sm
      exact run_plain rfl (y_move (kp (sm 1 rfl) hs q216))
    · intro ax tx hs okx sm
      exact run_plain rfl (y_move (kp (sm 9 rfl) hs q214))
    · intro ax tx hs okx sm d0 d1
      have e0 : At (Ty.nat M) tx ax (.tmp 66) := d0 rfl
      have e1 : At (Ty.lst Ty.ints (halfL raw M odd k)) tx ax (.tmp 67) := d1 rfl
      exact run_plain rfl (y_build3s rfl Try.inf31 rfl (one_val rfl) (one_val rfl) (one_sl) rfl e0 e1)
    · intro ax tx hs okx sm d0
      have e2 : At (Ty.agg [(Ty.val (Value.string (ByteArray.mk #[72, 97, 108, 102]))), (Ty.nat M), (Ty.lst Ty.ints (halfL raw M odd k))]) tx ax (.tmp 68) := d0 rfl
      exact run_plain rfl ((y_call #[ax.eval (.tmp 68)] Try.func11 rfl rfl (by simp only [List.map_toArray, List.map_cons, List.map_nil]) (lead_fn ((ByteArray.mk #[72, 97, 108, 102])) (((M : Nat) : Int)) ((halfL raw M odd k)) _ _ e2 (by first | omega | assumption) (by first | omega | assumption))).mono (fun τ _ h => cvt (σ := τ) (T := (Ty.tup2 (Ty.lst Ty.ints (if methMay ((ByteArray.mk #[72, 97, 108, 102])) (((M : Nat) : Int)) ((halfL raw M odd k)) = 0 then fromL (roundsL (((M : Nat) : Int)).toNat) ((halfL raw M odd k)) else [])) (Ty.int (methMay ((ByteArray.mk #[72, 97, 108, 102])) (((M : Nat) : Int)) ((halfL raw M odd k)))))) (U := (Ty.tup2 (Ty.lst Ty.ints (fromL (roundsL M) (halfL raw M odd K))) (Ty.int (0 : Int)))) (by rw [ek, htn, if_pos hmay, hmay]) h))
    · intro ax tx hs okx sm d0
      have e3 : At (Ty.tup2 (Ty.lst Ty.ints (fromL (roundsL M) (halfL raw M odd K))) (Ty.int (0 : Int))) tx ax (.tmp 69) := d0 rfl
      exact run_plain rfl (y_move e3)
    · intro ax tx hs okx sm d0
      have e4 : At (Ty.tup2 (Ty.lst Ty.ints (fromL (roundsL M) (halfL raw M odd K))) (Ty.int (0 : Int))) tx ax (.tmp 65) := d0 rfl
      exact run_plain rfl (y_ext2_0 e4)
    · intro ax tx hs okx sm d0 d1
      have e4 : At (Ty.tup2 (Ty.lst Ty.ints (fromL (roundsL M) (halfL raw M odd K))) (Ty.int (0 : Int))) tx ax (.tmp 65) := d0 rfl
      exact run_plain rfl (y_ext2_1 e4)
    · intro ax tx hs okx sm d0 d1 d2 d3 d4 d5 d6 d7 d8
      have e5 : At (Ty.lst Ty.ints (fromL (roundsL M) (halfL raw M odd K))) tx ax (.tmp 70) := d0 rfl
      have e3 : At (Ty.tup2 (Ty.lst Ty.ints (fromL (roundsL M) (halfL raw M odd K))) (Ty.int (0 : Int))) tx ax (.tmp 69) := d1 rfl
      have e0 : At (Ty.nat M) tx ax (.tmp 66) := d2 rfl
      have e1 : At (Ty.lst Ty.ints (halfL raw M odd k)) tx ax (.tmp 67) := d3 rfl
      have e2 : At (Ty.agg [(Ty.val (Value.string (ByteArray.mk #[72, 97, 108, 102]))), (Ty.nat M), (Ty.lst Ty.ints (halfL raw M odd k))]) tx ax (.tmp 68) := d4 rfl
      have e4 : At (Ty.tup2 (Ty.lst Ty.ints (fromL (roundsL M) (halfL raw M odd K))) (Ty.int (0 : Int))) tx ax (.tmp 65) := d6 rfl
      exact run_plain rfl (y_assign e5)
    · intro ax tx hs okx sm d0 d1 d2 d3 d4 d5 d6 d7 d8 d9
      have e6 : At (Ty.int (0 : Int)) tx ax (.tmp 71) := d0 rfl
      have e7 : At (Ty.lst Ty.ints (fromL (roundsL M) (halfL raw M odd K))) tx ax (.tmp 13) := d1 rfl
      have e0 : At (Ty.nat M) tx ax (.tmp 66) := d2 rfl
      have e1 : At (Ty.lst Ty.ints (halfL raw M odd k)) tx ax (.tmp 67) := d3 rfl
      have e2 : At (Ty.agg [(Ty.val (Value.string (ByteArray.mk #[72, 97, 108, 102]))), (Ty.nat M), (Ty.lst Ty.ints (halfL raw M odd k))]) tx ax (.tmp 68) := d4 rfl
      have e3 : At (Ty.tup2 (Ty.lst Ty.ints (fromL (roundsL M) (halfL raw M odd K))) (Ty.int (0 : Int))) tx ax (.tmp 69) := d5 rfl
      have e4 : At (Ty.tup2 (Ty.lst Ty.ints (fromL (roundsL M) (halfL raw M odd K))) (Ty.int (0 : Int))) tx ax (.tmp 65) := d6 rfl
      have e5 : At (Ty.lst Ty.ints (fromL (roundsL M) (halfL raw M odd K))) tx ax (.tmp 70) := d7 rfl
      exact run_plain rfl (y_assign e6)
    intro a31 s27 D21
    have ok29 := D21.ok
    have F31 := F30.step0 D21.stp
    have q221 : At (Ty.lst Ty.ints (halfL raw M odd k)) s27 a31 (.tmp 9) := D21.kt q214 rfl
    have q222 : At (Ty.bool odd) s27 a31 (.tmp 3) := D21.kt q219 rfl
    have q223 : At (Ty.lst Ty.ints (fromL (roundsL M) (halfL raw M odd K))) s27 a31 (.tmp 13) := D21.done 7
    have q224 : At (Ty.int (0 : Int)) s27 a31 (.tmp 14) := D21.done 8
    clear D21
    refine tn ?_
    refine wp_seq ?_
    refine wp_seq ?_
    refine reg (a := a31) (σ := s27) rfl (fun i_ => List.getD [(Ty.pr (Ty.int (0 : Int))), (Ty.pr (Ty.bool (decide ((0 : Int) ≠ (0 : Int))))), (Ty.pr (Ty.bool (decide ((0 : Int) ≠ (0 : Int))))), (Ty.pr (Ty.grd ((decide ((0 : Int) ≠ (0 : Int))) = false) (Ty.lst Ty.ints (fromL (roundsL M) (halfL raw M odd K))))), (Ty.pr (Ty.grd ((decide ((0 : Int) ≠ (0 : Int))) = false) (Ty.nat (List.length (fromL (roundsL M) (halfL raw M odd K)))))), (Ty.pr (Ty.grd ((decide ((0 : Int) ≠ (0 : Int))) = false) (Ty.lst Ty.ints (halfL raw M odd k)))), (Ty.pr (Ty.grd ((decide ((0 : Int) ≠ (0 : Int))) = false) (Ty.nat (List.length (halfL raw M odd k))))), (Ty.pr (Ty.grd ((decide ((0 : Int) ≠ (0 : Int))) = false) (Ty.nat ((List.length (halfL raw M odd k)) + 1)))), (Ty.pr (Ty.grd ((decide ((0 : Int) ≠ (0 : Int))) = false) (Ty.bool (decide ((((List.length (fromL (roundsL M) (halfL raw M odd K))) : Nat) : Int) ≠ ((((List.length (halfL raw M odd k)) + 1) : Nat) : Int)))))), (Ty.pr (Ty.bool ((decide ((0 : Int) ≠ (0 : Int))) || (decide ((((List.length (fromL (roundsL M) (halfL raw M odd K))) : Nat) : Int) ≠ ((((List.length (halfL raw M odd k)) + 1) : Nat) : Int))))))] i_ Pr.any) ok29 rfl ⟨?_, ?_, ?_, ?_, ?_, ?_, ?_, ?_, ?_, ?_, trivial⟩ ?_
    · intro ax tx hs okx sm
      exact run_plain rfl (y_move (kp (sm 14 rfl) hs q224))
    · intro ax tx hs okx sm d0
      have e0 : At (Ty.int (0 : Int)) tx ax (.tmp 72) := d0 rfl
      exact run_plain rfl (y_neq e0 rfl)
    · intro ax tx hs okx sm d0
      have e1 : At (Ty.bool (decide ((0 : Int) ≠ (0 : Int)))) tx ax (.tmp 73) := d0 rfl
      exact run_plain rfl (y_move e1)
    · intro ax tx hs okx sm d0
      have e2 : At (Ty.bool (decide ((0 : Int) ≠ (0 : Int)))) tx ax (.tmp 74) := d0 rfl
      refine run_guard (T := (Ty.lst Ty.ints (fromL (roundsL M) (halfL raw M odd K)))) okx rfl rfl (by decide) e2 (fun hg => ?_)
      have hp := of_decide_eq_false hg
      exact y_move (kp (sm 13 rfl) hs q223)
    · intro ax tx hs okx sm d0 d1
      have e3 : At (Ty.grd ((decide ((0 : Int) ≠ (0 : Int))) = false) (Ty.lst Ty.ints (fromL (roundsL M) (halfL raw M odd K)))) tx ax (.tmp 75) := d0 rfl
      have e2 : At (Ty.bool (decide ((0 : Int) ≠ (0 : Int)))) tx ax (.tmp 74) := d1 rfl
      refine run_guard (T := (Ty.nat (List.length (fromL (roundsL M) (halfL raw M odd K))))) okx rfl rfl (by decide) e2 (fun hg => ?_)
      have hp := of_decide_eq_false hg
      exact y_len Try.underlying24 (e3.1 hg)
    · intro ax tx hs okx sm d0
      have e2 : At (Ty.bool (decide ((0 : Int) ≠ (0 : Int)))) tx ax (.tmp 74) := d0 rfl
      refine run_guard (T := (Ty.lst Ty.ints (halfL raw M odd k))) okx rfl rfl (by decide) e2 (fun hg => ?_)
      have hp := of_decide_eq_false hg
      exact y_move (kp (sm 9 rfl) hs q221)
    · intro ax tx hs okx sm d0 d1
      have e5 : At (Ty.grd ((decide ((0 : Int) ≠ (0 : Int))) = false) (Ty.lst Ty.ints (halfL raw M odd k))) tx ax (.tmp 77) := d0 rfl
      have e2 : At (Ty.bool (decide ((0 : Int) ≠ (0 : Int)))) tx ax (.tmp 74) := d1 rfl
      refine run_guard (T := (Ty.nat (List.length (halfL raw M odd k)))) okx rfl rfl (by decide) e2 (fun hg => ?_)
      have hp := of_decide_eq_false hg
      exact y_len Try.underlying24 (e5.1 hg)
    · intro ax tx hs okx sm d0 d1
      have e6 : At (Ty.grd ((decide ((0 : Int) ≠ (0 : Int))) = false) (Ty.nat (List.length (halfL raw M odd k)))) tx ax (.tmp 78) := d0 rfl
      have e2 : At (Ty.bool (decide ((0 : Int) ≠ (0 : Int)))) tx ax (.tmp 74) := d1 rfl
      refine run_guard (T := (Ty.nat ((List.length (halfL raw M odd k)) + 1))) okx rfl rfl (by decide) e2 (fun hg => ?_)
      have hp := of_decide_eq_false hg
      exact (y_add (e6.1 hg) rfl (w64 (by omega) (by omega))).mono (fun τ _ h => cvi (σ := τ) (by first | omega | exact (Int.natCast_mul _ _).symm) h)
    · intro ax tx hs okx sm d0 d1 d2
      have e4 : At (Ty.grd ((decide ((0 : Int) ≠ (0 : Int))) = false) (Ty.nat (List.length (fromL (roundsL M) (halfL raw M odd K))))) tx ax (.tmp 76) := d0 rfl
      have e7 : At (Ty.grd ((decide ((0 : Int) ≠ (0 : Int))) = false) (Ty.nat ((List.length (halfL raw M odd k)) + 1))) tx ax (.tmp 79) := d1 rfl
      have e2 : At (Ty.bool (decide ((0 : Int) ≠ (0 : Int)))) tx ax (.tmp 74) := d2 rfl
      refine run_guard (T := (Ty.bool (decide ((((List.length (fromL (roundsL M) (halfL raw M odd K))) : Nat) : Int) ≠ ((((List.length (halfL raw M odd k)) + 1) : Nat) : Int))))) okx rfl rfl (by decide) e2 (fun hg => ?_)
      have hp := of_decide_eq_false hg
      exact y_neq (e4.1 hg) (e7.1 hg)
    · intro ax tx hs okx sm d0 d1
      have e2 : At (Ty.bool (decide ((0 : Int) ≠ (0 : Int)))) tx ax (.tmp 74) := d0 rfl
      have e8 : At (Ty.grd ((decide ((0 : Int) ≠ (0 : Int))) = false) (Ty.bool (decide ((((List.length (fromL (roundsL M) (halfL raw M odd K))) : Nat) : Int) ≠ ((((List.length (halfL raw M odd k)) + 1) : Nat) : Int))))) tx ax (.tmp 80) := d1 rfl
      exact run_plain rfl (y_pick_or e2 rfl e8)
    intro a32 s28 D22
    have ok30 := D22.ok
    have F32 := F31.step0 D22.stp
    have q225 : At (Ty.bool odd) s28 a32 (.tmp 3) := D22.kt q222 rfl
    have q226 : At (Ty.lst Ty.ints (fromL (roundsL M) (halfL raw M odd K))) s28 a32 (.tmp 13) := D22.kt q223 rfl
    have q227 : At (Ty.bool ((decide ((0 : Int) ≠ (0 : Int))) || (decide ((((List.length (fromL (roundsL M) (halfL raw M odd K))) : Nat) : Int) ≠ ((((List.length (halfL raw M odd k)) + 1) : Nat) : Int))))) s28 a32 (.tmp 81) := D22.done 9
    clear D22
    refine tn ?_
    refine cond_t q227 (fun c6 => ?_) (fun c6 => ?_)
    ·
     exfalso
     simp only [Bool.or_eq_true, decide_eq_true_eq] at c6; omega
    ·
     obtain ⟨d3, d4⟩ := Bool.or_eq_false_iff.mp c6
     replace d3 := of_decide_eq_false d3
     replace d4 := of_decide_eq_false d4
     refine wp_skip ?_
     refine tn ?_
     refine wp_seq ?_
     refine wp_seq ?_
     refine reg (a := a32) (σ := s28) rfl (fun i_ => List.getD [(Ty.pr (Ty.int (0 : Int)))] i_ Pr.any) ok30 rfl ⟨?_, trivial⟩ ?_
     · intro ax tx hs okx sm
       exact run_plain rfl (y_assign rfl)
     intro a33 s29 D23
     have ok31 := D23.ok
     have F33 := F32.step0 D23.stp
     have q228 : At (Ty.bool odd) s29 a33 (.tmp 3) := D23.kt q225 rfl
     have q229 : At (Ty.lst Ty.ints (fromL (roundsL M) (halfL raw M odd K))) s29 a33 (.tmp 13) := D23.kt q226 rfl
     have q230 : At (Ty.int (0 : Int)) s29 a33 (.tmp 15) := D23.done 0
     clear D23
     refine tn ?_
     refine wp_block ?_
     refine loop (fun n5 a34 w5 => ∃ (t7 : GW) (i : Nat), t7.w = w5 ∧ From s0 t7 ∧ Ok 109 a34 ∧ At (Ty.nat i) t7 a34 (.tmp 15) ∧ At (Ty.bool odd) t7 a34 (.tmp 3) ∧ At (Ty.lst Ty.ints (fromL (roundsL M) (halfL raw M odd K))) t7 a34 (.tmp 13) ∧ (i ≤ (fromL (roundsL M) (halfL raw M odd K)).length) ∧ n5 = (fromL (roundsL M) (halfL raw M odd K)).length - i) ((fromL (roundsL M) (halfL raw M odd K)).length - (0)) ?_ ?_
     ·
      exact ⟨s29, 0, rfl, F33, ok31, (cvi (by (first | rfl | omega | (simp_all; done) | (simp_all; omega))) q230), q228, q229, by omega, rfl⟩
     ·
      rintro n6 a35 w6 ⟨t8, i, rfl, F34, ok32, q231, q232, q233, hk, rfl⟩
      refine wp_seq ?_
      refine wp_seq ?_
      refine reg (a := a35) (σ := t8) rfl (fun i_ => List.getD [(Ty.pr (Ty.nat i)), (Ty.pr (Ty.lst Ty.ints (fromL (roundsL M) (halfL raw M odd K)))), (Ty.pr (Ty.nat (List.length (fromL (roundsL M) (halfL raw M odd K))))), (Ty.pr (Ty.bool (decide (((i : Nat) : Int) < (((List.length (fromL (roundsL M) (halfL raw M odd K))) : Nat) : Int)))))] i_ Pr.any) ok32 rfl ⟨?_, ?_, ?_, ?_, trivial⟩ ?_
      · intro ax tx hs okx sm
        exact run_plain rfl (y_move (kp (sm 15 rfl) hs q231))
      · intro ax tx hs okx sm
        exact run_plain rfl (y_move (kp (sm 13 rfl) hs q233))
      · intro ax tx hs okx sm d0
        have e1 : At (Ty.lst Ty.ints (fromL (roundsL M) (halfL raw M odd K))) tx ax (.tmp 83) := d0 rfl
        exact run_plain rfl (y_len Try.underlying24 e1)
      · intro ax tx hs okx sm d0 d1
        have e0 : At (Ty.nat i) tx ax (.tmp 82) := d0 rfl
        have e2 : At (Ty.nat (List.length (fromL (roundsL M) (halfL raw M odd K)))) tx ax (.tmp 84) := d1 rfl
        exact run_plain rfl (y_lss e0 e2)
      intro a36 s30 D24
      have ok33 := D24.ok
      have F35 := F34.step0 D24.stp
      have q234 : At (Ty.nat i) s30 a36 (.tmp 15) := D24.kt q231 rfl
      have q235 : At (Ty.bool odd) s30 a36 (.tmp 3) := D24.kt q232 rfl
      have q236 : At (Ty.lst Ty.ints (fromL (roundsL M) (halfL raw M odd K))) s30 a36 (.tmp 13) := D24.kt q233 rfl
      have q237 : At (Ty.bool (decide (((i : Nat) : Int) < (((List.length (fromL (roundsL M) (halfL raw M odd K))) : Nat) : Int)))) s30 a36 (.tmp 85) := D24.done 3
      clear D24
      refine tn ?_
      refine cond_p (p := (((i : Nat) : Int) < (((List.length (fromL (roundsL M) (halfL raw M odd K))) : Nat) : Int))) q237 (fun c7 => ?_) (fun c7 => ?_)
      ·
       have hX : (fromL (roundsL M) (halfL raw M odd K)).getD i [] = curL (roundsL M) (halfL raw M odd K) i := fromL_get (by omega); have hsi := hsg i (by omega); have hrm := rowMay_ok.2 hsi.1
       refine wp_skip ?_
       refine tn ?_
       refine wp_seq ?_
       refine wp_block ?_
       refine wp_seq ?_
       refine reg (a := a36) (σ := s30) rfl (fun i_ => List.getD [(Ty.pr (Ty.lst Ty.ints (fromL (roundsL M) (halfL raw M odd K)))), (Ty.pr (Ty.nat i)), (Ty.pr (Ty.ref [(Ty.lst Ty.int ((fromL (roundsL M) (halfL raw M odd K)).getD i []))])), (Ty.pr (Ty.lst Ty.int ((fromL (roundsL M) (halfL raw M odd K)).getD i []))), (Ty.pr (Ty.tup3 (Ty.nat (ordL (curL (roundsL M) (halfL raw M odd K) i))) (Ty.bool (odd && decide (((i % 2 : Nat) : Int) = (1 : Int)))) (Ty.int (0 : Int)))), (Ty.pr (Ty.tup3 (Ty.nat (ordL (curL (roundsL M) (halfL raw M odd K) i))) (Ty.bool (odd && decide (((i % 2 : Nat) : Int) = (1 : Int)))) (Ty.int (0 : Int)))), (Ty.pr (Ty.nat (ordL (curL (roundsL M) (halfL raw M odd K) i)))), (Ty.pr (Ty.bool (odd && decide (((i % 2 : Nat) : Int) = (1 : Int))))), (Ty.pr (Ty.int (0 : Int))), (Ty.pr (Ty.nat (ordL (curL (roundsL M) (halfL raw M odd K) i)))), (Ty.pr (Ty.bool (odd && decide (((i % 2 : Nat) : Int) = (1 : Int))))), (Ty.pr (Ty.int (0 : Int)))] i_ Pr.any) ok33 rfl ⟨?_, ?_, ?_, ?_, ?_, ?_, ?_, ?_, ?_, ?_, ?_, ?_, trivial⟩ ?_
       · intro ax tx hs okx sm
         exact run_plain rfl (y_move (kp (sm 13 rfl) hs q236))
       · intro ax tx hs okx sm
         exact run_plain rfl (y_move (kp (sm 15 rfl) hs q234))
       · intro ax tx hs okx sm d0 d1
         have e0 : At (Ty.lst Ty.ints (fromL (roundsL M) (halfL raw M odd K))) tx ax (.tmp 89) := d0 rfl
         have e1 : At (Ty.nat i) tx ax (.tmp 90) := d1 rfl
         exact run_plain rfl (y_index1 Try.underlying24 Try.inf22 e0 e1 (by omega) (lst_get Ty.ints (fromL (roundsL M) (halfL raw M odd K)) [] i (by omega)))
       · intro ax tx hs okx sm d0
         have e2 : At (Ty.ref [(Ty.lst Ty.int ((fromL (roundsL M) (halfL raw M odd K)).getD i []))]) tx ax (.tmp 91) := d0 rfl
         exact run_plain rfl (y_load Try.underlying22 rfl e2 rfl)
       · intro ax tx hs okx sm d0
         have e3 : At (Ty.lst Ty.int ((fromL (roundsL M) (halfL raw M odd K)).getD i [])) tx ax (.tmp 92) := d0 rfl
         exact run_plain rfl ((y_call #[ax.eval (.tmp 92)] Try.func12 rfl rfl (by simp only [List.map_toArray, List.map_cons, List.map_nil]) (order_fn (((fromL (roundsL M) (halfL raw M odd K)).getD i [])) _ _ e3 )).mono (fun τ _ h => cvt (σ := τ) (T := (Ty.tup3 (Ty.nat (if rowMay (((fromL (roundsL M) (halfL raw M odd K)).getD i [])) = 0 then ordL (((fromL (roundsL M) (halfL raw M odd K)).getD i [])) else 0)) (Ty.bool (if rowMay (((fromL (roundsL M) (halfL raw M odd K)).getD i [])) = 0 then oddL (((fromL (roundsL M) (halfL raw M odd K)).getD i [])) else false)) (Ty.int (rowMay (((fromL (roundsL M) (halfL raw M odd K)).getD i [])))))) (U := (Ty.tup3 (Ty.nat (ordL (curL (roundsL M) (halfL raw M odd K) i))) (Ty.bool (odd && decide (((i % 2 : Nat) : Int) = (1 : Int)))) (Ty.int (0 : Int)))) (by rw [hX, if_pos hrm, if_pos hrm, hrm, hsi.2]) h))
       · intro ax tx hs okx sm d0
         have e4 : At (Ty.tup3 (Ty.nat (ordL (curL (roundsL M) (halfL raw M odd K) i))) (Ty.bool (odd && decide (((i % 2 : Nat) : Int) = (1 : Int)))) (Ty.int (0 : Int))) tx ax (.tmp 93) := d0 rfl
         exact run_plain rfl (y_move e4)
       · intro ax tx hs okx sm d0
         have e5 : At (Ty.tup3 (Ty.nat (ordL (curL (roundsL M) (halfL raw M odd K) i))) (Ty.bool (odd && decide (((i % 2 : Nat) : Int) = (1 : Int)))) (Ty.int (0 : Int))) tx ax (.tmp 88) := d0 rfl
         exact run_plain rfl (y_ext3_0 e5)
       · intro ax tx hs okx sm d0 d1
         have e5 : At (Ty.tup3 (Ty.nat (ordL (curL (roundsL M) (halfL raw M odd K) i))) (Ty.bool (odd && decide (((i % 2 : Nat) : Int) = (1 : Int)))) (Ty.int (0 : Int))) tx ax (.tmp 88) := d0 rfl
         exact run_plain rfl (y_ext3_1 e5)
       · intro ax tx hs okx sm d0 d1
         have e5 : At (Ty.tup3 (Ty.nat (ordL (curL (roundsL M) (halfL raw M odd K) i))) (Ty.bool (odd && decide (((i % 2 : Nat) : Int) = (1 : Int)))) (Ty.int (0 : Int))) tx ax (.tmp 88) := d0 rfl
         exact run_plain rfl (y_ext3_2 e5)
       · intro ax tx hs okx sm d0 d1 d2 d3 d4 d5 d6 d7 d8 d9 d10
         have e6 : At (Ty.nat (ordL (curL (roundsL M) (halfL raw M odd K) i))) tx ax (.tmp 94) := d0 rfl
         have e4 : At (Ty.tup3 (Ty.nat (ordL (curL (roundsL M) (halfL raw M odd K) i))) (Ty.bool (odd && decide (((i % 2 : Nat) : Int) = (1 : Int)))) (Ty.int (0 : Int))) tx ax (.tmp 93) := d1 rfl
         have e0 : At (Ty.lst Ty.ints (fromL (roundsL M) (halfL raw M odd K))) tx ax (.tmp 89) := d2 rfl
         have e1 : At (Ty.nat i) tx ax (.tmp 90) := d3 rfl
         have e2 : At (Ty.ref [(Ty.lst Ty.int ((fromL (roundsL M) (halfL raw M odd K)).getD i []))]) tx ax (.tmp 91) := d4 rfl
         have e3 : At (Ty.lst Ty.int ((fromL (roundsL M) (halfL raw M odd K)).getD i [])) tx ax (.tmp 92) := d5 rfl
         have e5 : At (Ty.tup3 (Ty.nat (ordL (curL (roundsL M) (halfL raw M odd K) i))) (Ty.bool (odd && decide (((i % 2 : Nat) : Int) = (1 : Int)))) (Ty.int (0 : Int))) tx ax (.tmp 88) := d7 rfl
         exact run_plain rfl (y_assign e6)
       · intro ax tx hs okx sm d0 d1 d2 d3 d4 d5 d6 d7 d8 d9 d10 d11
         have e7 : At (Ty.bool (odd && decide (((i % 2 : Nat) : Int) = (1 : Int)))) tx ax (.tmp 95) := d0 rfl
         have e9 : At (Ty.nat (ordL (curL (roundsL M) (halfL raw M odd K) i))) tx ax (.tmp 16) := d1 rfl
         have e0 : At (Ty.lst Ty.ints (fromL (roundsL M) (halfL raw M odd K))) tx ax (.tmp 89) := d2 rfl
         have e1 : At (Ty.nat i) tx ax (.tmp 90) := d3 rfl
         have e2 : At (Ty.ref [(Ty.lst Ty.int ((fromL (roundsL M) (halfL raw M odd K)).getD i []))]) tx ax (.tmp 91) := d4 rfl
         have e3 : At (Ty.lst Ty.int ((fromL (roundsL M) (halfL raw M odd K)).getD i [])) tx ax (.tmp 92) := d5 rfl
         have e4 : At (Ty.tup3 (Ty.nat (ordL (curL (roundsL M) (halfL raw M odd K) i))) (Ty.bool (odd && decide (((i % 2 : Nat) : Int) = (1 : Int)))) (Ty.int (0 : Int))) tx ax (.tmp 93) := d6 rfl
         have e5 : At (Ty.tup3 (Ty.nat (ordL (curL (roundsL M) (halfL raw M odd K) i))) (Ty.bool (odd && decide (((i % 2 : Nat) : Int) = (1 : Int)))) (Ty.int (0 : Int))) tx ax (.tmp 88) := d7 rfl
         have e6 : At (Ty.nat (ordL (curL (roundsL M) (halfL raw M odd K) i))) tx ax (.tmp 94) := d8 rfl
         exact run_plain rfl (y_assign e7)
       · intro ax tx hs okx sm d0 d1 d2 d3 d4 d5 d6 d7 d8 d9 d10 d11 d12
         have e8 : At (Ty.int (0 : Int)) tx ax (.tmp 96) := d0 rfl
         have e10 : At (Ty.bool (odd && decide (((i % 2 : Nat) : Int) = (1 : Int)))) tx ax (.tmp 17) := d1 rfl
         have e0 : At (Ty.lst Ty.ints (fromL (roundsL M) (halfL raw M odd K))) tx ax (.tmp 89) := d2 rfl
         have e1 : At (Ty.nat i) tx ax (.tmp 90) := d3 rfl
         have e2 : At (Ty.ref [(Ty.lst Ty.int ((fromL (roundsL M) (halfL raw M odd K)).getD i []))]) tx ax (.tmp 91) := d4 rfl
         have e3 : At (Ty.lst Ty.int ((fromL (roundsL M) (halfL raw M odd K)).getD i [])) tx ax (.tmp 92) := d5 rfl
         have e4 : At (Ty.tup3 (Ty.nat (ordL (curL (roundsL M) (halfL raw M odd K) i))) (Ty.bool (odd && decide (((i % 2 : Nat) : Int) = (1 : Int)))) (Ty.int (0 : Int))) tx ax (.tmp 93) := d6 rfl
         have e5 : At (Ty.tup3 (Ty.nat (ordL (curL (roundsL M) (halfL raw M odd K) i))) (Ty.bool (odd && decide (((i % 2 : Nat) : Int) = (1 : Int)))) (Ty.int (0 : Int))) tx ax (.tmp 88) := d7 rfl
         have e6 : At (Ty.nat (ordL (curL (roundsL M) (halfL raw M odd K) i))) tx ax (.tmp 94) := d8 rfl
         have e7 : At (Ty.bool (odd && decide (((i % 2 : Nat) : Int) = (1 : Int)))) tx ax (.tmp 95) := d9 rfl
         have e9 : At (Ty.nat (ordL (curL (roundsL M) (halfL raw M odd K) i))) tx ax (.tmp 16) := d11 rfl
         exact run_plain rfl (y_assign e8)
       intro a37 s31 D25
       have ok34 := D25.ok
       have F36 := F35.step0 D25.stp
       have q238 : At (Ty.nat i) s31 a37 (.tmp 15) := D25.kt q234 rfl
       have q239 : At (Ty.bool odd) s31 a37 (.tmp 3) := D25.kt q235 rfl
       have q240 : At (Ty.lst Ty.ints (fromL (roundsL M) (halfL raw M odd K))) s31 a37 (.tmp 13) := D25.kt q236 rfl
       have q241 : At (Ty.bool (odd && decide (((i % 2 : Nat) : Int) = (1 : Int)))) s31 a37 (.tmp 17) := D25.done 10
       have q242 : At (Ty.int (0 : Int)) s31 a37 (.tmp 18) := D25.done 11
       clear D25
       refine tn ?_
       refine wp_seq ?_
       refine reg (a := a37) (σ := s31) rfl (fun i_ => List.getD [(Ty.pr (Ty.int (0 : Int))), (Ty.pr (Ty.bool (decide ((0 : Int) ≠ (0 : Int))))), (Ty.pr (Ty.bool (decide ((0 : Int) ≠ (0 : Int))))), (Ty.pr (Ty.grd ((decide ((0 : Int) ≠ (0 : Int))) = false) (Ty.bool (odd && decide (((i % 2 : Nat) : Int) = (1 : Int)))))), (Ty.pr (Ty.grd ((decide ((0 : Int) ≠ (0 : Int))) = false) (Ty.bool odd))), (Ty.pr (Ty.grd ((decide ((0 : Int) ≠ (0 : Int))) = false) (Ty.bool odd))), (Ty.pr (Ty.grd (((decide ((0 : Int) ≠ (0 : Int))) = false) ∧ odd = true) (Ty.nat i))), (Ty.pr (Ty.grd (((decide ((0 : Int) ≠ (0 : Int))) = false) ∧ odd = true) (Ty.nat (i % 2)))), (Ty.pr (Ty.grd (((decide ((0 : Int) ≠ (0 : Int))) = false) ∧ odd = true) (Ty.bool (decide ((((i % 2) : Nat) : Int) = (1 : Int)))))), (Ty.pr (Ty.grd ((decide ((0 : Int) ≠ (0 : Int))) = false) (Ty.bool (odd && (decide ((((i % 2) : Nat) : Int) = (1 : Int))))))), (Ty.pr (Ty.grd ((decide ((0 : Int) ≠ (0 : Int))) = false) (Ty.bool ((odd && decide (((i % 2 : Nat) : Int) = (1 : Int))) != (odd && (decide ((((i % 2) : Nat) : Int) = (1 : Int)))))))), (Ty.pr (Ty.bool ((decide ((0 : Int) ≠ (0 : Int))) || ((odd && decide (((i % 2 : Nat) : Int) = (1 : Int))) != (odd && (decide ((((i % 2) : Nat) : Int) = (1 : Int))))))))] i_ Pr.any) ok34 rfl ⟨?_, ?_, ?_, ?_, ?_, ?_, ?_, ?_, ?_, ?_, ?_, ?_, trivial⟩ ?_
       · intro ax tx hs okx sm
         exact run_plain rfl (y_move (kp (sm 18 rfl) hs q242))
       · intro ax tx hs okx sm d0
         have e0 : At (Ty.int (0 : Int)) tx ax (.tmp 97) := d0 rfl
         exact run_plain rfl (y_neq e0 rfl)
       · intro ax tx hs okx sm d0
         have e1 : At (Ty.bool (decide ((0 : Int) ≠ (0 : Int)))) tx ax (.tmp 98) := d0 rfl
         exact run_plain rfl (y_move e1)
       · intro ax tx hs okx sm d0
         have e2 : At (Ty.bool (decide ((0 : Int) ≠ (0 : Int)))) tx ax (.tmp 99) := d0 rfl
         refine run_guard (T := (Ty.bool (odd && decide (((i % 2 : Nat) : Int) = (1 : Int))))) okx rfl rfl (by decide) e2 (fun hg => ?_)
         have hp := of_decide_eq_false hg
         exact y_move (kp (sm 17 rfl) hs q241)
       · intro ax tx hs okx sm d0
         have e2 : At (Ty.bool (decide ((0 : Int) ≠ (0 : Int)))) tx ax (.tmp 99) := d0 rfl
         refine run_guard (T := (Ty.bool odd)) okx rfl rfl (by decide) e2 (fun hg => ?_)
         have hp := of_decide_eq_false hg
         exact y_move (kp (sm 3 rfl) hs q239)
       · intro ax tx hs okx sm d0 d1 d2
         have e4 : At (Ty.grd ((decide ((0 : Int) ≠ (0 : Int))) = false) (Ty.bool odd)) tx ax (.tmp 101) := d0 rfl
         have e2 : At (Ty.bool (decide ((0 : Int) ≠ (0 : Int)))) tx ax (.tmp 99) := d1 rfl
         refine run_guard (T := (Ty.bool odd)) okx rfl rfl (by decide) e2 (fun hg => ?_)
         have hp := of_decide_eq_false hg
         exact y_move (e4.1 hg)
       · intro ax tx hs okx sm d0
         have e5 : At (Ty.grd ((decide ((0 : Int) ≠ (0 : Int))) = false) (Ty.bool odd)) tx ax (.tmp 102) := d0 rfl
         refine run_guard2 (T := (Ty.nat i)) okx rfl rfl (by decide) e5 (fun hg => ?_)
         exact y_move (kp (sm 15 rfl) hs q238)
       · intro ax tx hs okx sm d0 d1
         have e6 : At (Ty.grd (((decide ((0 : Int) ≠ (0 : Int))) = false) ∧ odd = true) (Ty.nat i)) tx ax (.tmp 103) := d0 rfl
         have e5 : At (Ty.grd ((decide ((0 : Int) ≠ (0 : Int))) = false) (Ty.bool odd)) tx ax (.tmp 102) := d1 rfl
         refine run_guard2 (T := (Ty.nat (i % 2))) okx rfl rfl (by decide) e5 (fun hg => ?_)
         exact y_remN (e6.1 hg) (toN (σ := tx) rfl (by omega)) (by omega)
       · intro ax tx hs okx sm d0 d1
         have e7 : At (Ty.grd (((decide ((0 : Int) ≠ (0 : Int))) = false) ∧ odd = true) (Ty.nat (i % 2))) tx ax (.tmp 104) := d0 rfl
         have e5 : At (Ty.grd ((decide ((0 : Int) ≠ (0 : Int))) = false) (Ty.bool odd)) tx ax (.tmp 102) := d1 rfl
         refine run_guard2 (T := (Ty.bool (decide ((((i % 2) : Nat) : Int) = (1 : Int))))) okx rfl rfl (by decide) e5 (fun hg => ?_)
         exact y_eql (e7.1 hg) rfl
       · intro ax tx hs okx sm d0 d1 d2
         have e5 : At (Ty.grd ((decide ((0 : Int) ≠ (0 : Int))) = false) (Ty.bool odd)) tx ax (.tmp 102) := d0 rfl
         have e8 : At (Ty.grd (((decide ((0 : Int) ≠ (0 : Int))) = false) ∧ odd = true) (Ty.bool (decide ((((i % 2) : Nat) : Int) = (1 : Int))))) tx ax (.tmp 105) := d1 rfl
         have e2 : At (Ty.bool (decide ((0 : Int) ≠ (0 : Int)))) tx ax (.tmp 99) := d2 rfl
         refine run_guard (T := (Ty.bool (odd && (decide ((((i % 2) : Nat) : Int) = (1 : Int)))))) okx rfl rfl (by decide) e2 (fun hg => ?_)
         have hp := of_decide_eq_false hg
         exact y_pick_and (e5.1 hg) (grd_part hg e8) rfl
       · intro ax tx hs okx sm d0 d1 d2
         have e3 : At (Ty.grd ((decide ((0 : Int) ≠ (0 : Int))) = false) (Ty.bool (odd && decide (((i % 2 : Nat) : Int) = (1 : Int))))) tx ax (.tmp 100) := d0 rfl
         have e9 : At (Ty.grd ((decide ((0 : Int) ≠ (0 : Int))) = false) (Ty.bool (odd && (decide ((((i % 2) : Nat) : Int) = (1 : Int)))))) tx ax (.tmp 106) := d1 rfl
         have e2 : At (Ty.bool (decide ((0 : Int) ≠ (0 : Int)))) tx ax (.tmp 99) := d2 rfl
         refine run_guard (T := (Ty.bool ((odd && decide (((i % 2 : Nat) : Int) = (1 : Int))) != (odd && (decide ((((i % 2) : Nat) : Int) = (1 : Int))))))) okx rfl rfl (by decide) e2 (fun hg => ?_)
         have hp := of_decide_eq_false hg
         exact y_neqB Try.underlying4 (e3.1 hg) (e9.1 hg)
       · intro ax tx hs okx sm d0 d1
         have e2 : At (Ty.bool (decide ((0 : Int) ≠ (0 : Int)))) tx ax (.tmp 99) := d0 rfl
         have e10 : At (Ty.grd ((decide ((0 : Int) ≠ (0 : Int))) = false) (Ty.bool ((odd && decide (((i % 2 : Nat) : Int) = (1 : Int))) != (odd && (decide ((((i % 2) : Nat) : Int) = (1 : Int))))))) tx ax (.tmp 107) := d1 rfl
         exact run_plain rfl (y_pick_or e2 rfl e10)
       intro a38 s32 D26
       have ok35 := D26.ok
       have F37 := F36.step0 D26.stp
       have q243 : At (Ty.nat i) s32 a38 (.tmp 15) := D26.kt q238 rfl
       have q244 : At (Ty.bool odd) s32 a38 (.tmp 3) := D26.kt q239 rfl
       have q245 : At (Ty.lst Ty.ints (fromL (roundsL M) (halfL raw M odd K))) s32 a38 (.tmp 13) := D26.kt q240 rfl
       have q246 : At (Ty.bool ((decide ((0 : Int) ≠ (0 : Int))) || ((odd && decide (((i % 2 : Nat) : Int) = (1 : Int))) != (odd && (decide ((((i % 2) : Nat) : Int) = (1 : Int))))))) s32 a38 (.tmp 108) := D26.done 11
       clear D26
       refine tn ?_
       refine cond_t q246 (fun c8 => ?_) (fun c8 => ?_)
       ·
        exfalso
        simp at c8
       ·
        obtain ⟨d5, d6⟩ := Bool.or_eq_false_iff.mp c8
        replace d5 := of_decide_eq_false d5
        refine wp_skip ?_
        refine bn ?_
        refine tn ?_
        refine reg (a := a38) (σ := s32) rfl (fun i_ => List.getD [(Ty.pr (Ty.nat i)), (Ty.pr (Ty.nat (i + 1))), (Ty.pr (Ty.nat (i + 1)))] i_ Pr.any) ok35 rfl ⟨?_, ?_, ?_, trivial⟩ ?_
        · intro ax tx hs okx sm
          exact run_plain rfl (y_move (kp (sm 15 rfl) hs q243))
        · intro ax tx hs okx sm d0
          have e0 : At (Ty.nat i) tx ax (.tmp 86) := d0 rfl
          exact run_plain rfl ((y_add e0 rfl (w64 (by omega) (by omega))).mono (fun τ _ h => cvi (σ := τ) (by first | omega | exact (Int.natCast_mul _ _).symm) h))
        · intro ax tx hs okx sm d0 d1 d2
          have e1 : At (Ty.nat (i + 1)) tx ax (.tmp 87) := d0 rfl
          have e0 : At (Ty.nat i) tx ax (.tmp 86) := d1 rfl
          exact run_plain rfl (y_assign e1)
        intro a39 s33 D27
        have ok36 := D27.ok
        have F38 := F37.step0 D27.stp
        have q247 : At (Ty.bool odd) s33 a39 (.tmp 3) := D27.kt q244 rfl
        have q248 : At (Ty.lst Ty.ints (fromL (roundsL M) (halfL raw M odd K))) s33 a39 (.tmp 13) := D27.kt q245 rfl
        have q249 : At (Ty.nat (i + 1)) s33 a39 (.tmp 15) := D27.done 2
        clear D27
        exact tn ⟨(fromL (roundsL M) (halfL raw M odd K)).length - ((i+1)), by omega, s33, (i+1), rfl, F38, ok36, (cvi (by (first | rfl | omega | (simp_all; done) | (simp_all; omega))) q249), q247, q248, by omega, rfl⟩
      ·
       refine wp_exit ?_
       refine tx ?_
       refine tx ?_
       refine bx ?_
       refine tn ?_
       refine wp_seq ?_
       refine reg (a := a36) (σ := s30) rfl (fun i_ => List.getD [(Ty.pr (Ty.bool true))] i_ Pr.any) ok33 rfl ⟨?_, trivial⟩ ?_
       · intro ax tx hs okx sm
         exact run_plain rfl (y_assign rfl)
       intro a40 s34 D28
       have ok37 := D28.ok
       have F39 := F35.step0 D28.stp
       have q250 : At (Ty.bool true) s34 a40 (.tmp 8) := D28.done 0
       clear D28
       refine tn ?_
       refine wp_ret ?_
       exact ret1 rfl ok37 F39 q250


end Go.Proofs.Ytmdaialaphkhfag
