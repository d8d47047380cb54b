/- The functions that the law TruthMade reaches, each by its contract. Part 5. -/
import Derived.Test.YtbilebfnanlgfaaTruthMadeW4
namespace Go.Proofs.Ytbilebfnanlgfaa
open Go.KL

set_option maxRecDepth 100000 in
theorem index_fn (xs : List Int) (x : Int) (σ : GW) (v0 v1 : Value) (hv0 : Ty.has (Ty.lst Ty.int xs) σ v0) (hv1 : Ty.has (Ty.int x) σ v1)  :
    FnC Try.prog 130 #[v0, v1] σ (Ty.int (indexL xs x)) := by
 refine fn_intro Try.func130 rfl Try.ntmps130 (Nat.le_of_ble_eq_true rfl) (fun s0 a0 hle F0 ok0 hargs => ?_)
 have p0 : At (Ty.lst Ty.int xs) s0 a0 (.tmp 0) := by have e := hargs 0 _ rfl; show Ty.has _ _ _; rw [e]; exact Ty.up _ hle hv0
 have b1 := sl_le p0
 have p1 : At (Ty.int x) s0 a0 (.tmp 1) := by have e := hargs 1 _ rfl; show Ty.has _ _ _; rw [e]; exact Ty.up _ hle hv1
 clear hargs; refine wp_seq ?_
 refine rg a0 s0 [(Ty.int (0 : Int))] ok0 ⟨?_, trivial⟩ ?_
 · intro A B G H I; exact rP (y_assign rfl)
 intro a1 s1 D1; have ok1 := D1.ok; have F1 := F0.step0 D1.stp; have q1 := D1.kt p0 rfl; have q2 := D1.kt p1 rfl; clear D1; refine tn ?_; refine wp_seq ?_; refine wp_seq ?_
 refine rg a1 s1 [(Ty.lst Ty.int xs), (Ty.nat (List.length xs)), (Ty.int (0 : Int))] ok1 ⟨?_, ?_, ?_, trivial⟩ ?_
 · intro A B G H I; exact rP (y_move (kp (I 0 rfl) G q1))
 · intro A B G H I d0; exact rP (y_len Try.underlying23 (ed d0 rfl rfl rfl))
 · intro A B G H I; exact rP (y_move rfl)
 intro a2 s2 D2; have ok2 := D2.ok; have F2 := F1.step0 D2.stp; have q3 := D2.kt q1 rfl; have q4 := D2.kt q2 rfl; have q5 := D2.dn 1 rfl rfl; have q6 := D2.dn 2 rfl rfl; clear D2; refine tn ?_; refine wp_block ?_
 refine loop (fun n1 a3 w1 => ∃ (t1 : GW) (k : Nat), t1.w = w1 ∧ From s0 t1 ∧ Ok 19 a3 ∧ At (Ty.nat k) t1 a3 (.tmp 8) ∧ At (Ty.lst Ty.int xs) t1 a3 (.tmp 0) ∧ At (Ty.int x) t1 a3 (.tmp 1) ∧ At (Ty.nat (List.length xs)) t1 a3 (.tmp 7) ∧ (k ≤ xs.length) ∧ (∀ j, j < k → xs.getD j 0 ≠ x) ∧ n1 = xs.length - k) (xs.length - (0)) ?_ ?_
 ·
  exact ⟨s2, 0, rfl, F2, ok2, (cvi (by (first | rfl | omega | (simp_all; done) | (simp_all; omega))) q6), q3, q4, q5, by omega, fun j hj => absurd hj (Nat.not_lt_zero j), rfl⟩
 ·
  rintro n2 a4 w2 ⟨t2, k, rfl, F3, ok3, q7, q8, q9, q10, hk, hno, rfl⟩
  refine wp_seq ?_
  refine reg (a := a4) (σ := t2) rfl (fun i_ => List.getD [(Ty.pr (Ty.bool (decide (((k : Nat) : Int) < (((List.length xs) : Nat) : Int)))))] i_ Pr.any) ok3 rfl ⟨?_, trivial⟩ ?_
  · intro A B G H I; exact rP (y_lss (kp (I 8 rfl) G q7) (kp (I 7 rfl) G q10))
  intro a5 s3 D3; have ok4 := D3.ok; have F4 := F3.step0 D3.stp; have q11 := D3.kt q7 rfl; have q12 := D3.kt q8 rfl; have q13 := D3.kt q9 rfl; have q14 := D3.kt q10 rfl; have q15 := D3.dn 0 rfl rfl; clear D3; refine tn ?_; refine wp_seq ?_
  refine cond_p (p := (((k : Nat) : Int) < (((List.length xs) : Nat) : Int))) q15 (fun c1 => ?_) (fun c1 => ?_)
  ·
   refine wp_skip ?_; refine tn ?_; refine wp_seq ?_; refine wp_block ?_; refine wp_seq ?_
   refine rg a5 s3 [(Ty.nat k), (Ty.nat k)] ok4 ⟨?_, ?_, trivial⟩ ?_
   · intro A B G H I; exact rP (y_move (kp (I 8 rfl) G q11))
   · intro A B G H I d0 d1; exact rP (y_assign (ed d0 rfl rfl rfl))
   intro a6 s4 D4; have ok5 := D4.ok; have F5 := F4.step0 D4.stp; have q16 := D4.kt q11 rfl; have q17 := D4.kt q12 rfl; have q18 := D4.kt q13 rfl; have q19 := D4.kt q14 rfl; have q20 := D4.dn 1 rfl rfl; clear D4; refine tn ?_; refine wp_seq ?_
   refine rg a6 s4 [(Ty.int x), (Ty.lst Ty.int xs), (Ty.nat k), (Ty.ref [(Ty.int (xs.getD k 0))]), (Ty.int (xs.getD k 0)), (Ty.bool (decide (x = (xs.getD k 0))))] ok5 ⟨?_, ?_, ?_, ?_, ?_, ?_, trivial⟩ ?_
   · intro A B G H I; exact rP (y_move (kp (I 1 rfl) G q18))
   · intro A B G H I; exact rP (y_move (kp (I 0 rfl) G q17))
   · intro A B G H I; exact rP (y_move (kp (I 5 rfl) G q20))
   · intro A B G H I d0 d1; exact rP (y_index1 Try.underlying23 Try.inf3 (ed d0 rfl rfl rfl) (ed d1 rfl rfl rfl) (by omega) (lst_get Ty.int xs 0 k (by omega)))
   · intro A B G H I d0; exact rP (y_load Try.underlying3 rfl (ed d0 rfl rfl rfl) rfl)
   · intro A B G H I d0 d1; exact rP (y_eql (ed d0 rfl rfl rfl) (ed d1 rfl rfl rfl))
   intro a7 s5 D5; have ok6 := D5.ok; have F6 := F5.step0 D5.stp; have q21 := D5.kt q16 rfl; have q22 := D5.kt q17 rfl; have q23 := D5.kt q18 rfl; have q24 := D5.kt q19 rfl; have q25 := D5.kt q20 rfl; have q26 := D5.dn 5 rfl rfl; clear D5; refine tn ?_
   refine cond_p (p := (x = (xs.getD k 0))) q26 (fun c2 => ?_) (fun c2 => ?_)
   ·
    refine wp_seq ?_
    refine rg a7 s5 [(Ty.nat k), (Ty.nat k)] ok6 ⟨?_, ?_, trivial⟩ ?_
    · intro A B G H I; exact rP (y_move (kp (I 5 rfl) G q25))
    · intro A B G H I d0 d1; exact rP (y_assign (ed d0 rfl rfl rfl))
    intro a8 s6 D6; have ok7 := D6.ok; have F7 := F6.step0 D6.stp; have q27 := D6.dn 1 rfl rfl; clear D6; refine tn ?_; refine wp_ret ?_; refine br ?_; refine tr ?_; refine tr ?_; refine br ?_; refine tr ?_
    exact ret1 rfl ok7 F7 (cvi (by (exact (indexL_yes (by omega) (by assumption) hno).symm)) q27)
   ·
    refine wp_skip ?_; refine bn ?_; refine tn ?_
    refine rg a7 s5 [(Ty.int (((k : Nat) : Int) + (1 : Int))), (Ty.int (((k : Nat) : Int) + (1 : Int)))] ok6 ⟨?_, ?_, trivial⟩ ?_
    · intro A B G H I; exact rP (y_add (kp (I 8 rfl) G q21) rfl (w64 (by omega) (by omega)))
    · intro A B G H I d0; exact rP (y_move (ed d0 rfl rfl rfl))
    intro a9 s7 D7; have ok8 := D7.ok; have F8 := F6.step0 D7.stp; have q28 := D7.kt q22 rfl; have q29 := D7.kt q23 rfl; have q30 := D7.kt q24 rfl; have q31 := D7.dn 1 rfl rfl; clear D7
    exact tn ⟨xs.length - ((k+1)), by omega, s7, (k+1), rfl, F8, ok8, (cvi (by (first | rfl | omega | (simp_all; done) | (simp_all; omega))) q31), q28, q29, q30, by omega, fun j hj => by (by_cases e : j = k; subst e; exact fun h => c2 h.symm; exact hno j (by omega)), rfl⟩
  ·
   refine wp_exit ?_; refine tx ?_; refine tx ?_; refine bx ?_; refine tn ?_; refine wp_seq ?_
   refine rg a5 s3 [(Ty.int (-1 : Int))] ok4 ⟨?_, trivial⟩ ?_
   · intro A B G H I; exact rP (y_assign rfl)
   intro a10 s8 D8; have ok9 := D8.ok; have F9 := F4.step0 D8.stp; have q32 := D8.dn 0 rfl rfl; clear D8; refine tn ?_; refine wp_ret ?_
   exact ret1 rfl ok9 F9 (cvi (by (exact (indexL_no (fun j hj => hno j (by omega))).symm)) q32)


set_option maxRecDepth 100000 in
theorem contains_fn (xs : List Int) (x : Int) (σ : GW) (v0 v1 : Value) (hv0 : Ty.has (Ty.lst Ty.int xs) σ v0) (hv1 : Ty.has (Ty.int x) σ v1)  :
    FnC Try.prog 118 #[v0, v1] σ (Ty.bool (decide (x ∈ xs))) := by
 refine fn_intro Try.func118 rfl Try.ntmps118 (Nat.le_of_ble_eq_true rfl) (fun s0 a0 hle F0 ok0 hargs => ?_)
 have p0 : At (Ty.lst Ty.int xs) s0 a0 (.tmp 0) := by have e := hargs 0 _ rfl; show Ty.has _ _ _; rw [e]; exact Ty.up _ hle hv0
 have b1 := sl_le p0
 have p1 : At (Ty.int x) s0 a0 (.tmp 1) := by have e := hargs 1 _ rfl; show Ty.has _ _ _; rw [e]; exact Ty.up _ hle hv1
 clear hargs; refine wp_seq ?_
 refine rg a0 s0 [(Ty.bool false)] ok0 ⟨?_, trivial⟩ ?_
 · intro A B G H I; exact rP (y_assign rfl)
 intro a1 s1 D1; have ok1 := D1.ok; have F1 := F0.step0 D1.stp; have q1 := D1.kt p0 rfl; have q2 := D1.kt p1 rfl; clear D1; refine tn ?_; refine wp_seq ?_
 refine rg a1 s1 [(Ty.lst Ty.int xs), (Ty.int x), (Ty.int (indexL xs x)), (Ty.bool (decide ((0 : Int) ≤ (indexL xs x)))), (Ty.bool (decide ((0 : Int) ≤ (indexL xs x))))] ok1 ⟨?_, ?_, ?_, ?_, ?_, trivial⟩ ?_
 · intro A B G H I; exact rP (y_move (kp (I 0 rfl) G q1))
 · intro A B G H I; exact rP (y_move (kp (I 1 rfl) G q2))
 · intro A B G H I d0 d1; exact rP (y_call #[A.eval (.tmp 5), A.eval (.tmp 6)] Try.func130 rfl rfl (by simp only [List.map_toArray, List.map_cons, List.map_nil]) (index_fn (xs) (x) _ _ _ (ed d0 rfl rfl rfl) (ed d1 rfl rfl rfl) ))
 · intro A B G H I d0; exact rP (y_geq (ed d0 rfl rfl rfl) rfl)
 · intro A B G H I d0 d1 d2 d3 d4 d5; exact rP (y_assign (ed d0 rfl rfl rfl))
 intro a2 s2 D2; have ok2 := D2.ok; have F2 := F1.step0 D2.stp; have q3 := D2.dn 4 rfl rfl; clear D2; refine tn ?_; refine wp_ret ?_
 exact ret1 rfl ok2 F2 (cvb (by (rw [decide_eq_decide]; exact indexL_iff)) q3)


set_option maxRecDepth 100000 in
theorem pChange_fn (n : Nat) (l : List Int) (σ : GW) (v0 v1 : Value) (hv0 : Ty.has (Ty.nat n) σ v0) (hv1 : Ty.has (Ty.lst Ty.int l) σ v1) (hn : n ≤ 12) (ho : okL 0 l n) :
    FnC Try.prog 101 #[v0, v1] σ (Ty.lst Ty.int (chgRow n l)) := by
 refine fn_intro Try.func101 rfl Try.ntmps101 (Nat.le_of_ble_eq_true rfl) (fun s0 a0 hle F0 ok0 hargs => ?_)
 have p0 : At (Ty.nat n) s0 a0 (.tmp 0) := by have e := hargs 0 _ rfl; show Ty.has _ _ _; rw [e]; exact Ty.up _ hle hv0
 have p1 : At (Ty.lst Ty.int l) s0 a0 (.tmp 1) := by have e := hargs 1 _ rfl; show Ty.has _ _ _; rw [e]; exact Ty.up _ hle hv1
 have b1 := sl_le p1
 clear hargs; refine wp_seq ?_
 refine rg a0 s0 [(Ty.val (Value.slice none 0 0))] ok0 ⟨?_, trivial⟩ ?_
 · intro A B G H I; exact rP (y_assign rfl)
 intro a1 s1 D1; have ok1 := D1.ok; have F1 := F0.step0 D1.stp; have q1 := D1.kt p0 rfl; have q2 := D1.kt p1 rfl; clear D1; refine tn ?_; refine wp_seq ?_
 refine reg (a := a1) (σ := s1) rfl (fun i_ => List.getD [(Ty.pr (Ty.nat n)), (Pr.own 11 3 1 n (List.map Ty.int (List.replicate n 0))), (Pr.own 11 3 1 n (List.map Ty.int (List.replicate n 0)))] i_ Pr.any) ok1 rfl ⟨?_, ?_, ?_, trivial⟩ ?_
 · intro A B G H I; exact rP (y_move (kp (I 0 rfl) G q1))
 · intro A B G H I d0 d1
   have e0 := ed d0 rfl rfl rfl
   exact rP ((y_make (k := 11) (T := Ty.int 0) (n := n) Try.underlying23 Try.inf3 rfl (fun _ => rfl) e0 e0 (by omega) (by omega)).mono (fun _ _ h => cvo (by simp) (by simp) h))
 · intro A B G H I d0 d1 d2
   have e1 : (Pr.own 11 3 1 n (List.map Ty.int (List.replicate n 0))).has B (A.eval (.tmp 8)) := d0 rfl
   exact rP (y_assign e1)
 intro a2 s2 D2; have ok2 := D2.ok; have F2 := F1.step0 D2.stp; have q3 := D2.kt q1 rfl; have q4 := D2.kt q2 rfl
 have q5 : (Pr.own 11 3 1 n (List.map Ty.int (List.replicate n 0))).has s2 (a2.eval (.tmp 5)) := D2.done 2
 clear D2; refine tn ?_; refine wp_seq ?_; refine wp_seq ?_
 refine rg a2 s2 [(Ty.int (0 : Int))] ok2 ⟨?_, trivial⟩ ?_
 · intro A B G H I; exact rP (y_assign rfl)
 intro a3 s3 D3; have ok3 := D3.ok; have F3 := F2.step0 D3.stp; have q6 := D3.kt q3 rfl; have q7 := D3.kt q4 rfl
 have q8 : (Pr.own 11 3 1 n (List.map Ty.int (List.replicate n 0))).has s3 (a3.eval (.tmp 5)) := D3.ko q5 rfl
 have q9 := D3.dn 0 rfl rfl; clear D3; refine tn ?_; refine wp_block ?_
 refine loop (fun n1 a4 w1 => ∃ (t1 : GW) (xs : List Int) (f : Nat), t1.w = w1 ∧ From s0 t1 ∧ Ok 35 a4 ∧ (Pr.own 11 3 1 (List.length (padTo n xs)) (List.map Ty.int (padTo n xs))).has t1 (a4.eval (.tmp 5)) ∧ At (Ty.nat xs.length) t1 a4 (.tmp 6) ∧ At (Ty.nat n) t1 a4 (.tmp 0) ∧ At (Ty.lst Ty.int l) t1 a4 (.tmp 1) ∧ (AtC n l xs.length) ∧ (n ≤ f + xs.length) ∧ (xs ++ rowF l n f xs.length = chgRow n l) ∧ n1 = n + 1 - xs.length) (n + 1 - (([] : List Int)).length) ?_ ?_
 ·
  exact ⟨s3, ([] : List Int), n, rfl, F3, ok3, (cvo (by (simp [padTo_nil])) (by (simp [padTo_nil])) q8), (cvi (by (first | rfl | omega | (simp_all; done) | (simp_all; omega))) q9), q6, q7, AtC.zero ho, by simp, rfl, rfl⟩
 ·
  rintro n2 a5 w2 ⟨t2, xs, f, rfl, F4, ok4, q10, q11, q12, q13, ha, hf, heq, rfl⟩
  have hal := ha.le
  have hpl := padTo_len hal
  refine wp_seq ?_; refine wp_seq ?_
  refine reg (a := a5) (σ := t2) rfl (fun i_ => List.getD [(Ty.pr (Ty.nat xs.length)), (Ty.pr (Ty.nat n)), (Ty.pr (Ty.bool (decide (((xs.length : Nat) : Int) < ((n : Nat) : Int)))))] i_ Pr.any) ok4 rfl ⟨?_, ?_, ?_, trivial⟩ ?_
  · intro A B G H I; exact rP (y_move (kp (I 6 rfl) G q11))
  · intro A B G H I; exact rP (y_move (kp (I 0 rfl) G q12))
  · intro A B G H I d0 d1; exact rP (y_lss (ed d0 rfl rfl rfl) (ed d1 rfl rfl rfl))
  intro a6 s4 D4; have ok5 := D4.ok; have F5 := F4.step0 D4.stp
  have q14 : (Pr.own 11 3 1 (List.length (padTo n xs)) (List.map Ty.int (padTo n xs))).has s4 (a6.eval (.tmp 5)) := D4.ko q10 rfl
  have q15 := D4.kt q11 rfl; have q16 := D4.kt q12 rfl; have q17 := D4.kt q13 rfl; have q18 := D4.dn 2 rfl rfl; clear D4; refine tn ?_
  refine cond_p (p := (((xs.length : Nat) : Int) < ((n : Nat) : Int))) q18 (fun c1 => ?_) (fun c1 => ?_)
  ·
   refine wp_skip ?_; refine tn ?_; refine wp_seq ?_; refine wp_block ?_; refine wp_seq ?_; refine wp_seq ?_
   refine rg a6 s4 [(Ty.lst Ty.int l), (Ty.nat xs.length), (Ty.int (((xs.length : Nat) : Int) + (1 : Int))), (Ty.bool (decide (((((xs.length : Nat) : Int) + (1 : Int))) ∈ (l))))] ok5 ⟨?_, ?_, ?_, ?_, trivial⟩ ?_
   · intro A B G H I; exact rP (y_move (kp (I 1 rfl) G q17))
   · intro A B G H I; exact rP (y_move (kp (I 6 rfl) G q15))
   · intro A B G H I d0; exact rP (y_add (ed d0 rfl rfl rfl) rfl (w64 (by omega) (by omega)))
   · intro A B G H I d0 d1; exact rP (y_call #[A.eval (.tmp 14), A.eval (.tmp 16)] Try.func118 rfl rfl (by simp only [List.map_toArray, List.map_cons, List.map_nil]) (contains_fn (l) ((((xs.length : Nat) : Int) + (1 : Int))) _ _ _ (ed d0 rfl rfl rfl) (ed d1 rfl rfl rfl) ))
   intro a7 s5 D5; have ok6 := D5.ok; have F6 := F5.step0 D5.stp
   have q19 : (Pr.own 11 3 1 (List.length (padTo n xs)) (List.map Ty.int (padTo n xs))).has s5 (a7.eval (.tmp 5)) := D5.ko q14 rfl
   have q20 := D5.kt q15 rfl; have q21 := D5.kt q16 rfl; have q22 := D5.kt q17 rfl; have q23 := D5.dn 3 rfl rfl; clear D5; refine tn ?_
   refine cond_t q23 (fun c2 => ?_) (fun c2 => ?_)
   ·
    have c2 := of_decide_eq_true c2
    refine wp_seq ?_
    refine reg2 (a := a7) (σ := s5) rfl 4 (fun i_ => List.getD [(Ty.pr (Ty.val (a7.eval (.tmp 5)))), (Ty.pr (Ty.nat xs.length)), (Ty.pr (Ty.nat xs.length)), (Ty.pr (Ty.val (cellPtr (a7.eval (.tmp 5)) xs.length)))] i_ Pr.any) ok6 rfl (by decide) rfl ⟨?_, ?_, ?_, ?_, trivial⟩ ?_
    · intro A B G H I; exact rP (y_move (I 5 rfl))
    · intro A B G H I; exact rP (y_move (kp (I 6 rfl) G q20))
    · intro A B G H I; exact rP (y_move (kp (I 6 rfl) G q20))
    · intro A B G H I d0 d1 d2 d3 d4; exact rP (own_index1 (i := ((xs.length : Nat) : Int)) Try.underlying23 Try.inf3 ((Pr.own 11 3 1 (List.length (padTo n xs)) (List.map Ty.int (padTo n xs))).up G q19) (ed d0 rfl rfl rfl) (ed d1 rfl rfl rfl) (by omega) (by omega))
    intro a8 s6 D6; have ok7 := D6.ok; have F7 := F6.step0 D6.stp; have q24 := (Pr.own 11 3 1 (List.length (padTo n xs)) (List.map Ty.int (padTo n xs))).up D6.stp q19
    have q25 : a8.eval (.tmp 5) = a7.eval (.tmp 5) := D6.same 5 rfl
    have q26 := D6.kt q20 rfl; have q27 := D6.kt q21 rfl; have q28 := D6.kt q22 rfl; have q29 := D6.dn 2 (by decide) rfl rfl; have q30 := D6.dn 3 (by decide) rfl rfl; clear D6
    refine tail_step0 (m := 11) (R := (fun _ τ => Own τ 11 3 1 (a7.eval (.tmp 5)) (List.length (padTo n xs)) ((List.map Ty.int (padTo n xs)).set xs.length (Ty.nat xs.length)))) rfl rfl (m_store Try.inf3 (by decide) q24 q30 (by simp only [List.length_map, List.length_set]; omega) q29 (one_val rfl)) (fun v1 s7 hs1 r1 => ?_)
    have F8 := F7.step hs1 (by decide)
    have q31 : At (Ty.nat xs.length) s7 a8 (.tmp 6) := kpm hs1 (by decide) rfl q26
    have q32 : At (Ty.nat n) s7 a8 (.tmp 0) := kpm hs1 (by decide) rfl q27
    have q33 : At (Ty.lst Ty.int l) s7 a8 (.tmp 1) := kpm hs1 (by decide) rfl q28
    have q34 : At (Ty.nat xs.length) s7 a8 (.tmp 20) := kpm hs1 (by decide) rfl q29
    have q35 : (Pr.own 11 3 1 (List.length ((padTo n xs).set xs.length ((xs.length : Nat) : Int))) (List.map Ty.int ((padTo n xs).set xs.length ((xs.length : Nat) : Int)))).has s7 (a7.eval (.tmp 5)) := (cvo (by simp) (by simp) r1)
    refine wpList_nil ?_
    have q36 : (Pr.own 11 3 1 (List.length ((padTo n xs).set xs.length ((xs.length : Nat) : Int))) (List.map Ty.int ((padTo n xs).set xs.length ((xs.length : Nat) : Int)))).has s7 (a8.eval (.tmp 5)) := al q25 q35
    refine tn ?_; refine wp_exit ?_; refine tx ?_; refine bx ?_; refine tn ?_
    refine rg a8 s7 [(Ty.nat xs.length), (Ty.int (((xs.length : Nat) : Int) + (1 : Int))), (Ty.int (((xs.length : Nat) : Int) + (1 : Int)))] ok7 ⟨?_, ?_, ?_, trivial⟩ ?_
    · intro A B G H I; exact rP (y_move (kp (I 6 rfl) G q31))
    · intro A B G H I d0; exact rP (y_add (ed d0 rfl rfl rfl) rfl (w64 (by omega) (by omega)))
    · intro A B G H I d0 d1 d2; exact rP (y_assign (ed d0 rfl rfl rfl))
    intro a10 s8 D7; have ok9 := D7.ok; have F9 := F8.step0 D7.stp
    have q37 : (Pr.own 11 3 1 (List.length ((padTo n xs).set xs.length ((xs.length : Nat) : Int))) (List.map Ty.int ((padTo n xs).set xs.length ((xs.length : Nat) : Int)))).has s8 (a10.eval (.tmp 5)) := D7.ko q36 rfl
    have q38 := D7.kt q32 rfl; have q39 := D7.kt q33 rfl; have q40 := D7.dn 2 rfl rfl; clear D7
    exact tn ⟨n + 1 - ((xs ++ [((xs.length : Nat) : Int)])).length, by simp; omega, s8, (xs ++ [((xs.length : Nat) : Int)]), (f-1), rfl, F9, ok9, (cvo (by (rw [padTo_set (by omega) _ (by first | rfl | omega)])) (by (rw [padTo_set (by omega) _ (by first | rfl | omega)])) q37), (cvi (by (simp)) q40), q38, q39, by rw [List.length_append]; exact ha.yes c2, by simp; omega, by rw [List.length_append]; exact rowF_yes heq (by omega) hf c2, rfl⟩
   ·
    have c2 := of_decide_eq_false c2; have han := ha.no (by omega) c2
    refine wp_skip ?_; refine tn ?_; refine wp_seq ?_
    refine reg2 (a := a7) (σ := s5) rfl 9 (fun i_ => List.getD [(Ty.pr (Ty.val (a7.eval (.tmp 5)))), (Ty.pr (Ty.nat xs.length)), (Ty.pr (Ty.val (a7.eval (.tmp 5)))), (Ty.pr (Ty.nat xs.length)), (Ty.pr (Ty.int (((xs.length : Nat) : Int) + (1 : Int)))), (Ty.pr (Ty.nat xs.length)), (Ty.pr (Ty.int (((xs.length : Nat) : Int) + (1 : Int)))), (Ty.pr (Ty.nat xs.length)), (Ty.pr (Ty.val (cellPtr (a7.eval (.tmp 5)) xs.length)))] i_ Pr.any) ok6 rfl (by decide) rfl ⟨?_, ?_, ?_, ?_, ?_, ?_, ?_, ?_, ?_, trivial⟩ ?_
    · intro A B G H I; exact rP (y_move (I 5 rfl))
    · intro A B G H I; exact rP (y_move (kp (I 6 rfl) G q20))
    · intro A B G H I d0; exact rP (y_move (I 5 rfl))
    · intro A B G H I d0; exact rP (y_move (kp (I 6 rfl) G q20))
    · intro A B G H I d0 d1; exact rP (y_add (ed d0 rfl rfl rfl) rfl (w64 (by omega) (by omega)))
    · intro A B G H I; exact rP (y_move (kp (I 6 rfl) G q20))
    · intro A B G H I d0; exact rP (y_add (ed d0 rfl rfl rfl) rfl (w64 (by omega) (by omega)))
    · intro A B G H I d0; exact rP (y_move (kp (I 6 rfl) G q20))
    · intro A B G H I d0 d1 d2 d3 d4 d5 d6 d7 d8 d9; exact rP (own_index1 (i := ((xs.length : Nat) : Int)) Try.underlying23 Try.inf3 ((Pr.own 11 3 1 (List.length (padTo n xs)) (List.map Ty.int (padTo n xs))).up G q19) (ed d0 rfl rfl rfl) (ed d1 rfl rfl rfl) (by omega) (by omega))
    intro a11 s9 D8; have ok10 := D8.ok; have F10 := F6.step0 D8.stp; have q41 := (Pr.own 11 3 1 (List.length (padTo n xs)) (List.map Ty.int (padTo n xs))).up D8.stp q19
    have q42 : a11.eval (.tmp 5) = a7.eval (.tmp 5) := D8.same 5 rfl
    have q43 := D8.kt q20 rfl; have q44 := D8.kt q21 rfl; have q45 := D8.kt q22 rfl; have q46 := D8.dn 2 (by decide) rfl rfl; have q47 := D8.dn 4 (by decide) rfl rfl; have q48 := D8.dn 6 (by decide) rfl rfl; have q49 := D8.dn 7 (by decide) rfl rfl; have q50 := D8.dn 8 (by decide) rfl rfl; clear D8
    refine tail_step0 (m := 11) (R := (fun _ τ => Own τ 11 3 1 (a7.eval (.tmp 5)) (List.length (padTo n xs)) ((List.map Ty.int (padTo n xs)).set xs.length (Ty.int (((xs.length : Nat) : Int) + (1 : Int)))))) rfl rfl (m_store Try.inf3 (by decide) q41 q50 (by simp only [List.length_map, List.length_set]; omega) q48 (one_val rfl)) (fun v2 s10 hs2 r2 => ?_)
    have F11 := F10.step hs2 (by decide)
    have q51 : At (Ty.nat xs.length) s10 a11 (.tmp 6) := kpm hs2 (by decide) rfl q43
    have q52 : At (Ty.nat n) s10 a11 (.tmp 0) := kpm hs2 (by decide) rfl q44
    have q53 : At (Ty.lst Ty.int l) s10 a11 (.tmp 1) := kpm hs2 (by decide) rfl q45
    have q54 : At (Ty.int (((xs.length : Nat) : Int) + (1 : Int))) s10 a11 (.tmp 26) := kpm hs2 (by decide) rfl q47
    have q55 : At (Ty.int (((xs.length : Nat) : Int) + (1 : Int))) s10 a11 (.tmp 28) := kpm hs2 (by decide) rfl q48
    have q56 : At (Ty.nat xs.length) s10 a11 (.tmp 29) := kpm hs2 (by decide) rfl q49
    have q57 : (Pr.own 11 3 1 (List.length ((padTo n xs).set xs.length (((xs.length : Nat) : Int) + (1 : Int)))) (List.map Ty.int ((padTo n xs).set xs.length (((xs.length : Nat) : Int) + (1 : Int))))).has s10 (a7.eval (.tmp 5)) := (cvo (by simp) (by simp) r2)
    refine tail_step (m := 0) (R := (fun v τ => Pr.has (Ty.pr (Ty.val (cellPtr (a7.eval (.tmp 5)) ((((xs.length : Nat) : Int) + (1 : Int))).toNat))) τ v)) rfl rfl (by decide) ok10 (Yld.toM (own_index1 (i := (((xs.length : Nat) : Int) + (1 : Int))) Try.underlying23 Try.inf3 q57 q46 q54 (by omega) (by simp only [List.length_set]; omega))) (fun a13 s11 hs3 ok12 r3 sm3 => ?_)
    have F12 := F11.step hs3 (by decide); have q58 := Own.keep q57 hs3 (by decide) (.inl rfl); have q59 := (sm3 5 (by decide)).trans q42
    have q60 : At (Ty.nat xs.length) s11 a13 (.tmp 6) := kpm hs3 (by decide) (sm3 6 (by decide)) q51
    have q61 : At (Ty.nat n) s11 a13 (.tmp 0) := kpm hs3 (by decide) (sm3 0 (by decide)) q52
    have q62 : At (Ty.lst Ty.int l) s11 a13 (.tmp 1) := kpm hs3 (by decide) (sm3 1 (by decide)) q53
    have q63 := (sm3 24 (by decide)).trans q46
    have q64 : At (Ty.int (((xs.length : Nat) : Int) + (1 : Int))) s11 a13 (.tmp 26) := kpm hs3 (by decide) (sm3 26 (by decide)) q54
    have q65 : At (Ty.int (((xs.length : Nat) : Int) + (1 : Int))) s11 a13 (.tmp 28) := kpm hs3 (by decide) (sm3 28 (by decide)) q55
    have q66 : At (Ty.nat xs.length) s11 a13 (.tmp 29) := kpm hs3 (by decide) (sm3 29 (by decide)) q56
    have q67 := (sm3 30 (by decide)).trans q50
    have q68 : At (Ty.val (cellPtr (a7.eval (.tmp 5)) ((((xs.length : Nat) : Int) + (1 : Int))).toNat)) s11 a13 (.tmp 31) := r3
    refine tail_step0 (m := 11) (R := (fun _ τ => Own τ 11 3 1 (a7.eval (.tmp 5)) (List.length ((padTo n xs).set xs.length (((xs.length : Nat) : Int) + (1 : Int)))) ((List.map Ty.int ((padTo n xs).set xs.length (((xs.length : Nat) : Int) + (1 : Int)))).set ((((xs.length : Nat) : Int) + (1 : Int))).toNat (Ty.nat xs.length)))) rfl rfl (m_store Try.inf3 (by decide) q58 q68 (by simp only [List.length_map, List.length_set]; omega) q66 (one_val rfl)) (fun v3 s12 hs4 r4 => ?_)
    have F13 := F12.step hs4 (by decide)
    have q69 : At (Ty.nat xs.length) s12 a13 (.tmp 6) := kpm hs4 (by decide) rfl q60
    have q70 : At (Ty.nat n) s12 a13 (.tmp 0) := kpm hs4 (by decide) rfl q61
    have q71 : At (Ty.lst Ty.int l) s12 a13 (.tmp 1) := kpm hs4 (by decide) rfl q62
    have q72 : At (Ty.int (((xs.length : Nat) : Int) + (1 : Int))) s12 a13 (.tmp 26) := kpm hs4 (by decide) rfl q64
    have q73 : At (Ty.int (((xs.length : Nat) : Int) + (1 : Int))) s12 a13 (.tmp 28) := kpm hs4 (by decide) rfl q65
    have q74 : At (Ty.nat xs.length) s12 a13 (.tmp 29) := kpm hs4 (by decide) rfl q66
    have q75 : (Pr.own 11 3 1 (List.length (((padTo n xs).set xs.length (((xs.length : Nat) : Int) + (1 : Int))).set ((((xs.length : Nat) : Int) + (1 : Int))).toNat ((xs.length : Nat) : Int))) (List.map Ty.int (((padTo n xs).set xs.length (((xs.length : Nat) : Int) + (1 : Int))).set ((((xs.length : Nat) : Int) + (1 : Int))).toNat ((xs.length : Nat) : Int)))).has s12 (a7.eval (.tmp 5)) := (cvo (by simp) (by simp) r4)
    refine wpList_nil ?_
    have q76 : (Pr.own 11 3 1 (List.length (((padTo n xs).set xs.length (((xs.length : Nat) : Int) + (1 : Int))).set ((((xs.length : Nat) : Int) + (1 : Int))).toNat ((xs.length : Nat) : Int))) (List.map Ty.int (((padTo n xs).set xs.length (((xs.length : Nat) : Int) + (1 : Int))).set ((((xs.length : Nat) : Int) + (1 : Int))).toNat ((xs.length : Nat) : Int)))).has s12 (a13.eval (.tmp 5)) := al q59 q75
    refine tn ?_
    refine rg a13 s12 [(Ty.nat xs.length), (Ty.int (((xs.length : Nat) : Int) + (1 : Int))), (Ty.int (((xs.length : Nat) : Int) + (1 : Int)))] ok12 ⟨?_, ?_, ?_, trivial⟩ ?_
    · intro A B G H I; exact rP (y_move (kp (I 6 rfl) G q69))
    · intro A B G H I d0; exact rP (y_add (ed d0 rfl rfl rfl) rfl (w64 (by omega) (by omega)))
    · intro A B G H I d0 d1 d2; exact rP (y_assign (ed d0 rfl rfl rfl))
    intro a15 s13 D9; have ok14 := D9.ok; have F14 := F13.step0 D9.stp
    have q77 : (Pr.own 11 3 1 (List.length (((padTo n xs).set xs.length (((xs.length : Nat) : Int) + (1 : Int))).set ((((xs.length : Nat) : Int) + (1 : Int))).toNat ((xs.length : Nat) : Int))) (List.map Ty.int (((padTo n xs).set xs.length (((xs.length : Nat) : Int) + (1 : Int))).set ((((xs.length : Nat) : Int) + (1 : Int))).toNat ((xs.length : Nat) : Int)))).has s13 (a15.eval (.tmp 5)) := D9.ko q76 rfl
    have q78 := D9.kt q70 rfl; have q79 := D9.kt q71 rfl; have q80 := D9.dn 2 rfl rfl; clear D9; refine bn ?_; refine tn ?_
    refine rg a15 s13 [(Ty.int (((xs.length : Nat) : Int) + (1 : Int))), (Ty.int ((((xs.length : Nat) : Int) + (1 : Int)) + (1 : Int))), (Ty.int ((((xs.length : Nat) : Int) + (1 : Int)) + (1 : Int)))] ok14 ⟨?_, ?_, ?_, trivial⟩ ?_
    · intro A B G H I; exact rP (y_move (kp (I 6 rfl) G q80))
    · intro A B G H I d0; exact rP (y_add (ed d0 rfl rfl rfl) rfl (w64 (by omega) (by omega)))
    · intro A B G H I d0 d1 d2; exact rP (y_assign (ed d0 rfl rfl rfl))
    intro a16 s14 D10; have ok15 := D10.ok; have F15 := F14.step0 D10.stp
    have q81 : (Pr.own 11 3 1 (List.length (((padTo n xs).set xs.length (((xs.length : Nat) : Int) + (1 : Int))).set ((((xs.length : Nat) : Int) + (1 : Int))).toNat ((xs.length : Nat) : Int))) (List.map Ty.int (((padTo n xs).set xs.length (((xs.length : Nat) : Int) + (1 : Int))).set ((((xs.length : Nat) : Int) + (1 : Int))).toNat ((xs.length : Nat) : Int)))).has s14 (a16.eval (.tmp 5)) := D10.ko q77 rfl
    have q82 := D10.kt q78 rfl; have q83 := D10.kt q79 rfl; have q84 := D10.dn 2 rfl rfl; clear D10
    exact tn ⟨n + 1 - ((xs ++ [((xs.length : Nat) : Int) + 1, ((xs.length : Nat) : Int)])).length, by simp; omega, s14, (xs ++ [((xs.length : Nat) : Int) + 1, ((xs.length : Nat) : Int)]), (f-1), rfl, F15, ok15, (cvo (by (rw [padTo_set (by omega) _ (by omega), padTo_set (by simp; omega) _ (by simp)]; simp)) (by (rw [padTo_set (by omega) _ (by omega), padTo_set (by simp; omega) _ (by simp)]; simp)) q81), (cvi (by (simp; omega)) q84), q82, q83, by rw [List.length_append]; exact han.2, by simp; omega, by rw [List.length_append]; exact rowF_no heq (by omega) hf c2, rfl⟩
  ·
   refine wp_exit ?_; refine tx ?_; refine tx ?_; refine bx ?_; refine tn ?_; refine wp_seq ?_
   refine rg a6 s4 [(Ty.val (a6.eval (.tmp 5))), (Ty.val (a6.eval (.tmp 5)))] ok5 ⟨?_, ?_, trivial⟩ ?_
   · intro A B G H I; exact rP (y_move (I 5 rfl))
   · intro A B G H I d0 d1; exact rP (y_assign (ed d0 rfl rfl rfl))
   intro a17 s15 D11; have ok16 := D11.ok; have F16 := F5.step0 D11.stp
   have q85 : (Pr.own 11 3 1 (List.length (padTo n xs)) (List.map Ty.int (padTo n xs))).has s15 (a17.eval (.tmp 4)) := al (show _ = _ from D11.done 1) ((Pr.own 11 3 1 (List.length (padTo n xs)) (List.map Ty.int (padTo n xs))).up D11.stp q14)
   clear D11; refine tn ?_; refine wp_ret ?_
   obtain ⟨t3, e1, h1, q86⟩ := Own.seal q85 (by decide)
   rw [← e1]
   have F17 := F16.step h1 (by decide)
   exact ret1 rfl ok16 F17 (cvt (by (rw [rowF_end (by omega), List.append_nil] at heq; rw [heq, padTo_full (chgRow_len ho)])) q86)


set_option maxRecDepth 100000 in
theorem product_fn (a : List Int) (b : List Int) (σ : GW) (v0 v1 : Value) (hv0 : Ty.has (Ty.lst Ty.int a) σ v0) (hv1 : Ty.has (Ty.lst Ty.int b) σ v1) (hl : a.length = b.length) (hbd : ∀ i, i < b.length → 0 ≤ b.getD i 0 ∧ b.getD i 0 < a.length) (G : a.length ≤ 1000000) :
    FnC Try.prog 57 #[v0, v1] σ (Ty.lst Ty.int (byL a b)) := by
 refine fn_intro Try.func57 rfl Try.ntmps57 (Nat.le_of_ble_eq_true rfl) (fun s0 a0 hle F0 ok0 hargs => ?_)
 have p0 : At (Ty.lst Ty.int a) s0 a0 (.tmp 0) := by have e := hargs 0 _ rfl; show Ty.has _ _ _; rw [e]; exact Ty.up _ hle hv0
 have b1 := sl_le p0
 have p1 : At (Ty.lst Ty.int b) s0 a0 (.tmp 1) := by have e := hargs 1 _ rfl; show Ty.has _ _ _; rw [e]; exact Ty.up _ hle hv1
 have b2 := sl_le p1
 clear hargs; refine wp_seq ?_
 refine rg a0 s0 [(Ty.val (Value.slice none 0 0))] ok0 ⟨?_, trivial⟩ ?_
 · intro A B G H I; exact rP (y_assign rfl)
 intro a1 s1 D1; have ok1 := D1.ok; have F1 := F0.step0 D1.stp; have q1 := D1.kt p0 rfl; have q2 := D1.kt p1 rfl; clear D1; refine tn ?_; refine wp_seq ?_
 refine reg (a := a1) (σ := s1) rfl (fun i_ => List.getD [(Ty.pr (Ty.lst Ty.int a)), (Ty.pr (Ty.nat (List.length a))), (Pr.own 11 3 1 (List.length a) (List.map Ty.int (List.replicate (List.length a) 0))), (Pr.own 11 3 1 (List.length a) (List.map Ty.int (List.replicate (List.length a) 0)))] i_ Pr.any) ok1 rfl ⟨?_, ?_, ?_, ?_, trivial⟩ ?_
 · intro A B G H I; exact rP (y_move (kp (I 0 rfl) G q1))
 · intro A B G H I d0; exact rP (y_len Try.underlying23 (ed d0 rfl rfl rfl))
 · intro A B G H I d0 d1
   have e1 := ed d0 rfl rfl rfl
   exact rP ((y_make (k := 11) (T := Ty.int 0) (n := (List.length a)) Try.underlying23 Try.inf3 rfl (fun _ => rfl) e1 e1 (by omega) (by omega)).mono (fun _ _ h => cvo (by simp) (by simp) h))
 · intro A B G H I d0 d1 d2 d3
   have e2 : (Pr.own 11 3 1 (List.length a) (List.map Ty.int (List.replicate (List.length a) 0))).has B (A.eval (.tmp 10)) := d0 rfl
   exact rP (y_assign e2)
 intro a2 s2 D2; have ok2 := D2.ok; have F2 := F1.step0 D2.stp; have q3 := D2.kt q1 rfl; have q4 := D2.kt q2 rfl
 have q5 : (Pr.own 11 3 1 (List.length a) (List.map Ty.int (List.replicate (List.length a) 0))).has s2 (a2.eval (.tmp 5)) := D2.done 3
 clear D2; refine tn ?_; refine wp_seq ?_; refine wp_seq ?_
 refine rg a2 s2 [(Ty.lst Ty.int b), (Ty.nat (List.length b)), (Ty.int (0 : Int))] ok2 ⟨?_, ?_, ?_, trivial⟩ ?_
 · intro A B G H I; exact rP (y_move (kp (I 1 rfl) G q4))
 · intro A B G H I d0; exact rP (y_len Try.underlying23 (ed d0 rfl rfl rfl))
 · intro A B G H I; exact rP (y_move rfl)
 intro a3 s3 D3; have ok3 := D3.ok; have F3 := F2.step0 D3.stp; have q6 := D3.kt q3 rfl
 have q7 : (Pr.own 11 3 1 (List.length a) (List.map Ty.int (List.replicate (List.length a) 0))).has s3 (a3.eval (.tmp 5)) := D3.ko q5 rfl
 have q8 := D3.dn 0 rfl rfl; have q9 := D3.dn 1 rfl rfl; have q10 := D3.dn 2 rfl rfl; clear D3; refine tn ?_; refine wp_block ?_
 refine loop (fun n1 a4 w1 => ∃ (t1 : GW) (k : Nat), t1.w = w1 ∧ From s0 t1 ∧ Ok 27 a4 ∧ At (Ty.nat k) t1 a4 (.tmp 13) ∧ (Pr.own 11 3 1 (List.length (byTo a b k)) (List.map Ty.int (byTo a b k))).has t1 (a4.eval (.tmp 5)) ∧ At (Ty.lst Ty.int a) t1 a4 (.tmp 0) ∧ At (Ty.lst Ty.int b) t1 a4 (.tmp 11) ∧ At (Ty.nat (List.length b)) t1 a4 (.tmp 12) ∧ (k ≤ b.length) ∧ n1 = b.length - k) (b.length - (0)) ?_ ?_
 ·
  exact ⟨s3, 0, rfl, F3, ok3, (cvi (by (first | rfl | omega | (simp_all; done) | (simp_all; omega))) q10), (cvo (by (simp [byTo_zero])) (by (simp [byTo_zero])) q7), q6, q8, q9, by omega, rfl⟩
 ·
  rintro n2 a5 w2 ⟨t2, k, rfl, F4, ok4, q11, q12, q13, q14, q15, hk, rfl⟩
  have hp := byTo_len a b k
  refine wp_seq ?_
  refine reg (a := a5) (σ := t2) rfl (fun i_ => List.getD [(Ty.pr (Ty.bool (decide (((k : Nat) : Int) < (((List.length b) : Nat) : Int)))))] i_ Pr.any) ok4 rfl ⟨?_, trivial⟩ ?_
  · intro A B G H I; exact rP (y_lss (kp (I 13 rfl) G q11) (kp (I 12 rfl) G q15))
  intro a6 s4 D4; have ok5 := D4.ok; have F5 := F4.step0 D4.stp; have q16 := D4.kt q11 rfl
  have q17 : (Pr.own 11 3 1 (List.length (byTo a b k)) (List.map Ty.int (byTo a b k))).has s4 (a6.eval (.tmp 5)) := D4.ko q12 rfl
  have q18 := D4.kt q13 rfl; have q19 := D4.kt q14 rfl; have q20 := D4.kt q15 rfl; have q21 := D4.dn 0 rfl rfl; clear D4; refine tn ?_; refine wp_seq ?_
  refine cond_p (p := (((k : Nat) : Int) < (((List.length b) : Nat) : Int))) q21 (fun c1 => ?_) (fun c1 => ?_)
  ·
   have hq := hbd k (by omega)
   refine wp_skip ?_; refine tn ?_; refine wp_seq ?_; refine wp_block ?_; refine wp_seq ?_
   refine rg a6 s4 [(Ty.nat k), (Ty.ref [(Ty.int (b.getD k 0))]), (Ty.int (b.getD k 0)), (Ty.nat k), (Ty.int (b.getD k 0))] ok5 ⟨?_, ?_, ?_, ?_, ?_, trivial⟩ ?_
   · intro A B G H I; exact rP (y_move (kp (I 13 rfl) G q16))
   · intro A B G H I; exact rP (y_index1 Try.underlying23 Try.inf3 (kp (I 11 rfl) G q19) (kp (I 13 rfl) G q16) (by omega) (lst_get Ty.int b 0 k (by omega)))
   · intro A B G H I d0; exact rP (y_load Try.underlying3 rfl (ed d0 rfl rfl rfl) rfl)
   · intro A B G H I d0 d1 d2 d3; exact rP (y_assign (ed d0 rfl rfl rfl))
   · intro A B G H I d0 d1 d2 d3 d4 d5; exact rP (y_assign (ed d0 rfl rfl rfl))
   intro a7 s5 D5; have ok6 := D5.ok; have F6 := F5.step0 D5.stp; have q22 := D5.kt q16 rfl
   have q23 : (Pr.own 11 3 1 (List.length (byTo a b k)) (List.map Ty.int (byTo a b k))).has s5 (a7.eval (.tmp 5)) := D5.ko q17 rfl
   have q24 := D5.kt q18 rfl; have q25 := D5.kt q19 rfl; have q26 := D5.kt q20 rfl; have q27 := D5.dn 3 rfl rfl; have q28 := D5.dn 4 rfl rfl; clear D5; refine tn ?_
   refine reg2 (a := a7) (σ := s5) rfl 7 (fun i_ => List.getD [(Ty.pr (Ty.val (a7.eval (.tmp 5)))), (Ty.pr (Ty.nat k)), (Ty.pr (Ty.lst Ty.int a)), (Ty.pr (Ty.int (b.getD k 0))), (Ty.pr (Ty.ref [(Ty.int (a.getD ((b.getD k 0)).toNat 0))])), (Ty.pr (Ty.int (a.getD ((b.getD k 0)).toNat 0))), (Ty.pr (Ty.val (cellPtr (a7.eval (.tmp 5)) k)))] i_ Pr.any) ok6 rfl (by decide) rfl ⟨?_, ?_, ?_, ?_, ?_, ?_, ?_, trivial⟩ ?_
   · intro A B G H I; exact rP (y_move (I 5 rfl))
   · intro A B G H I; exact rP (y_move (kp (I 6 rfl) G q27))
   · intro A B G H I; exact rP (y_move (kp (I 0 rfl) G q24))
   · intro A B G H I; exact rP (y_move (kp (I 7 rfl) G q28))
   · intro A B G H I d0 d1; exact rP (y_index1 Try.underlying23 Try.inf3 (ed d0 rfl rfl rfl) (ed d1 rfl rfl rfl) (by omega) (lst_get Ty.int a 0 ((b.getD k 0)).toNat (by omega)))
   · intro A B G H I d0; exact rP (y_load Try.underlying3 rfl (ed d0 rfl rfl rfl) rfl)
   · intro A B G H I d0 d1 d2 d3 d4 d5 d6 d7; exact rP (own_index1 (i := ((k : Nat) : Int)) Try.underlying23 Try.inf3 ((Pr.own 11 3 1 (List.length (byTo a b k)) (List.map Ty.int (byTo a b k))).up G q23) (ed d0 rfl rfl rfl) (ed d1 rfl rfl rfl) (by omega) (by omega))
   intro a8 s6 D6; have ok7 := D6.ok; have F7 := F6.step0 D6.stp; have q29 := (Pr.own 11 3 1 (List.length (byTo a b k)) (List.map Ty.int (byTo a b k))).up D6.stp q23; have q30 := D6.kt q22 rfl
   have q31 : a8.eval (.tmp 5) = a7.eval (.tmp 5) := D6.same 5 rfl
   have q32 := D6.kt q24 rfl; have q33 := D6.kt q25 rfl; have q34 := D6.kt q26 rfl; have q35 := D6.dn 5 (by decide) rfl rfl; have q36 := D6.dn 6 (by decide) rfl rfl; clear D6
   refine tail_step0 (m := 11) (R := (fun _ τ => Own τ 11 3 1 (a7.eval (.tmp 5)) (List.length (byTo a b k)) ((List.map Ty.int (byTo a b k)).set k (Ty.int (a.getD ((b.getD k 0)).toNat 0))))) rfl rfl (m_store Try.inf3 (by decide) q29 q36 (by simp only [List.length_map, List.length_set]; omega) q35 (one_val rfl)) (fun v1 s7 hs1 r1 => ?_)
   have F8 := F7.step hs1 (by decide)
   have q37 : At (Ty.nat k) s7 a8 (.tmp 13) := kpm hs1 (by decide) rfl q30
   have q38 : At (Ty.lst Ty.int a) s7 a8 (.tmp 0) := kpm hs1 (by decide) rfl q32
   have q39 : At (Ty.lst Ty.int b) s7 a8 (.tmp 11) := kpm hs1 (by decide) rfl q33
   have q40 : At (Ty.nat (List.length b)) s7 a8 (.tmp 12) := kpm hs1 (by decide) rfl q34
   have q41 : At (Ty.int (a.getD ((b.getD k 0)).toNat 0)) s7 a8 (.tmp 23) := kpm hs1 (by decide) rfl q35
   have q42 : (Pr.own 11 3 1 (List.length ((byTo a b k).set k (a.getD ((b.getD k 0)).toNat 0))) (List.map Ty.int ((byTo a b k).set k (a.getD ((b.getD k 0)).toNat 0)))).has s7 (a7.eval (.tmp 5)) := (cvo (by simp) (by simp) r1)
   refine wpList_nil ?_
   have q43 : (Pr.own 11 3 1 (List.length ((byTo a b k).set k (a.getD ((b.getD k 0)).toNat 0))) (List.map Ty.int ((byTo a b k).set k (a.getD ((b.getD k 0)).toNat 0)))).has s7 (a8.eval (.tmp 5)) := al q31 q42
   refine bn ?_; refine tn ?_
   refine rg a8 s7 [(Ty.int (((k : Nat) : Int) + (1 : Int))), (Ty.int (((k : Nat) : Int) + (1 : Int)))] ok7 ⟨?_, ?_, trivial⟩ ?_
   · intro A B G H I; exact rP (y_add (kp (I 13 rfl) G q37) rfl (w64 (by omega) (by omega)))
   · intro A B G H I d0; exact rP (y_move (ed d0 rfl rfl rfl))
   intro a10 s8 D7; have ok9 := D7.ok; have F9 := F8.step0 D7.stp
   have q44 : (Pr.own 11 3 1 (List.length ((byTo a b k).set k (a.getD ((b.getD k 0)).toNat 0))) (List.map Ty.int ((byTo a b k).set k (a.getD ((b.getD k 0)).toNat 0)))).has s8 (a10.eval (.tmp 5)) := D7.ko q43 rfl
   have q45 := D7.kt q38 rfl; have q46 := D7.kt q39 rfl; have q47 := D7.kt q40 rfl; have q48 := D7.dn 1 rfl rfl; clear D7
   exact tn ⟨b.length - ((k+1)), by omega, s8, (k+1), rfl, F9, ok9, (cvi (by (first | rfl | omega | (simp_all; done) | (simp_all; omega))) q48), (cvo (by (rw [byTo_step a b k])) (by (rw [byTo_step a b k])) q44), q45, q46, q47, by omega, rfl⟩
  ·
   refine wp_exit ?_; refine tx ?_; refine tx ?_; refine bx ?_; refine tn ?_; refine wp_seq ?_
   refine rg a6 s4 [(Ty.val (a6.eval (.tmp 5))), (Ty.val (a6.eval (.tmp 5)))] ok5 ⟨?_, ?_, trivial⟩ ?_
   · intro A B G H I; exact rP (y_move (I 5 rfl))
   · intro A B G H I d0 d1; exact rP (y_assign (ed d0 rfl rfl rfl))
   intro a11 s9 D8; have ok10 := D8.ok; have F10 := F5.step0 D8.stp
   have q49 : (Pr.own 11 3 1 (List.length (byTo a b k)) (List.map Ty.int (byTo a b k))).has s9 (a11.eval (.tmp 4)) := al (show _ = _ from D8.done 1) ((Pr.own 11 3 1 (List.length (byTo a b k)) (List.map Ty.int (byTo a b k))).up D8.stp q17)
   clear D8; refine tn ?_; refine wp_ret ?_
   obtain ⟨t3, e1, h1, q50⟩ := Own.seal q49 (by decide)
   rw [← e1]
   have F11 := F10.step h1 (by decide)
   exact ret1 rfl ok10 F11 (cvt (by (obtain rfl : k = b.length := (by omega); rw [byTo_all a b hl])) q50)


set_option maxRecDepth 100000 in
theorem from_fn (r : List Int) (l : List (List Int)) (σ : GW) (v0 v1 : Value) (hv0 : Ty.has (Ty.lst Ty.int r) σ v0) (hv1 : Ty.has (Ty.lst Ty.ints l) σ v1) (hr : r.length ≤ 12) (hok : ∀ k, k < l.length → okL 0 (l.getD k []) r.length) (hl : l.length ≤ 200) :
    FnC Try.prog 83 #[v0, v1] σ (Ty.lst Ty.ints (fromL r l)) := by
 refine fn_intro Try.func83 rfl Try.ntmps83 (Nat.le_of_ble_eq_true rfl) (fun s0 a0 hle F0 ok0 hargs => ?_)
 have p0 : At (Ty.lst Ty.int r) s0 a0 (.tmp 0) := by have e := hargs 0 _ rfl; show Ty.has _ _ _; rw [e]; exact Ty.up _ hle hv0
 have b1 := sl_le p0
 have p1 : At (Ty.lst Ty.ints l) s0 a0 (.tmp 1) := by have e := hargs 1 _ rfl; show Ty.has _ _ _; rw [e]; exact Ty.up _ hle hv1
 have b2 := sl_le p1
 clear hargs; refine wp_seq ?_
 refine rg a0 s0 [(Ty.val (Value.slice none 0 0))] ok0 ⟨?_, trivial⟩ ?_
 · intro A B G H I; exact rP (y_assign rfl)
 intro a1 s1 D1; have ok1 := D1.ok; have F1 := F0.step0 D1.stp; have q1 := D1.kt p0 rfl; have q2 := D1.kt p1 rfl; clear D1; refine tn ?_; refine wp_seq ?_
 refine reg (a := a1) (σ := s1) rfl (fun i_ => List.getD [(Ty.pr (Ty.lst Ty.int r)), (Pr.own 2 23 1 1 (List.map Ty.ints [r])), (Pr.own 2 23 1 1 (List.map Ty.ints [r]))] i_ Pr.any) ok1 rfl ⟨?_, ?_, ?_, trivial⟩ ?_
 · intro A B G H I; exact rP (y_move (kp (I 0 rfl) G q1))
 · intro A B G H I d0; exact rP ((y_lit1 (k := 2) Try.underlying29 Try.inf23 rfl (one_sl) (ed d0 rfl rfl rfl)).mono (fun _ _ h => cvo (by simp) (by simp) h))
 · intro A B G H I d0 d1 d2
   have e1 : (Pr.own 2 23 1 1 (List.map Ty.ints [r])).has B (A.eval (.tmp 9)) := d0 rfl
   exact rP (y_assign e1)
 intro a2 s2 D2; have ok2 := D2.ok; have F2 := F1.step0 D2.stp; have q3 := D2.kt q1 rfl; have q4 := D2.kt q2 rfl
 have q5 : (Pr.own 2 23 1 1 (List.map Ty.ints [r])).has s2 (a2.eval (.tmp 5)) := D2.done 2
 clear D2; refine tn ?_; refine wp_seq ?_; refine wp_seq ?_
 refine rg a2 s2 [(Ty.lst Ty.ints l), (Ty.nat (List.length l)), (Ty.int (0 : Int))] ok2 ⟨?_, ?_, ?_, trivial⟩ ?_
 · intro A B G H I; exact rP (y_move (kp (I 1 rfl) G q4))
 · intro A B G H I d0; exact rP (y_len Try.underlying29 (ed d0 rfl rfl rfl))
 · intro A B G H I; exact rP (y_move rfl)
 intro a3 s3 D3; have ok3 := D3.ok; have F3 := F2.step0 D3.stp; have q6 := D3.kt q3 rfl
 have q7 : (Pr.own 2 23 1 1 (List.map Ty.ints [r])).has s3 (a3.eval (.tmp 5)) := D3.ko q5 rfl
 have q8 := D3.dn 0 rfl rfl; have q9 := D3.dn 1 rfl rfl; have q10 := D3.dn 2 rfl rfl; clear D3; refine tn ?_; refine wp_block ?_
 refine loop (fun n1 a4 w1 => ∃ (t1 : GW) (k : Nat), t1.w = w1 ∧ From s0 t1 ∧ Ok 28 a4 ∧ At (Ty.nat k) t1 a4 (.tmp 12) ∧ At (Ty.lst Ty.int (curL r l k)) t1 a4 (.tmp 0) ∧ (Pr.own 2 23 1 (List.length (fromTo r l k)) (List.map Ty.ints (fromTo r l k))).has t1 (a4.eval (.tmp 5)) ∧ At (Ty.lst Ty.ints l) t1 a4 (.tmp 10) ∧ At (Ty.nat (List.length l)) t1 a4 (.tmp 11) ∧ (k ≤ l.length) ∧ n1 = l.length - k) (l.length - (0)) ?_ ?_
 ·
  exact ⟨s3, 0, rfl, F3, ok3, (cvi (by (first | rfl | omega | (simp_all; done) | (simp_all; omega))) q10), (cvt (by (rfl)) q6), (cvo (by (simp [fromTo_zero])) (by (simp [fromTo_zero])) q7), q8, q9, by omega, rfl⟩
 ·
  rintro n2 a5 w2 ⟨t2, k, rfl, F4, ok4, q11, q12, q13, q14, q15, hk, rfl⟩
  have hcl := curL_len hok k hk
  have hfl := fromTo_len r l k
  refine wp_seq ?_
  refine reg (a := a5) (σ := t2) rfl (fun i_ => List.getD [(Ty.pr (Ty.bool (decide (((k : Nat) : Int) < (((List.length l) : Nat) : Int)))))] i_ Pr.any) ok4 rfl ⟨?_, trivial⟩ ?_
  · intro A B G H I; exact rP (y_lss (kp (I 12 rfl) G q11) (kp (I 11 rfl) G q15))
  intro a6 s4 D4; have ok5 := D4.ok; have F5 := F4.step0 D4.stp; have q16 := D4.kt q11 rfl; have q17 := D4.kt q12 rfl
  have q18 : (Pr.own 2 23 1 (List.length (fromTo r l k)) (List.map Ty.ints (fromTo r l k))).has s4 (a6.eval (.tmp 5)) := D4.ko q13 rfl
  have q19 := D4.kt q14 rfl; have q20 := D4.kt q15 rfl; have q21 := D4.dn 0 rfl rfl; clear D4; refine tn ?_; refine wp_seq ?_
  refine cond_p (p := (((k : Nat) : Int) < (((List.length l) : Nat) : Int))) q21 (fun c1 => ?_) (fun c1 => ?_)
  ·
   have hokk := hok k (by omega); rw [← hcl] at hokk; have hcc := chgRow_len hokk; have hcd := hcc.symm; have hcl0 : (curL r l k).length ≤ 12 := (by omega); have hbd : ∀ i, i < (chgRow (curL r l k).length (l.getD k [])).length → 0 ≤ (chgRow (curL r l k).length (l.getD k [])).getD i 0 ∧ (chgRow (curL r l k).length (l.getD k [])).getD i 0 < ((curL r l k).length : Int) := (fun i hi => chgRow_bd hokk hi)
   refine wp_skip ?_; refine tn ?_; refine wp_seq ?_; refine wp_block ?_; refine wp_seq ?_
   refine rg a6 s4 [(Ty.ref [(Ty.lst Ty.int (l.getD k []))]), (Ty.lst Ty.int (l.getD k [])), (Ty.lst Ty.int (l.getD k []))] ok5 ⟨?_, ?_, ?_, trivial⟩ ?_
   · intro A B G H I; exact rP (y_index1 Try.underlying29 Try.inf23 (kp (I 10 rfl) G q19) (kp (I 12 rfl) G q16) (by omega) (lst_get Ty.ints l [] k (by omega)))
   · intro A B G H I d0; exact rP (y_load Try.underlying23 rfl (ed d0 rfl rfl rfl) rfl)
   · intro A B G H I d0 d1 d2; exact rP (y_assign (ed d0 rfl rfl rfl))
   intro a7 s5 D5; have ok6 := D5.ok; have F6 := F5.step0 D5.stp; have q22 := D5.kt q16 rfl; have q23 := D5.kt q17 rfl
   have q24 : (Pr.own 2 23 1 (List.length (fromTo r l k)) (List.map Ty.ints (fromTo r l k))).has s5 (a7.eval (.tmp 5)) := D5.ko q18 rfl
   have q25 := D5.kt q19 rfl; have q26 := D5.kt q20 rfl; have q27 := D5.dn 2 rfl rfl; clear D5; refine tn ?_; refine wp_seq ?_
   refine rg a7 s5 [(Ty.lst Ty.int (curL r l k)), (Ty.lst Ty.int (curL r l k)), (Ty.nat (List.length (curL r l k))), (Ty.lst Ty.int (l.getD k [])), (Ty.lst Ty.int (chgRow ((List.length (curL r l k))) ((l.getD k [])))), (Ty.lst Ty.int (byL ((curL r l k)) ((chgRow ((List.length (curL r l k))) ((l.getD k [])))))), (Ty.lst Ty.int (byL ((curL r l k)) ((chgRow ((List.length (curL r l k))) ((l.getD k []))))))] ok6 ⟨?_, ?_, ?_, ?_, ?_, ?_, ?_, trivial⟩ ?_
   · intro A B G H I; exact rP (y_move (kp (I 0 rfl) G q23))
   · intro A B G H I; exact rP (y_move (kp (I 0 rfl) G q23))
   · intro A B G H I d0; exact rP (y_len Try.underlying23 (ed d0 rfl rfl rfl))
   · intro A B G H I; exact rP (y_move (kp (I 7 rfl) G q27))
   · intro A B G H I d0 d1; exact rP (y_call #[A.eval (.tmp 18), A.eval (.tmp 19)] Try.func101 rfl rfl (by simp only [List.map_toArray, List.map_cons, List.map_nil]) (pChange_fn ((List.length (curL r l k))) ((l.getD k [])) _ _ _ (ed d0 rfl rfl rfl) (ed d1 rfl rfl rfl) (by first | omega | assumption) (by first | omega | assumption)))
   · intro A B G H I d0 d1 d2; exact rP (y_call #[A.eval (.tmp 16), A.eval (.tmp 20)] Try.func57 rfl rfl (by simp only [List.map_toArray, List.map_cons, List.map_nil]) (product_fn ((curL r l k)) ((chgRow ((List.length (curL r l k))) ((l.getD k [])))) _ _ _ (ed d0 rfl rfl rfl) (ed d1 rfl rfl rfl) (by first | assumption | omega) (by first | assumption | omega) (by first | assumption | omega)))
   · intro A B G H I d0 d1 d2 d3 d4 d5 d6 d7; exact rP (y_assign (ed d0 rfl rfl rfl))
   intro a8 s6 D6; have ok7 := D6.ok; have F7 := F6.step0 D6.stp; have q28 := D6.kt q22 rfl
   have q29 : (Pr.own 2 23 1 (List.length (fromTo r l k)) (List.map Ty.ints (fromTo r l k))).has s6 (a8.eval (.tmp 5)) := D6.ko q24 rfl
   have q30 := D6.kt q25 rfl; have q31 := D6.kt q26 rfl; have q32 := D6.dn 6 rfl rfl; clear D6; refine tn ?_
   refine reg2 (a := a8) (σ := s6) rfl 3 (fun i_ => List.getD [(Ty.pr (Ty.val (a8.eval (.tmp 5)))), (Ty.pr (Ty.lst Ty.int (byL ((curL r l k)) ((chgRow ((List.length (curL r l k))) ((l.getD k []))))))), (Ty.pr (Ty.sl 1 1 [(Ty.lst Ty.int (byL ((curL r l k)) ((chgRow ((List.length (curL r l k))) ((l.getD k []))))))]))] i_ Pr.any) ok7 rfl (by decide) rfl ⟨?_, ?_, ?_, trivial⟩ ?_
   · intro A B G H I; exact rP (y_move (I 5 rfl))
   · intro A B G H I; exact rP (y_move (kp (I 0 rfl) G q32))
   · intro A B G H I d0; exact rP (y_build1o Try.underlying29 Try.inf23 rfl (one_sl) (ed d0 rfl rfl rfl))
   intro a9 s7 D7; have ok8 := D7.ok; have F8 := F7.step0 D7.stp; have q33 := (Pr.own 2 23 1 (List.length (fromTo r l k)) (List.map Ty.ints (fromTo r l k))).up D7.stp q29; have q34 := D7.kt q28 rfl
   have q35 : a9.eval (.tmp 5) = a8.eval (.tmp 5) := D7.same 5 rfl
   have q36 := D7.kt q30 rfl; have q37 := D7.kt q31 rfl; have q38 := D7.kt q32 rfl; have q39 := D7.dn 0 (by decide) rfl rfl; have q40 := D7.dn 2 (by decide) rfl rfl; clear D7
   refine tail_step (m := 2) (R := (fun v τ => Own τ 2 23 1 v ((List.length (fromTo r l k)) + 1) ((List.map Ty.ints (fromTo r l k)) ++ [(Ty.lst Ty.int (byL ((curL r l k)) ((chgRow ((List.length (curL r l k))) ((l.getD k []))))))]))) rfl rfl (by decide) ok8 (m_append Try.underlying29 Try.inf23 (by decide) rfl (by decide) (al q39 q33) q40 (by intro U hU; simp at hU;  subst hU; exact one_sl) (by omega) (by omega)) (fun a10 s8 hs1 ok9 r1 sm1 => ?_)
   have F9 := F8.step hs1 (by decide)
   have q41 : At (Ty.nat k) s8 a10 (.tmp 12) := kpm hs1 (by decide) (sm1 12 (by decide)) q34
   have q42 : At (Ty.lst Ty.ints l) s8 a10 (.tmp 10) := kpm hs1 (by decide) (sm1 10 (by decide)) q36
   have q43 : At (Ty.nat (List.length l)) s8 a10 (.tmp 11) := kpm hs1 (by decide) (sm1 11 (by decide)) q37
   have q44 : At (Ty.lst Ty.int (byL ((curL r l k)) ((chgRow ((List.length (curL r l k))) ((l.getD k [])))))) s8 a10 (.tmp 0) := kpm hs1 (by decide) (sm1 0 (by decide)) q38
   have q45 : At (Ty.sl 1 1 [(Ty.lst Ty.int (byL ((curL r l k)) ((chgRow ((List.length (curL r l k))) ((l.getD k []))))))]) s8 a10 (.tmp 24) := kpm hs1 (by decide) (sm1 24 (by decide)) q40
   have q46 : (Pr.own 2 23 1 (List.length ((fromTo r l k) ++ [(byL ((curL r l k)) ((chgRow ((List.length (curL r l k))) ((l.getD k [])))))])) (List.map Ty.ints ((fromTo r l k) ++ [(byL ((curL r l k)) ((chgRow ((List.length (curL r l k))) ((l.getD k [])))))]))).has s8 (a10.eval (.tmp 25)) := (cvo (by simp) (by first | (rw [List.map_append]; rfl) | simp) r1)
   refine tail_step (m := 0) (R := (fun v τ => Pr.has (Pr.own 2 23 1 (List.length ((fromTo r l k) ++ [(byL ((curL r l k)) ((chgRow ((List.length (curL r l k))) ((l.getD k [])))))])) (List.map Ty.ints ((fromTo r l k) ++ [(byL ((curL r l k)) ((chgRow ((List.length (curL r l k))) ((l.getD k [])))))]))) τ v)) rfl rfl (by decide) ok9 (Yld.toM (y_assign q46)) (fun a11 s9 hs2 ok10 r2 sm2 => ?_)
   have F10 := F9.step hs2 (by decide)
   have q47 : At (Ty.nat k) s9 a11 (.tmp 12) := kpm hs2 (by decide) (sm2 12 (by decide)) q41
   have q48 : At (Ty.lst Ty.ints l) s9 a11 (.tmp 10) := kpm hs2 (by decide) (sm2 10 (by decide)) q42
   have q49 : At (Ty.nat (List.length l)) s9 a11 (.tmp 11) := kpm hs2 (by decide) (sm2 11 (by decide)) q43
   have q50 : At (Ty.lst Ty.int (byL ((curL r l k)) ((chgRow ((List.length (curL r l k))) ((l.getD k [])))))) s9 a11 (.tmp 0) := kpm hs2 (by decide) (sm2 0 (by decide)) q44
   have q51 : At (Ty.sl 1 1 [(Ty.lst Ty.int (byL ((curL r l k)) ((chgRow ((List.length (curL r l k))) ((l.getD k []))))))]) s9 a11 (.tmp 24) := kpm hs2 (by decide) (sm2 24 (by decide)) q45
   have q52 : (Pr.own 2 23 1 (List.length ((fromTo r l k) ++ [(byL ((curL r l k)) ((chgRow ((List.length (curL r l k))) ((l.getD k [])))))])) (List.map Ty.ints ((fromTo r l k) ++ [(byL ((curL r l k)) ((chgRow ((List.length (curL r l k))) ((l.getD k [])))))]))).has s9 (a11.eval (.tmp 25)) := kpmo hs2 (by decide) (.inl rfl) (sm2 25 (by decide)) q46
   have q53 : (Pr.own 2 23 1 (List.length ((fromTo r l k) ++ [(byL ((curL r l k)) ((chgRow ((List.length (curL r l k))) ((l.getD k [])))))])) (List.map Ty.ints ((fromTo r l k) ++ [(byL ((curL r l k)) ((chgRow ((List.length (curL r l k))) ((l.getD k [])))))]))).has s9 (a11.eval (.tmp 5)) := r2
   refine wpList_nil ?_; refine bn ?_; refine tn ?_
   refine rg a11 s9 [(Ty.int (((k : Nat) : Int) + (1 : Int))), (Ty.int (((k : Nat) : Int) + (1 : Int)))] ok10 ⟨?_, ?_, trivial⟩ ?_
   · intro A B G H I; exact rP (y_add (kp (I 12 rfl) G q47) rfl (w64 (by omega) (by omega)))
   · intro A B G H I d0; exact rP (y_move (ed d0 rfl rfl rfl))
   intro a12 s10 D8; have ok11 := D8.ok; have F11 := F10.step0 D8.stp; have q54 := D8.kt q48 rfl; have q55 := D8.kt q49 rfl; have q56 := D8.kt q50 rfl
   have q57 : (Pr.own 2 23 1 (List.length ((fromTo r l k) ++ [(byL ((curL r l k)) ((chgRow ((List.length (curL r l k))) ((l.getD k [])))))])) (List.map Ty.ints ((fromTo r l k) ++ [(byL ((curL r l k)) ((chgRow ((List.length (curL r l k))) ((l.getD k [])))))]))).has s10 (a12.eval (.tmp 5)) := D8.ko q53 rfl
   have q58 := D8.dn 1 rfl rfl; clear D8
   exact tn ⟨l.length - ((k+1)), by omega, s10, (k+1), rfl, F11, ok11, (cvi (by (first | rfl | omega | (simp_all; done) | (simp_all; omega))) q58), (cvt (by (rw [curL_succ r l k (by omega)])) q56), (cvo (by (rw [fromTo_succ, curL_succ r l k (by omega)])) (by (rw [fromTo_succ, curL_succ r l k (by omega)])) q57), q54, q55, by omega, rfl⟩
  ·
   refine wp_exit ?_; refine tx ?_; refine tx ?_; refine bx ?_; refine tn ?_; refine wp_seq ?_
   refine rg a6 s4 [(Ty.val (a6.eval (.tmp 5))), (Ty.val (a6.eval (.tmp 5)))] ok5 ⟨?_, ?_, trivial⟩ ?_
   · intro A B G H I; exact rP (y_move (I 5 rfl))
   · intro A B G H I d0 d1; exact rP (y_assign (ed d0 rfl rfl rfl))
   intro a13 s11 D9; have ok12 := D9.ok; have F12 := F5.step0 D9.stp
   have q59 : (Pr.own 2 23 1 (List.length (fromTo r l k)) (List.map Ty.ints (fromTo r l k))).has s11 (a13.eval (.tmp 4)) := al (show _ = _ from D9.done 1) ((Pr.own 2 23 1 (List.length (fromTo r l k)) (List.map Ty.ints (fromTo r l k))).up D9.stp q18)
   clear D9; refine tn ?_; refine wp_ret ?_
   obtain ⟨t3, e1, h1, q60⟩ := Own.seal q59 (by decide)
   rw [← e1]
   have F13 := F12.step h1 (by decide)
   exact ret1 rfl ok12 F13 (cvt (by (obtain rfl : k = l.length := (by omega); rfl)) q60)


set_option maxHeartbeats 4000000 in
set_option maxRecDepth 100000 in
theorem callRows_fn (nm : ByteArray) (n : Int) (l : List (List Int)) (cs : List BCall) (leads : List Int) (σ : GW)  (v0 v1 v2 : Value) (hv0 : Ty.has (Ty.agg [(Ty.val (Value.string nm)), (Ty.int n), (Ty.lst Ty.ints l)]) σ v0) (hv1 : Ty.has (Ty.lstc 2 callC cs) σ v1) (hv2 : Ty.has (Ty.lst Ty.int leads) σ v2)  (hnm : nm.size ≤ 1099511627776) (hn : -9223372036854775808 ≤ n ∧ n ≤ 9223372036854775807) :
    FnC Try.prog 54 #[v0, v1, v2] σ (Ty.tup2 (Ty.lst Ty.ints (if touchMay nm n l cs leads = 0 then (tRows n.toNat l cs leads leads.length) else [])) (Ty.int (touchMay nm n l cs leads))) := by
 refine fn_intro0 Try.func54 rfl Try.ntmps54 (Nat.le_of_ble_eq_true rfl) (fun s0 a0 hle F0 ok0 hargs => ?_)
 have p0 : At (Ty.agg [(Ty.val (Value.string nm)), (Ty.int n), (Ty.lst Ty.ints l)]) s0 a0 (.tmp 0) := by have e := hargs 0 _ rfl; show Ty.has _ _ _; rw [e]; exact Ty.up _ hle hv0
 have p1 : At (Ty.lstc 2 callC cs) s0 a0 (.tmp 1) := by have e := hargs 1 _ rfl; show Ty.has _ _ _; rw [e]; exact Ty.up _ hle hv1
 have b1 := sl_le p1
 have p2 : At (Ty.lst Ty.int leads) s0 a0 (.tmp 2) := by have e := hargs 2 _ rfl; show Ty.has _ _ _; rw [e]; exact Ty.up _ hle hv2
 have b2 := sl_le p2
 clear hargs; refine wp_seq ?_
 refine rg a0 s0 [(Ty.ref [(Ty.val (Value.string nm)), (Ty.int n), (Ty.lst Ty.ints l)]), (Ty.val (Value.slice none 0 0)), (Ty.int (0 : Int))] ok0 ⟨?_, ?_, ?_, trivial⟩ ?_
 · intro A B G H I; exact rP (y_boxagg (kp (I 0 rfl) G p0))
 · intro A B G H I; exact rP (y_assign rfl)
 · intro A B G H I d0; exact rP (y_assign rfl)
 intro a1 s1 D1; have ok1 := D1.ok; have F1 := F0.step0 D1.stp; have q1 := D1.kt p1 rfl; have q2 := D1.kt p2 rfl; have q3 := D1.dn 0 rfl rfl; clear D1; refine tn ?_; refine wp_seq ?_; refine wp_seq ?_
 refine rg a1 s1 [(Ty.agg [(Ty.val (Value.string nm)), (Ty.int n), (Ty.lst Ty.ints l)]), (Ty.lstc 2 callC cs), (Ty.lst Ty.int leads), (Ty.int (touchMay nm n l cs leads)), (Ty.int (touchMay nm n l cs leads))] ok1 ⟨?_, ?_, ?_, ?_, ?_, trivial⟩ ?_
 · intro A B G H I; exact rP (y_loadagg Try.underlying31 Try.inf31 (kp (I 3 rfl) G q3))
 · intro A B G H I; exact rP (y_move (kp (I 1 rfl) G q1))
 · intro A B G H I; exact rP (y_move (kp (I 2 rfl) G q2))
 · intro A B G H I d0 d1 d2; exact rP (y_call #[A.eval (.tmp 14), A.eval (.tmp 15), A.eval (.tmp 16)] Try.func88 rfl rfl (by simp only [List.map_toArray, List.map_cons, List.map_nil]) (callMay_fn (nm) (n) (l) (cs) (leads) _ _ _ _ (ed d0 rfl rfl rfl) (ed d1 rfl rfl rfl) (ed d2 rfl rfl rfl) (by first | omega | assumption) (by first | omega | assumption)))
 · intro A B G H I d0 d1 d2 d3 d4 d5; exact rP (y_assign (ed d0 rfl rfl rfl))
 intro a2 s2 D2; have ok2 := D2.ok; have F2 := F1.step0 D2.stp; have q4 := D2.kt q1 rfl; have q5 := D2.kt q2 rfl; have q6 := D2.kt q3 rfl; have q7 := D2.dn 4 rfl rfl; clear D2; refine tn ?_; refine wp_seq ?_
 refine rg a2 s2 [(Ty.int (touchMay nm n l cs leads)), (Ty.bool (decide ((touchMay nm n l cs leads) ≠ (0 : Int))))] ok2 ⟨?_, ?_, trivial⟩ ?_
 · intro A B G H I; exact rP (y_move (kp (I 8 rfl) G q7))
 · intro A B G H I d0; exact rP (y_neq (ed d0 rfl rfl rfl) rfl)
 intro a3 s3 D3; have ok3 := D3.ok; have F3 := F2.step0 D3.stp; have q8 := D3.kt q4 rfl; have q9 := D3.kt q5 rfl; have q10 := D3.kt q6 rfl; have q11 := D3.kt q7 rfl; have q12 := D3.dn 1 rfl rfl; clear D3; refine tn ?_
 refine cond_p (p := ((touchMay nm n l cs leads) ≠ (0 : Int))) q12 (fun c1 => ?_) (fun c1 => ?_)
 ·
  refine wp_seq ?_
  refine rg a3 s3 [(Ty.int (touchMay nm n l cs leads)), (Ty.val (Value.slice none 0 0)), (Ty.int (touchMay nm n l cs leads))] ok3 ⟨?_, ?_, ?_, trivial⟩ ?_
  · intro A B G H I d0; exact rP (y_move (kp (I 8 rfl) G q11))
  · intro A B G H I d0; exact rP (y_assign rfl)
  · intro A B G H I d0 d1 d2 d3; exact rP (y_assign (ed d0 rfl rfl rfl))
  intro a4 s4 D4; have ok4 := D4.ok; have F4 := F3.step0 D4.stp; have q13 := D4.dn 1 rfl rfl; have q14 := D4.dn 2 rfl rfl; clear D4; refine tn ?_; refine wp_ret ?_; refine tr ?_
  exact retL2 rfl ok4 F4 (hasT2 (nil_lst (by (rw [if_neg c1])) q13) q14)
 ·
  have h0 := Classical.not_not.1 c1; obtain ⟨hok, hnn, hlo, hlh, hin, hlim⟩ := touchMay_ok h0; have hl1 := hok.meth.l1; have hl2 := hok.meth.l2; have hn1 := hok.meth.n1; have hn2 := hok.meth.n2
  refine wp_skip ?_; refine tn ?_; refine wp_seq ?_
  refine rg a3 s3 [(Ty.ref [(Ty.int n), (Ty.lst Ty.ints l)]), (Ty.int n), (Ty.tup2 (Ty.lst Ty.int (roundsL ((n).toNat))) (Ty.int (0 : Int))), (Ty.tup2 (Ty.lst Ty.int (roundsL ((n).toNat))) (Ty.int (0 : Int))), (Ty.lst Ty.int (roundsL ((n).toNat))), (Ty.int (0 : Int)), (Ty.lst Ty.int (roundsL ((n).toNat))), (Ty.int (0 : Int))] ok3 ⟨?_, ?_, ?_, ?_, ?_, ?_, ?_, ?_, trivial⟩ ?_
  · intro A B G H I; exact rP (y_field Try.fld31_1 Try.inf3 (by decide) (kp (I 3 rfl) G q10) rfl)
  · intro A B G H I d0; exact rP (y_load Try.underlying3 rfl (ed d0 rfl rfl rfl) rfl)
  · intro A B G H I d0; exact rP (y_call #[A.eval (.tmp 23)] Try.func49 rfl rfl (by simp only [List.map_toArray, List.map_cons, List.map_nil]) (rounds_fn ((n).toNat) _ _ (cvi (σ := B) (by omega) (ed d0 rfl rfl rfl)) (by omega)))
  · intro A B G H I d0; exact rP (y_move (ed d0 rfl rfl rfl))
  · intro A B G H I d0; exact rP (y_ext2_0 (ed d0 rfl rfl rfl))
  · intro A B G H I d0 d1; exact rP (y_ext2_1 (ed d0 rfl rfl rfl))
  · intro A B G H I d0 d1 d2 d3 d4 d5 d6 d7; exact rP (y_assign (ed d0 rfl rfl rfl))
  · intro A B G H I d0 d1 d2 d3 d4 d5 d6 d7 d8; exact rP (y_assign (ed d0 rfl rfl rfl))
  intro a5 s5 D5; have ok5 := D5.ok; have F5 := F3.step0 D5.stp; have q15 := D5.kt q8 rfl; have q16 := D5.kt q9 rfl; have q17 := D5.kt q10 rfl; have q18 := D5.dn 6 rfl rfl; clear D5; refine tn ?_; refine wp_seq ?_
  refine reg2 (a := a5) (σ := s5) rfl 2 (fun i_ => List.getD [(Ty.pr (Ty.lst Ty.int (roundsL ((n).toNat)))), (Pr.own 5 23 1 1 (List.map Ty.ints [(roundsL ((n).toNat))]))] i_ Pr.any) ok5 rfl (by decide) rfl ⟨?_, ?_, trivial⟩ ?_
  · intro A B G H I; exact rP (y_move (kp (I 9 rfl) G q18))
  · intro A B G H I d0; exact rP ((y_lit1 (k := 5) Try.underlying29 Try.inf23 rfl (one_sl) (ed d0 rfl rfl rfl)).mono (fun _ _ h => cvo (by simp) (by simp) h))
  intro a6 s6 D6; have ok6 := D6.ok; have F6 := F5.step0 D6.stp; have q19 := D6.kt q15 rfl; have q20 := D6.kt q16 rfl; have q21 := D6.kt q17 rfl
  obtain ⟨x1, hx1⟩ : ∃ x, a6.eval (.tmp 28) = x := ⟨_, rfl⟩
  have q22 : At (Ty.val x1) s6 a6 (.tmp 28) := hx1
  have o1 : Own s6 5 23 1 x1 1 (List.map Ty.ints [(roundsL ((n).toNat))]) := al2 (R := (Pr.own 5 23 1 1 (List.map Ty.ints [(roundsL ((n).toNat))]))) hx1 (D6.done 1 (by decide))
  clear D6
  refine tailL (L := []) (R := (fun v τ => Pr.has (Ty.pr (Ty.val x1)) τ v)) rfl rfl (by decide) ok6 (Yld.toL (y_assign q22)) (fun a7 s7 hs1 ok7 r1 sm1 => ?_)
  have F7 := F6.stepL hs1 (by decide); have q23 := kpL hs1 (by decide) (sm1 1 (by decide)) q19; have q24 := kpL hs1 (by decide) (sm1 2 (by decide)) q20; have q25 := kpL hs1 (by decide) (sm1 3 (by decide)) q21; have o2 := Own.keepL o1 hs1 (by decide) (by decide)
  have q26 : At (Ty.val x1) s7 a7 (.tmp 11) := r1
  clear r1; refine wpList_nil ?_; refine tn ?_; refine wp_seq ?_; refine wp_seq ?_
  refine rg a7 s7 [(Ty.lst Ty.int leads), (Ty.nat (List.length leads)), (Ty.int (0 : Int))] ok7 ⟨?_, ?_, ?_, trivial⟩ ?_
  · intro A B G H I; exact rP (y_move (kp (I 2 rfl) G q24))
  · intro A B G H I d0; exact rP (y_len Try.underlying23 (ed d0 rfl rfl rfl))
  · intro A B G H I; exact rP (y_move rfl)
  intro a8 s8 D7; have ok8 := D7.ok; have F8 := F7.step0 D7.stp; have q27 := D7.kt q23 rfl; have q28 := D7.kt q25 rfl; have q29 := D7.kt q26 rfl; have o3 := Own.k0 o2 D7.stp; have q30 := D7.dn 0 rfl rfl; have q31 := D7.dn 1 rfl rfl; have q32 := D7.dn 2 rfl rfl; clear D7; refine tn ?_; refine wp_block ?_
  refine loop (fun n1 a9 w1 => ∃ (t1 : GW) (k : Nat) (x11_0 : Value), t1.w = w1 ∧ FromL [] s0 t1 ∧ Ok 53 a9 ∧ At (Ty.nat k) t1 a9 (.tmp 31) ∧ At (Ty.val x11_0) t1 a9 (.tmp 11) ∧ At (Ty.lstc 2 callC cs) t1 a9 (.tmp 1) ∧ At (Ty.ref [(Ty.val (Value.string nm)), (Ty.int n), (Ty.lst Ty.ints l)]) t1 a9 (.tmp 3) ∧ At (Ty.lst Ty.int leads) t1 a9 (.tmp 29) ∧ At (Ty.nat (List.length leads)) t1 a9 (.tmp 30) ∧ Own t1 5 23 1 x11_0 (List.length (tRows n.toNat l cs leads k)) (List.map Ty.ints (tRows n.toNat l cs leads k)) ∧ (k ≤ leads.length) ∧ n1 = leads.length - k) (leads.length - (0)) ?_ ?_
  ·
   exact ⟨s8, 0, x1, rfl, F8, ok8, (cvi (by (first | rfl | omega | (simp_all; done) | (simp_all; omega))) q32), q29, q27, q28, q30, q31, (cvo (by (rfl)) (by (rfl)) o3), by omega, rfl⟩
  ·
   rintro n2 a10 w2 ⟨t2, k, x11_0, rfl, F9, ok9, q33, q34, q35, q36, q37, q38, o4, hk, rfl⟩
   have htl := tRows_len hok hin k hk
   refine wp_seq ?_
   refine reg (a := a10) (σ := t2) rfl (fun i_ => List.getD [(Ty.pr (Ty.bool (decide (((k : Nat) : Int) < (((List.length leads) : Nat) : Int)))))] i_ Pr.any) ok9 rfl ⟨?_, trivial⟩ ?_
   · intro A B G H I; exact rP (y_lss (kp (I 31 rfl) G q33) (kp (I 30 rfl) G q38))
   intro a11 s9 D8; have ok10 := D8.ok; have F10 := F9.step0 D8.stp; have q39 := D8.kt q33 rfl; have q40 := D8.kt q34 rfl; have q41 := D8.kt q35 rfl; have q42 := D8.kt q36 rfl; have q43 := D8.kt q37 rfl; have q44 := D8.kt q38 rfl; have o5 := Own.k0 o4 D8.stp; have q45 := D8.dn 0 rfl rfl; clear D8; refine tn ?_; refine wp_seq ?_
   refine cond_p (p := (((k : Nat) : Int) < (((List.length leads) : Nat) : Int))) q45 (fun c2 => ?_) (fun c2 => ?_)
   ·
    have hkl : k < leads.length := (by omega); obtain ⟨hk0, hkc⟩ := hin k hkl; obtain ⟨E, hE⟩ : ∃ E, E = leadE l cs leads k := ⟨_, rfl⟩; have hsh := hok.short (leads.getD k 0).toNat (by omega); obtain ⟨hHr, hHl⟩ := tHd_row hok hin k (by omega); have hR : ((tRows n.toNat l cs leads k).getD ((((((tRows n.toNat l cs leads k).length : Nat) : Int) - (1 : Int))).toNat) []) = tHd n.toNat l cs leads k := (by rw [htl, show ((((k * l.length + 1 : Nat) : Int) - (1 : Int))).toNat = k * l.length by omega]; exact tRows_last hok hin k (by omega)); have hRl : ((tRows n.toNat l cs leads k).getD ((((((tRows n.toNat l cs leads k).length : Nat) : Int) - (1 : Int))).toNat) []).length = n.toNat := (by rw [hR, hHl]); have hokE : ∀ j, j < E.length → okL 0 (E.getD j []) ((tRows n.toNat l cs leads k).getD ((((((tRows n.toNat l cs leads k).length : Nat) : Int) - (1 : Int))).toNat) []).length := (by rw [hRl, hE]; exact leadE_ok hok hin hkl); have hEl : E.length = l.length := (by rw [hE]; exact leadE_len hok hin hkl); have hfl := fromL_len (tHd n.toNat l cs leads k) E; have hfd : ((fromL (tHd n.toNat l cs leads k) E).drop 1).length = E.length := (by rw [List.length_drop, hfl]; omega); have hkm : k * l.length ≤ 400 * 200 := Nat.mul_le_mul (by omega) hl2
    refine wp_skip ?_; refine tn ?_; refine wp_seq ?_; refine wp_block ?_; refine wp_seq ?_
    refine rg a11 s9 [(Ty.ref [(Ty.int (leads.getD k 0))]), (Ty.int (leads.getD k 0)), (Ty.int (leads.getD k 0))] ok10 ⟨?_, ?_, ?_, trivial⟩ ?_
    · intro A B G H I; exact rP (y_index1 Try.underlying23 Try.inf3 (kp (I 29 rfl) G q43) (kp (I 31 rfl) G q39) (by omega) (lst_get Ty.int leads 0 k (by omega)))
    · intro A B G H I d0; exact rP (y_load Try.underlying3 rfl (ed d0 rfl rfl rfl) rfl)
    · intro A B G H I d0 d1 d2; exact rP (y_assign (ed d0 rfl rfl rfl))
    intro a12 s10 D9; have ok11 := D9.ok; have F11 := F10.step0 D9.stp; have q46 := D9.kt q39 rfl; have q47 := D9.kt q40 rfl; have q48 := D9.kt q41 rfl; have q49 := D9.kt q42 rfl; have q50 := D9.kt q43 rfl; have q51 := D9.kt q44 rfl; have o6 := Own.k0 o5 D9.stp; have q52 := D9.dn 2 rfl rfl; clear D9; refine tn ?_
    refine reg2 (a := a12) (σ := s10) rfl 15 (fun i_ => List.getD [(Ty.pr (Ty.val x11_0)), (Ty.pr (Ty.val x11_0)), (Ty.pr (Ty.val x11_0)), (Ty.pr (Ty.nat (List.length (tRows n.toNat l cs leads k)))), (Ty.pr (Ty.int ((((List.length (tRows n.toNat l cs leads k)) : Nat) : Int) - (1 : Int)))), (Ty.pr (Ty.val (cellPtr x11_0 (((((List.length (tRows n.toNat l cs leads k)) : Nat) : Int) - (1 : Int))).toNat))), (Ty.pr (Ty.lst Ty.int ((tRows n.toNat l cs leads k).getD (((((List.length (tRows n.toNat l cs leads k)) : Nat) : Int) - (1 : Int))).toNat []))), (Ty.pr (Ty.agg [(Ty.val (Value.string nm)), (Ty.int n), (Ty.lst Ty.ints l)])), (Ty.pr (Ty.lstc 2 callC cs)), (Ty.pr (Ty.int (leads.getD k 0))), (Ty.pr (Ty.ref [(Ty.val (Value.int .i32 ((cs.getD ((leads.getD k 0)).toNat D0)).1)), (Ty.lst Ty.ints ((cs.getD ((leads.getD k 0)).toNat D0)).2)])), (Ty.pr (Ty.agg [(Ty.val (Value.int .i32 ((cs.getD ((leads.getD k 0)).toNat D0)).1)), (Ty.lst Ty.ints ((cs.getD ((leads.getD k 0)).toNat D0)).2)])), (Ty.pr (Ty.lst Ty.ints E)), (Ty.pr (Ty.lst Ty.ints (fromL (tHd n.toNat l cs leads k) E))), (Ty.pr (Ty.lst Ty.ints ((fromL (tHd n.toNat l cs leads k) E).drop 1)))] i_ Pr.any) ok11 rfl (by decide) rfl ⟨?_, ?_, ?_, ?_, ?_, ?_, ?_, ?_, ?_, ?_, ?_, ?_, ?_, ?_, ?_, trivial⟩ ?_
    · intro A B G H I; exact rP (y_move (kp (I 11 rfl) G q47))
    · intro A B G H I; exact rP (y_move (kp (I 11 rfl) G q47))
    · intro A B G H I; exact rP (y_move (kp (I 11 rfl) G q47))
    · intro A B G H I d0; exact rP (own_len Try.underlying29 (al (R := (Pr.own 5 23 1 (List.length (tRows n.toNat l cs leads k)) (List.map Ty.ints (tRows n.toNat l cs leads k)))) (ed d0 rfl rfl rfl) (Own.k0 o6 G)))
    · intro A B G H I d0; exact rP (y_sub (ed d0 rfl rfl rfl) rfl (w64 (by omega) (by omega)))
    · intro A B G H I d0 d1; exact rP (own_index1 (i := ((((List.length (tRows n.toNat l cs leads k)) : Nat) : Int) - (1 : Int))) Try.underlying29 Try.inf23 (Own.k0 o6 G) (ed d0 rfl rfl rfl) (ed d1 rfl rfl rfl) (by omega) (by omega))
    · intro A B G H I d0; exact rP (own_load Try.underlying23 rfl (Own.k0 o6 G) (ed d0 rfl rfl rfl) (lst_get Ty.ints (tRows n.toNat l cs leads k) [] (((((List.length (tRows n.toNat l cs leads k)) : Nat) : Int) - (1 : Int))).toNat (by omega)))
    · intro A B G H I; exact rP (y_loadagg Try.underlying31 Try.inf31 (kp (I 3 rfl) G q49))
    · intro A B G H I; exact rP (y_move (kp (I 1 rfl) G q48))
    · intro A B G H I; exact rP (y_move (kp (I 13 rfl) G q52))
    · intro A B G H I d0 d1; exact rP (y_indexc (i := (leads.getD k 0)) D0 Try.underlying22 Try.inf56 (ed d0 rfl rfl rfl) (ed d1 rfl rfl rfl) (by omega) (by omega) (by decide) (fun _ => rfl))
    · intro A B G H I d0; exact rP (y_loadagg Try.underlying56 Try.inf56 (ed d0 rfl rfl rfl))
    · intro A B G H I d0 d1; exact rP ((y_call #[A.eval (.tmp 42), A.eval (.tmp 46)] Try.func48 rfl rfl (by simp only [List.map_toArray, List.map_cons, List.map_nil]) (changes_fn (nm) (n) (l) (((cs.getD ((leads.getD k 0)).toNat D0)).1) (((cs.getD ((leads.getD k 0)).toNat D0)).2) _ _ _ (ed d0 rfl rfl rfl) (ed d1 rfl rfl rfl) (by first | omega | assumption) (by first | omega | assumption) (by first | omega | assumption))).mono (fun τ _ h => cvt (σ := τ) (T := (Ty.lst Ty.ints (endsL l ((((cs.getD ((leads.getD k 0)).toNat D0)).1), (((cs.getD ((leads.getD k 0)).toNat D0)).2))))) (U := (Ty.lst Ty.ints E)) (by rw [hE]; rfl) h))
    · intro A B G H I d0 d1 d2; exact rP ((y_call #[A.eval (.tmp 41), A.eval (.tmp 47)] Try.func83 rfl rfl (by simp only [List.map_toArray, List.map_cons, List.map_nil]) (from_fn (((tRows n.toNat l cs leads k).getD (((((List.length (tRows n.toNat l cs leads k)) : Nat) : Int) - (1 : Int))).toNat [])) (E) _ _ _ (ed d0 rfl rfl rfl) (ed d1 rfl rfl rfl) (by first | omega | assumption) (by first | omega | assumption) (by first | omega | assumption))).mono (fun τ _ h => cvt (σ := τ) (T := (Ty.lst Ty.ints (fromL (((tRows n.toNat l cs leads k).getD (((((List.length (tRows n.toNat l cs leads k)) : Nat) : Int) - (1 : Int))).toNat [])) (E)))) (U := (Ty.lst Ty.ints (fromL (tHd n.toNat l cs leads k) E))) (by rw [hR]) h))
    · intro A B G H I d0; exact rP (y_drop Try.underlying29 Try.inf23 (ed d0 rfl rfl rfl) (toN (σ := B) rfl (by omega)) (by omega))
    intro a13 s11 D10; have ok12 := D10.ok; have F12 := F11.step0 D10.stp; have q53 := D10.kt q46 rfl; have q54 := D10.kt q47 rfl; have q55 := D10.kt q48 rfl; have q56 := D10.kt q49 rfl; have q57 := D10.kt q50 rfl; have q58 := D10.kt q51 rfl; have o7 := Own.k0 o6 D10.stp
    have q59 : At (Ty.val x11_0) s11 a13 (.tmp 35) := D10.done 0 (by decide)
    have q60 := D10.dn 14 (by decide) rfl rfl
    have b3 := sl_le q60
    clear D10
    refine tailL (L := [5]) (R := (fun v τ => Own τ 5 23 1 v ((List.length (tRows n.toNat l cs leads k)) + (List.length ((fromL (tHd n.toNat l cs leads k) E).drop 1))) ((List.map Ty.ints (tRows n.toNat l cs leads k)) ++ (List.map Ty.ints ((fromL (tHd n.toNat l cs leads k) E).drop 1))))) rfl rfl (by decide) ok12 (YldM.toL (m_append Try.underlying29 Try.inf23 (by decide) rfl (by decide) (al (R := (Pr.own 5 23 1 (List.length (tRows n.toNat l cs leads k)) (List.map Ty.ints (tRows n.toNat l cs leads k)))) q59 o7) q60 (one_map (fun _ => one_sl)) (by omega) (by omega))) (fun a14 s12 hs2 ok13 r2 sm2 => ?_)
    have F13 := F12.stepL hs2 (by decide); have q61 := kpL hs2 (by decide) (sm2 31 (by decide)) q53; have q62 := kpL hs2 (by decide) (sm2 11 (by decide)) q54; have q63 := kpL hs2 (by decide) (sm2 1 (by decide)) q55; have q64 := kpL hs2 (by decide) (sm2 3 (by decide)) q56; have q65 := kpL hs2 (by decide) (sm2 29 (by decide)) q57; have q66 := kpL hs2 (by decide) (sm2 30 (by decide)) q58
    obtain ⟨x2, hx2⟩ : ∃ x, a14.eval (.tmp 50) = x := ⟨_, rfl⟩
    have q67 : At (Ty.val x2) s12 a14 (.tmp 50) := hx2
    have o8 : Own s12 5 23 1 x2 (List.length ((tRows n.toNat l cs leads k) ++ ((fromL (tHd n.toNat l cs leads k) E).drop 1))) (List.map Ty.ints ((tRows n.toNat l cs leads k) ++ ((fromL (tHd n.toNat l cs leads k) E).drop 1))) := al2 (R := (Pr.own 5 23 1 (List.length ((tRows n.toNat l cs leads k) ++ ((fromL (tHd n.toNat l cs leads k) E).drop 1))) (List.map Ty.ints ((tRows n.toNat l cs leads k) ++ ((fromL (tHd n.toNat l cs leads k) E).drop 1))))) hx2 (cvo (by simp) (by first | (rw [List.map_append]; rfl) | simp) r2)
    clear r2
    refine tailL (L := []) (R := (fun v τ => Pr.has (Ty.pr (Ty.val x2)) τ v)) rfl rfl (by decide) ok13 (Yld.toL (y_assign q67)) (fun a15 s13 hs3 ok14 r3 sm3 => ?_)
    have F14 := F13.stepL hs3 (by decide); have q68 := kpL hs3 (by decide) (sm3 31 (by decide)) q61; have q69 := kpL hs3 (by decide) (sm3 1 (by decide)) q63; have q70 := kpL hs3 (by decide) (sm3 3 (by decide)) q64; have q71 := kpL hs3 (by decide) (sm3 29 (by decide)) q65; have q72 := kpL hs3 (by decide) (sm3 30 (by decide)) q66; have o9 := Own.keepL o8 hs3 (by decide) (by decide)
    have q73 : At (Ty.val x2) s13 a15 (.tmp 11) := r3
    clear r3; refine wpList_nil ?_; refine bn ?_; refine tn ?_
    refine rg a15 s13 [(Ty.nat (k + 1)), (Ty.nat (k + 1))] ok14 ⟨?_, ?_, trivial⟩ ?_
    · intro A B G H I; exact rP ((y_add (kp (I 31 rfl) G q68) rfl (w64 (by omega) (by omega))).mono (fun τ _ h => cvi (σ := τ) (by first | omega | exact (Int.natCast_mul _ _).symm) h))
    · intro A B G H I d0; exact rP (y_move (ed d0 rfl rfl rfl))
    intro a16 s14 D11; have ok15 := D11.ok; have F15 := F14.step0 D11.stp; have q74 := D11.kt q69 rfl; have q75 := D11.kt q70 rfl; have q76 := D11.kt q71 rfl; have q77 := D11.kt q72 rfl; have q78 := D11.kt q73 rfl; have o10 := Own.k0 o9 D11.stp; have q79 := D11.dn 1 rfl rfl; clear D11
    exact tn ⟨leads.length - ((k+1)), by omega, s14, (k+1), x2, rfl, F15, ok15, (cvi (by (first | rfl | omega | (simp_all; done) | (simp_all; omega))) q79), q78, q74, q75, q76, q77, (cvo (by (rw [tRows, ← hE])) (by (rw [tRows, ← hE])) o10), by omega, rfl⟩
   ·
    refine wp_exit ?_; refine tx ?_; refine tx ?_; refine bx ?_; refine tn ?_; refine wp_seq ?_
    refine rg a11 s9 [(Ty.val x11_0), (Ty.val x11_0), (Ty.int (0 : Int))] ok10 ⟨?_, ?_, ?_, trivial⟩ ?_
    · intro A B G H I; exact rP (y_move (kp (I 11 rfl) G q40))
    · intro A B G H I d0 d1; exact rP (y_assign (ed d0 rfl rfl rfl))
    · intro A B G H I d0 d1 d2; exact rP (y_assign rfl)
    intro a17 s15 D12; have ok16 := D12.ok; have F16 := F10.step0 D12.stp; have o11 := Own.k0 o5 D12.stp
    have q80 : At (Ty.val x11_0) s15 a17 (.tmp 6) := D12.done 1
    have q81 := D12.dn 2 rfl rfl; clear D12; refine tn ?_; refine wp_ret ?_
    obtain ⟨t3, e1, h1, q82⟩ := Own.seal o11 (by decide)
    rw [← e1]
    have F17 := F16.step h1 (by decide)
    have q83 : At (Ty.lst Ty.ints (tRows n.toNat l cs leads k)) t3 a17 (.tmp 6) := by have e : a17.eval (.tmp 6) = x11_0 := q80; show Ty.has _ _ _; rw [e]; exact q82
    have q84 := Ty.up (Ty.int (0 : Int)) (h1.le (by decide)) q81
    exact retL2 rfl ok16 F17 (hasT2 (cvt (by (rw [if_pos h0, show k = leads.length by omega])) q83) (cvi (by (exact h0.symm)) q84))


set_option maxHeartbeats 4000000 in
set_option maxRecDepth 100000 in
theorem rowPlace_fn (r : List Int) (σ : GW)  (v0 : Value) (hv0 : Ty.has (Ty.lst Ty.int r) σ v0)  (hr : r.length ≤ 12) :
    FnC Try.prog 55 #[v0] σ (Ty.nat (rankL r)) := by
 refine fn_intro0 Try.func55 rfl Try.ntmps55 (Nat.le_of_ble_eq_true rfl) (fun s0 a0 hle F0 ok0 hargs => ?_)
 have p0 : At (Ty.lst Ty.int r) s0 a0 (.tmp 0) := by have e := hargs 0 _ rfl; show Ty.has _ _ _; rw [e]; exact Ty.up _ hle hv0
 have b1 := sl_le p0
 clear hargs; refine wp_seq ?_
 refine rg a0 s0 [(Ty.int (0 : Int))] ok0 ⟨?_, trivial⟩ ?_
 · intro A B G H I; exact rP (y_assign rfl)
 intro a1 s1 D1; have ok1 := D1.ok; have F1 := F0.step0 D1.stp; have q1 := D1.kt p0 rfl; clear D1; refine tn ?_; refine wp_seq ?_
 refine rg a1 s1 [(Ty.int (0 : Int))] ok1 ⟨?_, trivial⟩ ?_
 · intro A B G H I; exact rP (y_assign rfl)
 intro a2 s2 D2; have ok2 := D2.ok; have F2 := F1.step0 D2.stp; have q2 := D2.kt q1 rfl; have q3 := D2.dn 0 rfl rfl; clear D2; refine tn ?_; refine wp_seq ?_; refine wp_seq ?_
 refine rg a2 s2 [(Ty.lst Ty.int r), (Ty.nat (List.length r)), (Ty.int (0 : Int))] ok2 ⟨?_, ?_, ?_, trivial⟩ ?_
 · intro A B G H I; exact rP (y_move (kp (I 0 rfl) G q2))
 · intro A B G H I d0; exact rP (y_len Try.underlying23 (ed d0 rfl rfl rfl))
 · intro A B G H I; exact rP (y_move rfl)
 intro a3 s3 D3; have ok3 := D3.ok; have F3 := F2.step0 D3.stp; have q4 := D3.kt q2 rfl; have q5 := D3.kt q3 rfl; have q6 := D3.dn 0 rfl rfl; have q7 := D3.dn 1 rfl rfl; have q8 := D3.dn 2 rfl rfl; clear D3; refine tn ?_; refine wp_block ?_
 refine loop (fun n1 a4 w1 => ∃ (t1 : GW) (i : Nat) (q : Nat), t1.w = w1 ∧ FromL [] s0 t1 ∧ Ok 41 a4 ∧ At (Ty.nat i) t1 a4 (.tmp 11) ∧ At (Ty.nat q) t1 a4 (.tmp 3) ∧ At (Ty.lst Ty.int r) t1 a4 (.tmp 0) ∧ At (Ty.lst Ty.int r) t1 a4 (.tmp 9) ∧ At (Ty.nat (List.length r)) t1 a4 (.tmp 10) ∧ (i ≤ r.length) ∧ (q * fct (r.length - i) + rankL (r.drop i) = rankL r) ∧ n1 = r.length - i) (r.length - (0)) ?_ ?_
 ·
  exact ⟨s3, 0, 0, rfl, F3, ok3, (cvi (by (first | rfl | omega | (simp_all; done) | (simp_all; omega))) q8), (cvi (by (first | rfl | omega | (simp_all; done) | (simp_all; omega))) q5), q4, q6, q7, by omega, by simp, rfl⟩
 ·
  rintro n2 a5 w2 ⟨t2, i, q, rfl, F4, ok4, q9, q10, q11, q12, q13, hi, hq, rfl⟩
  have hpl := place_le hq
  have hrl := rank_le12 hr
  refine wp_seq ?_
  refine reg (a := a5) (σ := t2) rfl (fun i_ => List.getD [(Ty.pr (Ty.bool (decide (((i : Nat) : Int) < (((List.length r) : Nat) : Int)))))] i_ Pr.any) ok4 rfl ⟨?_, trivial⟩ ?_
  · intro A B G H I; exact rP (y_lss (kp (I 11 rfl) G q9) (kp (I 10 rfl) G q13))
  intro a6 s4 D4; have ok5 := D4.ok; have F5 := F4.step0 D4.stp; have q14 := D4.kt q9 rfl; have q15 := D4.kt q10 rfl; have q16 := D4.kt q11 rfl; have q17 := D4.kt q12 rfl; have q18 := D4.kt q13 rfl; have q19 := D4.dn 0 rfl rfl; clear D4; refine tn ?_; refine wp_seq ?_
  refine cond_p (p := (((i : Nat) : Int) < (((List.length r) : Nat) : Int))) q19 (fun c1 => ?_) (fun c1 => ?_)
  ·
   have hmb := place_mul hr (by omega) hq
   refine wp_skip ?_; refine tn ?_; refine wp_seq ?_; refine wp_block ?_; refine wp_seq ?_
   refine rg a6 s4 [(Ty.nat i), (Ty.ref [(Ty.int (r.getD i 0))]), (Ty.int (r.getD i 0)), (Ty.nat i), (Ty.int (r.getD i 0))] ok5 ⟨?_, ?_, ?_, ?_, ?_, trivial⟩ ?_
   · intro A B G H I; exact rP (y_move (kp (I 11 rfl) G q14))
   · intro A B G H I; exact rP (y_index1 Try.underlying23 Try.inf3 (kp (I 9 rfl) G q17) (kp (I 11 rfl) G q14) (by omega) (lst_get Ty.int r 0 i (by omega)))
   · intro A B G H I d0; exact rP (y_load Try.underlying3 rfl (ed d0 rfl rfl rfl) rfl)
   · intro A B G H I d0 d1 d2 d3; exact rP (y_assign (ed d0 rfl rfl rfl))
   · intro A B G H I d0 d1 d2 d3 d4 d5; exact rP (y_assign (ed d0 rfl rfl rfl))
   intro a7 s5 D5; have ok6 := D5.ok; have F6 := F5.step0 D5.stp; have q20 := D5.kt q14 rfl; have q21 := D5.kt q15 rfl; have q22 := D5.kt q16 rfl; have q23 := D5.kt q17 rfl; have q24 := D5.kt q18 rfl; have q25 := D5.dn 3 rfl rfl; have q26 := D5.dn 4 rfl rfl; clear D5; refine tn ?_; refine wp_seq ?_
   refine rg a7 s5 [(Ty.int (0 : Int))] ok6 ⟨?_, trivial⟩ ?_
   · intro A B G H I; exact rP (y_assign rfl)
   intro a8 s6 D6; have ok7 := D6.ok; have F7 := F6.step0 D6.stp; have q27 := D6.kt q20 rfl; have q28 := D6.kt q21 rfl; have q29 := D6.kt q22 rfl; have q30 := D6.kt q23 rfl; have q31 := D6.kt q24 rfl; have q32 := D6.kt q25 rfl; have q33 := D6.kt q26 rfl; have q34 := D6.dn 0 rfl rfl; clear D6; refine tn ?_; refine wp_seq ?_; refine wp_seq ?_
   refine rg a8 s6 [(Ty.lst Ty.int r), (Ty.nat i), (Ty.nat (i + 1)), (Ty.lst Ty.int (r.drop (i + 1))), (Ty.nat (List.length (r.drop (i + 1)))), (Ty.int (0 : Int))] ok7 ⟨?_, ?_, ?_, ?_, ?_, ?_, trivial⟩ ?_
   · intro A B G H I; exact rP (y_move (kp (I 0 rfl) G q29))
   · intro A B G H I; exact rP (y_move (kp (I 4 rfl) G q32))
   · intro A B G H I d0; exact rP ((y_add (ed d0 rfl rfl rfl) rfl (w64 (by omega) (by omega))).mono (fun τ _ h => cvi (σ := τ) (by first | omega | exact (Int.natCast_mul _ _).symm) h))
   · intro A B G H I d0 d1; exact rP (y_drop Try.underlying23 Try.inf3 (ed d0 rfl rfl rfl) (ed d1 rfl rfl rfl) (by omega))
   · intro A B G H I d0; exact rP (y_len Try.underlying23 (ed d0 rfl rfl rfl))
   · intro A B G H I; exact rP (y_move rfl)
   intro a9 s7 D7; have ok8 := D7.ok; have F8 := F7.step0 D7.stp; have q35 := D7.kt q27 rfl; have q36 := D7.kt q28 rfl; have q37 := D7.kt q29 rfl; have q38 := D7.kt q30 rfl; have q39 := D7.kt q31 rfl; have q40 := D7.kt q32 rfl; have q41 := D7.kt q33 rfl; have q42 := D7.kt q34 rfl; have q43 := D7.dn 3 rfl rfl
   have b2 := sl_le q43
   have q44 := D7.dn 4 rfl rfl; have q45 := D7.dn 5 rfl rfl; clear D7; refine tn ?_; refine wp_block ?_
   refine loop (fun n3 a10 w3 => ∃ (t3 : GW) (j : Nat), t3.w = w3 ∧ FromL [] s0 t3 ∧ Ok 41 a10 ∧ At (Ty.nat j) t3 a10 (.tmp 21) ∧ At (Ty.nat (lessN (r.getD i 0) ((r.drop (i + 1)).take j))) t3 a10 (.tmp 6) ∧ At (Ty.nat i) t3 a10 (.tmp 11) ∧ At (Ty.nat q) t3 a10 (.tmp 3) ∧ At (Ty.lst Ty.int r) t3 a10 (.tmp 0) ∧ At (Ty.lst Ty.int r) t3 a10 (.tmp 9) ∧ At (Ty.nat (List.length r)) t3 a10 (.tmp 10) ∧ At (Ty.nat i) t3 a10 (.tmp 4) ∧ At (Ty.int (r.getD i 0)) t3 a10 (.tmp 5) ∧ At (Ty.lst Ty.int (r.drop (i + 1))) t3 a10 (.tmp 19) ∧ At (Ty.nat (List.length (r.drop (i + 1)))) t3 a10 (.tmp 20) ∧ (j ≤ (r.drop (i + 1)).length) ∧ n3 = (r.drop (i + 1)).length - j) ((r.drop (i + 1)).length - (0)) ?_ ?_
   ·
    exact ⟨s7, 0, rfl, F8, ok8, (cvi (by (first | rfl | omega | (simp_all; done) | (simp_all; omega))) q45), (cvi (by (simp [lessN])) q42), q35, q36, q37, q38, q39, q40, q41, q43, q44, by omega, rfl⟩
   ·
    rintro n4 a11 w4 ⟨t4, j, rfl, F9, ok9, q46, q47, q48, q49, q50, q51, q52, q53, q54, q55, q56, hj, rfl⟩
    have hll := lessN_le (r.getD i 0) ((r.drop (i + 1)).take j)
    have htl := List.length_take_le j (r.drop (i + 1))
    have hdl : (r.drop (i + 1)).length = r.length - (i + 1) := List.length_drop
    refine wp_seq ?_
    refine reg (a := a11) (σ := t4) rfl (fun i_ => List.getD [(Ty.pr (Ty.bool (decide (((j : Nat) : Int) < (((List.length (r.drop (i + 1))) : Nat) : Int)))))] i_ Pr.any) ok9 rfl ⟨?_, trivial⟩ ?_
    · intro A B G H I; exact rP (y_lss (kp (I 21 rfl) G q46) (kp (I 20 rfl) G q56))
    intro a12 s8 D8; have ok10 := D8.ok; have F10 := F9.step0 D8.stp; have q57 := D8.kt q46 rfl; have q58 := D8.kt q47 rfl; have q59 := D8.kt q48 rfl; have q60 := D8.kt q49 rfl; have q61 := D8.kt q50 rfl; have q62 := D8.kt q51 rfl; have q63 := D8.kt q52 rfl; have q64 := D8.kt q53 rfl; have q65 := D8.kt q54 rfl; have q66 := D8.kt q55 rfl; have q67 := D8.kt q56 rfl; have q68 := D8.dn 0 rfl rfl; clear D8; refine tn ?_; refine wp_seq ?_
    refine cond_p (p := (((j : Nat) : Int) < (((List.length (r.drop (i + 1))) : Nat) : Int))) q68 (fun c2 => ?_) (fun c2 => ?_)
    ·
     refine wp_skip ?_; refine tn ?_; refine wp_seq ?_; refine wp_block ?_; refine wp_seq ?_
     refine rg a12 s8 [(Ty.ref [(Ty.int ((r.drop (i + 1)).getD j 0))]), (Ty.int ((r.drop (i + 1)).getD j 0)), (Ty.int ((r.drop (i + 1)).getD j 0))] ok10 ⟨?_, ?_, ?_, trivial⟩ ?_
     · intro A B G H I; exact rP (y_index1 Try.underlying23 Try.inf3 (kp (I 19 rfl) G q66) (kp (I 21 rfl) G q57) (by omega) (lst_get Ty.int (r.drop (i + 1)) 0 j (by omega)))
     · intro A B G H I d0; exact rP (y_load Try.underlying3 rfl (ed d0 rfl rfl rfl) rfl)
     · intro A B G H I d0 d1 d2; exact rP (y_assign (ed d0 rfl rfl rfl))
     intro a13 s9 D9; have ok11 := D9.ok; have F11 := F10.step0 D9.stp; have q69 := D9.kt q57 rfl; have q70 := D9.kt q58 rfl; have q71 := D9.kt q59 rfl; have q72 := D9.kt q60 rfl; have q73 := D9.kt q61 rfl; have q74 := D9.kt q62 rfl; have q75 := D9.kt q63 rfl; have q76 := D9.kt q64 rfl; have q77 := D9.kt q65 rfl; have q78 := D9.kt q66 rfl; have q79 := D9.kt q67 rfl; have q80 := D9.dn 2 rfl rfl; clear D9; refine tn ?_; refine wp_seq ?_
     refine rg a13 s9 [(Ty.int ((r.drop (i + 1)).getD j 0)), (Ty.int (r.getD i 0)), (Ty.bool (decide (((r.drop (i + 1)).getD j 0) < (r.getD i 0))))] ok11 ⟨?_, ?_, ?_, trivial⟩ ?_
     · intro A B G H I; exact rP (y_move (kp (I 8 rfl) G q80))
     · intro A B G H I; exact rP (y_move (kp (I 5 rfl) G q77))
     · intro A B G H I d0 d1; exact rP (y_lss (ed d0 rfl rfl rfl) (ed d1 rfl rfl rfl))
     intro a14 s10 D10; have ok12 := D10.ok; have F12 := F11.step0 D10.stp; have q81 := D10.kt q69 rfl; have q82 := D10.kt q70 rfl; have q83 := D10.kt q71 rfl; have q84 := D10.kt q72 rfl; have q85 := D10.kt q73 rfl; have q86 := D10.kt q74 rfl; have q87 := D10.kt q75 rfl; have q88 := D10.kt q76 rfl; have q89 := D10.kt q77 rfl; have q90 := D10.kt q78 rfl; have q91 := D10.kt q79 rfl; have q92 := D10.dn 2 rfl rfl; clear D10; refine tn ?_
     refine cond_p (p := (((r.drop (i + 1)).getD j 0) < (r.getD i 0))) q92 (fun c3 => ?_) (fun c3 => ?_)
     ·
      refine rg a14 s10 [(Ty.nat (lessN (r.getD i 0) ((r.drop (i + 1)).take j))), (Ty.nat ((lessN (r.getD i 0) ((r.drop (i + 1)).take j)) + 1)), (Ty.nat ((lessN (r.getD i 0) ((r.drop (i + 1)).take j)) + 1))] ok12 ⟨?_, ?_, ?_, trivial⟩ ?_
      · intro A B G H I; exact rP (y_move (kp (I 6 rfl) G q82))
      · intro A B G H I d0; exact rP ((y_add (ed d0 rfl rfl rfl) rfl (w64 (by omega) (by omega))).mono (fun τ _ h => cvi (σ := τ) (by first | omega | exact (Int.natCast_mul _ _).symm) h))
      · intro A B G H I d0 d1 d2; exact rP (y_assign (ed d0 rfl rfl rfl))
      intro a15 s11 D11; have ok13 := D11.ok; have F13 := F12.step0 D11.stp; have q93 := D11.kt q81 rfl; have q94 := D11.kt q83 rfl; have q95 := D11.kt q84 rfl; have q96 := D11.kt q85 rfl; have q97 := D11.kt q86 rfl; have q98 := D11.kt q87 rfl; have q99 := D11.kt q88 rfl; have q100 := D11.kt q89 rfl; have q101 := D11.kt q90 rfl; have q102 := D11.kt q91 rfl; have q103 := D11.dn 2 rfl rfl; clear D11; refine bn ?_; refine tn ?_
      refine rg a15 s11 [(Ty.nat (j + 1)), (Ty.nat (j + 1))] ok13 ⟨?_, ?_, trivial⟩ ?_
      · intro A B G H I; exact rP ((y_add (kp (I 21 rfl) G q93) rfl (w64 (by omega) (by omega))).mono (fun τ _ h => cvi (σ := τ) (by first | omega | exact (Int.natCast_mul _ _).symm) h))
      · intro A B G H I d0; exact rP (y_move (ed d0 rfl rfl rfl))
      intro a16 s12 D12; have ok14 := D12.ok; have F14 := F13.step0 D12.stp; have q104 := D12.kt q94 rfl; have q105 := D12.kt q95 rfl; have q106 := D12.kt q96 rfl; have q107 := D12.kt q97 rfl; have q108 := D12.kt q98 rfl; have q109 := D12.kt q99 rfl; have q110 := D12.kt q100 rfl; have q111 := D12.kt q101 rfl; have q112 := D12.kt q102 rfl; have q113 := D12.kt q103 rfl; have q114 := D12.dn 1 rfl rfl; clear D12
      exact tn ⟨(r.drop (i + 1)).length - ((j+1)), by omega, s12, (j+1), rfl, F14, ok14, (cvi (by (first | rfl | omega | (simp_all; done) | (simp_all; omega))) q114), (cvi (by (rw [lessN_snoc _ _ _ (by omega), if_pos (by assumption)])) q113), q104, q105, q106, q107, q108, q109, q110, q111, q112, by omega, rfl⟩
     ·
      refine wp_skip ?_; refine bn ?_; refine tn ?_
      refine rg a14 s10 [(Ty.nat (j + 1)), (Ty.nat (j + 1))] ok12 ⟨?_, ?_, trivial⟩ ?_
      · intro A B G H I; exact rP ((y_add (kp (I 21 rfl) G q81) rfl (w64 (by omega) (by omega))).mono (fun τ _ h => cvi (σ := τ) (by first | omega | exact (Int.natCast_mul _ _).symm) h))
      · intro A B G H I d0; exact rP (y_move (ed d0 rfl rfl rfl))
      intro a17 s13 D13; have ok15 := D13.ok; have F15 := F12.step0 D13.stp; have q115 := D13.kt q82 rfl; have q116 := D13.kt q83 rfl; have q117 := D13.kt q84 rfl; have q118 := D13.kt q85 rfl; have q119 := D13.kt q86 rfl; have q120 := D13.kt q87 rfl; have q121 := D13.kt q88 rfl; have q122 := D13.kt q89 rfl; have q123 := D13.kt q90 rfl; have q124 := D13.kt q91 rfl; have q125 := D13.dn 1 rfl rfl; clear D13
      exact tn ⟨(r.drop (i + 1)).length - ((j+1)), by omega, s13, (j+1), rfl, F15, ok15, (cvi (by (first | rfl | omega | (simp_all; done) | (simp_all; omega))) q125), (cvi (by (rw [lessN_snoc _ _ _ (by omega), if_neg (by assumption)]; rfl)) q115), q116, q117, q118, q119, q120, q121, q122, q123, q124, by omega, rfl⟩
    ·
     refine wp_exit ?_; refine tx ?_; refine tx ?_; refine bx ?_; refine tn ?_
     refine rg a12 s8 [(Ty.nat q), (Ty.lst Ty.int r), (Ty.nat (List.length r)), (Ty.nat i), (Ty.nat ((List.length r) - i)), (Ty.nat (q * ((List.length r) - i))), (Ty.nat (lessN (r.getD i 0) ((r.drop (i + 1)).take j))), (Ty.nat ((q * ((List.length r) - i)) + (lessN (r.getD i 0) ((r.drop (i + 1)).take j)))), (Ty.nat ((q * ((List.length r) - i)) + (lessN (r.getD i 0) ((r.drop (i + 1)).take j))))] ok10 ⟨?_, ?_, ?_, ?_, ?_, ?_, ?_, ?_, ?_, trivial⟩ ?_
     · intro A B G H I; exact rP (y_move (kp (I 3 rfl) G q60))
     · intro A B G H I; exact rP (y_move (kp (I 0 rfl) G q61))
     · intro A B G H I d0; exact rP (y_len Try.underlying23 (ed d0 rfl rfl rfl))
     · intro A B G H I; exact rP (y_move (kp (I 4 rfl) G q64))
     · intro A B G H I d0 d1; exact rP ((y_sub (ed d0 rfl rfl rfl) (ed d1 rfl rfl rfl) (w64 (by omega) (by omega))).mono (fun τ _ h => cvi (σ := τ) (by omega) h))
     · intro A B G H I d0 d1; exact rP ((y_mul (ed d0 rfl rfl rfl) (ed d1 rfl rfl rfl) (w64 (by omega) (by omega))).mono (fun τ _ h => cvi (σ := τ) (by first | omega | exact (Int.natCast_mul _ _).symm) h))
     · intro A B G H I; exact rP (y_move (kp (I 6 rfl) G q58))
     · intro A B G H I d0 d1; exact rP ((y_add (ed d0 rfl rfl rfl) (ed d1 rfl rfl rfl) (w64 (by omega) (by omega))).mono (fun τ _ h => cvi (σ := τ) (by first | omega | exact (Int.natCast_mul _ _).symm) h))
     · intro A B G H I d0 d1 d2 d3 d4 d5 d6 d7 d8; exact rP (y_assign (ed d0 rfl rfl rfl))
     intro a18 s14 D14; have ok16 := D14.ok; have F16 := F10.step0 D14.stp; have q126 := D14.kt q59 rfl; have q127 := D14.kt q61 rfl; have q128 := D14.kt q62 rfl; have q129 := D14.kt q63 rfl; have q130 := D14.dn 8 rfl rfl; clear D14; refine bn ?_; refine tn ?_
     refine rg a18 s14 [(Ty.nat (i + 1)), (Ty.nat (i + 1))] ok16 ⟨?_, ?_, trivial⟩ ?_
     · intro A B G H I; exact rP ((y_add (kp (I 11 rfl) G q126) rfl (w64 (by omega) (by omega))).mono (fun τ _ h => cvi (σ := τ) (by first | omega | exact (Int.natCast_mul _ _).symm) h))
     · intro A B G H I d0; exact rP (y_move (ed d0 rfl rfl rfl))
     intro a19 s15 D15; have ok17 := D15.ok; have F17 := F16.step0 D15.stp; have q131 := D15.kt q127 rfl; have q132 := D15.kt q128 rfl; have q133 := D15.kt q129 rfl; have q134 := D15.kt q130 rfl; have q135 := D15.dn 1 rfl rfl; clear D15
     obtain rfl : j = (r.drop (i + 1)).length := (by omega)
     exact tn ⟨r.length - ((i+1)), by omega, s15, (i+1), (q * (r.length - i) + lessN (r.getD i 0) (r.drop (i + 1))), rfl, F17, ok17, (cvi (by (first | rfl | omega | (simp_all; done) | (simp_all; omega))) q135), (cvi (by (rw [List.take_length])) q134), q131, q132, q133, by omega, place_step (by omega) hq, rfl⟩
  ·
   refine wp_exit ?_; refine tx ?_; refine tx ?_; refine bx ?_; refine tn ?_; refine wp_seq ?_
   refine rg a6 s4 [(Ty.nat q), (Ty.nat q)] ok5 ⟨?_, ?_, trivial⟩ ?_
   · intro A B G H I; exact rP (y_move (kp (I 3 rfl) G q15))
   · intro A B G H I d0 d1; exact rP (y_assign (ed d0 rfl rfl rfl))
   intro a20 s16 D16; have ok18 := D16.ok; have F18 := F5.step0 D16.stp; have q136 := D16.dn 1 rfl rfl; clear D16; refine tn ?_; refine wp_ret ?_
   exact retL1 rfl ok18 F18 (cvi (by (obtain rfl : i = r.length := (by omega); exact congrArg _ (place_end hq))) q136)

theorem Try.inf4 : Info Try.prog 4 (.bool false) 1 1 := by unfold Info; kernel_rfl
theorem Try.inf42 : Info Try.prog 42 (.agg #[.int .i64 0, .bool false, .bool false, .int .i64 0, .int .i64 0]) 5 32 := by unfold Info; kernel_rfl
theorem Try.fld42_2 : fieldOf Try.prog 42 2 = some (4, 2) := by kernel_rfl
theorem Try.fld42_3 : fieldOf Try.prog 42 3 = some (3, 3) := by kernel_rfl
theorem Try.fld42_4 : fieldOf Try.prog 42 4 = some (3, 4) := by kernel_rfl
set_option maxHeartbeats 4000000 in
set_option maxRecDepth 100000 in
theorem prove_fn (nm : ByteArray) (n : Int) (l : List (List Int)) (cs : List BCall) (leads : List Int) (σ : GW)  (v0 v1 v2 : Value) (hv0 : Ty.has (Ty.agg [(Ty.val (Value.string nm)), (Ty.int n), (Ty.lst Ty.ints l)]) σ v0) (hv1 : Ty.has (Ty.lstc 2 callC cs) σ v1) (hv2 : Ty.has (Ty.lst Ty.int leads) σ v2)  (hnm : nm.size ≤ 1099511627776) (hn : -9223372036854775808 ≤ n ∧ n ≤ 9223372036854775807) :
    FnC Try.prog 22 #[v0, v1, v2] σ (Ty.tup2 (Ty.agg [(Ty.nat (if touchMay nm n l cs leads = 0 then leads.length * l.length else 0)), (Ty.bool (if touchMay nm n l cs leads = 0 then rndB (tRows n.toNat l cs leads leads.length) else false)), (Ty.bool (if touchMay nm n l cs leads = 0 then (prO (tRows n.toNat l cs leads leads.length)).isNone else false)), (Ty.nat (if touchMay nm n l cs leads = 0 then agnL (tRows n.toNat l cs leads leads.length) else 0)), (Ty.int (if touchMay nm n l cs leads = 0 then befL (tRows n.toNat l cs leads leads.length) else 0))]) (Ty.int (touchMay nm n l cs leads))) := by
 refine fn_intro0 Try.func22 rfl Try.ntmps22 (Nat.le_of_ble_eq_true rfl) (fun s0 a0 hle F0 ok0 hargs => ?_)
 have p0 : At (Ty.agg [(Ty.val (Value.string nm)), (Ty.int n), (Ty.lst Ty.ints l)]) s0 a0 (.tmp 0) := by have e := hargs 0 _ rfl; show Ty.has _ _ _; rw [e]; exact Ty.up _ hle hv0
 have p1 : At (Ty.lstc 2 callC cs) s0 a0 (.tmp 1) := by have e := hargs 1 _ rfl; show Ty.has _ _ _; rw [e]; exact Ty.up _ hle hv1
 have b1 := sl_le p1
 have p2 : At (Ty.lst Ty.int leads) s0 a0 (.tmp 2) := by have e := hargs 2 _ rfl; show Ty.has _ _ _; rw [e]; exact Ty.up _ hle hv2
 have b2 := sl_le p2
 clear hargs; refine wp_seq ?_
 refine reg (a := a0) (σ := s0) rfl (fun i_ => List.getD [(Ty.pr (Ty.ref [(Ty.val (Value.string nm)), (Ty.int n), (Ty.lst Ty.ints l)])), (Pr.ownp 4 [(Ty.int (0 : Int)), (Ty.bool false), (Ty.bool false), (Ty.int (0 : Int)), (Ty.int (0 : Int))]), (Ty.pr (Ty.int (0 : Int)))] i_ Pr.any) ok0 rfl ⟨?_, ?_, ?_, trivial⟩ ?_
 · intro A B G H I; exact rP (y_boxagg (kp (I 0 rfl) G p0))
 · intro A B G H I; exact rP (y_alloc Try.inf42 rfl (alloc_vals (vs := [.int .i64 0, .bool false, .bool false, .int .i64 0, .int .i64 0]) rfl))
 · intro A B G H I; exact rP (y_assign rfl)
 intro a1 s1 D1; have ok1 := D1.ok; have F1 := F0.step0 D1.stp; have q1 := D1.kt p1 rfl; have q2 := D1.kt p2 rfl; have q3 := D1.dn 0 rfl rfl
 obtain ⟨x1, hx1⟩ : ∃ x, a1.eval (.tmp 6) = x := ⟨_, rfl⟩
 have q4 : At (Ty.val x1) s1 a1 (.tmp 6) := hx1
 have o1 : OwnP s1 4 x1 [(Ty.int (0 : Int)), (Ty.bool false), (Ty.bool false), (Ty.int (0 : Int)), (Ty.int (0 : Int))] := al2 (R := (Pr.ownp 4 [(Ty.int (0 : Int)), (Ty.bool false), (Ty.bool false), (Ty.int (0 : Int)), (Ty.int (0 : Int))])) hx1 (D1.done 1)
 clear D1; refine tn ?_; refine wp_seq ?_
 refine rg a1 s1 [(Ty.agg [(Ty.val (Value.string nm)), (Ty.int n), (Ty.lst Ty.ints l)]), (Ty.lstc 2 callC cs), (Ty.lst Ty.int leads), (Ty.tup2 (Ty.lst Ty.ints (if touchMay nm n l cs leads = 0 then (tRows n.toNat l cs leads leads.length) else [])) (Ty.int (touchMay nm n l cs leads))), (Ty.tup2 (Ty.lst Ty.ints (if touchMay nm n l cs leads = 0 then (tRows n.toNat l cs leads leads.length) else [])) (Ty.int (touchMay nm n l cs leads))), (Ty.lst Ty.ints (if touchMay nm n l cs leads = 0 then (tRows n.toNat l cs leads leads.length) else [])), (Ty.int (touchMay nm n l cs leads)), (Ty.lst Ty.ints (if touchMay nm n l cs leads = 0 then (tRows n.toNat l cs leads leads.length) else [])), (Ty.int (touchMay nm n l cs leads))] ok1 ⟨?_, ?_, ?_, ?_, ?_, ?_, ?_, ?_, ?_, trivial⟩ ?_
 · intro A B G H I; exact rP (y_loadagg Try.underlying31 Try.inf31 (kp (I 3 rfl) G q3))
 · intro A B G H I; exact rP (y_move (kp (I 1 rfl) G q1))
 · intro A B G H I; exact rP (y_move (kp (I 2 rfl) G q2))
 · intro A B G H I d0 d1 d2; exact rP (y_call #[A.eval (.tmp 19), A.eval (.tmp 20), A.eval (.tmp 21)] Try.func54 rfl rfl (by simp only [List.map_toArray, List.map_cons, List.map_nil]) (callRows_fn (nm) (n) (l) (cs) (leads) _ _ _ _ (ed d0 rfl rfl rfl) (ed d1 rfl rfl rfl) (ed d2 rfl rfl rfl) (by first | omega | assumption) (by first | omega | assumption)))
 · intro A B G H I d0; exact rP (y_move (ed d0 rfl rfl rfl))
 · intro A B G H I d0; exact rP (y_ext2_0 (ed d0 rfl rfl rfl))
 · intro A B G H I d0 d1; exact rP (y_ext2_1 (ed d0 rfl rfl rfl))
 · intro A B G H I d0 d1 d2 d3 d4 d5 d6 d7 d8; exact rP (y_assign (ed d0 rfl rfl rfl))
 · intro A B G H I d0 d1 d2 d3 d4 d5 d6 d7 d8 d9; exact rP (y_assign (ed d0 rfl rfl rfl))
 intro a2 s2 D2; have ok2 := D2.ok; have F2 := F1.step0 D2.stp; have q5 := D2.kt q4 rfl; have o2 := OwnP.k0 o1 D2.stp; have q6 := D2.dn 7 rfl rfl; have q7 := D2.dn 8 rfl rfl; clear D2; refine tn ?_; refine wp_seq ?_; refine wp_seq ?_
 refine rg a2 s2 [(Ty.int (touchMay nm n l cs leads)), (Ty.bool (decide ((touchMay nm n l cs leads) ≠ (0 : Int))))] ok2 ⟨?_, ?_, trivial⟩ ?_
 · intro A B G H I; exact rP (y_move (kp (I 9 rfl) G q7))
 · intro A B G H I d0; exact rP (y_neq (ed d0 rfl rfl rfl) rfl)
 intro a3 s3 D3; have ok3 := D3.ok; have F3 := F2.step0 D3.stp; have q8 := D3.kt q5 rfl; have q9 := D3.kt q6 rfl; have q10 := D3.kt q7 rfl; have o3 := OwnP.k0 o2 D3.stp; have q11 := D3.dn 1 rfl rfl; clear D3; refine tn ?_
 refine cond_p (p := ((touchMay nm n l cs leads) ≠ (0 : Int))) q11 (fun c1 => ?_) (fun c1 => ?_)
 ·
  refine wp_seq ?_
  refine reg2 (a := a3) (σ := s3) rfl 2 (fun i_ => List.getD [(Ty.pr (Ty.agg [(Ty.int (0 : Int)), (Ty.bool false), (Ty.bool false), (Ty.int (0 : Int)), (Ty.int (0 : Int))])), (Ty.pr (Ty.int (touchMay nm n l cs leads)))] i_ Pr.any) ok3 rfl (by decide) rfl ⟨?_, ?_, trivial⟩ ?_
  · intro A B G H I; exact rP (y_bld [] [(Ty.int (0 : Int)), (Ty.bool false), (Ty.bool false), (Ty.int (0 : Int)), (Ty.int (0 : Int))] (l := [(0, 1), (1, 1), (2, 1), (3, 1), (4, 1)]) rfl Try.inf42 rfl (alloc_vals (vs := [.int .i64 0, .bool false, .bool false, .int .i64 0, .int .i64 0]) rfl) rfl (by intro p hp; cases hp))
  · intro A B G H I d0; exact rP (y_move (kp (I 9 rfl) G q10))
  intro a4 s4 D4; have ok4 := D4.ok; have F4 := F3.step0 D4.stp; have q12 := D4.kt q8 rfl; have o4 := OwnP.k0 o3 D4.stp; have q13 := D4.dn 0 (by decide) rfl rfl; have q14 := D4.dn 1 (by decide) rfl rfl; clear D4
  refine tailL0 (L := [4]) (R := (fun _ τ => OwnP τ 4 x1 [(Ty.int (0 : Int)), (Ty.bool false), (Ty.bool false), (Ty.int (0 : Int)), (Ty.int (0 : Int))])) rfl rfl (YldM.toL (m_storeagg Try.inf42 (by decide) o4 q12 rfl q13 (by intro U hU; simp only [List.mem_cons, List.not_mem_nil, or_false] at hU; rcases hU with rfl | rfl | rfl | rfl | rfl <;> first | exact one_val rfl | exact one_sl | exact one_ref))) (fun v1 s5 hs1 r1 => ?_)
  have F5 := F4.stepL hs1 (by decide); have q15 := kpL hs1 (by decide) rfl q12; have q16 := kpL hs1 (by decide) rfl q14
  have o5 : OwnP s5 4 x1 [(Ty.int (0 : Int)), (Ty.bool false), (Ty.bool false), (Ty.int (0 : Int)), (Ty.int (0 : Int))] := r1
  clear r1
  refine tailL (L := []) (R := (fun v τ => Pr.has (Ty.pr (Ty.int (touchMay nm n l cs leads))) τ v)) rfl rfl (by decide) ok4 (Yld.toL (y_assign q16)) (fun a5 s6 hs2 ok5 r2 sm1 => ?_)
  have F6 := F5.stepL hs2 (by decide); have q18 := kpL hs2 (by decide) (sm1 6 (by decide)) q15; have o6 := OwnP.keepL o5 hs2 (by decide) (by decide)
  have q19 : At (Ty.int (touchMay nm n l cs leads)) s6 a5 (.tmp 7) := r2
  clear r2; refine wpList_nil ?_; refine tn ?_; refine wp_ret ?_; refine tr ?_
  have o7 : OwnP s6 4 x1 [(Ty.int (0 : Int)), (Ty.bool false), (Ty.bool false), (Ty.int (0 : Int)), (Ty.int (0 : Int))] := o6
  have o8 : OwnP s6 4 x1 [(Ty.nat (if touchMay nm n l cs leads = 0 then leads.length * l.length else 0)), (Ty.bool false), (Ty.bool false), (Ty.int (0 : Int)), (Ty.int (0 : Int))] := cvop (by rw [show (Ty.int (0 : Int)) = (Ty.nat (if touchMay nm n l cs leads = 0 then leads.length * l.length else 0)) from by (rw [if_neg c1]; first | done | rfl)]) o7
  have o9 : OwnP s6 4 x1 [(Ty.nat (if touchMay nm n l cs leads = 0 then leads.length * l.length else 0)), (Ty.bool (if touchMay nm n l cs leads = 0 then rndB (tRows n.toNat l cs leads leads.length) else false)), (Ty.bool false), (Ty.int (0 : Int)), (Ty.int (0 : Int))] := cvop (by rw [show (Ty.bool false) = (Ty.bool (if touchMay nm n l cs leads = 0 then rndB (tRows n.toNat l cs leads leads.length) else false)) from by (rw [if_neg c1]; first | done | rfl)]) o8
  have o10 : OwnP s6 4 x1 [(Ty.nat (if touchMay nm n l cs leads = 0 then leads.length * l.length else 0)), (Ty.bool (if touchMay nm n l cs leads = 0 then rndB (tRows n.toNat l cs leads leads.length) else false)), (Ty.bool (if touchMay nm n l cs leads = 0 then (prO (tRows n.toNat l cs leads leads.length)).isNone else false)), (Ty.int (0 : Int)), (Ty.int (0 : Int))] := cvop (by rw [show (Ty.bool false) = (Ty.bool (if touchMay nm n l cs leads = 0 then (prO (tRows n.toNat l cs leads leads.length)).isNone else false)) from by (rw [if_neg c1]; first | done | rfl)]) o9
  have o11 : OwnP s6 4 x1 [(Ty.nat (if touchMay nm n l cs leads = 0 then leads.length * l.length else 0)), (Ty.bool (if touchMay nm n l cs leads = 0 then rndB (tRows n.toNat l cs leads leads.length) else false)), (Ty.bool (if touchMay nm n l cs leads = 0 then (prO (tRows n.toNat l cs leads leads.length)).isNone else false)), (Ty.nat (if touchMay nm n l cs leads = 0 then agnL (tRows n.toNat l cs leads leads.length) else 0)), (Ty.int (0 : Int))] := cvop (by rw [show (Ty.int (0 : Int)) = (Ty.nat (if touchMay nm n l cs leads = 0 then agnL (tRows n.toNat l cs leads leads.length) else 0)) from by (rw [if_neg c1]; first | done | rfl)]) o10
  have o12 : OwnP s6 4 x1 [(Ty.nat (if touchMay nm n l cs leads = 0 then leads.length * l.length else 0)), (Ty.bool (if touchMay nm n l cs leads = 0 then rndB (tRows n.toNat l cs leads leads.length) else false)), (Ty.bool (if touchMay nm n l cs leads = 0 then (prO (tRows n.toNat l cs leads leads.length)).isNone else false)), (Ty.nat (if touchMay nm n l cs leads = 0 then agnL (tRows n.toNat l cs leads leads.length) else 0)), (Ty.int (if touchMay nm n l cs leads = 0 then befL (tRows n.toNat l cs leads leads.length) else 0))] := cvop (by rw [show (Ty.int (0 : Int)) = (Ty.int (if touchMay nm n l cs leads = 0 then befL (tRows n.toNat l cs leads leads.length) else 0)) from by (rw [if_neg c1]; first | done | rfl)]) o11
  exact retL2c (k := 4) (ts := [(Ty.nat (if touchMay nm n l cs leads = 0 then leads.length * l.length else 0)), (Ty.bool (if touchMay nm n l cs leads = 0 then rndB (tRows n.toNat l cs leads leads.length) else false)), (Ty.bool (if touchMay nm n l cs leads = 0 then (prO (tRows n.toNat l cs leads leads.length)).isNone else false)), (Ty.nat (if touchMay nm n l cs leads = 0 then agnL (tRows n.toNat l cs leads leads.length) else 0)), (Ty.int (if touchMay nm n l cs leads = 0 then befL (tRows n.toNat l cs leads leads.length) else 0))]) rfl ok5 F6 Try.underlying42 Try.inf42 (al (R := (Pr.ownp 4 [(Ty.nat (if touchMay nm n l cs leads = 0 then leads.length * l.length else 0)), (Ty.bool (if touchMay nm n l cs leads = 0 then rndB (tRows n.toNat l cs leads leads.length) else false)), (Ty.bool (if touchMay nm n l cs leads = 0 then (prO (tRows n.toNat l cs leads leads.length)).isNone else false)), (Ty.nat (if touchMay nm n l cs leads = 0 then agnL (tRows n.toNat l cs leads leads.length) else 0)), (Ty.int (if touchMay nm n l cs leads = 0 then befL (tRows n.toNat l cs leads leads.length) else 0))])) q18 o12) (fun v_ hv_ => (hasT2 hv_ q19))
 ·
  have h0 := Classical.not_not.1 c1; obtain ⟨hok, hnn, hlo, hlh, hin, hlim⟩ := touchMay_ok h0; have hl1 := hok.meth.l1; have hl2 := hok.meth.l2; have hn1 := hok.meth.n1; have hn2 := hok.meth.n2; obtain ⟨R, hR⟩ : ∃ R, R = (tRows n.toNat l cs leads leads.length) := ⟨_, rfl⟩; have hRl : R.length = leads.length * l.length + 1 := (by rw [hR]; exact tRows_len hok hin _ (Nat.le_refl _)); have hrw : ∀ i, i < R.length → IsRow (R.getD i []) ∧ (R.getD i []).length = n.toNat := (fun i hi => by rw [hR]; exact tRows_row hok hin (by omega)); have hlst := (hrw (R.length - 1) (by omega)).1.le
  have q20 : At (Ty.lst Ty.ints R) s3 a3 (.tmp 8) := cvt (T := (Ty.lst Ty.ints (if touchMay nm n l cs leads = 0 then (tRows n.toNat l cs leads leads.length) else []))) (U := (Ty.lst Ty.ints R)) (by rw [if_pos h0, hR]) q9
  refine wp_skip ?_; refine tn ?_; refine wp_seq ?_
  refine rg a3 s3 [(Ty.lst Ty.ints R), (Ty.nat (List.length R)), (Ty.nat ((List.length R) - 1)), (Ty.nat ((List.length R) - 1))] ok3 ⟨?_, ?_, ?_, ?_, trivial⟩ ?_
  · intro A B G H I; exact rP (y_move (kp (I 8 rfl) G q20))
  · intro A B G H I d0; exact rP (y_len Try.underlying29 (ed d0 rfl rfl rfl))
  · intro A B G H I d0; exact rP ((y_sub (ed d0 rfl rfl rfl) rfl (w64 (by omega) (by omega))).mono (fun τ _ h => cvi (σ := τ) (by omega) h))
  · intro A B G H I d0 d1 d2 d3; exact rP (y_assign (ed d0 rfl rfl rfl))
  intro a6 s7 D5; have ok6 := D5.ok; have F7 := F3.step0 D5.stp; have q21 := D5.kt q8 rfl; have q22 := D5.kt q20 rfl; have o13 := OwnP.k0 o3 D5.stp; have q23 := D5.dn 3 rfl rfl; clear D5; refine tn ?_; refine wp_seq ?_
  refine reg2 (a := a6) (σ := s7) rfl 9 (fun i_ => List.getD [(Ty.pr (Ty.nat ((List.length R) - 1))), (Ty.pr (Ty.lst Ty.ints R)), (Ty.pr (Ty.nat ((List.length R) - 1))), (Ty.pr (Ty.ref [(Ty.lst Ty.int (R.getD ((List.length R) - 1) []))])), (Ty.pr (Ty.lst Ty.int (R.getD ((List.length R) - 1) []))), (Ty.pr (Ty.nat (rankL ((R.getD ((List.length R) - 1) []))))), (Ty.pr (Ty.bool (decide ((((rankL ((R.getD ((List.length R) - 1) []))) : Nat) : Int) = (0 : Int))))), (Ty.pr (Ty.agg [(Ty.nat ((List.length R) - 1)), (Ty.bool (decide ((((rankL ((R.getD ((List.length R) - 1) []))) : Nat) : Int) = (0 : Int)))), (Ty.bool true), (Ty.int (0 : Int)), (Ty.int (0 : Int))])), (Pr.ownp 5 [(Ty.int (0 : Int)), (Ty.bool false), (Ty.bool false), (Ty.int (0 : Int)), (Ty.int (0 : Int))])] i_ Pr.any) ok6 rfl (by decide) rfl ⟨?_, ?_, ?_, ?_, ?_, ?_, ?_, ?_, ?_, trivial⟩ ?_
  · intro A B G H I; exact rP (y_move (kp (I 10 rfl) G q23))
  · intro A B G H I; exact rP (y_move (kp (I 8 rfl) G q22))
  · intro A B G H I; exact rP (y_move (kp (I 10 rfl) G q23))
  · intro A B G H I d0 d1; exact rP (y_index1 Try.underlying29 Try.inf23 (ed d0 rfl rfl rfl) (ed d1 rfl rfl rfl) (by omega) (lst_get Ty.ints R [] ((List.length R) - 1) (by omega)))
  · intro A B G H I d0; exact rP (y_load Try.underlying23 rfl (ed d0 rfl rfl rfl) rfl)
  · intro A B G H I d0; exact rP (y_call #[A.eval (.tmp 36)] Try.func55 rfl rfl (by simp only [List.map_toArray, List.map_cons, List.map_nil]) (rowPlace_fn ((R.getD ((List.length R) - 1) [])) _ _ (ed d0 rfl rfl rfl) (by omega)))
  · intro A B G H I d0; exact rP (y_eql (ed d0 rfl rfl rfl) rfl)
  · intro A B G H I d0 d1; exact rP (y_bld [(0, (.tmp 32), (Ty.nat ((List.length R) - 1))), (1, (.tmp 38), (Ty.bool (decide ((((rankL ((R.getD ((List.length R) - 1) []))) : Nat) : Int) = (0 : Int))))), (2, ((Operand.const (Value.bool true))), (Ty.bool true))] [(Ty.int (0 : Int)), (Ty.bool false), (Ty.bool false), (Ty.int (0 : Int)), (Ty.int (0 : Int))] (l := [(0, 1), (1, 1), (2, 1), (3, 1), (4, 1)]) rfl Try.inf42 rfl (alloc_vals (vs := [.int .i64 0, .bool false, .bool false, .int .i64 0, .int .i64 0]) rfl) rfl (by intro p hp; simp only [List.mem_cons, List.not_mem_nil, or_false] at hp; rcases hp with rfl | rfl | rfl; exact ⟨one_val rfl, (ed d0 rfl rfl rfl)⟩; exact ⟨one_val rfl, (ed d1 rfl rfl rfl)⟩; exact ⟨one_val rfl, rfl⟩))
  · intro A B G H I; exact rP (y_alloc Try.inf42 rfl (alloc_vals (vs := [.int .i64 0, .bool false, .bool false, .int .i64 0, .int .i64 0]) rfl))
  intro a7 s8 D6; have ok7 := D6.ok; have F8 := F7.step0 D6.stp; have q24 := D6.kt q21 rfl; have q25 := D6.kt q22 rfl; have q26 := D6.kt q23 rfl; have o14 := OwnP.k0 o13 D6.stp; have q27 := D6.dn 7 (by decide) rfl rfl
  obtain ⟨x2, hx2⟩ : ∃ x, a7.eval (.tmp 11) = x := ⟨_, rfl⟩
  have q28 : At (Ty.val x2) s8 a7 (.tmp 11) := hx2
  have o15 : OwnP s8 5 x2 [(Ty.int (0 : Int)), (Ty.bool false), (Ty.bool false), (Ty.int (0 : Int)), (Ty.int (0 : Int))] := al2 (R := (Pr.ownp 5 [(Ty.int (0 : Int)), (Ty.bool false), (Ty.bool false), (Ty.int (0 : Int)), (Ty.int (0 : Int))])) hx2 (D6.done 8 (by decide))
  clear D6
  refine tailL0 (L := [5]) (R := (fun _ τ => OwnP τ 5 x2 [(Ty.nat ((List.length R) - 1)), (Ty.bool (decide ((((rankL ((R.getD ((List.length R) - 1) []))) : Nat) : Int) = (0 : Int)))), (Ty.bool true), (Ty.int (0 : Int)), (Ty.int (0 : Int))])) rfl rfl (YldM.toL (m_storeagg Try.inf42 (by decide) o15 q28 rfl q27 (by intro U hU; simp only [List.mem_cons, List.not_mem_nil, or_false] at hU; rcases hU with rfl | rfl | rfl | rfl | rfl <;> first | exact one_val rfl | exact one_sl | exact one_ref))) (fun v2 s9 hs3 r3 => ?_)
  have F9 := F8.stepL hs3 (by decide); have q29 := kpL hs3 (by decide) rfl q24; have q30 := kpL hs3 (by decide) rfl q25; have q31 := kpL hs3 (by decide) rfl q26; have q32 := kpL hs3 (by decide) rfl q28; have o17 := OwnP.keepL o14 hs3 (by decide) (by decide)
  have o16 : OwnP s9 5 x2 [(Ty.nat ((List.length R) - 1)), (Ty.bool (decide ((((rankL ((R.getD ((List.length R) - 1) []))) : Nat) : Int) = (0 : Int)))), (Ty.bool true), (Ty.int (0 : Int)), (Ty.int (0 : Int))] := r3
  clear r3; refine wpList_nil ?_; refine tn ?_; refine wp_seq ?_
  refine reg2 (a := a7) (σ := s9) rfl 1 (fun i_ => List.getD [(Pr.ownm Ty.int kI 6 (fun _ => none : Int → Option Int))] i_ Pr.any) ok7 rfl (by decide) rfl ⟨?_, trivial⟩ ?_
  · intro A B G H I; exact rP (y_makemap 6)
  intro a8 s10 D7; have ok8 := D7.ok; have F10 := F9.step0 D7.stp; have q34 := D7.kt q29 rfl; have q35 := D7.kt q30 rfl; have q36 := D7.kt q31 rfl; have q37 := D7.kt q32 rfl; have o18 := OwnP.k0 o17 D7.stp; have o19 := OwnP.k0 o16 D7.stp
  obtain ⟨x3, hx3⟩ : ∃ x, a8.eval (.tmp 40) = x := ⟨_, rfl⟩
  have q38 : At (Ty.val x3) s10 a8 (.tmp 40) := hx3
  have o20 : OwnM Ty.int kI s10 6 x3 (fun _ => none : Int → Option Int) := al2 (R := (Pr.ownm Ty.int kI 6 (fun _ => none : Int → Option Int))) hx3 (D7.done 0 (by decide))
  clear D7
  refine tailL (L := []) (R := (fun v τ => Pr.has (Ty.pr (Ty.val x3)) τ v)) rfl rfl (by decide) ok8 (Yld.toL (y_assign q38)) (fun a9 s11 hs4 ok9 r4 sm2 => ?_)
  have F11 := F10.stepL hs4 (by decide); have q39 := kpL hs4 (by decide) (sm2 6 (by decide)) q34; have q40 := kpL hs4 (by decide) (sm2 8 (by decide)) q35; have q41 := kpL hs4 (by decide) (sm2 10 (by decide)) q36; have q42 := kpL hs4 (by decide) (sm2 11 (by decide)) q37; have o21 := OwnP.keepL o18 hs4 (by decide) (by decide); have o22 := OwnP.keepL o19 hs4 (by decide) (by decide); have o23 := OwnM.keepL o20 hs4 (by decide) (by decide)
  have q43 : At (Ty.val x3) s11 a9 (.tmp 12) := r4
  clear r4; refine wpList_nil ?_; refine tn ?_; refine wp_seq ?_; refine wp_seq ?_
  refine rg a9 s11 [(Ty.lst Ty.ints R), (Ty.nat ((List.length R) - 1)), (Ty.lst Ty.ints (R.take ((List.length R) - 1))), (Ty.nat (List.length (R.take ((List.length R) - 1)))), (Ty.int (0 : Int))] ok9 ⟨?_, ?_, ?_, ?_, ?_, trivial⟩ ?_
  · intro A B G H I; exact rP (y_move (kp (I 8 rfl) G q40))
  · intro A B G H I; exact rP (y_move (kp (I 10 rfl) G q41))
  · intro A B G H I d0 d1; exact rP (y_take Try.underlying29 Try.inf23 (ed d0 rfl rfl rfl) (ed d1 rfl rfl rfl) (by omega))
  · intro A B G H I d0; exact rP (y_len Try.underlying29 (ed d0 rfl rfl rfl))
  · intro A B G H I; exact rP (y_move rfl)
  intro a10 s12 D8; have ok10 := D8.ok; have F12 := F11.step0 D8.stp; have q44 := D8.kt q39 rfl; have q45 := D8.kt q42 rfl; have q46 := D8.kt q43 rfl; have o24 := OwnP.k0 o21 D8.stp; have o25 := OwnP.k0 o22 D8.stp; have o26 := OwnM.k0 o23 D8.stp; have q47 := D8.dn 2 rfl rfl
  have b3 := sl_le q47
  have q48 := D8.dn 3 rfl rfl; have q49 := D8.dn 4 rfl rfl; clear D8
  have hTl : (List.take ((List.length R) - 1) R).length = R.length - 1 := (by rw [List.length_take]; omega)
  refine tn ?_; refine wp_block ?_
  refine loop (fun n1 a11 w1 => ∃ (t1 : GW) (k : Nat), t1.w = w1 ∧ FromL [] s0 t1 ∧ Ok 69 a11 ∧ At (Ty.nat k) t1 a11 (.tmp 45) ∧ At (Ty.val x1) t1 a11 (.tmp 6) ∧ At (Ty.val x2) t1 a11 (.tmp 11) ∧ At (Ty.val x3) t1 a11 (.tmp 12) ∧ At (Ty.lst Ty.ints (R.take ((List.length R) - 1))) t1 a11 (.tmp 43) ∧ At (Ty.nat (List.length (R.take ((List.length R) - 1)))) t1 a11 (.tmp 44) ∧ OwnM Ty.int kI t1 6 x3 (mapOf R k) ∧ OwnP t1 4 x1 [(Ty.int (0 : Int)), (Ty.bool false), (Ty.bool false), (Ty.int (0 : Int)), (Ty.int (0 : Int))] ∧ OwnP t1 5 x2 [(Ty.nat ((List.length R) - 1)), (Ty.bool (decide ((((rankL ((R.getD ((List.length R) - 1) []))) : Nat) : Int) = (0 : Int)))), (Ty.bool true), (Ty.int (0 : Int)), (Ty.int (0 : Int))] ∧ (k ≤ (List.take ((List.length R) - 1) R).length) ∧ (prF R (R.length - 1 - k) k = prO R) ∧ n1 = (List.take ((List.length R) - 1) R).length - k) ((List.take ((List.length R) - 1) R).length - (0)) ?_ ?_
  ·
   exact ⟨s12, 0, rfl, F12, ok10, (cvi (by (first | rfl | omega | (simp_all; done) | (simp_all; omega))) q49), q44, q45, q46, q47, q48, (cvm (by (rfl)) o26), o24, o25, by omega, rfl, rfl⟩
  ·
   rintro n2 a12 w2 ⟨t2, k, rfl, F13, ok11, q50, q51, q52, q53, q54, q55, o27, o28, o29, hk, hp, rfl⟩
   refine wp_seq ?_
   refine reg (a := a12) (σ := t2) rfl (fun i_ => List.getD [(Ty.pr (Ty.bool (decide (((k : Nat) : Int) < (((List.length (R.take ((List.length R) - 1))) : Nat) : Int)))))] i_ Pr.any) ok11 rfl ⟨?_, trivial⟩ ?_
   · intro A B G H I; exact rP (y_lss (kp (I 45 rfl) G q50) (kp (I 44 rfl) G q55))
   intro a13 s13 D9; have ok12 := D9.ok; have F14 := F13.step0 D9.stp; have q56 := D9.kt q50 rfl; have q57 := D9.kt q51 rfl; have q58 := D9.kt q52 rfl; have q59 := D9.kt q53 rfl; have q60 := D9.kt q54 rfl; have q61 := D9.kt q55 rfl; have o30 := OwnM.k0 o27 D9.stp; have o31 := OwnP.k0 o28 D9.stp; have o32 := OwnP.k0 o29 D9.stp; have q62 := D9.dn 0 rfl rfl; clear D9; refine tn ?_; refine wp_seq ?_
   refine cond_p (p := (((k : Nat) : Int) < (((List.length (R.take ((List.length R) - 1))) : Nat) : Int))) q62 (fun c2 => ?_) (fun c2 => ?_)
   ·
    have hkk : k < R.length - 1 := (by omega); have hfr := hrw k (by omega); have hln := hfr.1.le
    refine wp_skip ?_; refine tn ?_; refine wp_seq ?_; refine wp_block ?_; refine wp_seq ?_
    refine rg a13 s13 [(Ty.nat k), (Ty.ref [(Ty.lst Ty.int ((R.take ((List.length R) - 1)).getD k []))]), (Ty.lst Ty.int ((R.take ((List.length R) - 1)).getD k [])), (Ty.nat k), (Ty.lst Ty.int ((R.take ((List.length R) - 1)).getD k []))] ok12 ⟨?_, ?_, ?_, ?_, ?_, trivial⟩ ?_
    · intro A B G H I; exact rP (y_move (kp (I 45 rfl) G q56))
    · intro A B G H I; exact rP (y_index1 Try.underlying29 Try.inf23 (kp (I 43 rfl) G q60) (kp (I 45 rfl) G q56) (by omega) (lst_get Ty.ints (R.take ((List.length R) - 1)) [] k (by omega)))
    · intro A B G H I d0; exact rP (y_load Try.underlying23 rfl (ed d0 rfl rfl rfl) rfl)
    · intro A B G H I d0 d1 d2 d3; exact rP (y_assign (ed d0 rfl rfl rfl))
    · intro A B G H I d0 d1 d2 d3 d4 d5; exact rP (y_assign (ed d0 rfl rfl rfl))
    intro a14 s14 D10; have ok13 := D10.ok; have F15 := F14.step0 D10.stp; have q63 := D10.kt q56 rfl; have q64 := D10.kt q57 rfl; have q65 := D10.kt q58 rfl; have q66 := D10.kt q59 rfl; have q67 := D10.kt q60 rfl; have q68 := D10.kt q61 rfl; have o33 := OwnM.k0 o30 D10.stp; have o34 := OwnP.k0 o31 D10.stp; have o35 := OwnP.k0 o32 D10.stp; have q69 := D10.dn 3 rfl rfl; have q70 := D10.dn 4 rfl rfl; clear D10
    have q71 : At (Ty.lst Ty.int (R.getD k [])) s14 a14 (.tmp 14) := (cvt (by (rw [getD_takeD [] (by omega)])) q70)
    refine tn ?_; refine wp_seq ?_
    refine rg a14 s14 [(Ty.lst Ty.int (R.getD k [])), (Ty.nat (rankL ((R.getD k [])))), (Ty.nat (rankL ((R.getD k []))))] ok13 ⟨?_, ?_, ?_, trivial⟩ ?_
    · intro A B G H I; exact rP (y_move (kp (I 14 rfl) G q71))
    · intro A B G H I d0; exact rP (y_call #[A.eval (.tmp 50)] Try.func55 rfl rfl (by simp only [List.map_toArray, List.map_cons, List.map_nil]) (rowPlace_fn ((R.getD k [])) _ _ (ed d0 rfl rfl rfl) (by omega)))
    · intro A B G H I d0 d1 d2 d3; exact rP (y_assign (ed d0 rfl rfl rfl))
    intro a15 s15 D11; have ok14 := D11.ok; have F16 := F15.step0 D11.stp; have q72 := D11.kt q63 rfl; have q73 := D11.kt q64 rfl; have q74 := D11.kt q65 rfl; have q75 := D11.kt q66 rfl; have q76 := D11.kt q67 rfl; have q77 := D11.kt q68 rfl; have q78 := D11.kt q69 rfl; have o36 := OwnM.k0 o33 D11.stp; have o37 := OwnP.k0 o34 D11.stp; have o38 := OwnP.k0 o35 D11.stp; have q79 := D11.dn 2 rfl rfl; clear D11; refine tn ?_; refine wp_seq ?_; refine wp_seq ?_
    refine rg a15 s15 [(Ty.val x3), (Ty.nat (rankL ((R.getD k [])))), (Ty.tup2 (Ty.int (((mapOf R k) (((rankL ((R.getD k []))) : Nat) : Int)).getD 0)) (Ty.bool (Option.isSome ((mapOf R k) (((rankL ((R.getD k []))) : Nat) : Int))))), (Ty.tup2 (Ty.int (((mapOf R k) (((rankL ((R.getD k []))) : Nat) : Int)).getD 0)) (Ty.bool (Option.isSome ((mapOf R k) (((rankL ((R.getD k []))) : Nat) : Int))))), (Ty.int (((mapOf R k) (((rankL ((R.getD k []))) : Nat) : Int)).getD 0)), (Ty.bool (Option.isSome ((mapOf R k) (((rankL ((R.getD k []))) : Nat) : Int)))), (Ty.int (((mapOf R k) (((rankL ((R.getD k []))) : Nat) : Int)).getD 0)), (Ty.bool (Option.isSome ((mapOf R k) (((rankL ((R.getD k []))) : Nat) : Int))))] ok14 ⟨?_, ?_, ?_, ?_, ?_, ?_, ?_, ?_, trivial⟩ ?_
    · intro A B G H I; exact rP (y_move (kp (I 12 rfl) G q75))
    · intro A B G H I; exact rP (y_move (kp (I 15 rfl) G q79))
    · intro A B G H I d0 d1; exact rP (y_lookup2 (i := (((rankL ((R.getD k []))) : Nat) : Int)) (z := 0) Try.underlying86 (keyInt Try.underlying3) Try.inf3 (fun _ => rfl) (OwnM.k0 o36 G) (ed d0 rfl rfl rfl) (ed d1 rfl rfl rfl))
    · intro A B G H I d0; exact rP (y_move (ed d0 rfl rfl rfl))
    · intro A B G H I d0; exact rP (y_ext2_0 (ed d0 rfl rfl rfl))
    · intro A B G H I d0 d1; exact rP (y_ext2_1 (ed d0 rfl rfl rfl))
    · intro A B G H I d0 d1 d2 d3 d4 d5 d6; exact rP (y_assign (ed d0 rfl rfl rfl))
    · intro A B G H I d0 d1 d2 d3 d4 d5 d6 d7 d8; exact rP (y_assign (ed d0 rfl rfl rfl))
    intro a16 s16 D12; have ok15 := D12.ok; have F17 := F16.step0 D12.stp; have q80 := D12.kt q72 rfl; have q81 := D12.kt q73 rfl; have q82 := D12.kt q74 rfl; have q83 := D12.kt q75 rfl; have q84 := D12.kt q76 rfl; have q85 := D12.kt q77 rfl; have q86 := D12.kt q78 rfl; have q87 := D12.kt q79 rfl; have o39 := OwnM.k0 o36 D12.stp; have o40 := OwnP.k0 o37 D12.stp; have o41 := OwnP.k0 o38 D12.stp; have q88 := D12.dn 6 rfl rfl; have q89 := D12.dn 7 rfl rfl; clear D12; refine tn ?_; refine wp_seq ?_
    refine rg a16 s16 [(Ty.bool (Option.isSome ((mapOf R k) (((rankL ((R.getD k []))) : Nat) : Int))))] ok15 ⟨?_, trivial⟩ ?_
    · intro A B G H I; exact rP (y_move (kp (I 17 rfl) G q89))
    intro a17 s17 D13; have ok16 := D13.ok; have F18 := F17.step0 D13.stp; have q90 := D13.kt q80 rfl; have q91 := D13.kt q81 rfl; have q92 := D13.kt q82 rfl; have q93 := D13.kt q83 rfl; have q94 := D13.kt q84 rfl; have q95 := D13.kt q85 rfl; have q96 := D13.kt q86 rfl; have q97 := D13.kt q87 rfl; have q98 := D13.kt q88 rfl; have o42 := OwnM.k0 o39 D13.stp; have o43 := OwnP.k0 o40 D13.stp; have o44 := OwnP.k0 o41 D13.stp; have q99 := D13.dn 0 rfl rfl; clear D13; refine tn ?_
    refine cond_t q99 (fun c3 => ?_) (fun c3 => ?_)
    ·
     obtain ⟨j, hj⟩ := Option.isSome_iff_exists.1 c3; have hpo := pr_hit hp (by omega) hj
     refine wp_seq ?_
     refine reg2 (a := a17) (σ := s17) rfl 3 (fun i_ => List.getD [(Ty.pr (Ty.nat k)), (Ty.pr (Ty.int (((mapOf R k) (((rankL ((R.getD k []))) : Nat) : Int)).getD 0))), (Ty.pr (Ty.val (ptrAt x2 2)))] i_ Pr.any) ok16 rfl (by decide) rfl ⟨?_, ?_, ?_, trivial⟩ ?_
     · intro A B G H I d0; exact rP (y_move (kp (I 13 rfl) G q96))
     · intro A B G H I d0; exact rP (y_move (kp (I 16 rfl) G q98))
     · intro A B G H I d0 d1; exact rP (ownp_field Try.fld42_2 Try.inf4 (by decide) (OwnP.k0 o44 G) (kp (I 11 rfl) G q92))
     intro a18 s18 D14; have ok17 := D14.ok; have F19 := F18.step0 D14.stp; have q100 := D14.kt q91 rfl; have q101 := D14.kt q92 rfl; have o45 := OwnM.k0 o42 D14.stp; have o46 := OwnP.k0 o43 D14.stp; have o47 := OwnP.k0 o44 D14.stp; have q102 := D14.dn 0 (by decide) rfl rfl; have q103 := D14.dn 1 (by decide) rfl rfl; have q104 := D14.dn 2 (by decide) rfl rfl; clear D14
     refine tailL0 (L := [5]) (R := (fun _ τ => OwnP τ 5 x2 ([(Ty.nat ((List.length R) - 1)), (Ty.bool (decide ((((rankL ((R.getD ((List.length R) - 1) []))) : Nat) : Int) = (0 : Int)))), (Ty.bool true), (Ty.int (0 : Int)), (Ty.int (0 : Int))].set 2 (Ty.bool false)))) rfl rfl (YldM.toL (m_storep Try.inf4 (by decide) o47 q104 (Nat.le_of_ble_eq_true rfl) rfl (one_val rfl))) (fun v3 s19 hs5 r5 => ?_)
     have F20 := F19.stepL hs5 (by decide); have q105 := kpL hs5 (by decide) rfl q100; have q106 := kpL hs5 (by decide) rfl q101; have q107 := kpL hs5 (by decide) rfl q102; have q108 := kpL hs5 (by decide) rfl q103; have o49 := OwnM.keepL o45 hs5 (by decide) (by decide); have o50 := OwnP.keepL o46 hs5 (by decide) (by decide)
     have o48 : OwnP s19 5 x2 [(Ty.nat ((List.length R) - 1)), (Ty.bool (decide ((((rankL ((R.getD ((List.length R) - 1) []))) : Nat) : Int) = (0 : Int)))), (Ty.bool false), (Ty.int (0 : Int)), (Ty.int (0 : Int))] := r5
     clear r5
     refine tailL (L := []) (R := (fun v τ => Pr.has (Ty.pr (Ty.val (ptrAt x2 3))) τ v)) rfl rfl (by decide) ok17 (Yld.toL (ownp_field Try.fld42_3 Try.inf3 (by decide) o48 q106)) (fun a19 s20 hs6 ok18 r6 sm3 => ?_)
     have F21 := F20.stepL hs6 (by decide); have q110 := kpL hs6 (by decide) (sm3 6 (by decide)) q105; have q111 := kpL hs6 (by decide) (sm3 11 (by decide)) q106; have q112 := kpL hs6 (by decide) (sm3 59 (by decide)) q107; have q113 := kpL hs6 (by decide) (sm3 60 (by decide)) q108; have o51 := OwnM.keepL o49 hs6 (by decide) (by decide); have o52 := OwnP.keepL o50 hs6 (by decide) (by decide); have o53 := OwnP.keepL o48 hs6 (by decide) (by decide)
     have q114 : At (Ty.val (ptrAt x2 3)) s20 a19 (.tmp 62) := r6
     clear r6
     refine tailL0 (L := [5]) (R := (fun _ τ => OwnP τ 5 x2 ([(Ty.nat ((List.length R) - 1)), (Ty.bool (decide ((((rankL ((R.getD ((List.length R) - 1) []))) : Nat) : Int) = (0 : Int)))), (Ty.bool false), (Ty.int (0 : Int)), (Ty.int (0 : Int))].set 3 (Ty.nat k)))) rfl rfl (YldM.toL (m_storep Try.inf3 (by decide) o53 q114 (Nat.le_of_ble_eq_true rfl) q112 (one_val rfl))) (fun v4 s21 hs7 r7 => ?_)
     have F22 := F21.stepL hs7 (by decide); have q115 := kpL hs7 (by decide) rfl q110; have q116 := kpL hs7 (by decide) rfl q111; have q117 := kpL hs7 (by decide) rfl q113; have o55 := OwnM.keepL o51 hs7 (by decide) (by decide); have o56 := OwnP.keepL o52 hs7 (by decide) (by decide)
     have o54 : OwnP s21 5 x2 [(Ty.nat ((List.length R) - 1)), (Ty.bool (decide ((((rankL ((R.getD ((List.length R) - 1) []))) : Nat) : Int) = (0 : Int)))), (Ty.bool false), (Ty.nat k), (Ty.int (0 : Int))] := r7
     clear r7
     refine tailL (L := []) (R := (fun v τ => Pr.has (Ty.pr (Ty.val (ptrAt x2 4))) τ v)) rfl rfl (by decide) ok18 (Yld.toL (ownp_field Try.fld42_4 Try.inf3 (by decide) o54 q116)) (fun a20 s22 hs8 ok19 r8 sm4 => ?_)
     have F23 := F22.stepL hs8 (by decide); have q119 := kpL hs8 (by decide) (sm4 6 (by decide)) q115; have q120 := kpL hs8 (by decide) (sm4 11 (by decide)) q116; have q121 := kpL hs8 (by decide) (sm4 60 (by decide)) q117; have o57 := OwnM.keepL o55 hs8 (by decide) (by decide); have o58 := OwnP.keepL o56 hs8 (by decide) (by decide); have o59 := OwnP.keepL o54 hs8 (by decide) (by decide)
     have q122 : At (Ty.val (ptrAt x2 4)) s22 a20 (.tmp 63) := r8
     clear r8
     refine tailL0 (L := [5]) (R := (fun _ τ => OwnP τ 5 x2 ([(Ty.nat ((List.length R) - 1)), (Ty.bool (decide ((((rankL ((R.getD ((List.length R) - 1) []))) : Nat) : Int) = (0 : Int)))), (Ty.bool false), (Ty.nat k), (Ty.int (0 : Int))].set 4 (Ty.int (((mapOf R k) (((rankL ((R.getD k []))) : Nat) : Int)).getD 0))))) rfl rfl (YldM.toL (m_storep Try.inf3 (by decide) o59 q122 (Nat.le_of_ble_eq_true rfl) q121 (one_val rfl))) (fun v5 s23 hs9 r9 => ?_)
     have F24 := F23.stepL hs9 (by decide); have q123 := kpL hs9 (by decide) rfl q119; have q124 := kpL hs9 (by decide) rfl q120; have o61 := OwnM.keepL o57 hs9 (by decide) (by decide); have o62 := OwnP.keepL o58 hs9 (by decide) (by decide)
     have o60 : OwnP s23 5 x2 [(Ty.nat ((List.length R) - 1)), (Ty.bool (decide ((((rankL ((R.getD ((List.length R) - 1) []))) : Nat) : Int) = (0 : Int)))), (Ty.bool false), (Ty.nat k), (Ty.int (((mapOf R k) (((rankL ((R.getD k []))) : Nat) : Int)).getD 0))] := r9
     clear r9; refine wpList_nil ?_; refine tn ?_; refine wp_exit ?_; refine tx ?_
     refine bo (by decide) ?_
     refine tx ?_; refine tx ?_; refine bx ?_; refine tn ?_; refine wp_seq ?_
     refine reg2 (a := a20) (σ := s23) rfl 1 (fun i_ => List.getD [(Ty.pr (Ty.agg [(Ty.nat ((List.length R) - 1)), (Ty.bool (decide ((((rankL ((R.getD ((List.length R) - 1) []))) : Nat) : Int) = (0 : Int)))), (Ty.bool false), (Ty.nat k), (Ty.int (((mapOf R k) (((rankL ((R.getD k []))) : Nat) : Int)).getD 0))]))] i_ Pr.any) ok19 rfl (by decide) rfl ⟨?_, trivial⟩ ?_
     · intro A B G H I; exact rP (ownp_loadagg Try.underlying42 Try.inf42 (OwnP.k0 o60 G) (kp (I 11 rfl) G q124))
     intro a21 s24 D15; have ok20 := D15.ok; have F25 := F24.step0 D15.stp; have q126 := D15.kt q123 rfl; have o63 := OwnP.k0 o62 D15.stp; have o64 := OwnP.k0 o60 D15.stp; have q127 := D15.dn 0 (by decide) rfl rfl; clear D15
     refine tailL0 (L := [4]) (R := (fun _ τ => OwnP τ 4 x1 [(Ty.nat ((List.length R) - 1)), (Ty.bool (decide ((((rankL ((R.getD ((List.length R) - 1) []))) : Nat) : Int) = (0 : Int)))), (Ty.bool false), (Ty.nat k), (Ty.int (((mapOf R k) (((rankL ((R.getD k []))) : Nat) : Int)).getD 0))])) rfl rfl (YldM.toL (m_storeagg Try.inf42 (by decide) o63 q126 rfl q127 (by intro U hU; simp only [List.mem_cons, List.not_mem_nil, or_false] at hU; rcases hU with rfl | rfl | rfl | rfl | rfl <;> first | exact one_val rfl | exact one_sl | exact one_ref))) (fun v6 s25 hs10 r10 => ?_)
     have F26 := F25.stepL hs10 (by decide); have q128 := kpL hs10 (by decide) rfl q126; have o66 := OwnP.keepL o64 hs10 (by decide) (by decide)
     have o65 : OwnP s25 4 x1 [(Ty.nat ((List.length R) - 1)), (Ty.bool (decide ((((rankL ((R.getD ((List.length R) - 1) []))) : Nat) : Int) = (0 : Int)))), (Ty.bool false), (Ty.nat k), (Ty.int (((mapOf R k) (((rankL ((R.getD k []))) : Nat) : Int)).getD 0))] := r10
     clear r10
     refine tailL (L := []) (R := (fun v τ => Pr.has (Ty.pr (Ty.int (0 : Int))) τ v)) rfl rfl (by decide) ok20 (Yld.toL (y_assign rfl)) (fun a22 s26 hs11 ok21 r11 sm5 => ?_)
     have F27 := F26.stepL hs11 (by decide); have q130 := kpL hs11 (by decide) (sm5 6 (by decide)) q128; have o67 := OwnP.keepL o66 hs11 (by decide) (by decide); have o68 := OwnP.keepL o65 hs11 (by decide) (by decide)
     have q131 : At (Ty.int (0 : Int)) s26 a22 (.tmp 7) := r11
     clear r11; refine wpList_nil ?_; refine tn ?_; refine wp_ret ?_
     have o69 : OwnP s26 4 x1 [(Ty.nat ((List.length R) - 1)), (Ty.bool (decide ((((rankL ((R.getD ((List.length R) - 1) []))) : Nat) : Int) = (0 : Int)))), (Ty.bool false), (Ty.nat k), (Ty.int (((mapOf R k) (((rankL ((R.getD k []))) : Nat) : Int)).getD 0))] := o68
     have o70 : OwnP s26 4 x1 [(Ty.nat (if touchMay nm n l cs leads = 0 then leads.length * l.length else 0)), (Ty.bool (decide ((((rankL ((R.getD ((List.length R) - 1) []))) : Nat) : Int) = (0 : Int)))), (Ty.bool false), (Ty.nat k), (Ty.int (((mapOf R k) (((rankL ((R.getD k []))) : Nat) : Int)).getD 0))] := cvop (by rw [show (Ty.nat ((List.length R) - 1)) = (Ty.nat (if touchMay nm n l cs leads = 0 then leads.length * l.length else 0)) from by (rw [if_pos h0, show R.length - 1 = leads.length * l.length by omega])]) o69
     have o71 : OwnP s26 4 x1 [(Ty.nat (if touchMay nm n l cs leads = 0 then leads.length * l.length else 0)), (Ty.bool (if touchMay nm n l cs leads = 0 then rndB (tRows n.toNat l cs leads leads.length) else false)), (Ty.bool false), (Ty.nat k), (Ty.int (((mapOf R k) (((rankL ((R.getD k []))) : Nat) : Int)).getD 0))] := cvop (by rw [show (Ty.bool (decide ((((rankL ((R.getD ((List.length R) - 1) []))) : Nat) : Int) = (0 : Int)))) = (Ty.bool (if touchMay nm n l cs leads = 0 then rndB (tRows n.toNat l cs leads leads.length) else false)) from by (rw [if_pos h0, ← hR]; rfl)]) o70
     have o72 : OwnP s26 4 x1 [(Ty.nat (if touchMay nm n l cs leads = 0 then leads.length * l.length else 0)), (Ty.bool (if touchMay nm n l cs leads = 0 then rndB (tRows n.toNat l cs leads leads.length) else false)), (Ty.bool (if touchMay nm n l cs leads = 0 then (prO (tRows n.toNat l cs leads leads.length)).isNone else false)), (Ty.nat k), (Ty.int (((mapOf R k) (((rankL ((R.getD k []))) : Nat) : Int)).getD 0))] := cvop (by rw [show (Ty.bool false) = (Ty.bool (if touchMay nm n l cs leads = 0 then (prO (tRows n.toNat l cs leads leads.length)).isNone else false)) from by (rw [if_pos h0, ← hR]; rw [hpo]; rfl)]) o71
     have o73 : OwnP s26 4 x1 [(Ty.nat (if touchMay nm n l cs leads = 0 then leads.length * l.length else 0)), (Ty.bool (if touchMay nm n l cs leads = 0 then rndB (tRows n.toNat l cs leads leads.length) else false)), (Ty.bool (if touchMay nm n l cs leads = 0 then (prO (tRows n.toNat l cs leads leads.length)).isNone else false)), (Ty.nat (if touchMay nm n l cs leads = 0 then agnL (tRows n.toNat l cs leads leads.length) else 0)), (Ty.int (((mapOf R k) (((rankL ((R.getD k []))) : Nat) : Int)).getD 0))] := cvop (by rw [show (Ty.nat k) = (Ty.nat (if touchMay nm n l cs leads = 0 then agnL (tRows n.toNat l cs leads leads.length) else 0)) from by (rw [if_pos h0, ← hR]; unfold agnL; rw [hpo]; rfl)]) o72
     have o74 : OwnP s26 4 x1 [(Ty.nat (if touchMay nm n l cs leads = 0 then leads.length * l.length else 0)), (Ty.bool (if touchMay nm n l cs leads = 0 then rndB (tRows n.toNat l cs leads leads.length) else false)), (Ty.bool (if touchMay nm n l cs leads = 0 then (prO (tRows n.toNat l cs leads leads.length)).isNone else false)), (Ty.nat (if touchMay nm n l cs leads = 0 then agnL (tRows n.toNat l cs leads leads.length) else 0)), (Ty.int (if touchMay nm n l cs leads = 0 then befL (tRows n.toNat l cs leads leads.length) else 0))] := cvop (by rw [show (Ty.int (((mapOf R k) (((rankL ((R.getD k []))) : Nat) : Int)).getD 0)) = (Ty.int (if touchMay nm n l cs leads = 0 then befL (tRows n.toNat l cs leads leads.length) else 0)) from by (rw [if_pos h0, ← hR]; unfold befL; rw [hpo, hj]; rfl)]) o73
     exact retL2c (k := 4) (ts := [(Ty.nat (if touchMay nm n l cs leads = 0 then leads.length * l.length else 0)), (Ty.bool (if touchMay nm n l cs leads = 0 then rndB (tRows n.toNat l cs leads leads.length) else false)), (Ty.bool (if touchMay nm n l cs leads = 0 then (prO (tRows n.toNat l cs leads leads.length)).isNone else false)), (Ty.nat (if touchMay nm n l cs leads = 0 then agnL (tRows n.toNat l cs leads leads.length) else 0)), (Ty.int (if touchMay nm n l cs leads = 0 then befL (tRows n.toNat l cs leads leads.length) else 0))]) rfl ok21 F27 Try.underlying42 Try.inf42 (al (R := (Pr.ownp 4 [(Ty.nat (if touchMay nm n l cs leads = 0 then leads.length * l.length else 0)), (Ty.bool (if touchMay nm n l cs leads = 0 then rndB (tRows n.toNat l cs leads leads.length) else false)), (Ty.bool (if touchMay nm n l cs leads = 0 then (prO (tRows n.toNat l cs leads leads.length)).isNone else false)), (Ty.nat (if touchMay nm n l cs leads = 0 then agnL (tRows n.toNat l cs leads leads.length) else 0)), (Ty.int (if touchMay nm n l cs leads = 0 then befL (tRows n.toNat l cs leads leads.length) else 0))])) q130 o74) (fun v_ hv_ => (hasT2 hv_ (cvi (by (exact h0.symm)) q131)))
    ·
     have hnn := opt_nof c3; have hpx := pr_next hp (by omega) hnn
     refine wp_skip ?_; refine tn ?_
     refine reg2 (a := a17) (σ := s17) rfl 3 (fun i_ => List.getD [(Ty.pr (Ty.val x3)), (Ty.pr (Ty.nat (rankL ((R.getD k []))))), (Ty.pr (Ty.nat k))] i_ Pr.any) ok16 rfl (by decide) rfl ⟨?_, ?_, ?_, trivial⟩ ?_
     · intro A B G H I; exact rP (y_move (kp (I 12 rfl) G q93))
     · intro A B G H I; exact rP (y_move (kp (I 15 rfl) G q97))
     · intro A B G H I; exact rP (y_move (kp (I 13 rfl) G q96))
     intro a23 s27 D16; have ok22 := D16.ok; have F28 := F18.step0 D16.stp; have q132 := D16.kt q90 rfl; have q133 := D16.kt q91 rfl; have q134 := D16.kt q92 rfl; have q135 := D16.kt q93 rfl; have q136 := D16.kt q94 rfl; have q137 := D16.kt q95 rfl; have o75 := OwnM.k0 o42 D16.stp; have o76 := OwnP.k0 o43 D16.stp; have o77 := OwnP.k0 o44 D16.stp
     have q138 : At (Ty.val x3) s27 a23 (.tmp 64) := D16.done 0 (by decide)
     have q139 := D16.dn 1 (by decide) rfl rfl; have q140 := D16.dn 2 (by decide) rfl rfl; clear D16
     refine tailL0 (L := [6]) (R := (fun _ τ => OwnM Ty.int kI τ 6 x3 (fun x_ => if x_ = (((rankL ((R.getD k []))) : Nat) : Int) then some ((k : Nat) : Int) else (mapOf R k) x_))) rfl rfl (YldM.toL (m_mapset (i := (((rankL ((R.getD k []))) : Nat) : Int)) Try.underlying86 (keyInt Try.underlying3) (by decide) o75 q138 q139 q140)) (fun v7 s28 hs12 r12 => ?_)
     have F29 := F28.stepL hs12 (by decide); have q141 := kpL hs12 (by decide) rfl q132; have q142 := kpL hs12 (by decide) rfl q133; have q143 := kpL hs12 (by decide) rfl q134; have q144 := kpL hs12 (by decide) rfl q135; have q145 := kpL hs12 (by decide) rfl q136; have q146 := kpL hs12 (by decide) rfl q137; have o79 := OwnP.keepL o76 hs12 (by decide) (by decide); have o80 := OwnP.keepL o77 hs12 (by decide) (by decide)
     have o78 : OwnM Ty.int kI s28 6 x3 (fun x_ => if x_ = (((rankL ((R.getD k []))) : Nat) : Int) then some ((k : Nat) : Int) else (mapOf R k) x_) := r12
     clear r12; refine wpList_nil ?_; refine bn ?_; refine tn ?_
     refine rg a23 s28 [(Ty.nat (k + 1)), (Ty.nat (k + 1))] ok22 ⟨?_, ?_, trivial⟩ ?_
     · intro A B G H I; exact rP ((y_add (kp (I 45 rfl) G q141) rfl (w64 (by omega) (by omega))).mono (fun τ _ h => cvi (σ := τ) (by first | omega | exact (Int.natCast_mul _ _).symm) h))
     · intro A B G H I d0; exact rP (y_move (ed d0 rfl rfl rfl))
     intro a24 s29 D17; have ok23 := D17.ok; have F30 := F29.step0 D17.stp; have q148 := D17.kt q142 rfl; have q149 := D17.kt q143 rfl; have q150 := D17.kt q144 rfl; have q151 := D17.kt q145 rfl; have q152 := D17.kt q146 rfl; have o81 := OwnP.k0 o79 D17.stp; have o82 := OwnP.k0 o80 D17.stp; have o83 := OwnM.k0 o78 D17.stp; have q153 := D17.dn 1 rfl rfl; clear D17
     exact tn ⟨(List.take ((List.length R) - 1) R).length - ((k+1)), by omega, s29, (k+1), rfl, F30, ok23, (cvi (by (first | rfl | omega | (simp_all; done) | (simp_all; omega))) q153), q148, q149, q150, q151, q152, (cvm (by (rfl)) o83), o81, o82, by omega, by rw [show R.length - 1 - (k + 1) = R.length - 1 - k - 1 by omega]; exact hpx, rfl⟩
   ·
    have hpo := pr_end hp (by omega)
    refine wp_exit ?_; refine tx ?_; refine tx ?_; refine bx ?_; refine tn ?_; refine wp_seq ?_
    refine reg2 (a := a13) (σ := s13) rfl 1 (fun i_ => List.getD [(Ty.pr (Ty.agg [(Ty.nat ((List.length R) - 1)), (Ty.bool (decide ((((rankL ((R.getD ((List.length R) - 1) []))) : Nat) : Int) = (0 : Int)))), (Ty.bool true), (Ty.int (0 : Int)), (Ty.int (0 : Int))]))] i_ Pr.any) ok12 rfl (by decide) rfl ⟨?_, trivial⟩ ?_
    · intro A B G H I; exact rP (ownp_loadagg Try.underlying42 Try.inf42 (OwnP.k0 o32 G) (kp (I 11 rfl) G q58))
    intro a25 s30 D18; have ok24 := D18.ok; have F31 := F14.step0 D18.stp; have q154 := D18.kt q57 rfl; have o84 := OwnM.k0 o30 D18.stp; have o85 := OwnP.k0 o31 D18.stp; have o86 := OwnP.k0 o32 D18.stp; have q155 := D18.dn 0 (by decide) rfl rfl; clear D18
    refine tailL0 (L := [4]) (R := (fun _ τ => OwnP τ 4 x1 [(Ty.nat ((List.length R) - 1)), (Ty.bool (decide ((((rankL ((R.getD ((List.length R) - 1) []))) : Nat) : Int) = (0 : Int)))), (Ty.bool true), (Ty.int (0 : Int)), (Ty.int (0 : Int))])) rfl rfl (YldM.toL (m_storeagg Try.inf42 (by decide) o85 q154 rfl q155 (by intro U hU; simp only [List.mem_cons, List.not_mem_nil, or_false] at hU; rcases hU with rfl | rfl | rfl | rfl | rfl <;> first | exact one_val rfl | exact one_sl | exact one_ref))) (fun v8 s31 hs13 r13 => ?_)
    have F32 := F31.stepL hs13 (by decide); have q156 := kpL hs13 (by decide) rfl q154; have o88 := OwnM.keepL o84 hs13 (by decide) (by decide); have o89 := OwnP.keepL o86 hs13 (by decide) (by decide)
    have o87 : OwnP s31 4 x1 [(Ty.nat ((List.length R) - 1)), (Ty.bool (decide ((((rankL ((R.getD ((List.length R) - 1) []))) : Nat) : Int) = (0 : Int)))), (Ty.bool true), (Ty.int (0 : Int)), (Ty.int (0 : Int))] := r13
    clear r13
    refine tailL (L := []) (R := (fun v τ => Pr.has (Ty.pr (Ty.int (0 : Int))) τ v)) rfl rfl (by decide) ok24 (Yld.toL (y_assign rfl)) (fun a26 s32 hs14 ok25 r14 sm6 => ?_)
    have F33 := F32.stepL hs14 (by decide); have q158 := kpL hs14 (by decide) (sm6 6 (by decide)) q156; have o90 := OwnM.keepL o88 hs14 (by decide) (by decide); have o91 := OwnP.keepL o89 hs14 (by decide) (by decide); have o92 := OwnP.keepL o87 hs14 (by decide) (by decide)
    have q159 : At (Ty.int (0 : Int)) s32 a26 (.tmp 7) := r14
    clear r14; refine wpList_nil ?_; refine tn ?_; refine wp_ret ?_
    have o93 : OwnP s32 4 x1 [(Ty.nat ((List.length R) - 1)), (Ty.bool (decide ((((rankL ((R.getD ((List.length R) - 1) []))) : Nat) : Int) = (0 : Int)))), (Ty.bool true), (Ty.int (0 : Int)), (Ty.int (0 : Int))] := o92
    have o94 : OwnP s32 4 x1 [(Ty.nat (if touchMay nm n l cs leads = 0 then leads.length * l.length else 0)), (Ty.bool (decide ((((rankL ((R.getD ((List.length R) - 1) []))) : Nat) : Int) = (0 : Int)))), (Ty.bool true), (Ty.int (0 : Int)), (Ty.int (0 : Int))] := cvop (by rw [show (Ty.nat ((List.length R) - 1)) = (Ty.nat (if touchMay nm n l cs leads = 0 then leads.length * l.length else 0)) from by (rw [if_pos h0, show R.length - 1 = leads.length * l.length by omega])]) o93
    have o95 : OwnP s32 4 x1 [(Ty.nat (if touchMay nm n l cs leads = 0 then leads.length * l.length else 0)), (Ty.bool (if touchMay nm n l cs leads = 0 then rndB (tRows n.toNat l cs leads leads.length) else false)), (Ty.bool true), (Ty.int (0 : Int)), (Ty.int (0 : Int))] := cvop (by rw [show (Ty.bool (decide ((((rankL ((R.getD ((List.length R) - 1) []))) : Nat) : Int) = (0 : Int)))) = (Ty.bool (if touchMay nm n l cs leads = 0 then rndB (tRows n.toNat l cs leads leads.length) else false)) from by (rw [if_pos h0, ← hR]; rfl)]) o94
    have o96 : OwnP s32 4 x1 [(Ty.nat (if touchMay nm n l cs leads = 0 then leads.length * l.length else 0)), (Ty.bool (if touchMay nm n l cs leads = 0 then rndB (tRows n.toNat l cs leads leads.length) else false)), (Ty.bool (if touchMay nm n l cs leads = 0 then (prO (tRows n.toNat l cs leads leads.length)).isNone else false)), (Ty.int (0 : Int)), (Ty.int (0 : Int))] := cvop (by rw [show (Ty.bool true) = (Ty.bool (if touchMay nm n l cs leads = 0 then (prO (tRows n.toNat l cs leads leads.length)).isNone else false)) from by (rw [if_pos h0, ← hR]; rw [hpo]; rfl)]) o95
    have o97 : OwnP s32 4 x1 [(Ty.nat (if touchMay nm n l cs leads = 0 then leads.length * l.length else 0)), (Ty.bool (if touchMay nm n l cs leads = 0 then rndB (tRows n.toNat l cs leads leads.length) else false)), (Ty.bool (if touchMay nm n l cs leads = 0 then (prO (tRows n.toNat l cs leads leads.length)).isNone else false)), (Ty.nat (if touchMay nm n l cs leads = 0 then agnL (tRows n.toNat l cs leads leads.length) else 0)), (Ty.int (0 : Int))] := cvop (by rw [show (Ty.int (0 : Int)) = (Ty.nat (if touchMay nm n l cs leads = 0 then agnL (tRows n.toNat l cs leads leads.length) else 0)) from by (rw [if_pos h0, ← hR]; unfold agnL; rw [hpo]; rfl)]) o96
    have o98 : OwnP s32 4 x1 [(Ty.nat (if touchMay nm n l cs leads = 0 then leads.length * l.length else 0)), (Ty.bool (if touchMay nm n l cs leads = 0 then rndB (tRows n.toNat l cs leads leads.length) else false)), (Ty.bool (if touchMay nm n l cs leads = 0 then (prO (tRows n.toNat l cs leads leads.length)).isNone else false)), (Ty.nat (if touchMay nm n l cs leads = 0 then agnL (tRows n.toNat l cs leads leads.length) else 0)), (Ty.int (if touchMay nm n l cs leads = 0 then befL (tRows n.toNat l cs leads leads.length) else 0))] := cvop (by rw [show (Ty.int (0 : Int)) = (Ty.int (if touchMay nm n l cs leads = 0 then befL (tRows n.toNat l cs leads leads.length) else 0)) from by (rw [if_pos h0, ← hR]; unfold befL; rw [hpo]; rfl)]) o97
    exact retL2c (k := 4) (ts := [(Ty.nat (if touchMay nm n l cs leads = 0 then leads.length * l.length else 0)), (Ty.bool (if touchMay nm n l cs leads = 0 then rndB (tRows n.toNat l cs leads leads.length) else false)), (Ty.bool (if touchMay nm n l cs leads = 0 then (prO (tRows n.toNat l cs leads leads.length)).isNone else false)), (Ty.nat (if touchMay nm n l cs leads = 0 then agnL (tRows n.toNat l cs leads leads.length) else 0)), (Ty.int (if touchMay nm n l cs leads = 0 then befL (tRows n.toNat l cs leads leads.length) else 0))]) rfl ok25 F33 Try.underlying42 Try.inf42 (al (R := (Pr.ownp 4 [(Ty.nat (if touchMay nm n l cs leads = 0 then leads.length * l.length else 0)), (Ty.bool (if touchMay nm n l cs leads = 0 then rndB (tRows n.toNat l cs leads leads.length) else false)), (Ty.bool (if touchMay nm n l cs leads = 0 then (prO (tRows n.toNat l cs leads leads.length)).isNone else false)), (Ty.nat (if touchMay nm n l cs leads = 0 then agnL (tRows n.toNat l cs leads leads.length) else 0)), (Ty.int (if touchMay nm n l cs leads = 0 then befL (tRows n.toNat l cs leads leads.length) else 0))])) q158 o98) (fun v_ hv_ => (hasT2 hv_ (cvi (by (exact h0.symm)) q159)))


end Go.Proofs.Ytbilebfnanlgfaa
