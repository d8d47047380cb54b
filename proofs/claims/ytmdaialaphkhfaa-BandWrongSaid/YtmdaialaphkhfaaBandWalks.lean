/- The functions that the law of band.Wrong reaches, each by its contract. -/
import Derived.Test.YtmdaialaphkhfaaKlOwn
import Derived.Test.YtmdaialaphkhfaaProg
namespace Go.Proofs.Ytmdaialaphkhfaa
open Go.KL
theorem Try.inf3 : Info Try.prog 3 (.int .i64 0) 1 8 := by unfold Info; kernel_rfl
theorem Try.inf25 : Info Try.prog 25 (.slice none 0 0) 1 24 := by unfold Info; kernel_rfl
theorem all_snoc {xs ys : List Int} {k : Nat} (h : ∀ j, j < k → xs.getD j 0 = ys.getD j 0) (e : ¬ (xs.getD k 0 ≠ ys.getD k 0)) : ∀ j, j < k + 1 → xs.getD j 0 = ys.getD j 0 := by
  intro j hj
  by_cases hjk : j = k
  · subst hjk; exact Classical.not_not.1 e
  · exact h j (by omega)
theorem list_ext {xs ys : List Int} (hl : xs.length = ys.length) (h : ∀ j, j < xs.length → xs.getD j 0 = ys.getD j 0) : xs = ys := by
  refine List.ext_getElem hl fun j h1 h2 => ?_
  have := h j h1
  simpa [h1, h2] using this
def wrongTo (a b : List (List Int)) (k : Nat) : List Int := ((List.range k).filter fun (i : Nat) => decide (((List.length b : Nat) : Int) ≤ ((i : Nat) : Int)) || !decide (a.getD i [] = b.getD i [])).map fun (i : Nat) => (i : Int)
theorem wrongTo_le (a b : List (List Int)) (k : Nat) : (wrongTo a b k).length ≤ k := by
  unfold wrongTo; rw [List.length_map]; exact Nat.le_trans (List.length_filter_le _ _) (by simp)
theorem wrongTo_yes (a b : List (List Int)) (k : Nat) (h : (decide (((List.length b : Nat) : Int) ≤ ((k : Nat) : Int)) || !decide (a.getD k [] = b.getD k [])) = true) : wrongTo a b (k + 1) = wrongTo a b k ++ [(k : Int)] := by
  unfold wrongTo; rw [List.range_succ, List.filter_append, List.map_append]; simp only [List.filter_cons, h]; simp
theorem wrongTo_no (a b : List (List Int)) (k : Nat) (h : (decide (((List.length b : Nat) : Int) ≤ ((k : Nat) : Int)) || !decide (a.getD k [] = b.getD k [])) = false) : wrongTo a b (k + 1) = wrongTo a b k := by
  unfold wrongTo; rw [List.range_succ, List.filter_append, List.map_append]; simp only [List.filter_cons, h]; simp

set_option maxRecDepth 100000 in
theorem rsame_fn (xs : List Int) (ys : List Int) (σ : GW) (v0 v1 : Value) (hv0 : Ty.has (Ty.lst Ty.int xs) σ v0) (hv1 : Ty.has (Ty.lst Ty.int ys) σ v1)  :
    FnC Try.prog 9 #[v0, v1] σ (Ty.bool (decide (xs = ys))) := by
 refine fn_intro Try.func9 rfl Try.ntmps9 (Nat.le_of_ble_eq_true rfl) (fun s0 a0 hle F0 ok0 hargs => ?_)
 have p0 : At (Ty.lst Ty.int xs) s0 a0 (.tmp 0) := by have e := hargs 0 _ rfl; show Ty.has _ _ _; rw [e]; exact Ty.up _ hle hv0
 have b1 := sl_le p0
 have p1 : At (Ty.lst Ty.int ys) s0 a0 (.tmp 1) := by have e := hargs 1 _ rfl; show Ty.has _ _ _; rw [e]; exact Ty.up _ hle hv1
 have b2 := sl_le p1
 clear hargs
 refine wp_seq ?_
 refine reg (a := a0) (σ := s0) rfl (fun i => List.getD [(Ty.pr (Ty.bool false))] i Pr.any) ok0 rfl ⟨?_, trivial⟩ ?_
 · intro a1 t1 hs ok1 sm
   exact run_plain rfl (y_assign rfl)
 intro a1 s1 D1
 have ok1 := D1.ok
 have F1 := F0.step0 D1.stp
 have q1 : At (Ty.lst Ty.int xs) s1 a1 (.tmp 0) := D1.kt p0 rfl
 have q2 : At (Ty.lst Ty.int ys) s1 a1 (.tmp 1) := D1.kt p1 rfl
 clear D1
 refine tn ?_
 refine wp_seq ?_
 refine wp_seq ?_
 refine reg (a := a1) (σ := s1) rfl (fun i => List.getD [(Ty.pr (Ty.lst Ty.int xs)), (Ty.pr (Ty.nat (List.length xs))), (Ty.pr (Ty.lst Ty.int ys)), (Ty.pr (Ty.nat (List.length ys))), (Ty.pr (Ty.bool (decide ((((List.length xs) : Nat) : Int) ≠ (((List.length ys) : Nat) : Int)))))] i Pr.any) ok1 rfl ⟨?_, ?_, ?_, ?_, ?_, trivial⟩ ?_
 · intro a1 t1 hs ok1 sm
   exact run_plain rfl (y_move (kp (sm 0 rfl) hs q1))
 · intro a1 t1 hs ok1 sm d0
   have e0 : At (Ty.lst Ty.int xs) t1 a1 (.tmp 6) := d0 rfl
   exact run_plain rfl (y_len Try.underlying25 e0)
 · intro a1 t1 hs ok1 sm
   exact run_plain rfl (y_move (kp (sm 1 rfl) hs q2))
 · intro a1 t1 hs ok1 sm d0
   have e2 : At (Ty.lst Ty.int ys) t1 a1 (.tmp 8) := d0 rfl
   exact run_plain rfl (y_len Try.underlying25 e2)
 · intro a1 t1 hs ok1 sm d0 d1
   have e1 : At (Ty.nat (List.length xs)) t1 a1 (.tmp 7) := d0 rfl
   have e3 : At (Ty.nat (List.length ys)) t1 a1 (.tmp 9) := d1 rfl
   exact run_plain rfl (y_neq e1 e3)
 intro a2 s2 D2
 have ok2 := D2.ok
 have F2 := F1.step0 D2.stp
 have q3 : At (Ty.lst Ty.int xs) s2 a2 (.tmp 0) := D2.kt q1 rfl
 have q4 : At (Ty.lst Ty.int ys) s2 a2 (.tmp 1) := D2.kt q2 rfl
 have q5 : At (Ty.bool (decide ((((List.length xs) : Nat) : Int) ≠ (((List.length ys) : Nat) : Int)))) s2 a2 (.tmp 10) := D2.done 4
 clear D2
 refine tn ?_
 refine cond_p (p := ((((List.length xs) : Nat) : Int) ≠ (((List.length ys) : Nat) : Int))) q5 (fun c1 => ?_) (fun c1 => ?_)
 ·
  refine wp_seq ?_
  refine reg (a := a2) (σ := s2) rfl (fun i => List.getD [(Ty.pr (Ty.bool false))] i Pr.any) ok2 rfl ⟨?_, trivial⟩ ?_
  · intro a1 t1 hs ok1 sm
    exact run_plain rfl (y_assign rfl)
  intro a3 s3 D3
  have ok3 := D3.ok
  have F3 := F2.step0 D3.stp
  have q6 : At (Ty.bool false) s3 a3 (.tmp 4) := D3.done 0
  clear D3
  refine tn ?_
  refine wp_ret ?_
  refine tr ?_
  exact ret1 rfl ok3 F3 (cvb (by (rw [decide_eq_false]; intro e; subst e; omega)) q6)
 ·
  refine wp_skip ?_
  refine tn ?_
  refine wp_seq ?_
  refine wp_seq ?_
  refine reg (a := a2) (σ := s2) rfl (fun i => List.getD [(Ty.pr (Ty.int (0 : Int)))] i Pr.any) ok2 rfl ⟨?_, trivial⟩ ?_
  · intro a1 t1 hs ok1 sm
    exact run_plain rfl (y_assign rfl)
  intro a4 s4 D4
  have ok4 := D4.ok
  have F4 := F2.step0 D4.stp
  have q7 : At (Ty.lst Ty.int xs) s4 a4 (.tmp 0) := D4.kt q3 rfl
  have q8 : At (Ty.lst Ty.int ys) s4 a4 (.tmp 1) := D4.kt q4 rfl
  have q9 : At (Ty.int (0 : Int)) s4 a4 (.tmp 5) := D4.done 0
  clear D4
  refine tn ?_
  refine wp_block ?_
  refine loop (fun n1 a5 w1 => ∃ (t1 : GW) (k : Nat), t1.w = w1 ∧ From s0 t1 ∧ Ok 26 a5 ∧ At (Ty.nat k) t1 a5 (.tmp 5) ∧ At (Ty.lst Ty.int xs) t1 a5 (.tmp 0) ∧ At (Ty.lst Ty.int ys) t1 a5 (.tmp 1) ∧ (k ≤ xs.length) ∧ (xs.length = ys.length) ∧ (∀ j, j < k → xs.getD j 0 = ys.getD j 0) ∧ n1 = xs.length - k) (xs.length - (0)) ?_ ?_
  ·
   exact ⟨s4, 0, rfl, F4, ok4, (cvi (by (first | rfl | omega | (simp_all; done) | (simp_all; omega))) q9), q7, q8, by omega, by omega, fun j hj => absurd hj (Nat.not_lt_zero j), rfl⟩
  ·
   rintro n2 a6 w2 ⟨t2, k, rfl, F5, ok5, q10, q11, q12, hk, hl, heq, rfl⟩
   refine wp_seq ?_
   refine wp_seq ?_
   refine reg (a := a6) (σ := t2) rfl (fun i => List.getD [(Ty.pr (Ty.nat k)), (Ty.pr (Ty.lst Ty.int xs)), (Ty.pr (Ty.nat (List.length xs))), (Ty.pr (Ty.bool (decide (((k : Nat) : Int) < (((List.length xs) : Nat) : Int)))))] i Pr.any) ok5 rfl ⟨?_, ?_, ?_, ?_, trivial⟩ ?_
   · intro a1 t1 hs ok1 sm
     exact run_plain rfl (y_move (kp (sm 5 rfl) hs q10))
   · intro a1 t1 hs ok1 sm
     exact run_plain rfl (y_move (kp (sm 0 rfl) hs q11))
   · intro a1 t1 hs ok1 sm d0
     have e1 : At (Ty.lst Ty.int xs) t1 a1 (.tmp 12) := d0 rfl
     exact run_plain rfl (y_len Try.underlying25 e1)
   · intro a1 t1 hs ok1 sm d0 d1
     have e0 : At (Ty.nat k) t1 a1 (.tmp 11) := d0 rfl
     have e2 : At (Ty.nat (List.length xs)) t1 a1 (.tmp 13) := d1 rfl
     exact run_plain rfl (y_lss e0 e2)
   intro a7 s5 D5
   have ok6 := D5.ok
   have F6 := F5.step0 D5.stp
   have q13 : At (Ty.nat k) s5 a7 (.tmp 5) := D5.kt q10 rfl
   have q14 : At (Ty.lst Ty.int xs) s5 a7 (.tmp 0) := D5.kt q11 rfl
   have q15 : At (Ty.lst Ty.int ys) s5 a7 (.tmp 1) := D5.kt q12 rfl
   have q16 : At (Ty.bool (decide (((k : Nat) : Int) < (((List.length xs) : Nat) : Int)))) s5 a7 (.tmp 14) := D5.done 3
   clear D5
   refine tn ?_
   refine cond_p (p := (((k : Nat) : Int) < (((List.length xs) : Nat) : Int))) q16 (fun c2 => ?_) (fun c2 => ?_)
   ·
    refine wp_skip ?_
    refine tn ?_
    refine wp_seq ?_
    refine wp_block ?_
    refine wp_seq ?_
    refine reg (a := a7) (σ := s5) rfl (fun i => List.getD [(Ty.pr (Ty.lst Ty.int xs)), (Ty.pr (Ty.nat k)), (Ty.pr (Ty.ref [(Ty.int (xs.getD k 0))])), (Ty.pr (Ty.int (xs.getD k 0))), (Ty.pr (Ty.lst Ty.int ys)), (Ty.pr (Ty.nat k)), (Ty.pr (Ty.ref [(Ty.int (ys.getD k 0))])), (Ty.pr (Ty.int (ys.getD k 0))), (Ty.pr (Ty.bool (decide ((xs.getD k 0) ≠ (ys.getD k 0)))))] i Pr.any) ok6 rfl ⟨?_, ?_, ?_, ?_, ?_, ?_, ?_, ?_, ?_, trivial⟩ ?_
    · intro a1 t1 hs ok1 sm
      exact run_plain rfl (y_move (kp (sm 0 rfl) hs q14))
    · intro a1 t1 hs ok1 sm
      exact run_plain rfl (y_move (kp (sm 5 rfl) hs q13))
    · intro a1 t1 hs ok1 sm d0 d1
      have e0 : At (Ty.lst Ty.int xs) t1 a1 (.tmp 17) := d0 rfl
      have e1 : At (Ty.nat k) t1 a1 (.tmp 18) := d1 rfl
      exact run_plain rfl (y_index1 Try.underlying25 Try.inf3 e0 e1 (by omega) (lst_get Ty.int xs 0 k (by omega)))
    · intro a1 t1 hs ok1 sm d0
      have e2 : At (Ty.ref [(Ty.int (xs.getD k 0))]) t1 a1 (.tmp 19) := d0 rfl
      exact run_plain rfl (y_load Try.underlying3 rfl e2 rfl)
    · intro a1 t1 hs ok1 sm
      exact run_plain rfl (y_move (kp (sm 1 rfl) hs q15))
    · intro a1 t1 hs ok1 sm
      exact run_plain rfl (y_move (kp (sm 5 rfl) hs q13))
    · intro a1 t1 hs ok1 sm d0 d1
      have e4 : At (Ty.lst Ty.int ys) t1 a1 (.tmp 21) := d0 rfl
      have e5 : At (Ty.nat k) t1 a1 (.tmp 22) := d1 rfl
      exact run_plain rfl (y_index1 Try.underlying25 Try.inf3 e4 e5 (by omega) (lst_get Ty.int ys 0 k (by omega)))
    · intro a1 t1 hs ok1 sm d0
      have e6 : At (Ty.ref [(Ty.int (ys.getD k 0))]) t1 a1 (.tmp 23) := d0 rfl
      exact run_plain rfl (y_load Try.underlying3 rfl e6 rfl)
    · intro a1 t1 hs ok1 sm d0 d1
      have e3 : At (Ty.int (xs.getD k 0)) t1 a1 (.tmp 20) := d0 rfl
      have e7 : At (Ty.int (ys.getD k 0)) t1 a1 (.tmp 24) := d1 rfl
      exact run_plain rfl (y_neq e3 e7)
    intro a8 s6 D6
    have ok7 := D6.ok
    have F7 := F6.step0 D6.stp
    have q17 : At (Ty.nat k) s6 a8 (.tmp 5) := D6.kt q13 rfl
    have q18 : At (Ty.lst Ty.int xs) s6 a8 (.tmp 0) := D6.kt q14 rfl
    have q19 : At (Ty.lst Ty.int ys) s6 a8 (.tmp 1) := D6.kt q15 rfl
    have q20 : At (Ty.bool (decide ((xs.getD k 0) ≠ (ys.getD k 0)))) s6 a8 (.tmp 25) := D6.done 8
    clear D6
    refine tn ?_
    refine cond_p (p := ((xs.getD k 0) ≠ (ys.getD k 0))) q20 (fun c3 => ?_) (fun c3 => ?_)
    ·
     refine wp_seq ?_
     refine reg (a := a8) (σ := s6) rfl (fun i => List.getD [(Ty.pr (Ty.bool false))] i Pr.any) ok7 rfl ⟨?_, trivial⟩ ?_
     · intro a1 t1 hs ok1 sm
       exact run_plain rfl (y_assign rfl)
     intro a9 s7 D7
     have ok8 := D7.ok
     have F8 := F7.step0 D7.stp
     have q21 : At (Ty.bool false) s7 a9 (.tmp 4) := D7.done 0
     clear D7
     refine tn ?_
     refine wp_ret ?_
     refine br ?_
     refine tr ?_
     refine tr ?_
     refine br ?_
     refine tr ?_
     exact ret1 rfl ok8 F8 (cvb (by (exact (decide_eq_false (fun e => by subst e; simp_all)).symm)) q21)
    ·
     refine wp_skip ?_
     refine bn ?_
     refine tn ?_
     refine reg (a := a8) (σ := s6) rfl (fun i => List.getD [(Ty.pr (Ty.nat k)), (Ty.pr (Ty.int (((k : Nat) : Int) + (1 : Int)))), (Ty.pr (Ty.int (((k : Nat) : Int) + (1 : Int))))] i Pr.any) ok7 rfl ⟨?_, ?_, ?_, trivial⟩ ?_
     · intro a1 t1 hs ok1 sm
       exact run_plain rfl (y_move (kp (sm 5 rfl) hs q17))
     · intro a1 t1 hs ok1 sm d0
       have e0 : At (Ty.nat k) t1 a1 (.tmp 15) := d0 rfl
       exact run_plain rfl (y_add e0 rfl (w64 (by omega) (by omega)))
     · intro a1 t1 hs ok1 sm d0 d1 d2
       have e1 : At (Ty.int (((k : Nat) : Int) + (1 : Int))) t1 a1 (.tmp 16) := d0 rfl
       have e0 : At (Ty.nat k) t1 a1 (.tmp 15) := d1 rfl
       exact run_plain rfl (y_assign e1)
     intro a10 s8 D8
     have ok9 := D8.ok
     have F9 := F7.step0 D8.stp
     have q22 : At (Ty.lst Ty.int xs) s8 a10 (.tmp 0) := D8.kt q18 rfl
     have q23 : At (Ty.lst Ty.int ys) s8 a10 (.tmp 1) := D8.kt q19 rfl
     have q24 : At (Ty.int (((k : Nat) : Int) + (1 : Int))) s8 a10 (.tmp 5) := D8.done 2
     clear D8
     exact tn ⟨xs.length - ((k+1)), by omega, s8, (k+1), rfl, F9, ok9, (cvi (by (first | rfl | omega | (simp_all; done) | (simp_all; omega))) q24), q22, q23, by omega, by omega, all_snoc heq (by assumption), rfl⟩
   ·
    refine wp_exit ?_
    refine tx ?_
    refine tx ?_
    refine bx ?_
    refine tn ?_
    refine wp_seq ?_
    refine reg (a := a7) (σ := s5) rfl (fun i => List.getD [(Ty.pr (Ty.bool true))] i Pr.any) ok6 rfl ⟨?_, trivial⟩ ?_
    · intro a1 t1 hs ok1 sm
      exact run_plain rfl (y_assign rfl)
    intro a11 s9 D9
    have ok10 := D9.ok
    have F10 := F6.step0 D9.stp
    have q25 : At (Ty.bool true) s9 a11 (.tmp 4) := D9.done 0
    clear D9
    refine tn ?_
    refine wp_ret ?_
    exact ret1 rfl ok10 F10 (cvb (by (exact (decide_eq_true (list_ext (by omega) (fun j hj => heq j (by omega)))).symm)) q25)

set_option maxRecDepth 100000 in
theorem bsame_fn (xs : List Int) (ys : List Int) (σ : GW) (v0 v1 : Value) (hv0 : Ty.has (Ty.lst Ty.int xs) σ v0) (hv1 : Ty.has (Ty.lst Ty.int ys) σ v1)  :
    FnC Try.prog 28 #[v0, v1] σ (Ty.bool (decide (xs = ys))) := by
 refine fn_intro Try.func28 rfl Try.ntmps28 (Nat.le_of_ble_eq_true rfl) (fun s0 a0 hle F0 ok0 hargs => ?_)
 have p0 : At (Ty.lst Ty.int xs) s0 a0 (.tmp 0) := by have e := hargs 0 _ rfl; show Ty.has _ _ _; rw [e]; exact Ty.up _ hle hv0
 have b1 := sl_le p0
 have p1 : At (Ty.lst Ty.int ys) s0 a0 (.tmp 1) := by have e := hargs 1 _ rfl; show Ty.has _ _ _; rw [e]; exact Ty.up _ hle hv1
 have b2 := sl_le p1
 clear hargs
 refine wp_seq ?_
 refine reg (a := a0) (σ := s0) rfl (fun i => List.getD [(Ty.pr (Ty.bool false))] i Pr.any) ok0 rfl ⟨?_, trivial⟩ ?_
 · intro a1 t1 hs ok1 sm
   exact run_plain rfl (y_assign rfl)
 intro a1 s1 D1
 have ok1 := D1.ok
 have F1 := F0.step0 D1.stp
 have q1 : At (Ty.lst Ty.int xs) s1 a1 (.tmp 0) := D1.kt p0 rfl
 have q2 : At (Ty.lst Ty.int ys) s1 a1 (.tmp 1) := D1.kt p1 rfl
 clear D1
 refine tn ?_
 refine wp_seq ?_
 refine wp_seq ?_
 refine reg (a := a1) (σ := s1) rfl (fun i => List.getD [(Ty.pr (Ty.lst Ty.int xs)), (Ty.pr (Ty.nat (List.length xs))), (Ty.pr (Ty.lst Ty.int ys)), (Ty.pr (Ty.nat (List.length ys))), (Ty.pr (Ty.bool (decide ((((List.length xs) : Nat) : Int) ≠ (((List.length ys) : Nat) : Int)))))] i Pr.any) ok1 rfl ⟨?_, ?_, ?_, ?_, ?_, trivial⟩ ?_
 · intro a1 t1 hs ok1 sm
   exact run_plain rfl (y_move (kp (sm 0 rfl) hs q1))
 · intro a1 t1 hs ok1 sm d0
   have e0 : At (Ty.lst Ty.int xs) t1 a1 (.tmp 6) := d0 rfl
   exact run_plain rfl (y_len Try.underlying25 e0)
 · intro a1 t1 hs ok1 sm
   exact run_plain rfl (y_move (kp (sm 1 rfl) hs q2))
 · intro a1 t1 hs ok1 sm d0
   have e2 : At (Ty.lst Ty.int ys) t1 a1 (.tmp 8) := d0 rfl
   exact run_plain rfl (y_len Try.underlying25 e2)
 · intro a1 t1 hs ok1 sm d0 d1
   have e1 : At (Ty.nat (List.length xs)) t1 a1 (.tmp 7) := d0 rfl
   have e3 : At (Ty.nat (List.length ys)) t1 a1 (.tmp 9) := d1 rfl
   exact run_plain rfl (y_neq e1 e3)
 intro a2 s2 D2
 have ok2 := D2.ok
 have F2 := F1.step0 D2.stp
 have q3 : At (Ty.lst Ty.int xs) s2 a2 (.tmp 0) := D2.kt q1 rfl
 have q4 : At (Ty.lst Ty.int ys) s2 a2 (.tmp 1) := D2.kt q2 rfl
 have q5 : At (Ty.bool (decide ((((List.length xs) : Nat) : Int) ≠ (((List.length ys) : Nat) : Int)))) s2 a2 (.tmp 10) := D2.done 4
 clear D2
 refine tn ?_
 refine cond_p (p := ((((List.length xs) : Nat) : Int) ≠ (((List.length ys) : Nat) : Int))) q5 (fun c1 => ?_) (fun c1 => ?_)
 ·
  refine wp_seq ?_
  refine reg (a := a2) (σ := s2) rfl (fun i => List.getD [(Ty.pr (Ty.bool false))] i Pr.any) ok2 rfl ⟨?_, trivial⟩ ?_
  · intro a1 t1 hs ok1 sm
    exact run_plain rfl (y_assign rfl)
  intro a3 s3 D3
  have ok3 := D3.ok
  have F3 := F2.step0 D3.stp
  have q6 : At (Ty.bool false) s3 a3 (.tmp 4) := D3.done 0
  clear D3
  refine tn ?_
  refine wp_ret ?_
  refine tr ?_
  exact ret1 rfl ok3 F3 (cvb (by (rw [decide_eq_false]; intro e; subst e; omega)) q6)
 ·
  refine wp_skip ?_
  refine tn ?_
  refine wp_seq ?_
  refine wp_seq ?_
  refine reg (a := a2) (σ := s2) rfl (fun i => List.getD [(Ty.pr (Ty.lst Ty.int xs)), (Ty.pr (Ty.nat (List.length xs))), (Ty.pr (Ty.int (0 : Int)))] i Pr.any) ok2 rfl ⟨?_, ?_, ?_, trivial⟩ ?_
  · intro a1 t1 hs ok1 sm
    exact run_plain rfl (y_move (kp (sm 0 rfl) hs q3))
  · intro a1 t1 hs ok1 sm d0
    have e0 : At (Ty.lst Ty.int xs) t1 a1 (.tmp 11) := d0 rfl
    exact run_plain rfl (y_len Try.underlying25 e0)
  · intro a1 t1 hs ok1 sm
    exact run_plain rfl (y_move rfl)
  intro a4 s4 D4
  have ok4 := D4.ok
  have F4 := F2.step0 D4.stp
  have q7 : At (Ty.lst Ty.int xs) s4 a4 (.tmp 0) := D4.kt q3 rfl
  have q8 : At (Ty.lst Ty.int ys) s4 a4 (.tmp 1) := D4.kt q4 rfl
  have q9 : At (Ty.nat (List.length xs)) s4 a4 (.tmp 12) := D4.done 1
  have q10 : At (Ty.int (0 : Int)) s4 a4 (.tmp 13) := D4.done 2
  clear D4
  refine tn ?_
  refine wp_block ?_
  refine loop (fun n1 a5 w1 => ∃ (t1 : GW) (k : Nat), t1.w = w1 ∧ From s0 t1 ∧ Ok 26 a5 ∧ At (Ty.nat k) t1 a5 (.tmp 13) ∧ At (Ty.lst Ty.int xs) t1 a5 (.tmp 0) ∧ At (Ty.lst Ty.int ys) t1 a5 (.tmp 1) ∧ At (Ty.nat (List.length xs)) t1 a5 (.tmp 12) ∧ (k ≤ xs.length) ∧ (xs.length = ys.length) ∧ (∀ j, j < k → xs.getD j 0 = ys.getD j 0) ∧ n1 = xs.length - k) (xs.length - (0)) ?_ ?_
  ·
   exact ⟨s4, 0, rfl, F4, ok4, (cvi (by (first | rfl | omega | (simp_all; done) | (simp_all; omega))) q10), q7, q8, q9, by omega, by omega, fun j hj => absurd hj (Nat.not_lt_zero j), rfl⟩
  ·
   rintro n2 a6 w2 ⟨t2, k, rfl, F5, ok5, q11, q12, q13, q14, hk, hl, heq, rfl⟩
   refine wp_seq ?_
   refine reg (a := a6) (σ := t2) rfl (fun i => List.getD [(Ty.pr (Ty.bool (decide (((k : Nat) : Int) < (((List.length xs) : Nat) : Int)))))] i Pr.any) ok5 rfl ⟨?_, trivial⟩ ?_
   · intro a1 t1 hs ok1 sm
     exact run_plain rfl (y_lss (kp (sm 13 rfl) hs q11) (kp (sm 12 rfl) hs q14))
   intro a7 s5 D5
   have ok6 := D5.ok
   have F6 := F5.step0 D5.stp
   have q15 : At (Ty.nat k) s5 a7 (.tmp 13) := D5.kt q11 rfl
   have q16 : At (Ty.lst Ty.int xs) s5 a7 (.tmp 0) := D5.kt q12 rfl
   have q17 : At (Ty.lst Ty.int ys) s5 a7 (.tmp 1) := D5.kt q13 rfl
   have q18 : At (Ty.nat (List.length xs)) s5 a7 (.tmp 12) := D5.kt q14 rfl
   have q19 : At (Ty.bool (decide (((k : Nat) : Int) < (((List.length xs) : Nat) : Int)))) s5 a7 (.tmp 14) := D5.done 0
   clear D5
   refine tn ?_
   refine wp_seq ?_
   refine cond_p (p := (((k : Nat) : Int) < (((List.length xs) : Nat) : Int))) q19 (fun c2 => ?_) (fun c2 => ?_)
   ·
    refine wp_skip ?_
    refine tn ?_
    refine wp_seq ?_
    refine wp_block ?_
    refine wp_seq ?_
    refine reg (a := a7) (σ := s5) rfl (fun i => List.getD [(Ty.pr (Ty.nat k)), (Ty.pr (Ty.nat k))] i Pr.any) ok6 rfl ⟨?_, ?_, trivial⟩ ?_
    · intro a1 t1 hs ok1 sm
      exact run_plain rfl (y_move (kp (sm 13 rfl) hs q15))
    · intro a1 t1 hs ok1 sm d0 d1
      have e0 : At (Ty.nat k) t1 a1 (.tmp 15) := d0 rfl
      exact run_plain rfl (y_assign e0)
    intro a8 s6 D6
    have ok7 := D6.ok
    have F7 := F6.step0 D6.stp
    have q20 : At (Ty.nat k) s6 a8 (.tmp 13) := D6.kt q15 rfl
    have q21 : At (Ty.lst Ty.int xs) s6 a8 (.tmp 0) := D6.kt q16 rfl
    have q22 : At (Ty.lst Ty.int ys) s6 a8 (.tmp 1) := D6.kt q17 rfl
    have q23 : At (Ty.nat (List.length xs)) s6 a8 (.tmp 12) := D6.kt q18 rfl
    have q24 : At (Ty.nat k) s6 a8 (.tmp 5) := D6.done 1
    clear D6
    refine tn ?_
    refine wp_seq ?_
    refine reg (a := a8) (σ := s6) rfl (fun i => List.getD [(Ty.pr (Ty.lst Ty.int xs)), (Ty.pr (Ty.nat k)), (Ty.pr (Ty.ref [(Ty.int (xs.getD k 0))])), (Ty.pr (Ty.int (xs.getD k 0))), (Ty.pr (Ty.lst Ty.int ys)), (Ty.pr (Ty.nat k)), (Ty.pr (Ty.ref [(Ty.int (ys.getD k 0))])), (Ty.pr (Ty.int (ys.getD k 0))), (Ty.pr (Ty.bool (decide ((xs.getD k 0) ≠ (ys.getD k 0)))))] i Pr.any) ok7 rfl ⟨?_, ?_, ?_, ?_, ?_, ?_, ?_, ?_, ?_, trivial⟩ ?_
    · intro a1 t1 hs ok1 sm
      exact run_plain rfl (y_move (kp (sm 0 rfl) hs q21))
    · intro a1 t1 hs ok1 sm
      exact run_plain rfl (y_move (kp (sm 5 rfl) hs q24))
    · intro a1 t1 hs ok1 sm d0 d1
      have e0 : At (Ty.lst Ty.int xs) t1 a1 (.tmp 16) := d0 rfl
      have e1 : At (Ty.nat k) t1 a1 (.tmp 17) := d1 rfl
      exact run_plain rfl (y_index1 Try.underlying25 Try.inf3 e0 e1 (by omega) (lst_get Ty.int xs 0 k (by omega)))
    · intro a1 t1 hs ok1 sm d0
      have e2 : At (Ty.ref [(Ty.int (xs.getD k 0))]) t1 a1 (.tmp 18) := d0 rfl
      exact run_plain rfl (y_load Try.underlying3 rfl e2 rfl)
    · intro a1 t1 hs ok1 sm
      exact run_plain rfl (y_move (kp (sm 1 rfl) hs q22))
    · intro a1 t1 hs ok1 sm
      exact run_plain rfl (y_move (kp (sm 5 rfl) hs q24))
    · intro a1 t1 hs ok1 sm d0 d1
      have e4 : At (Ty.lst Ty.int ys) t1 a1 (.tmp 20) := d0 rfl
      have e5 : At (Ty.nat k) t1 a1 (.tmp 21) := d1 rfl
      exact run_plain rfl (y_index1 Try.underlying25 Try.inf3 e4 e5 (by omega) (lst_get Ty.int ys 0 k (by omega)))
    · intro a1 t1 hs ok1 sm d0
      have e6 : At (Ty.ref [(Ty.int (ys.getD k 0))]) t1 a1 (.tmp 22) := d0 rfl
      exact run_plain rfl (y_load Try.underlying3 rfl e6 rfl)
    · intro a1 t1 hs ok1 sm d0 d1
      have e3 : At (Ty.int (xs.getD k 0)) t1 a1 (.tmp 19) := d0 rfl
      have e7 : At (Ty.int (ys.getD k 0)) t1 a1 (.tmp 23) := d1 rfl
      exact run_plain rfl (y_neq e3 e7)
    intro a9 s7 D7
    have ok8 := D7.ok
    have F8 := F7.step0 D7.stp
    have q25 : At (Ty.nat k) s7 a9 (.tmp 13) := D7.kt q20 rfl
    have q26 : At (Ty.lst Ty.int xs) s7 a9 (.tmp 0) := D7.kt q21 rfl
    have q27 : At (Ty.lst Ty.int ys) s7 a9 (.tmp 1) := D7.kt q22 rfl
    have q28 : At (Ty.nat (List.length xs)) s7 a9 (.tmp 12) := D7.kt q23 rfl
    have q29 : At (Ty.bool (decide ((xs.getD k 0) ≠ (ys.getD k 0)))) s7 a9 (.tmp 24) := D7.done 8
    clear D7
    refine tn ?_
    refine cond_p (p := ((xs.getD k 0) ≠ (ys.getD k 0))) q29 (fun c3 => ?_) (fun c3 => ?_)
    ·
     refine wp_seq ?_
     refine reg (a := a9) (σ := s7) rfl (fun i => List.getD [(Ty.pr (Ty.bool false))] i Pr.any) ok8 rfl ⟨?_, trivial⟩ ?_
     · intro a1 t1 hs ok1 sm
       exact run_plain rfl (y_assign rfl)
     intro a10 s8 D8
     have ok9 := D8.ok
     have F9 := F8.step0 D8.stp
     have q30 : At (Ty.bool false) s8 a10 (.tmp 4) := D8.done 0
     clear D8
     refine tn ?_
     refine wp_ret ?_
     refine br ?_
     refine tr ?_
     refine tr ?_
     refine br ?_
     refine tr ?_
     exact ret1 rfl ok9 F9 (cvb (by (exact (decide_eq_false (fun e => by subst e; simp_all)).symm)) q30)
    ·
     refine wp_skip ?_
     refine bn ?_
     refine tn ?_
     refine reg (a := a9) (σ := s7) rfl (fun i => List.getD [(Ty.pr (Ty.int (((k : Nat) : Int) + (1 : Int)))), (Ty.pr (Ty.int (((k : Nat) : Int) + (1 : Int))))] i Pr.any) ok8 rfl ⟨?_, ?_, trivial⟩ ?_
     · intro a1 t1 hs ok1 sm
       exact run_plain rfl (y_add (kp (sm 13 rfl) hs q25) rfl (w64 (by omega) (by omega)))
     · intro a1 t1 hs ok1 sm d0
       have e0 : At (Ty.int (((k : Nat) : Int) + (1 : Int))) t1 a1 (.tmp 25) := d0 rfl
       exact run_plain rfl (y_move e0)
     intro a11 s9 D9
     have ok10 := D9.ok
     have F10 := F8.step0 D9.stp
     have q31 : At (Ty.lst Ty.int xs) s9 a11 (.tmp 0) := D9.kt q26 rfl
     have q32 : At (Ty.lst Ty.int ys) s9 a11 (.tmp 1) := D9.kt q27 rfl
     have q33 : At (Ty.nat (List.length xs)) s9 a11 (.tmp 12) := D9.kt q28 rfl
     have q34 : At (Ty.int (((k : Nat) : Int) + (1 : Int))) s9 a11 (.tmp 13) := D9.done 1
     clear D9
     exact tn ⟨xs.length - ((k+1)), by omega, s9, (k+1), rfl, F10, ok10, (cvi (by (first | rfl | omega | (simp_all; done) | (simp_all; omega))) q34), q31, q32, q33, by omega, by omega, all_snoc heq (by assumption), rfl⟩
   ·
    refine wp_exit ?_
    refine tx ?_
    refine tx ?_
    refine bx ?_
    refine tn ?_
    refine wp_seq ?_
    refine reg (a := a7) (σ := s5) rfl (fun i => List.getD [(Ty.pr (Ty.bool true))] i Pr.any) ok6 rfl ⟨?_, trivial⟩ ?_
    · intro a1 t1 hs ok1 sm
      exact run_plain rfl (y_assign rfl)
    intro a12 s10 D10
    have ok11 := D10.ok
    have F11 := F6.step0 D10.stp
    have q35 : At (Ty.bool true) s10 a12 (.tmp 4) := D10.done 0
    clear D10
    refine tn ?_
    refine wp_ret ?_
    exact ret1 rfl ok11 F11 (cvb (by (exact (decide_eq_true (list_ext (by omega) (fun j hj => heq j (by omega)))).symm)) q35)

set_option maxRecDepth 100000 in
theorem bwrong_fn (a : List (List Int)) (b : List (List Int)) (σ : GW) (v0 v1 : Value) (hv0 : Ty.has (Ty.lst Ty.ints a) σ v0) (hv1 : Ty.has (Ty.lst Ty.ints b) σ v1) (ha : a.length ≤ 17592186044416) :
    FnC Try.prog 10 #[v0, v1] σ (Ty.lst Ty.int (wrongTo a b a.length)) := by
 refine fn_intro Try.func10 rfl Try.ntmps10 (Nat.le_of_ble_eq_true rfl) (fun s0 a0 hle F0 ok0 hargs => ?_)
 have p0 : At (Ty.lst Ty.ints a) s0 a0 (.tmp 0) := by have e := hargs 0 _ rfl; show Ty.has _ _ _; rw [e]; exact Ty.up _ hle hv0
 have b1 := sl_le p0
 have p1 : At (Ty.lst Ty.ints b) s0 a0 (.tmp 1) := by have e := hargs 1 _ rfl; show Ty.has _ _ _; rw [e]; exact Ty.up _ hle hv1
 have b2 := sl_le p1
 clear hargs
 refine wp_seq ?_
 refine reg (a := a0) (σ := s0) rfl (fun i => List.getD [(Ty.pr (Ty.val (Value.slice none 0 0)))] i Pr.any) ok0 rfl ⟨?_, trivial⟩ ?_
 · intro a1 t1 hs ok1 sm
   exact run_plain rfl (y_assign rfl)
 intro a1 s1 D1
 have ok1 := D1.ok
 have F1 := F0.step0 D1.stp
 have q1 : At (Ty.lst Ty.ints a) s1 a1 (.tmp 0) := D1.kt p0 rfl
 have q2 : At (Ty.lst Ty.ints b) s1 a1 (.tmp 1) := D1.kt p1 rfl
 clear D1
 refine tn ?_
 refine wp_seq ?_
 refine reg (a := a1) (σ := s1) rfl (fun i => List.getD [(Ty.pr (Ty.val (Value.slice none 0 0)))] i Pr.any) ok1 rfl ⟨?_, trivial⟩ ?_
 · intro a1 t1 hs ok1 sm
   exact run_plain rfl (y_assign rfl)
 intro a2 s2 D2
 have ok2 := D2.ok
 have F2 := F1.step0 D2.stp
 have q3 : At (Ty.lst Ty.ints a) s2 a2 (.tmp 0) := D2.kt q1 rfl
 have q4 : At (Ty.lst Ty.ints b) s2 a2 (.tmp 1) := D2.kt q2 rfl
 have q5 : At (Ty.val (Value.slice none 0 0)) s2 a2 (.tmp 5) := D2.done 0
 clear D2
 refine tn ?_
 refine wp_seq ?_
 refine wp_seq ?_
 refine reg (a := a2) (σ := s2) rfl (fun i => List.getD [(Ty.pr (Ty.lst Ty.ints a)), (Ty.pr (Ty.nat (List.length a))), (Ty.pr (Ty.int (0 : Int)))] i Pr.any) ok2 rfl ⟨?_, ?_, ?_, trivial⟩ ?_
 · intro a1 t1 hs ok1 sm
   exact run_plain rfl (y_move (kp (sm 0 rfl) hs q3))
 · intro a1 t1 hs ok1 sm d0
   have e0 : At (Ty.lst Ty.ints a) t1 a1 (.tmp 7) := d0 rfl
   exact run_plain rfl (y_len Try.underlying23 e0)
 · intro a1 t1 hs ok1 sm
   exact run_plain rfl (y_move rfl)
 intro a3 s3 D3
 have ok3 := D3.ok
 have F3 := F2.step0 D3.stp
 have q6 : At (Ty.lst Ty.ints a) s3 a3 (.tmp 0) := D3.kt q3 rfl
 have q7 : At (Ty.lst Ty.ints b) s3 a3 (.tmp 1) := D3.kt q4 rfl
 have q8 : At (Ty.val (Value.slice none 0 0)) s3 a3 (.tmp 5) := D3.kt q5 rfl
 have q9 : At (Ty.nat (List.length a)) s3 a3 (.tmp 8) := D3.done 1
 have q10 : At (Ty.int (0 : Int)) s3 a3 (.tmp 9) := D3.done 2
 clear D3
 refine tn ?_
 refine wp_block ?_
 refine loop (fun n1 a4 w1 => ∃ (t1 : GW) (k : Nat), t1.w = w1 ∧ From s0 t1 ∧ Ok 34 a4 ∧ (Pr.own 2 3 1 (List.length (wrongTo a b k)) (List.map Ty.int (wrongTo a b k))).has t1 (a4.eval (.tmp 5)) ∧ At (Ty.nat k) t1 a4 (.tmp 9) ∧ At (Ty.lst Ty.ints a) t1 a4 (.tmp 0) ∧ At (Ty.lst Ty.ints b) t1 a4 (.tmp 1) ∧ At (Ty.nat (List.length a)) t1 a4 (.tmp 8) ∧ (k ≤ a.length) ∧ n1 = a.length - k) (a.length - (0)) ?_ ?_
 ·
  exact ⟨s3, 0, rfl, F3, ok3, (by have e : a3.eval (.tmp 5) = _ := q8; rw [e]; exact Own.nil _ _ _ _), (cvi (by (first | rfl | omega | (simp_all; done) | (simp_all; omega))) q10), q6, q7, q9, by omega, rfl⟩
 ·
  rintro n2 a5 w2 ⟨t2, k, rfl, F4, ok4, q11, q12, q13, q14, q15, hk, rfl⟩
  have hw := wrongTo_le a b k
  refine wp_seq ?_
  refine reg (a := a5) (σ := t2) rfl (fun i => List.getD [(Ty.pr (Ty.bool (decide (((k : Nat) : Int) < (((List.length a) : Nat) : Int)))))] i Pr.any) ok4 rfl ⟨?_, trivial⟩ ?_
  · intro a1 t1 hs ok1 sm
    exact run_plain rfl (y_lss (kp (sm 9 rfl) hs q12) (kp (sm 8 rfl) hs q15))
  intro a6 s4 D4
  have ok5 := D4.ok
  have F5 := F4.step0 D4.stp
  have q16 : (Pr.own 2 3 1 (List.length (wrongTo a b k)) (List.map Ty.int (wrongTo a b k))).has s4 (a6.eval (.tmp 5)) := D4.ko q11 rfl
  have q17 : At (Ty.nat k) s4 a6 (.tmp 9) := D4.kt q12 rfl
  have q18 : At (Ty.lst Ty.ints a) s4 a6 (.tmp 0) := D4.kt q13 rfl
  have q19 : At (Ty.lst Ty.ints b) s4 a6 (.tmp 1) := D4.kt q14 rfl
  have q20 : At (Ty.nat (List.length a)) s4 a6 (.tmp 8) := D4.kt q15 rfl
  have q21 : At (Ty.bool (decide (((k : Nat) : Int) < (((List.length a) : Nat) : Int)))) s4 a6 (.tmp 10) := D4.done 0
  clear D4
  refine tn ?_
  refine wp_seq ?_
  refine cond_p (p := (((k : Nat) : Int) < (((List.length a) : Nat) : Int))) q21 (fun c1 => ?_) (fun c1 => ?_)
  ·
   refine wp_skip ?_
   refine tn ?_
   refine wp_seq ?_
   refine wp_block ?_
   refine wp_seq ?_
   refine reg (a := a6) (σ := s4) rfl (fun i => List.getD [(Ty.pr (Ty.nat k)), (Ty.pr (Ty.nat k))] i Pr.any) ok5 rfl ⟨?_, ?_, trivial⟩ ?_
   · intro a1 t1 hs ok1 sm
     exact run_plain rfl (y_move (kp (sm 9 rfl) hs q17))
   · intro a1 t1 hs ok1 sm d0 d1
     have e0 : At (Ty.nat k) t1 a1 (.tmp 11) := d0 rfl
     exact run_plain rfl (y_assign e0)
   intro a7 s5 D5
   have ok6 := D5.ok
   have F6 := F5.step0 D5.stp
   have q22 : (Pr.own 2 3 1 (List.length (wrongTo a b k)) (List.map Ty.int (wrongTo a b k))).has s5 (a7.eval (.tmp 5)) := D5.ko q16 rfl
   have q23 : At (Ty.nat k) s5 a7 (.tmp 9) := D5.kt q17 rfl
   have q24 : At (Ty.lst Ty.ints a) s5 a7 (.tmp 0) := D5.kt q18 rfl
   have q25 : At (Ty.lst Ty.ints b) s5 a7 (.tmp 1) := D5.kt q19 rfl
   have q26 : At (Ty.nat (List.length a)) s5 a7 (.tmp 8) := D5.kt q20 rfl
   have q27 : At (Ty.nat k) s5 a7 (.tmp 6) := D5.done 1
   clear D5
   refine tn ?_
   refine wp_seq ?_
   refine reg (a := a7) (σ := s5) rfl (fun i => List.getD [(Ty.pr (Ty.nat k)), (Ty.pr (Ty.lst Ty.ints b)), (Ty.pr (Ty.nat (List.length b))), (Ty.pr (Ty.bool (decide ((((List.length b) : Nat) : Int) ≤ ((k : Nat) : Int))))), (Ty.pr (Ty.bool (decide ((((List.length b) : Nat) : Int) ≤ ((k : Nat) : Int))))), (Ty.pr (Ty.grd ((decide ((((List.length b) : Nat) : Int) ≤ ((k : Nat) : Int))) = false) (Ty.lst Ty.ints a))), (Ty.pr (Ty.grd ((decide ((((List.length b) : Nat) : Int) ≤ ((k : Nat) : Int))) = false) (Ty.nat k))), (Ty.pr (Ty.grd ((decide ((((List.length b) : Nat) : Int) ≤ ((k : Nat) : Int))) = false) (Ty.ref [(Ty.lst Ty.int (a.getD k []))]))), (Ty.pr (Ty.grd ((decide ((((List.length b) : Nat) : Int) ≤ ((k : Nat) : Int))) = false) (Ty.lst Ty.int (a.getD k [])))), (Ty.pr (Ty.grd ((decide ((((List.length b) : Nat) : Int) ≤ ((k : Nat) : Int))) = false) (Ty.lst Ty.ints b))), (Ty.pr (Ty.grd ((decide ((((List.length b) : Nat) : Int) ≤ ((k : Nat) : Int))) = false) (Ty.nat k))), (Ty.pr (Ty.grd ((decide ((((List.length b) : Nat) : Int) ≤ ((k : Nat) : Int))) = false) (Ty.ref [(Ty.lst Ty.int (b.getD k []))]))), (Ty.pr (Ty.grd ((decide ((((List.length b) : Nat) : Int) ≤ ((k : Nat) : Int))) = false) (Ty.lst Ty.int (b.getD k [])))), (Ty.pr (Ty.grd ((decide ((((List.length b) : Nat) : Int) ≤ ((k : Nat) : Int))) = false) (Ty.bool (decide (((a.getD k [])) = ((b.getD k []))))))), (Ty.pr (Ty.grd ((decide ((((List.length b) : Nat) : Int) ≤ ((k : Nat) : Int))) = false) (Ty.bool (!(decide (((a.getD k [])) = ((b.getD k [])))))))), (Ty.pr (Ty.bool ((decide ((((List.length b) : Nat) : Int) ≤ ((k : Nat) : Int))) || (!(decide (((a.getD k [])) = ((b.getD k []))))))))] i Pr.any) ok6 rfl ⟨?_, ?_, ?_, ?_, ?_, ?_, ?_, ?_, ?_, ?_, ?_, ?_, ?_, ?_, ?_, ?_, trivial⟩ ?_
   · intro a1 t1 hs ok1 sm
     exact run_plain rfl (y_move (kp (sm 6 rfl) hs q27))
   · intro a1 t1 hs ok1 sm
     exact run_plain rfl (y_move (kp (sm 1 rfl) hs q25))
   · intro a1 t1 hs ok1 sm d0
     have e1 : At (Ty.lst Ty.ints b) t1 a1 (.tmp 13) := d0 rfl
     exact run_plain rfl (y_len Try.underlying23 e1)
   · intro a1 t1 hs ok1 sm d0 d1
     have e0 : At (Ty.nat k) t1 a1 (.tmp 12) := d0 rfl
     have e2 : At (Ty.nat (List.length b)) t1 a1 (.tmp 14) := d1 rfl
     exact run_plain rfl (y_geq e0 e2)
   · intro a1 t1 hs ok1 sm d0
     have e3 : At (Ty.bool (decide ((((List.length b) : Nat) : Int) ≤ ((k : Nat) : Int)))) t1 a1 (.tmp 15) := d0 rfl
     exact run_plain rfl (y_move e3)
   · intro a1 t1 hs ok1 sm d0
     have e4 : At (Ty.bool (decide ((((List.length b) : Nat) : Int) ≤ ((k : Nat) : Int)))) t1 a1 (.tmp 16) := d0 rfl
     refine run_guard (T := (Ty.lst Ty.ints a)) ok1 rfl rfl (by decide) e4 (fun hg => ?_)
     have hp := of_decide_eq_false hg
     exact y_move (kp (sm 0 rfl) hs q24)
   · intro a1 t1 hs ok1 sm d0
     have e4 : At (Ty.bool (decide ((((List.length b) : Nat) : Int) ≤ ((k : Nat) : Int)))) t1 a1 (.tmp 16) := d0 rfl
     refine run_guard (T := (Ty.nat k)) ok1 rfl rfl (by decide) e4 (fun hg => ?_)
     have hp := of_decide_eq_false hg
     exact y_move (kp (sm 6 rfl) hs q27)
   · intro a1 t1 hs ok1 sm d0 d1 d2
     have e5 : At (Ty.grd ((decide ((((List.length b) : Nat) : Int) ≤ ((k : Nat) : Int))) = false) (Ty.lst Ty.ints a)) t1 a1 (.tmp 17) := d0 rfl
     have e6 : At (Ty.grd ((decide ((((List.length b) : Nat) : Int) ≤ ((k : Nat) : Int))) = false) (Ty.nat k)) t1 a1 (.tmp 18) := d1 rfl
     have e4 : At (Ty.bool (decide ((((List.length b) : Nat) : Int) ≤ ((k : Nat) : Int)))) t1 a1 (.tmp 16) := d2 rfl
     refine run_guard (T := (Ty.ref [(Ty.lst Ty.int (a.getD k []))])) ok1 rfl rfl (by decide) e4 (fun hg => ?_)
     have hp := of_decide_eq_false hg
     exact y_index1 Try.underlying23 Try.inf25 (e5.1 hg) (e6.1 hg) (by omega) (lst_get Ty.ints a [] k (by omega))
   · intro a1 t1 hs ok1 sm d0 d1
     have e7 : At (Ty.grd ((decide ((((List.length b) : Nat) : Int) ≤ ((k : Nat) : Int))) = false) (Ty.ref [(Ty.lst Ty.int (a.getD k []))])) t1 a1 (.tmp 19) := d0 rfl
     have e4 : At (Ty.bool (decide ((((List.length b) : Nat) : Int) ≤ ((k : Nat) : Int)))) t1 a1 (.tmp 16) := d1 rfl
     refine run_guard (T := (Ty.lst Ty.int (a.getD k []))) ok1 rfl rfl (by decide) e4 (fun hg => ?_)
     have hp := of_decide_eq_false hg
     exact y_load Try.underlying25 rfl (e7.1 hg) rfl
   · intro a1 t1 hs ok1 sm d0
     have e4 : At (Ty.bool (decide ((((List.length b) : Nat) : Int) ≤ ((k : Nat) : Int)))) t1 a1 (.tmp 16) := d0 rfl
     refine run_guard (T := (Ty.lst Ty.ints b)) ok1 rfl rfl (by decide) e4 (fun hg => ?_)
     have hp := of_decide_eq_false hg
     exact y_move (kp (sm 1 rfl) hs q25)
   · intro a1 t1 hs ok1 sm d0
     have e4 : At (Ty.bool (decide ((((List.length b) : Nat) : Int) ≤ ((k : Nat) : Int)))) t1 a1 (.tmp 16) := d0 rfl
     refine run_guard (T := (Ty.nat k)) ok1 rfl rfl (by decide) e4 (fun hg => ?_)
     have hp := of_decide_eq_false hg
     exact y_move (kp (sm 6 rfl) hs q27)
   · intro a1 t1 hs ok1 sm d0 d1 d2
     have e9 : At (Ty.grd ((decide ((((List.length b) : Nat) : Int) ≤ ((k : Nat) : Int))) = false) (Ty.lst Ty.ints b)) t1 a1 (.tmp 21) := d0 rfl
     have e10 : At (Ty.grd ((decide ((((List.length b) : Nat) : Int) ≤ ((k : Nat) : Int))) = false) (Ty.nat k)) t1 a1 (.tmp 22) := d1 rfl
     have e4 : At (Ty.bool (decide ((((List.length b) : Nat) : Int) ≤ ((k : Nat) : Int)))) t1 a1 (.tmp 16) := d2 rfl
     refine run_guard (T := (Ty.ref [(Ty.lst Ty.int (b.getD k []))])) ok1 rfl rfl (by decide) e4 (fun hg => ?_)
     have hp := of_decide_eq_false hg
     exact y_index1 Try.underlying23 Try.inf25 (e9.1 hg) (e10.1 hg) (by omega) (lst_get Ty.ints b [] k (by omega))
   · intro a1 t1 hs ok1 sm d0 d1
     have e11 : At (Ty.grd ((decide ((((List.length b) : Nat) : Int) ≤ ((k : Nat) : Int))) = false) (Ty.ref [(Ty.lst Ty.int (b.getD k []))])) t1 a1 (.tmp 23) := d0 rfl
     have e4 : At (Ty.bool (decide ((((List.length b) : Nat) : Int) ≤ ((k : Nat) : Int)))) t1 a1 (.tmp 16) := d1 rfl
     refine run_guard (T := (Ty.lst Ty.int (b.getD k []))) ok1 rfl rfl (by decide) e4 (fun hg => ?_)
     have hp := of_decide_eq_false hg
     exact y_load Try.underlying25 rfl (e11.1 hg) rfl
   · intro a1 t1 hs ok1 sm d0 d1 d2 d3
     have e8 : At (Ty.grd ((decide ((((List.length b) : Nat) : Int) ≤ ((k : Nat) : Int))) = false) (Ty.lst Ty.int (a.getD k []))) t1 a1 (.tmp 20) := d0 rfl
     have e12 : At (Ty.grd ((decide ((((List.length b) : Nat) : Int) ≤ ((k : Nat) : Int))) = false) (Ty.lst Ty.int (b.getD k []))) t1 a1 (.tmp 24) := d1 rfl
     have e4 : At (Ty.bool (decide ((((List.length b) : Nat) : Int) ≤ ((k : Nat) : Int)))) t1 a1 (.tmp 16) := d2 rfl
     refine run_guard (T := (Ty.bool (decide (((a.getD k [])) = ((b.getD k [])))))) ok1 rfl rfl (by decide) e4 (fun hg => ?_)
     have hp := of_decide_eq_false hg
     exact y_call #[a1.eval (.tmp 20), a1.eval (.tmp 24)] Try.func28 rfl rfl (by simp only [List.map_toArray, List.map_cons, List.map_nil]) (bsame_fn ((a.getD k [])) ((b.getD k [])) _ _ _ (e8.1 hg) (e12.1 hg) )
   · intro a1 t1 hs ok1 sm d0 d1
     have e13 : At (Ty.grd ((decide ((((List.length b) : Nat) : Int) ≤ ((k : Nat) : Int))) = false) (Ty.bool (decide (((a.getD k [])) = ((b.getD k [])))))) t1 a1 (.tmp 25) := d0 rfl
     have e4 : At (Ty.bool (decide ((((List.length b) : Nat) : Int) ≤ ((k : Nat) : Int)))) t1 a1 (.tmp 16) := d1 rfl
     refine run_guard (T := (Ty.bool (!(decide (((a.getD k [])) = ((b.getD k []))))))) ok1 rfl rfl (by decide) e4 (fun hg => ?_)
     have hp := of_decide_eq_false hg
     exact y_not (e13.1 hg)
   · intro a1 t1 hs ok1 sm d0 d1
     have e4 : At (Ty.bool (decide ((((List.length b) : Nat) : Int) ≤ ((k : Nat) : Int)))) t1 a1 (.tmp 16) := d0 rfl
     have e14 : At (Ty.grd ((decide ((((List.length b) : Nat) : Int) ≤ ((k : Nat) : Int))) = false) (Ty.bool (!(decide (((a.getD k [])) = ((b.getD k []))))))) t1 a1 (.tmp 26) := d1 rfl
     exact run_plain rfl (y_pick_or e4 rfl e14)
   intro a8 s6 D6
   have ok7 := D6.ok
   have F7 := F6.step0 D6.stp
   have q28 : (Pr.own 2 3 1 (List.length (wrongTo a b k)) (List.map Ty.int (wrongTo a b k))).has s6 (a8.eval (.tmp 5)) := D6.ko q22 rfl
   have q29 : At (Ty.nat k) s6 a8 (.tmp 9) := D6.kt q23 rfl
   have q30 : At (Ty.lst Ty.ints a) s6 a8 (.tmp 0) := D6.kt q24 rfl
   have q31 : At (Ty.lst Ty.ints b) s6 a8 (.tmp 1) := D6.kt q25 rfl
   have q32 : At (Ty.nat (List.length a)) s6 a8 (.tmp 8) := D6.kt q26 rfl
   have q33 : At (Ty.nat k) s6 a8 (.tmp 6) := D6.kt q27 rfl
   have q34 : At (Ty.bool ((decide ((((List.length b) : Nat) : Int) ≤ ((k : Nat) : Int))) || (!(decide (((a.getD k [])) = ((b.getD k []))))))) s6 a8 (.tmp 27) := D6.done 15
   clear D6
   refine tn ?_
   refine cond_t q34 (fun c2 => ?_) (fun c2 => ?_)
   ·
    refine reg2 (a := a8) (σ := s6) rfl 3 (fun i => List.getD [(Pr.own 2 3 1 (List.length (wrongTo a b k)) (List.map Ty.int (wrongTo a b k))), (Ty.pr (Ty.nat k)), (Ty.pr (Ty.sl 1 1 [(Ty.nat k)]))] i Pr.any) ok7 rfl (by decide) rfl ⟨?_, ?_, ?_, trivial⟩ ?_
    · intro a1 t1 hs ok1 sm
      exact run_plain rfl (y_move (kpo (sm 5 rfl) hs q28))
    · intro a1 t1 hs ok1 sm
      exact run_plain rfl (y_move (kp (sm 6 rfl) hs q33))
    · intro a1 t1 hs ok1 sm d0
      have e1 : At (Ty.nat k) t1 a1 (.tmp 29) := d0 rfl
      exact run_plain rfl (y_build1o Try.underlying25 Try.inf3 rfl (one_val rfl) e1)
    intro a9 s7 D7
    have ok8 := D7.ok
    have F8 := F7.step0 D7.stp
    have q35 : (Pr.own 2 3 1 (List.length (wrongTo a b k)) (List.map Ty.int (wrongTo a b k))).has s7 (a9.eval (.tmp 5)) := D7.ko q28 rfl
    have q36 : At (Ty.nat k) s7 a9 (.tmp 9) := D7.kt q29 rfl
    have q37 : At (Ty.lst Ty.ints a) s7 a9 (.tmp 0) := D7.kt q30 rfl
    have q38 : At (Ty.lst Ty.ints b) s7 a9 (.tmp 1) := D7.kt q31 rfl
    have q39 : At (Ty.nat (List.length a)) s7 a9 (.tmp 8) := D7.kt q32 rfl
    have q40 : (Pr.own 2 3 1 (List.length (wrongTo a b k)) (List.map Ty.int (wrongTo a b k))).has s7 (a9.eval (.tmp 28)) := D7.done 0 (by decide)
    have q41 : At (Ty.sl 1 1 [(Ty.nat k)]) s7 a9 (.tmp 30) := D7.done 2 (by decide)
    clear D7
    refine tail_step (m := 2) (R := (fun v τ => Own τ 2 3 1 v ((List.length (wrongTo a b k)) + 1) ((List.map Ty.int (wrongTo a b k)) ++ [(Ty.nat k)]))) rfl rfl (by decide) ok8 (m_append Try.underlying25 Try.inf3 (by decide) rfl (by decide) q40 q41 (by intro U hU; simp at hU;  subst hU; exact one_val rfl) (by omega) (by omega)) (fun a10 s8 hs1 ok9 r1 sm1 => ?_)
    have F9 := F8.step hs1 (by decide)
    have q42 : At (Ty.nat k) s8 a10 (.tmp 9) := kpm hs1 (by decide) (sm1 9 (by decide)) q36
    have q43 : At (Ty.lst Ty.ints a) s8 a10 (.tmp 0) := kpm hs1 (by decide) (sm1 0 (by decide)) q37
    have q44 : At (Ty.lst Ty.ints b) s8 a10 (.tmp 1) := kpm hs1 (by decide) (sm1 1 (by decide)) q38
    have q45 : At (Ty.nat (List.length a)) s8 a10 (.tmp 8) := kpm hs1 (by decide) (sm1 8 (by decide)) q39
    have q46 : At (Ty.sl 1 1 [(Ty.nat k)]) s8 a10 (.tmp 30) := kpm hs1 (by decide) (sm1 30 (by decide)) q41
    have q47 : (Pr.own 2 3 1 (List.length ((wrongTo a b k) ++ [((k : Nat) : Int)])) (List.map Ty.int ((wrongTo a b k) ++ [((k : Nat) : Int)]))).has s8 (a10.eval (.tmp 31)) := (cvo (by simp) (by simp) r1)
    refine tail_step (m := 0) (R := (fun v τ => Pr.has (Pr.own 2 3 1 (List.length ((wrongTo a b k) ++ [((k : Nat) : Int)])) (List.map Ty.int ((wrongTo a b k) ++ [((k : Nat) : Int)]))) τ v)) rfl rfl (by decide) ok9 (Yld.toM (y_assign q47)) (fun a11 s9 hs2 ok10 r2 sm2 => ?_)
    have F10 := F9.step hs2 (by decide)
    have q48 : At (Ty.nat k) s9 a11 (.tmp 9) := kpm hs2 (by decide) (sm2 9 (by decide)) q42
    have q49 : At (Ty.lst Ty.ints a) s9 a11 (.tmp 0) := kpm hs2 (by decide) (sm2 0 (by decide)) q43
    have q50 : At (Ty.lst Ty.ints b) s9 a11 (.tmp 1) := kpm hs2 (by decide) (sm2 1 (by decide)) q44
    have q51 : At (Ty.nat (List.length a)) s9 a11 (.tmp 8) := kpm hs2 (by decide) (sm2 8 (by decide)) q45
    have q52 : At (Ty.sl 1 1 [(Ty.nat k)]) s9 a11 (.tmp 30) := kpm hs2 (by decide) (sm2 30 (by decide)) q46
    have q53 : (Pr.own 2 3 1 (List.length ((wrongTo a b k) ++ [((k : Nat) : Int)])) (List.map Ty.int ((wrongTo a b k) ++ [((k : Nat) : Int)]))).has s9 (a11.eval (.tmp 31)) := kpmo hs2 (by decide) (.inl rfl) (sm2 31 (by decide)) q47
    have q54 : (Pr.own 2 3 1 (List.length ((wrongTo a b k) ++ [((k : Nat) : Int)])) (List.map Ty.int ((wrongTo a b k) ++ [((k : Nat) : Int)]))).has s9 (a11.eval (.tmp 5)) := r2
    refine wpList_nil ?_
    refine bn ?_
    refine tn ?_
    refine reg (a := a11) (σ := s9) rfl (fun i => List.getD [(Ty.pr (Ty.int (((k : Nat) : Int) + (1 : Int)))), (Ty.pr (Ty.int (((k : Nat) : Int) + (1 : Int))))] i Pr.any) ok10 rfl ⟨?_, ?_, trivial⟩ ?_
    · intro a1 t1 hs ok1 sm
      exact run_plain rfl (y_add (kp (sm 9 rfl) hs q48) rfl (w64 (by omega) (by omega)))
    · intro a1 t1 hs ok1 sm d0
      have e0 : At (Ty.int (((k : Nat) : Int) + (1 : Int))) t1 a1 (.tmp 32) := d0 rfl
      exact run_plain rfl (y_move e0)
    intro a12 s10 D8
    have ok11 := D8.ok
    have F11 := F10.step0 D8.stp
    have q55 : At (Ty.lst Ty.ints a) s10 a12 (.tmp 0) := D8.kt q49 rfl
    have q56 : At (Ty.lst Ty.ints b) s10 a12 (.tmp 1) := D8.kt q50 rfl
    have q57 : At (Ty.nat (List.length a)) s10 a12 (.tmp 8) := D8.kt q51 rfl
    have q58 : (Pr.own 2 3 1 (List.length ((wrongTo a b k) ++ [((k : Nat) : Int)])) (List.map Ty.int ((wrongTo a b k) ++ [((k : Nat) : Int)]))).has s10 (a12.eval (.tmp 5)) := D8.ko q54 rfl
    have q59 : At (Ty.int (((k : Nat) : Int) + (1 : Int))) s10 a12 (.tmp 9) := D8.done 1
    clear D8
    exact tn ⟨a.length - ((k+1)), by omega, s10, (k+1), rfl, F11, ok11, (cvo (by (rw [wrongTo_yes a b k (by assumption)])) (by (rw [wrongTo_yes a b k (by assumption)])) q58), (cvi (by (first | rfl | omega | (simp_all; done) | (simp_all; omega))) q59), q55, q56, q57, by omega, rfl⟩
   ·
    obtain ⟨d1, d2⟩ := Bool.or_eq_false_iff.mp c2
    replace d1 := of_decide_eq_false d1
    refine wp_skip ?_
    refine bn ?_
    refine tn ?_
    refine reg (a := a8) (σ := s6) rfl (fun i => List.getD [(Ty.pr (Ty.int (((k : Nat) : Int) + (1 : Int)))), (Ty.pr (Ty.int (((k : Nat) : Int) + (1 : Int))))] i Pr.any) ok7 rfl ⟨?_, ?_, trivial⟩ ?_
    · intro a1 t1 hs ok1 sm
      exact run_plain rfl (y_add (kp (sm 9 rfl) hs q29) rfl (w64 (by omega) (by omega)))
    · intro a1 t1 hs ok1 sm d0
      have e0 : At (Ty.int (((k : Nat) : Int) + (1 : Int))) t1 a1 (.tmp 32) := d0 rfl
      exact run_plain rfl (y_move e0)
    intro a13 s11 D9
    have ok12 := D9.ok
    have F12 := F7.step0 D9.stp
    have q60 : (Pr.own 2 3 1 (List.length (wrongTo a b k)) (List.map Ty.int (wrongTo a b k))).has s11 (a13.eval (.tmp 5)) := D9.ko q28 rfl
    have q61 : At (Ty.lst Ty.ints a) s11 a13 (.tmp 0) := D9.kt q30 rfl
    have q62 : At (Ty.lst Ty.ints b) s11 a13 (.tmp 1) := D9.kt q31 rfl
    have q63 : At (Ty.nat (List.length a)) s11 a13 (.tmp 8) := D9.kt q32 rfl
    have q64 : At (Ty.int (((k : Nat) : Int) + (1 : Int))) s11 a13 (.tmp 9) := D9.done 1
    clear D9
    exact tn ⟨a.length - ((k+1)), by omega, s11, (k+1), rfl, F12, ok12, (cvo (by (rw [wrongTo_no a b k (by assumption)])) (by (rw [wrongTo_no a b k (by assumption)])) q60), (cvi (by (first | rfl | omega | (simp_all; done) | (simp_all; omega))) q64), q61, q62, q63, by omega, rfl⟩
  ·
   refine wp_exit ?_
   refine tx ?_
   refine tx ?_
   refine bx ?_
   refine tn ?_
   refine wp_seq ?_
   refine reg (a := a6) (σ := s4) rfl (fun i => List.getD [(Pr.own 2 3 1 (List.length (wrongTo a b k)) (List.map Ty.int (wrongTo a b k))), (Pr.own 2 3 1 (List.length (wrongTo a b k)) (List.map Ty.int (wrongTo a b k)))] i Pr.any) ok5 rfl ⟨?_, ?_, trivial⟩ ?_
   · intro a1 t1 hs ok1 sm
     exact run_plain rfl (y_move (kpo (sm 5 rfl) hs q16))
   · intro a1 t1 hs ok1 sm d0 d1
     have e0 : (Pr.own 2 3 1 (List.length (wrongTo a b k)) (List.map Ty.int (wrongTo a b k))).has t1 (a1.eval (.tmp 33)) := d0 rfl
     exact run_plain rfl (y_assign e0)
   intro a14 s12 D10
   have ok13 := D10.ok
   have F13 := F5.step0 D10.stp
   have q65 : (Pr.own 2 3 1 (List.length (wrongTo a b k)) (List.map Ty.int (wrongTo a b k))).has s12 (a14.eval (.tmp 4)) := D10.done 1
   clear D10
   refine tn ?_
   refine wp_ret ?_
   obtain ⟨t3, e1, h1, q66⟩ := Own.seal q65 (by decide)
   rw [← e1]
   have F14 := F13.step h1 (by decide)
   exact ret1 rfl ok13 F14 (cvt (by (obtain rfl : k = a.length := (by omega); rfl)) q66)

set_option maxRecDepth 100000 in
theorem rwrong_fn (a : List (List Int)) (b : List (List Int)) (σ : GW) (v0 v1 : Value) (hv0 : Ty.has (Ty.lst Ty.ints a) σ v0) (hv1 : Ty.has (Ty.lst Ty.ints b) σ v1) (ha : a.length ≤ 17592186044416) :
    FnC Try.prog 11 #[v0, v1] σ (Ty.lst Ty.int (wrongTo a b a.length)) := by
 refine fn_intro Try.func11 rfl Try.ntmps11 (Nat.le_of_ble_eq_true rfl) (fun s0 a0 hle F0 ok0 hargs => ?_)
 have p0 : At (Ty.lst Ty.ints a) s0 a0 (.tmp 0) := by have e := hargs 0 _ rfl; show Ty.has _ _ _; rw [e]; exact Ty.up _ hle hv0
 have b1 := sl_le p0
 have p1 : At (Ty.lst Ty.ints b) s0 a0 (.tmp 1) := by have e := hargs 1 _ rfl; show Ty.has _ _ _; rw [e]; exact Ty.up _ hle hv1
 have b2 := sl_le p1
 clear hargs
 refine wp_seq ?_
 refine reg (a := a0) (σ := s0) rfl (fun i => List.getD [(Ty.pr (Ty.val (Value.slice none 0 0)))] i Pr.any) ok0 rfl ⟨?_, trivial⟩ ?_
 · intro a1 t1 hs ok1 sm
   exact run_plain rfl (y_assign rfl)
 intro a1 s1 D1
 have ok1 := D1.ok
 have F1 := F0.step0 D1.stp
 have q1 : At (Ty.lst Ty.ints a) s1 a1 (.tmp 0) := D1.kt p0 rfl
 have q2 : At (Ty.lst Ty.ints b) s1 a1 (.tmp 1) := D1.kt p1 rfl
 clear D1
 refine tn ?_
 refine wp_seq ?_
 refine reg (a := a1) (σ := s1) rfl (fun i => List.getD [(Ty.pr (Ty.val (Value.slice none 0 0)))] i Pr.any) ok1 rfl ⟨?_, trivial⟩ ?_
 · intro a1 t1 hs ok1 sm
   exact run_plain rfl (y_assign rfl)
 intro a2 s2 D2
 have ok2 := D2.ok
 have F2 := F1.step0 D2.stp
 have q3 : At (Ty.lst Ty.ints a) s2 a2 (.tmp 0) := D2.kt q1 rfl
 have q4 : At (Ty.lst Ty.ints b) s2 a2 (.tmp 1) := D2.kt q2 rfl
 have q5 : At (Ty.val (Value.slice none 0 0)) s2 a2 (.tmp 5) := D2.done 0
 clear D2
 refine tn ?_
 refine wp_seq ?_
 refine wp_seq ?_
 refine reg (a := a2) (σ := s2) rfl (fun i => List.getD [(Ty.pr (Ty.int (0 : Int)))] i Pr.any) ok2 rfl ⟨?_, trivial⟩ ?_
 · intro a1 t1 hs ok1 sm
   exact run_plain rfl (y_assign rfl)
 intro a3 s3 D3
 have ok3 := D3.ok
 have F3 := F2.step0 D3.stp
 have q6 : At (Ty.lst Ty.ints a) s3 a3 (.tmp 0) := D3.kt q3 rfl
 have q7 : At (Ty.lst Ty.ints b) s3 a3 (.tmp 1) := D3.kt q4 rfl
 have q8 : At (Ty.val (Value.slice none 0 0)) s3 a3 (.tmp 5) := D3.kt q5 rfl
 have q9 : At (Ty.int (0 : Int)) s3 a3 (.tmp 6) := D3.done 0
 clear D3
 refine tn ?_
 refine wp_block ?_
 refine loop (fun n1 a4 w1 => ∃ (t1 : GW) (k : Nat), t1.w = w1 ∧ From s0 t1 ∧ Ok 38 a4 ∧ (Pr.own 2 3 1 (List.length (wrongTo a b k)) (List.map Ty.int (wrongTo a b k))).has t1 (a4.eval (.tmp 5)) ∧ At (Ty.nat k) t1 a4 (.tmp 6) ∧ At (Ty.lst Ty.ints a) t1 a4 (.tmp 0) ∧ At (Ty.lst Ty.ints b) t1 a4 (.tmp 1) ∧ (k ≤ a.length) ∧ n1 = a.length - k) (a.length - (0)) ?_ ?_
 ·
  exact ⟨s3, 0, rfl, F3, ok3, (by have e : a3.eval (.tmp 5) = _ := q8; rw [e]; exact Own.nil _ _ _ _), (cvi (by (first | rfl | omega | (simp_all; done) | (simp_all; omega))) q9), q6, q7, by omega, rfl⟩
 ·
  rintro n2 a5 w2 ⟨t2, k, rfl, F4, ok4, q10, q11, q12, q13, hk, rfl⟩
  have hw := wrongTo_le a b k
  refine wp_seq ?_
  refine wp_seq ?_
  refine reg (a := a5) (σ := t2) rfl (fun i => List.getD [(Ty.pr (Ty.nat k)), (Ty.pr (Ty.lst Ty.ints a)), (Ty.pr (Ty.nat (List.length a))), (Ty.pr (Ty.bool (decide (((k : Nat) : Int) < (((List.length a) : Nat) : Int)))))] i Pr.any) ok4 rfl ⟨?_, ?_, ?_, ?_, trivial⟩ ?_
  · intro a1 t1 hs ok1 sm
    exact run_plain rfl (y_move (kp (sm 6 rfl) hs q11))
  · intro a1 t1 hs ok1 sm
    exact run_plain rfl (y_move (kp (sm 0 rfl) hs q12))
  · intro a1 t1 hs ok1 sm d0
    have e1 : At (Ty.lst Ty.ints a) t1 a1 (.tmp 9) := d0 rfl
    exact run_plain rfl (y_len Try.underlying23 e1)
  · intro a1 t1 hs ok1 sm d0 d1
    have e0 : At (Ty.nat k) t1 a1 (.tmp 8) := d0 rfl
    have e2 : At (Ty.nat (List.length a)) t1 a1 (.tmp 10) := d1 rfl
    exact run_plain rfl (y_lss e0 e2)
  intro a6 s4 D4
  have ok5 := D4.ok
  have F5 := F4.step0 D4.stp
  have q14 : (Pr.own 2 3 1 (List.length (wrongTo a b k)) (List.map Ty.int (wrongTo a b k))).has s4 (a6.eval (.tmp 5)) := D4.ko q10 rfl
  have q15 : At (Ty.nat k) s4 a6 (.tmp 6) := D4.kt q11 rfl
  have q16 : At (Ty.lst Ty.ints a) s4 a6 (.tmp 0) := D4.kt q12 rfl
  have q17 : At (Ty.lst Ty.ints b) s4 a6 (.tmp 1) := D4.kt q13 rfl
  have q18 : At (Ty.bool (decide (((k : Nat) : Int) < (((List.length a) : Nat) : Int)))) s4 a6 (.tmp 11) := D4.done 3
  clear D4
  refine tn ?_
  refine cond_p (p := (((k : Nat) : Int) < (((List.length a) : Nat) : Int))) q18 (fun c1 => ?_) (fun c1 => ?_)
  ·
   refine wp_skip ?_
   refine tn ?_
   refine wp_seq ?_
   refine wp_block ?_
   refine wp_seq ?_
   refine wp_seq ?_
   refine reg (a := a6) (σ := s4) rfl (fun i => List.getD [(Ty.pr (Ty.nat k)), (Ty.pr (Ty.lst Ty.ints b)), (Ty.pr (Ty.nat (List.length b))), (Ty.pr (Ty.bool (decide ((((List.length b) : Nat) : Int) ≤ ((k : Nat) : Int)))))] i Pr.any) ok5 rfl ⟨?_, ?_, ?_, ?_, trivial⟩ ?_
   · intro a1 t1 hs ok1 sm
     exact run_plain rfl (y_move (kp (sm 6 rfl) hs q15))
   · intro a1 t1 hs ok1 sm
     exact run_plain rfl (y_move (kp (sm 1 rfl) hs q17))
   · intro a1 t1 hs ok1 sm d0
     have e1 : At (Ty.lst Ty.ints b) t1 a1 (.tmp 15) := d0 rfl
     exact run_plain rfl (y_len Try.underlying23 e1)
   · intro a1 t1 hs ok1 sm d0 d1
     have e0 : At (Ty.nat k) t1 a1 (.tmp 14) := d0 rfl
     have e2 : At (Ty.nat (List.length b)) t1 a1 (.tmp 16) := d1 rfl
     exact run_plain rfl (y_geq e0 e2)
   intro a7 s5 D5
   have ok6 := D5.ok
   have F6 := F5.step0 D5.stp
   have q19 : (Pr.own 2 3 1 (List.length (wrongTo a b k)) (List.map Ty.int (wrongTo a b k))).has s5 (a7.eval (.tmp 5)) := D5.ko q14 rfl
   have q20 : At (Ty.nat k) s5 a7 (.tmp 6) := D5.kt q15 rfl
   have q21 : At (Ty.lst Ty.ints a) s5 a7 (.tmp 0) := D5.kt q16 rfl
   have q22 : At (Ty.lst Ty.ints b) s5 a7 (.tmp 1) := D5.kt q17 rfl
   have q23 : At (Ty.bool (decide ((((List.length b) : Nat) : Int) ≤ ((k : Nat) : Int)))) s5 a7 (.tmp 17) := D5.done 3
   clear D5
   refine tn ?_
   refine cond_p (p := ((((List.length b) : Nat) : Int) ≤ ((k : Nat) : Int))) q23 (fun c2 => ?_) (fun c2 => ?_)
   ·
    refine wp_seq ?_
    refine reg2 (a := a7) (σ := s5) rfl 3 (fun i => List.getD [(Pr.own 2 3 1 (List.length (wrongTo a b k)) (List.map Ty.int (wrongTo a b k))), (Ty.pr (Ty.nat k)), (Ty.pr (Ty.sl 1 1 [(Ty.nat k)]))] i Pr.any) ok6 rfl (by decide) rfl ⟨?_, ?_, ?_, trivial⟩ ?_
    · intro a1 t1 hs ok1 sm
      exact run_plain rfl (y_move (kpo (sm 5 rfl) hs q19))
    · intro a1 t1 hs ok1 sm
      exact run_plain rfl (y_move (kp (sm 6 rfl) hs q20))
    · intro a1 t1 hs ok1 sm d0
      have e1 : At (Ty.nat k) t1 a1 (.tmp 19) := d0 rfl
      exact run_plain rfl (y_build1o Try.underlying25 Try.inf3 rfl (one_val rfl) e1)
    intro a8 s6 D6
    have ok7 := D6.ok
    have F7 := F6.step0 D6.stp
    have q24 : (Pr.own 2 3 1 (List.length (wrongTo a b k)) (List.map Ty.int (wrongTo a b k))).has s6 (a8.eval (.tmp 5)) := D6.ko q19 rfl
    have q25 : At (Ty.nat k) s6 a8 (.tmp 6) := D6.kt q20 rfl
    have q26 : At (Ty.lst Ty.ints a) s6 a8 (.tmp 0) := D6.kt q21 rfl
    have q27 : At (Ty.lst Ty.ints b) s6 a8 (.tmp 1) := D6.kt q22 rfl
    have q28 : (Pr.own 2 3 1 (List.length (wrongTo a b k)) (List.map Ty.int (wrongTo a b k))).has s6 (a8.eval (.tmp 18)) := D6.done 0 (by decide)
    have q29 : At (Ty.sl 1 1 [(Ty.nat k)]) s6 a8 (.tmp 20) := D6.done 2 (by decide)
    clear D6
    refine tail_step (m := 2) (R := (fun v τ => Own τ 2 3 1 v ((List.length (wrongTo a b k)) + 1) ((List.map Ty.int (wrongTo a b k)) ++ [(Ty.nat k)]))) rfl rfl (by decide) ok7 (m_append Try.underlying25 Try.inf3 (by decide) rfl (by decide) q28 q29 (by intro U hU; simp at hU;  subst hU; exact one_val rfl) (by omega) (by omega)) (fun a9 s7 hs1 ok8 r1 sm1 => ?_)
    have F8 := F7.step hs1 (by decide)
    have q30 : At (Ty.nat k) s7 a9 (.tmp 6) := kpm hs1 (by decide) (sm1 6 (by decide)) q25
    have q31 : At (Ty.lst Ty.ints a) s7 a9 (.tmp 0) := kpm hs1 (by decide) (sm1 0 (by decide)) q26
    have q32 : At (Ty.lst Ty.ints b) s7 a9 (.tmp 1) := kpm hs1 (by decide) (sm1 1 (by decide)) q27
    have q33 : At (Ty.sl 1 1 [(Ty.nat k)]) s7 a9 (.tmp 20) := kpm hs1 (by decide) (sm1 20 (by decide)) q29
    have q34 : (Pr.own 2 3 1 (List.length ((wrongTo a b k) ++ [((k : Nat) : Int)])) (List.map Ty.int ((wrongTo a b k) ++ [((k : Nat) : Int)]))).has s7 (a9.eval (.tmp 21)) := (cvo (by simp) (by simp) r1)
    refine tail_step (m := 0) (R := (fun v τ => Pr.has (Pr.own 2 3 1 (List.length ((wrongTo a b k) ++ [((k : Nat) : Int)])) (List.map Ty.int ((wrongTo a b k) ++ [((k : Nat) : Int)]))) τ v)) rfl rfl (by decide) ok8 (Yld.toM (y_assign q34)) (fun a10 s8 hs2 ok9 r2 sm2 => ?_)
    have F9 := F8.step hs2 (by decide)
    have q35 : At (Ty.nat k) s8 a10 (.tmp 6) := kpm hs2 (by decide) (sm2 6 (by decide)) q30
    have q36 : At (Ty.lst Ty.ints a) s8 a10 (.tmp 0) := kpm hs2 (by decide) (sm2 0 (by decide)) q31
    have q37 : At (Ty.lst Ty.ints b) s8 a10 (.tmp 1) := kpm hs2 (by decide) (sm2 1 (by decide)) q32
    have q38 : At (Ty.sl 1 1 [(Ty.nat k)]) s8 a10 (.tmp 20) := kpm hs2 (by decide) (sm2 20 (by decide)) q33
    have q39 : (Pr.own 2 3 1 (List.length ((wrongTo a b k) ++ [((k : Nat) : Int)])) (List.map Ty.int ((wrongTo a b k) ++ [((k : Nat) : Int)]))).has s8 (a10.eval (.tmp 21)) := kpmo hs2 (by decide) (.inl rfl) (sm2 21 (by decide)) q34
    have q40 : (Pr.own 2 3 1 (List.length ((wrongTo a b k) ++ [((k : Nat) : Int)])) (List.map Ty.int ((wrongTo a b k) ++ [((k : Nat) : Int)]))).has s8 (a10.eval (.tmp 5)) := r2
    refine wpList_nil ?_
    refine tn ?_
    refine wp_exit ?_
    refine tx ?_
    refine bx ?_
    refine tn ?_
    refine reg (a := a10) (σ := s8) rfl (fun i => List.getD [(Ty.pr (Ty.nat k)), (Ty.pr (Ty.int (((k : Nat) : Int) + (1 : Int)))), (Ty.pr (Ty.int (((k : Nat) : Int) + (1 : Int))))] i Pr.any) ok9 rfl ⟨?_, ?_, ?_, trivial⟩ ?_
    · intro a1 t1 hs ok1 sm
      exact run_plain rfl (y_move (kp (sm 6 rfl) hs q35))
    · intro a1 t1 hs ok1 sm d0
      have e0 : At (Ty.nat k) t1 a1 (.tmp 12) := d0 rfl
      exact run_plain rfl (y_add e0 rfl (w64 (by omega) (by omega)))
    · intro a1 t1 hs ok1 sm d0 d1 d2
      have e1 : At (Ty.int (((k : Nat) : Int) + (1 : Int))) t1 a1 (.tmp 13) := d0 rfl
      have e0 : At (Ty.nat k) t1 a1 (.tmp 12) := d1 rfl
      exact run_plain rfl (y_assign e1)
    intro a11 s9 D7
    have ok10 := D7.ok
    have F10 := F9.step0 D7.stp
    have q41 : At (Ty.lst Ty.ints a) s9 a11 (.tmp 0) := D7.kt q36 rfl
    have q42 : At (Ty.lst Ty.ints b) s9 a11 (.tmp 1) := D7.kt q37 rfl
    have q43 : (Pr.own 2 3 1 (List.length ((wrongTo a b k) ++ [((k : Nat) : Int)])) (List.map Ty.int ((wrongTo a b k) ++ [((k : Nat) : Int)]))).has s9 (a11.eval (.tmp 5)) := D7.ko q40 rfl
    have q44 : At (Ty.int (((k : Nat) : Int) + (1 : Int))) s9 a11 (.tmp 6) := D7.done 2
    clear D7
    exact tn ⟨a.length - ((k+1)), by omega, s9, (k+1), rfl, F10, ok10, (cvo (by (rw [wrongTo_yes a b k (by simp only [Bool.or_eq_true, decide_eq_true_eq]; left; assumption)])) (by (rw [wrongTo_yes a b k (by simp only [Bool.or_eq_true, decide_eq_true_eq]; left; assumption)])) q43), (cvi (by (first | rfl | omega | (simp_all; done) | (simp_all; omega))) q44), q41, q42, by omega, rfl⟩
   ·
    refine wp_skip ?_
    refine tn ?_
    refine wp_seq ?_
    refine reg (a := a7) (σ := s5) rfl (fun i => List.getD [(Ty.pr (Ty.lst Ty.ints a)), (Ty.pr (Ty.nat k)), (Ty.pr (Ty.ref [(Ty.lst Ty.int (a.getD k []))])), (Ty.pr (Ty.lst Ty.int (a.getD k []))), (Ty.pr (Ty.lst Ty.ints b)), (Ty.pr (Ty.nat k)), (Ty.pr (Ty.ref [(Ty.lst Ty.int (b.getD k []))])), (Ty.pr (Ty.lst Ty.int (b.getD k []))), (Ty.pr (Ty.bool (decide (((a.getD k [])) = ((b.getD k [])))))), (Ty.pr (Ty.bool (decide (((a.getD k [])) = ((b.getD k []))))))] i Pr.any) ok6 rfl ⟨?_, ?_, ?_, ?_, ?_, ?_, ?_, ?_, ?_, ?_, trivial⟩ ?_
    · intro a1 t1 hs ok1 sm
      exact run_plain rfl (y_move (kp (sm 0 rfl) hs q21))
    · intro a1 t1 hs ok1 sm
      exact run_plain rfl (y_move (kp (sm 6 rfl) hs q20))
    · intro a1 t1 hs ok1 sm d0 d1
      have e0 : At (Ty.lst Ty.ints a) t1 a1 (.tmp 22) := d0 rfl
      have e1 : At (Ty.nat k) t1 a1 (.tmp 23) := d1 rfl
      exact run_plain rfl (y_index1 Try.underlying23 Try.inf25 e0 e1 (by omega) (lst_get Ty.ints a [] k (by omega)))
    · intro a1 t1 hs ok1 sm d0
      have e2 : At (Ty.ref [(Ty.lst Ty.int (a.getD k []))]) t1 a1 (.tmp 24) := d0 rfl
      exact run_plain rfl (y_load Try.underlying25 rfl e2 rfl)
    · intro a1 t1 hs ok1 sm
      exact run_plain rfl (y_move (kp (sm 1 rfl) hs q22))
    · intro a1 t1 hs ok1 sm
      exact run_plain rfl (y_move (kp (sm 6 rfl) hs q20))
    · intro a1 t1 hs ok1 sm d0 d1
      have e4 : At (Ty.lst Ty.ints b) t1 a1 (.tmp 26) := d0 rfl
      have e5 : At (Ty.nat k) t1 a1 (.tmp 27) := d1 rfl
      exact run_plain rfl (y_index1 Try.underlying23 Try.inf25 e4 e5 (by omega) (lst_get Ty.ints b [] k (by omega)))
    · intro a1 t1 hs ok1 sm d0
      have e6 : At (Ty.ref [(Ty.lst Ty.int (b.getD k []))]) t1 a1 (.tmp 28) := d0 rfl
      exact run_plain rfl (y_load Try.underlying25 rfl e6 rfl)
    · intro a1 t1 hs ok1 sm d0 d1
      have e3 : At (Ty.lst Ty.int (a.getD k [])) t1 a1 (.tmp 25) := d0 rfl
      have e7 : At (Ty.lst Ty.int (b.getD k [])) t1 a1 (.tmp 29) := d1 rfl
      exact run_plain rfl (y_call #[a1.eval (.tmp 25), a1.eval (.tmp 29)] Try.func9 rfl rfl (by simp only [List.map_toArray, List.map_cons, List.map_nil]) (rsame_fn ((a.getD k [])) ((b.getD k [])) _ _ _ e3 e7 ))
    · intro a1 t1 hs ok1 sm d0 d1 d2 d3 d4 d5 d6 d7 d8 d9 d10
      have e8 : At (Ty.bool (decide (((a.getD k [])) = ((b.getD k []))))) t1 a1 (.tmp 30) := d0 rfl
      have e0 : At (Ty.lst Ty.ints a) t1 a1 (.tmp 22) := d2 rfl
      have e1 : At (Ty.nat k) t1 a1 (.tmp 23) := d3 rfl
      have e2 : At (Ty.ref [(Ty.lst Ty.int (a.getD k []))]) t1 a1 (.tmp 24) := d4 rfl
      have e3 : At (Ty.lst Ty.int (a.getD k [])) t1 a1 (.tmp 25) := d5 rfl
      have e4 : At (Ty.lst Ty.ints b) t1 a1 (.tmp 26) := d6 rfl
      have e5 : At (Ty.nat k) t1 a1 (.tmp 27) := d7 rfl
      have e6 : At (Ty.ref [(Ty.lst Ty.int (b.getD k []))]) t1 a1 (.tmp 28) := d8 rfl
      have e7 : At (Ty.lst Ty.int (b.getD k [])) t1 a1 (.tmp 29) := d9 rfl
      exact run_plain rfl (y_assign e8)
    intro a12 s10 D8
    have ok11 := D8.ok
    have F11 := F6.step0 D8.stp
    have q45 : (Pr.own 2 3 1 (List.length (wrongTo a b k)) (List.map Ty.int (wrongTo a b k))).has s10 (a12.eval (.tmp 5)) := D8.ko q19 rfl
    have q46 : At (Ty.nat k) s10 a12 (.tmp 6) := D8.kt q20 rfl
    have q47 : At (Ty.lst Ty.ints a) s10 a12 (.tmp 0) := D8.kt q21 rfl
    have q48 : At (Ty.lst Ty.ints b) s10 a12 (.tmp 1) := D8.kt q22 rfl
    have q49 : At (Ty.bool (decide (((a.getD k [])) = ((b.getD k []))))) s10 a12 (.tmp 7) := D8.done 9
    clear D8
    refine tn ?_
    refine wp_seq ?_
    refine reg (a := a12) (σ := s10) rfl (fun i => List.getD [(Ty.pr (Ty.bool (decide (((a.getD k [])) = ((b.getD k [])))))), (Ty.pr (Ty.bool (!(decide (((a.getD k [])) = ((b.getD k [])))))))] i Pr.any) ok11 rfl ⟨?_, ?_, trivial⟩ ?_
    · intro a1 t1 hs ok1 sm
      exact run_plain rfl (y_move (kp (sm 7 rfl) hs q49))
    · intro a1 t1 hs ok1 sm d0
      have e0 : At (Ty.bool (decide (((a.getD k [])) = ((b.getD k []))))) t1 a1 (.tmp 31) := d0 rfl
      exact run_plain rfl (y_not e0)
    intro a13 s11 D9
    have ok12 := D9.ok
    have F12 := F11.step0 D9.stp
    have q50 : (Pr.own 2 3 1 (List.length (wrongTo a b k)) (List.map Ty.int (wrongTo a b k))).has s11 (a13.eval (.tmp 5)) := D9.ko q45 rfl
    have q51 : At (Ty.nat k) s11 a13 (.tmp 6) := D9.kt q46 rfl
    have q52 : At (Ty.lst Ty.ints a) s11 a13 (.tmp 0) := D9.kt q47 rfl
    have q53 : At (Ty.lst Ty.ints b) s11 a13 (.tmp 1) := D9.kt q48 rfl
    have q54 : At (Ty.bool (!(decide (((a.getD k [])) = ((b.getD k [])))))) s11 a13 (.tmp 32) := D9.done 1
    clear D9
    refine tn ?_
    refine cond_t q54 (fun c3 => ?_) (fun c3 => ?_)
    ·
     refine reg2 (a := a13) (σ := s11) rfl 3 (fun i => List.getD [(Pr.own 2 3 1 (List.length (wrongTo a b k)) (List.map Ty.int (wrongTo a b k))), (Ty.pr (Ty.nat k)), (Ty.pr (Ty.sl 1 1 [(Ty.nat k)]))] i Pr.any) ok12 rfl (by decide) rfl ⟨?_, ?_, ?_, trivial⟩ ?_
     · intro a1 t1 hs ok1 sm
       exact run_plain rfl (y_move (kpo (sm 5 rfl) hs q50))
     · intro a1 t1 hs ok1 sm
       exact run_plain rfl (y_move (kp (sm 6 rfl) hs q51))
     · intro a1 t1 hs ok1 sm d0
       have e1 : At (Ty.nat k) t1 a1 (.tmp 34) := d0 rfl
       exact run_plain rfl (y_build1o Try.underlying25 Try.inf3 rfl (one_val rfl) e1)
     intro a14 s12 D10
     have ok13 := D10.ok
     have F13 := F12.step0 D10.stp
     have q55 : (Pr.own 2 3 1 (List.length (wrongTo a b k)) (List.map Ty.int (wrongTo a b k))).has s12 (a14.eval (.tmp 5)) := D10.ko q50 rfl
     have q56 : At (Ty.nat k) s12 a14 (.tmp 6) := D10.kt q51 rfl
     have q57 : At (Ty.lst Ty.ints a) s12 a14 (.tmp 0) := D10.kt q52 rfl
     have q58 : At (Ty.lst Ty.ints b) s12 a14 (.tmp 1) := D10.kt q53 rfl
     have q59 : (Pr.own 2 3 1 (List.length (wrongTo a b k)) (List.map Ty.int (wrongTo a b k))).has s12 (a14.eval (.tmp 33)) := D10.done 0 (by decide)
     have q60 : At (Ty.sl 1 1 [(Ty.nat k)]) s12 a14 (.tmp 35) := D10.done 2 (by decide)
     clear D10
     refine tail_step (m := 2) (R := (fun v τ => Own τ 2 3 1 v ((List.length (wrongTo a b k)) + 1) ((List.map Ty.int (wrongTo a b k)) ++ [(Ty.nat k)]))) rfl rfl (by decide) ok13 (m_append Try.underlying25 Try.inf3 (by decide) rfl (by decide) q59 q60 (by intro U hU; simp at hU;  subst hU; exact one_val rfl) (by omega) (by omega)) (fun a15 s13 hs3 ok14 r3 sm3 => ?_)
     have F14 := F13.step hs3 (by decide)
     have q61 : At (Ty.nat k) s13 a15 (.tmp 6) := kpm hs3 (by decide) (sm3 6 (by decide)) q56
     have q62 : At (Ty.lst Ty.ints a) s13 a15 (.tmp 0) := kpm hs3 (by decide) (sm3 0 (by decide)) q57
     have q63 : At (Ty.lst Ty.ints b) s13 a15 (.tmp 1) := kpm hs3 (by decide) (sm3 1 (by decide)) q58
     have q64 : At (Ty.sl 1 1 [(Ty.nat k)]) s13 a15 (.tmp 35) := kpm hs3 (by decide) (sm3 35 (by decide)) q60
     have q65 : (Pr.own 2 3 1 (List.length ((wrongTo a b k) ++ [((k : Nat) : Int)])) (List.map Ty.int ((wrongTo a b k) ++ [((k : Nat) : Int)]))).has s13 (a15.eval (.tmp 36)) := (cvo (by simp) (by simp) r3)
     refine tail_step (m := 0) (R := (fun v τ => Pr.has (Pr.own 2 3 1 (List.length ((wrongTo a b k) ++ [((k : Nat) : Int)])) (List.map Ty.int ((wrongTo a b k) ++ [((k : Nat) : Int)]))) τ v)) rfl rfl (by decide) ok14 (Yld.toM (y_assign q65)) (fun a16 s14 hs4 ok15 r4 sm4 => ?_)
     have F15 := F14.step hs4 (by decide)
     have q66 : At (Ty.nat k) s14 a16 (.tmp 6) := kpm hs4 (by decide) (sm4 6 (by decide)) q61
     have q67 : At (Ty.lst Ty.ints a) s14 a16 (.tmp 0) := kpm hs4 (by decide) (sm4 0 (by decide)) q62
     have q68 : At (Ty.lst Ty.ints b) s14 a16 (.tmp 1) := kpm hs4 (by decide) (sm4 1 (by decide)) q63
     have q69 : At (Ty.sl 1 1 [(Ty.nat k)]) s14 a16 (.tmp 35) := kpm hs4 (by decide) (sm4 35 (by decide)) q64
     have q70 : (Pr.own 2 3 1 (List.length ((wrongTo a b k) ++ [((k : Nat) : Int)])) (List.map Ty.int ((wrongTo a b k) ++ [((k : Nat) : Int)]))).has s14 (a16.eval (.tmp 36)) := kpmo hs4 (by decide) (.inl rfl) (sm4 36 (by decide)) q65
     have q71 : (Pr.own 2 3 1 (List.length ((wrongTo a b k) ++ [((k : Nat) : Int)])) (List.map Ty.int ((wrongTo a b k) ++ [((k : Nat) : Int)]))).has s14 (a16.eval (.tmp 5)) := r4
     refine wpList_nil ?_
     refine bn ?_
     refine tn ?_
     refine reg (a := a16) (σ := s14) rfl (fun i => List.getD [(Ty.pr (Ty.nat k)), (Ty.pr (Ty.int (((k : Nat) : Int) + (1 : Int)))), (Ty.pr (Ty.int (((k : Nat) : Int) + (1 : Int))))] i Pr.any) ok15 rfl ⟨?_, ?_, ?_, trivial⟩ ?_
     · intro a1 t1 hs ok1 sm
       exact run_plain rfl (y_move (kp (sm 6 rfl) hs q66))
     · intro a1 t1 hs ok1 sm d0
       have e0 : At (Ty.nat k) t1 a1 (.tmp 12) := d0 rfl
       exact run_plain rfl (y_add e0 rfl (w64 (by omega) (by omega)))
     · intro a1 t1 hs ok1 sm d0 d1 d2
       have e1 : At (Ty.int (((k : Nat) : Int) + (1 : Int))) t1 a1 (.tmp 13) := d0 rfl
       have e0 : At (Ty.nat k) t1 a1 (.tmp 12) := d1 rfl
       exact run_plain rfl (y_assign e1)
     intro a17 s15 D11
     have ok16 := D11.ok
     have F16 := F15.step0 D11.stp
     have q72 : At (Ty.lst Ty.ints a) s15 a17 (.tmp 0) := D11.kt q67 rfl
     have q73 : At (Ty.lst Ty.ints b) s15 a17 (.tmp 1) := D11.kt q68 rfl
     have q74 : (Pr.own 2 3 1 (List.length ((wrongTo a b k) ++ [((k : Nat) : Int)])) (List.map Ty.int ((wrongTo a b k) ++ [((k : Nat) : Int)]))).has s15 (a17.eval (.tmp 5)) := D11.ko q71 rfl
     have q75 : At (Ty.int (((k : Nat) : Int) + (1 : Int))) s15 a17 (.tmp 6) := D11.done 2
     clear D11
     exact tn ⟨a.length - ((k+1)), by omega, s15, (k+1), rfl, F16, ok16, (cvo (by (rw [wrongTo_yes a b k (by simp only [Bool.or_eq_true]; right; assumption)])) (by (rw [wrongTo_yes a b k (by simp only [Bool.or_eq_true]; right; assumption)])) q74), (cvi (by (first | rfl | omega | (simp_all; done) | (simp_all; omega))) q75), q72, q73, by omega, rfl⟩
    ·
     refine wp_skip ?_
     refine bn ?_
     refine tn ?_
     refine reg (a := a13) (σ := s11) rfl (fun i => List.getD [(Ty.pr (Ty.nat k)), (Ty.pr (Ty.int (((k : Nat) : Int) + (1 : Int)))), (Ty.pr (Ty.int (((k : Nat) : Int) + (1 : Int))))] i Pr.any) ok12 rfl ⟨?_, ?_, ?_, trivial⟩ ?_
     · intro a1 t1 hs ok1 sm
       exact run_plain rfl (y_move (kp (sm 6 rfl) hs q51))
     · intro a1 t1 hs ok1 sm d0
       have e0 : At (Ty.nat k) t1 a1 (.tmp 12) := d0 rfl
       exact run_plain rfl (y_add e0 rfl (w64 (by omega) (by omega)))
     · intro a1 t1 hs ok1 sm d0 d1 d2
       have e1 : At (Ty.int (((k : Nat) : Int) + (1 : Int))) t1 a1 (.tmp 13) := d0 rfl
       have e0 : At (Ty.nat k) t1 a1 (.tmp 12) := d1 rfl
       exact run_plain rfl (y_assign e1)
     intro a18 s16 D12
     have ok17 := D12.ok
     have F17 := F12.step0 D12.stp
     have q76 : (Pr.own 2 3 1 (List.length (wrongTo a b k)) (List.map Ty.int (wrongTo a b k))).has s16 (a18.eval (.tmp 5)) := D12.ko q50 rfl
     have q77 : At (Ty.lst Ty.ints a) s16 a18 (.tmp 0) := D12.kt q52 rfl
     have q78 : At (Ty.lst Ty.ints b) s16 a18 (.tmp 1) := D12.kt q53 rfl
     have q79 : At (Ty.int (((k : Nat) : Int) + (1 : Int))) s16 a18 (.tmp 6) := D12.done 2
     clear D12
     exact tn ⟨a.length - ((k+1)), by omega, s16, (k+1), rfl, F17, ok17, (cvo (by (rw [wrongTo_no a b k (by simp only [Bool.or_eq_false_iff, decide_eq_false_iff_not]; constructor <;> assumption)])) (by (rw [wrongTo_no a b k (by simp only [Bool.or_eq_false_iff, decide_eq_false_iff_not]; constructor <;> assumption)])) q76), (cvi (by (first | rfl | omega | (simp_all; done) | (simp_all; omega))) q79), q77, q78, by omega, rfl⟩
  ·
   refine wp_exit ?_
   refine tx ?_
   refine tx ?_
   refine bx ?_
   refine tn ?_
   refine wp_seq ?_
   refine reg (a := a6) (σ := s4) rfl (fun i => List.getD [(Pr.own 2 3 1 (List.length (wrongTo a b k)) (List.map Ty.int (wrongTo a b k))), (Pr.own 2 3 1 (List.length (wrongTo a b k)) (List.map Ty.int (wrongTo a b k)))] i Pr.any) ok5 rfl ⟨?_, ?_, trivial⟩ ?_
   · intro a1 t1 hs ok1 sm
     exact run_plain rfl (y_move (kpo (sm 5 rfl) hs q14))
   · intro a1 t1 hs ok1 sm d0 d1
     have e0 : (Pr.own 2 3 1 (List.length (wrongTo a b k)) (List.map Ty.int (wrongTo a b k))).has t1 (a1.eval (.tmp 37)) := d0 rfl
     exact run_plain rfl (y_assign e0)
   intro a19 s17 D13
   have ok18 := D13.ok
   have F18 := F5.step0 D13.stp
   have q80 : (Pr.own 2 3 1 (List.length (wrongTo a b k)) (List.map Ty.int (wrongTo a b k))).has s17 (a19.eval (.tmp 4)) := D13.done 1
   clear D13
   refine tn ?_
   refine wp_ret ?_
   obtain ⟨t3, e1, h1, q81⟩ := Own.seal q80 (by decide)
   rw [← e1]
   have F19 := F18.step h1 (by decide)
   exact ret1 rfl ok18 F19 (cvt (by (obtain rfl : k = a.length := (by omega); rfl)) q81)

set_option maxRecDepth 100000 in
theorem law_fn (a : List (List Int)) (b : List (List Int)) (σ : GW) (v0 v1 : Value) (hv0 : Ty.has (Ty.lst Ty.ints a) σ v0) (hv1 : Ty.has (Ty.lst Ty.ints b) σ v1) (ha : a.length ≤ 17592186044416) :
    FnC Try.prog 4 #[v0, v1] σ (Ty.bool true) := by
 refine fn_intro Try.func4 rfl Try.ntmps4 (Nat.le_of_ble_eq_true rfl) (fun s0 a0 hle F0 ok0 hargs => ?_)
 have p0 : At (Ty.lst Ty.ints a) s0 a0 (.tmp 0) := by have e := hargs 0 _ rfl; show Ty.has _ _ _; rw [e]; exact Ty.up _ hle hv0
 have b1 := sl_le p0
 have p1 : At (Ty.lst Ty.ints b) s0 a0 (.tmp 1) := by have e := hargs 1 _ rfl; show Ty.has _ _ _; rw [e]; exact Ty.up _ hle hv1
 have b2 := sl_le p1
 clear hargs
 refine wp_seq ?_
 refine reg (a := a0) (σ := s0) rfl (fun i => List.getD [(Ty.pr (Ty.bool false))] i Pr.any) ok0 rfl ⟨?_, trivial⟩ ?_
 · intro a1 t1 hs ok1 sm
   exact run_plain rfl (y_assign rfl)
 intro a1 s1 D1
 have ok1 := D1.ok
 have F1 := F0.step0 D1.stp
 have q1 : At (Ty.lst Ty.ints a) s1 a1 (.tmp 0) := D1.kt p0 rfl
 have q2 : At (Ty.lst Ty.ints b) s1 a1 (.tmp 1) := D1.kt p1 rfl
 clear D1
 refine tn ?_
 refine wp_seq ?_
 refine reg (a := a1) (σ := s1) rfl (fun i => List.getD [(Ty.pr (Ty.lst Ty.ints a)), (Ty.pr (Ty.lst Ty.ints b)), (Ty.pr (Ty.lst Ty.int (wrongTo a b a.length))), (Ty.pr (Ty.lst Ty.ints a)), (Ty.pr (Ty.lst Ty.ints b)), (Ty.pr (Ty.lst Ty.int (wrongTo a b a.length))), (Ty.pr (Ty.bool (decide (((wrongTo a b a.length)) = ((wrongTo a b a.length)))))), (Ty.pr (Ty.bool (decide (((wrongTo a b a.length)) = ((wrongTo a b a.length))))))] i Pr.any) ok1 rfl ⟨?_, ?_, ?_, ?_, ?_, ?_, ?_, ?_, trivial⟩ ?_
 · intro a1 t1 hs ok1 sm
   exact run_plain rfl (y_move (kp (sm 0 rfl) hs q1))
 · intro a1 t1 hs ok1 sm
   exact run_plain rfl (y_move (kp (sm 1 rfl) hs q2))
 · intro a1 t1 hs ok1 sm d0 d1
   have e0 : At (Ty.lst Ty.ints a) t1 a1 (.tmp 5) := d0 rfl
   have e1 : At (Ty.lst Ty.ints b) t1 a1 (.tmp 6) := d1 rfl
   exact run_plain rfl (y_call #[a1.eval (.tmp 5), a1.eval (.tmp 6)] Try.func10 rfl rfl (by simp only [List.map_toArray, List.map_cons, List.map_nil]) (bwrong_fn (a) (b) _ _ _ e0 e1 (by omega)))
 · intro a1 t1 hs ok1 sm
   exact run_plain rfl (y_move (kp (sm 0 rfl) hs q1))
 · intro a1 t1 hs ok1 sm
   exact run_plain rfl (y_move (kp (sm 1 rfl) hs q2))
 · intro a1 t1 hs ok1 sm d0 d1 d2
   have e3 : At (Ty.lst Ty.ints a) t1 a1 (.tmp 8) := d0 rfl
   have e4 : At (Ty.lst Ty.ints b) t1 a1 (.tmp 9) := d1 rfl
   have e2 : At (Ty.lst Ty.int (wrongTo a b a.length)) t1 a1 (.tmp 7) := d2 rfl
   exact run_plain rfl (y_call #[a1.eval (.tmp 8), a1.eval (.tmp 9)] Try.func11 rfl rfl (by simp only [List.map_toArray, List.map_cons, List.map_nil]) (rwrong_fn (a) (b) _ _ _ e3 e4 (by omega)))
 · intro a1 t1 hs ok1 sm d0 d1 d2
   have e2 : At (Ty.lst Ty.int (wrongTo a b a.length)) t1 a1 (.tmp 7) := d0 rfl
   have e5 : At (Ty.lst Ty.int (wrongTo a b a.length)) t1 a1 (.tmp 10) := d1 rfl
   exact run_plain rfl (y_call #[a1.eval (.tmp 7), a1.eval (.tmp 10)] Try.func9 rfl rfl (by simp only [List.map_toArray, List.map_cons, List.map_nil]) (rsame_fn ((wrongTo a b a.length)) ((wrongTo a b a.length)) _ _ _ e2 e5 ))
 · intro a1 t1 hs ok1 sm d0 d1 d2 d3 d4 d5 d6 d7 d8
   have e6 : At (Ty.bool (decide (((wrongTo a b a.length)) = ((wrongTo a b a.length))))) t1 a1 (.tmp 11) := d0 rfl
   have e0 : At (Ty.lst Ty.ints a) t1 a1 (.tmp 5) := d2 rfl
   have e1 : At (Ty.lst Ty.ints b) t1 a1 (.tmp 6) := d3 rfl
   have e2 : At (Ty.lst Ty.int (wrongTo a b a.length)) t1 a1 (.tmp 7) := d4 rfl
   have e3 : At (Ty.lst Ty.ints a) t1 a1 (.tmp 8) := d5 rfl
   have e4 : At (Ty.lst Ty.ints b) t1 a1 (.tmp 9) := d6 rfl
   have e5 : At (Ty.lst Ty.int (wrongTo a b a.length)) t1 a1 (.tmp 10) := d7 rfl
   exact run_plain rfl (y_assign e6)
 intro a2 s2 D2
 have ok2 := D2.ok
 have F2 := F1.step0 D2.stp
 have q3 : At (Ty.bool (decide (((wrongTo a b a.length)) = ((wrongTo a b a.length))))) s2 a2 (.tmp 4) := D2.done 7
 clear D2
 refine tn ?_
 refine wp_ret ?_
 exact ret1 rfl ok2 F2 (cvb (by (simp)) q3)

end Go.Proofs.Ytmdaialaphkhfaa
