/- The functions that the law CallSays reaches, each by its contract. Part 2. -/
import Derived.Test.YtbilebfnanlgfaaDoorCallSaysW1
namespace Go.Proofs.YtbilebfnanlgfaaDoor
open Go.KL
theorem Tryd.inf50 : Info Tryd.prog 50 (.agg #[.int .i32 0, .slice none 0 0]) 2 32 := by unfold Info; kernel_rfl
set_option maxHeartbeats 4000000 in
set_option maxRecDepth 100000 in
theorem idxCall_fn (cs : List BCall) (sc : Int) (lc : List (List Int)) (σ : GW)  (v0 v1 : Value) (hv0 : Ty.has (Ty.lstc 2 callC cs) σ v0) (hv1 : Ty.has (Ty.clo 26 [(Ty.val (Value.int .i32 sc)), (Ty.lst Ty.ints lc)]) σ v1)   :
    FnC Tryd.prog 45 #[v0, v1] σ (Ty.int (indexL (cs.map (·.1)) sc)) := by
 refine fn_intro0 Tryd.func45 rfl Tryd.ntmps45 (Nat.le_of_ble_eq_true rfl) (fun s0 a0 hle F0 ok0 hargs => ?_)
 have p0 : At (Ty.lstc 2 callC cs) s0 a0 (.tmp 0) := by have e := hargs 0 _ rfl; show Ty.has _ _ _; rw [e]; exact Ty.up _ hle hv0
 have b1 := sl_le p0
 have p1 : At (Ty.clo 26 [(Ty.val (Value.int .i32 sc)), (Ty.lst Ty.ints lc)]) s0 a0 (.tmp 1) := by have e := hargs 1 _ rfl; show Ty.has _ _ _; rw [e]; exact Ty.up _ hle hv1
 clear hargs; refine wp_seq ?_
 refine rg a0 s0 [(Ty.int (0 : Int))] ok0 ⟨?_, trivial⟩ ?_
 · intro A B E G H; exact rP (y_assign rfl)
 intro a1 s1 D1; have ok1 := D1.ok; have F1 := F0.step0 D1.stp; have q1 := D1.kt p0 rfl; have q2 := D1.kt p1 rfl; clear D1; refine tn ?_; refine wp_seq ?_; refine wp_seq ?_
 refine rg a1 s1 [(Ty.lstc 2 callC cs), (Ty.nat (List.length cs)), (Ty.int (0 : Int))] ok1 ⟨?_, ?_, ?_, trivial⟩ ?_
 · intro A B E G H; exact rP (y_move (kp (H 0 rfl) E q1))
 · intro A B E G H d0; exact rP (y_len Tryd.underlying25 (ed d0 rfl rfl rfl))
 · intro A B E G H; exact rP (y_move rfl)
 intro a2 s2 D2; have ok2 := D2.ok; have F2 := F1.step0 D2.stp; have q3 := D2.kt q1 rfl; have q4 := D2.kt q2 rfl; have q5 := D2.dn 1 rfl rfl; have q6 := D2.dn 2 rfl rfl; clear D2; refine tn ?_; refine wp_block ?_
 refine loop (fun n1 a3 w1 => ∃ (t1 : GW) (i : Nat), t1.w = w1 ∧ FromL [] s0 t1 ∧ Ok 19 a3 ∧ At (Ty.nat i) t1 a3 (.tmp 8) ∧ At (Ty.lstc 2 callC cs) t1 a3 (.tmp 0) ∧ At (Ty.clo 26 [(Ty.val (Value.int .i32 sc)), (Ty.lst Ty.ints lc)]) t1 a3 (.tmp 1) ∧ At (Ty.nat (List.length cs)) t1 a3 (.tmp 7) ∧ (i ≤ cs.length) ∧ (∀ j, j < i → (cs.getD j D0).1 ≠ sc) ∧ n1 = cs.length - i) (cs.length - (0)) ?_ ?_
 ·
  exact ⟨s2, 0, rfl, F2, ok2, (cvi (by (first | rfl | omega | (simp_all; done) | (simp_all; omega))) q6), q3, q4, q5, by omega, fun j hj => absurd hj (Nat.not_lt_zero j), rfl⟩
 ·
  rintro n2 a4 w2 ⟨t2, i, rfl, F3, ok3, q7, q8, q9, q10, hi, hno, rfl⟩
  refine wp_seq ?_
  refine reg (a := a4) (σ := t2) rfl (fun i_ => List.getD [(Ty.pr (Ty.bool (decide (((i : Nat) : Int) < (((List.length cs) : Nat) : Int)))))] i_ Pr.any) ok3 rfl ⟨?_, trivial⟩ ?_
  · intro A B E G H; exact rP (y_lss (kp (H 8 rfl) E q7) (kp (H 7 rfl) E q10))
  intro a5 s3 D3; have ok4 := D3.ok; have F4 := F3.step0 D3.stp; have q11 := D3.kt q7 rfl; have q12 := D3.kt q8 rfl; have q13 := D3.kt q9 rfl; have q14 := D3.kt q10 rfl; have q15 := D3.dn 0 rfl rfl; clear D3; refine tn ?_; refine wp_seq ?_
  refine cond_p (p := (((i : Nat) : Int) < (((List.length cs) : Nat) : Int))) q15 (fun c1 => ?_) (fun c1 => ?_)
  ·
   refine wp_skip ?_; refine tn ?_; refine wp_seq ?_; refine wp_block ?_; refine wp_seq ?_
   refine rg a5 s3 [(Ty.nat i), (Ty.nat i)] ok4 ⟨?_, ?_, trivial⟩ ?_
   · intro A B E G H; exact rP (y_move (kp (H 8 rfl) E q11))
   · intro A B E G H d0 d1; exact rP (y_assign (ed d0 rfl rfl rfl))
   intro a6 s4 D4; have ok5 := D4.ok; have F5 := F4.step0 D4.stp; have q16 := D4.kt q11 rfl; have q17 := D4.kt q12 rfl; have q18 := D4.kt q13 rfl; have q19 := D4.kt q14 rfl; have q20 := D4.dn 1 rfl rfl; clear D4; refine tn ?_; refine wp_seq ?_
   refine rg a6 s4 [(Ty.clo 26 [(Ty.val (Value.int .i32 sc)), (Ty.lst Ty.ints lc)]), (Ty.lstc 2 callC cs), (Ty.nat i), (Ty.ref [(Ty.val (Value.int .i32 ((cs.getD i D0)).1)), (Ty.lst Ty.ints ((cs.getD i D0)).2)]), (Ty.agg [(Ty.val (Value.int .i32 ((cs.getD i D0)).1)), (Ty.lst Ty.ints ((cs.getD i D0)).2)]), (Ty.bool (decide ((((cs.getD i D0)).1) = sc)))] ok5 ⟨?_, ?_, ?_, ?_, ?_, ?_, trivial⟩ ?_
   · intro A B E G H; exact rP (y_move (kp (H 1 rfl) E q18))
   · intro A B E G H; exact rP (y_move (kp (H 0 rfl) E q17))
   · intro A B E G H; exact rP (y_move (kp (H 5 rfl) E q20))
   · intro A B E G H d0 d1; exact rP (y_indexc (i := ((i : Nat) : Int)) D0 Tryd.underlying25 Tryd.inf50 (ed d0 rfl rfl rfl) (ed d1 rfl rfl rfl) (by omega) (by omega) (by decide) (fun _ => rfl))
   · intro A B E G H d0; exact rP (y_loadagg Tryd.underlying50 Tryd.inf50 (ed d0 rfl rfl rfl))
   · intro A B E G H d0 d1; exact rP (y_callv (fun p_ => #[A.eval (.tmp 15), p_]) (ed d0 rfl rfl rfl) Tryd.func26 rfl rfl (fun p_ => by simp only [List.map_toArray, List.map_cons, List.map_nil, List.append_toArray, List.cons_append, List.nil_append]) (fun p_ hp_ => callChk1_fn (((cs.getD i D0)).1) (((cs.getD i D0)).2) (sc) (lc) _ _ _ (ed d1 rfl rfl rfl) hp_ ))
   intro a7 s5 D5; have ok6 := D5.ok; have F6 := F5.step0 D5.stp; have q21 := D5.kt q16 rfl; have q22 := D5.kt q17 rfl; have q23 := D5.kt q18 rfl; have q24 := D5.kt q19 rfl; have q25 := D5.kt q20 rfl; have q26 := D5.dn 5 rfl rfl; clear D5; refine tn ?_
   refine cond_p (p := ((((cs.getD i D0)).1) = sc)) q26 (fun c2 => ?_) (fun c2 => ?_)
   ·
    refine wp_seq ?_
    refine rg a7 s5 [(Ty.nat i), (Ty.nat i)] ok6 ⟨?_, ?_, trivial⟩ ?_
    · intro A B E G H; exact rP (y_move (kp (H 5 rfl) E q25))
    · intro A B E G H d0 d1; exact rP (y_assign (ed d0 rfl rfl rfl))
    intro a8 s6 D6; have ok7 := D6.ok; have F7 := F6.step0 D6.stp; have q27 := D6.dn 1 rfl rfl; clear D6; refine tn ?_; refine wp_ret ?_; refine br ?_; refine tr ?_; refine tr ?_; refine br ?_; refine tr ?_
    exact retL1 rfl ok7 F7 (cvi (by (exact (idxC_yes (by omega) (by assumption) hno).symm)) q27)
   ·
    refine wp_skip ?_; refine bn ?_; refine tn ?_
    refine rg a7 s5 [(Ty.int (((i : Nat) : Int) + (1 : Int))), (Ty.int (((i : Nat) : Int) + (1 : Int)))] ok6 ⟨?_, ?_, trivial⟩ ?_
    · intro A B E G H; exact rP (y_add (kp (H 8 rfl) E q21) rfl (w64 (by omega) (by omega)))
    · intro A B E G H d0; exact rP (y_move (ed d0 rfl rfl rfl))
    intro a9 s7 D7; have ok8 := D7.ok; have F8 := F6.step0 D7.stp; have q28 := D7.kt q22 rfl; have q29 := D7.kt q23 rfl; have q30 := D7.kt q24 rfl; have q31 := D7.dn 1 rfl rfl; clear D7
    exact tn ⟨cs.length - ((i+1)), by omega, s7, (i+1), rfl, F8, ok8, (cvi (by (first | rfl | omega | (simp_all; done) | (simp_all; omega))) q31), q28, q29, q30, by omega, fun j hj => by (by_cases e : j = i; subst e; assumption; exact hno j (by omega)), rfl⟩
  ·
   refine wp_exit ?_; refine tx ?_; refine tx ?_; refine bx ?_; refine tn ?_; refine wp_seq ?_
   refine rg a5 s3 [(Ty.int (-1 : Int))] ok4 ⟨?_, trivial⟩ ?_
   · intro A B E G H; exact rP (y_assign rfl)
   intro a10 s8 D8; have ok9 := D8.ok; have F9 := F4.step0 D8.stp; have q32 := D8.dn 0 rfl rfl; clear D8; refine tn ?_; refine wp_ret ?_
   exact retL1 rfl ok9 F9 (cvi (by (exact (idxC_no (fun j hj => hno j (by omega))).symm)) q32)


set_option maxHeartbeats 4000000 in
set_option maxRecDepth 100000 in
theorem hasCall_fn (cs : List BCall) (sc : Int) (lc : List (List Int)) (σ : GW)  (v0 v1 : Value) (hv0 : Ty.has (Ty.lstc 2 callC cs) σ v0) (hv1 : Ty.has (Ty.clo 26 [(Ty.val (Value.int .i32 sc)), (Ty.lst Ty.ints lc)]) σ v1)   :
    FnC Tryd.prog 25 #[v0, v1] σ (Ty.bool (decide (sc ∈ cs.map (·.1)))) := by
 refine fn_intro0 Tryd.func25 rfl Tryd.ntmps25 (Nat.le_of_ble_eq_true rfl) (fun s0 a0 hle F0 ok0 hargs => ?_)
 have p0 : At (Ty.lstc 2 callC cs) s0 a0 (.tmp 0) := by have e := hargs 0 _ rfl; show Ty.has _ _ _; rw [e]; exact Ty.up _ hle hv0
 have b1 := sl_le p0
 have p1 : At (Ty.clo 26 [(Ty.val (Value.int .i32 sc)), (Ty.lst Ty.ints lc)]) s0 a0 (.tmp 1) := by have e := hargs 1 _ rfl; show Ty.has _ _ _; rw [e]; exact Ty.up _ hle hv1
 clear hargs; refine wp_seq ?_
 refine rg a0 s0 [(Ty.bool false)] ok0 ⟨?_, trivial⟩ ?_
 · intro A B E G H; exact rP (y_assign rfl)
 intro a1 s1 D1; have ok1 := D1.ok; have F1 := F0.step0 D1.stp; have q1 := D1.kt p0 rfl; have q2 := D1.kt p1 rfl; clear D1; refine tn ?_; refine wp_seq ?_
 refine rg a1 s1 [(Ty.lstc 2 callC cs), (Ty.clo 26 [(Ty.val (Value.int .i32 sc)), (Ty.lst Ty.ints lc)]), (Ty.int (indexL (cs.map (·.1)) sc)), (Ty.bool (decide ((0 : Int) ≤ (indexL (cs.map (·.1)) sc)))), (Ty.bool (decide ((0 : Int) ≤ (indexL (cs.map (·.1)) sc))))] ok1 ⟨?_, ?_, ?_, ?_, ?_, trivial⟩ ?_
 · intro A B E G H; exact rP (y_move (kp (H 0 rfl) E q1))
 · intro A B E G H; exact rP (y_move (kp (H 1 rfl) E q2))
 · intro A B E G H d0 d1; exact rP (y_call #[A.eval (.tmp 5), A.eval (.tmp 6)] Tryd.func45 rfl rfl (by simp only [List.map_toArray, List.map_cons, List.map_nil]) (idxCall_fn (cs) (sc) (lc) _ _ _ (ed d0 rfl rfl rfl) (ed d1 rfl rfl rfl) ))
 · intro A B E G H d0; exact rP (y_geq (ed d0 rfl rfl rfl) rfl)
 · intro A B E G H d0 d1 d2 d3 d4 d5; exact rP (y_assign (ed d0 rfl rfl rfl))
 intro a2 s2 D2; have ok2 := D2.ok; have F2 := F1.step0 D2.stp; have q3 := D2.dn 4 rfl rfl; clear D2; refine tn ?_; refine wp_ret ?_
 exact retL1 rfl ok2 F2 (cvb (by (rw [decide_eq_decide]; exact indexL_iff)) q3)

theorem Tryd.inf24 : Info Tryd.prog 24 (.agg #[.string ByteArray.empty, .int .i64 0, .slice none 0 0]) 3 48 := by unfold Info; kernel_rfl
theorem Tryd.fld50_1 : fieldOf Tryd.prog 50 1 = some (22, 1) := by kernel_rfl
set_option maxHeartbeats 4000000 in
set_option maxRecDepth 100000 in
theorem callCheck_fn (nm : ByteArray) (n : Int) (l : List (List Int)) (cs : List BCall) (σ : GW)  (v0 v1 : Value) (hv0 : Ty.has (Ty.agg [(Ty.val (Value.string nm)), (Ty.int n), (Ty.lst Ty.ints l)]) σ v0) (hv1 : Ty.has (Ty.lstc 2 callC cs) σ v1)  (hnm : nm.size ≤ 1099511627776) (hn : -9223372036854775808 ≤ n ∧ n ≤ 9223372036854775807) :
    FnC Tryd.prog 8 #[v0, v1] σ (Ty.int (callsMay nm n l cs)) := by
 refine fn_intro0 Tryd.func8 rfl Tryd.ntmps8 (Nat.le_of_ble_eq_true rfl) (fun s0 a0 hle F0 ok0 hargs => ?_)
 have p0 : At (Ty.agg [(Ty.val (Value.string nm)), (Ty.int n), (Ty.lst Ty.ints l)]) s0 a0 (.tmp 0) := by have e := hargs 0 _ rfl; show Ty.has _ _ _; rw [e]; exact Ty.up _ hle hv0
 have p1 : At (Ty.lstc 2 callC cs) s0 a0 (.tmp 1) := by have e := hargs 1 _ rfl; show Ty.has _ _ _; rw [e]; exact Ty.up _ hle hv1
 have b1 := sl_le p1
 clear hargs; refine wp_seq ?_
 refine rg a0 s0 [(Ty.ref [(Ty.val (Value.string nm)), (Ty.int n), (Ty.lst Ty.ints l)]), (Ty.int (0 : Int))] ok0 ⟨?_, ?_, trivial⟩ ?_
 · intro A B E G H; exact rP (y_boxagg (kp (H 0 rfl) E p0))
 · intro A B E G H; exact rP (y_assign rfl)
 intro a1 s1 D1; have ok1 := D1.ok; have F1 := F0.step0 D1.stp; have q1 := D1.kt p1 rfl; have q2 := D1.dn 0 rfl rfl; clear D1; refine tn ?_; refine wp_seq ?_; refine wp_seq ?_
 refine rg a1 s1 [(Ty.agg [(Ty.val (Value.string nm)), (Ty.int n), (Ty.lst Ty.ints l)]), (Ty.int (methMay nm n l)), (Ty.int (methMay nm n l))] ok1 ⟨?_, ?_, ?_, trivial⟩ ?_
 · intro A B E G H; exact rP (y_loadagg Tryd.underlying24 Tryd.inf24 (kp (H 2 rfl) E q2))
 · intro A B E G H d0; exact rP (y_call #[A.eval (.tmp 11)] Tryd.func24 rfl rfl (by simp only [List.map_toArray, List.map_cons, List.map_nil]) (mCheck_fn (nm) (n) (l) _ _ (ed d0 rfl rfl rfl) (by first | omega | assumption) (by first | omega | assumption)))
 · intro A B E G H d0 d1 d2 d3; exact rP (y_assign (ed d0 rfl rfl rfl))
 intro a2 s2 D2; have ok2 := D2.ok; have F2 := F1.step0 D2.stp; have q3 := D2.kt q1 rfl; have q4 := D2.kt q2 rfl; have q5 := D2.dn 2 rfl rfl; clear D2; refine tn ?_; refine wp_seq ?_
 refine rg a2 s2 [(Ty.int (methMay nm n l)), (Ty.bool (decide ((methMay nm n l) ≠ (0 : Int))))] ok2 ⟨?_, ?_, trivial⟩ ?_
 · intro A B E G H; exact rP (y_move (kp (H 5 rfl) E q5))
 · intro A B E G H d0; exact rP (y_neq (ed d0 rfl rfl rfl) rfl)
 intro a3 s3 D3; have ok3 := D3.ok; have F3 := F2.step0 D3.stp; have q6 := D3.kt q3 rfl; have q7 := D3.kt q4 rfl; have q8 := D3.kt q5 rfl; have q9 := D3.dn 1 rfl rfl; clear D3; refine tn ?_
 refine cond_p (p := ((methMay nm n l) ≠ (0 : Int))) q9 (fun c1 => ?_) (fun c1 => ?_)
 ·
  have hm := callsMay_meth (cs := cs) c1
  refine wp_seq ?_
  refine rg a3 s3 [(Ty.int (methMay nm n l)), (Ty.int (methMay nm n l))] ok3 ⟨?_, ?_, trivial⟩ ?_
  · intro A B E G H; exact rP (y_move (kp (H 5 rfl) E q8))
  · intro A B E G H d0 d1; exact rP (y_assign (ed d0 rfl rfl rfl))
  intro a4 s4 D4; have ok4 := D4.ok; have F4 := F3.step0 D4.stp; have q10 := D4.dn 1 rfl rfl; clear D4; refine tn ?_; refine wp_ret ?_; refine tr ?_
  exact retL1 rfl ok4 F4 (cvi (by (exact hm.symm)) q10)
 ·
  refine wp_skip ?_; refine tn ?_; refine wp_seq ?_; refine wp_seq ?_
  refine rg a3 s3 [(Ty.lstc 2 callC cs), (Ty.nat (List.length cs)), (Ty.bool (decide ((((List.length cs) : Nat) : Int) < (1 : Int)))), (Ty.bool (decide ((((List.length cs) : Nat) : Int) < (1 : Int)))), (Ty.grd ((decide ((((List.length cs) : Nat) : Int) < (1 : Int))) = false) (Ty.lstc 2 callC cs)), (Ty.grd ((decide ((((List.length cs) : Nat) : Int) < (1 : Int))) = false) (Ty.nat (List.length cs))), (Ty.grd ((decide ((((List.length cs) : Nat) : Int) < (1 : Int))) = false) (Ty.bool (decide ((8 : Int) < (((List.length cs) : Nat) : Int))))), (Ty.bool ((decide ((((List.length cs) : Nat) : Int) < (1 : Int))) || (decide ((8 : Int) < (((List.length cs) : Nat) : Int)))))] ok3 ⟨?_, ?_, ?_, ?_, ?_, ?_, ?_, ?_, trivial⟩ ?_
  · intro A B E G H; exact rP (y_move (kp (H 1 rfl) E q6))
  · intro A B E G H d0; exact rP (y_len Tryd.underlying25 (ed d0 rfl rfl rfl))
  · intro A B E G H d0; exact rP (y_lss (ed d0 rfl rfl rfl) rfl)
  · intro A B E G H d0; exact rP (y_move (ed d0 rfl rfl rfl))
  · intro A B E G H d0
    refine run_guard G rfl rfl (by decide) (ed d0 rfl rfl rfl) (fun hg => ?_)
    have hp := of_decide_eq_false hg
    exact y_move (kp (H 1 rfl) E q6)
  · intro A B E G H d0 d1
    refine run_guard G rfl rfl (by decide) (ed d1 rfl rfl rfl) (fun hg => ?_)
    have hp := of_decide_eq_false hg
    exact y_len Tryd.underlying25 ((ed d0 rfl rfl rfl).1 hg)
  · intro A B E G H d0 d1
    refine run_guard G rfl rfl (by decide) (ed d1 rfl rfl rfl) (fun hg => ?_)
    have hp := of_decide_eq_false hg
    exact y_gtr ((ed d0 rfl rfl rfl).1 hg) rfl
  · intro A B E G H d0 d1; exact rP (y_pick_or (ed d0 rfl rfl rfl) rfl (ed d1 rfl rfl rfl))
  intro a5 s5 D5; have ok5 := D5.ok; have F5 := F3.step0 D5.stp; have q11 := D5.kt q6 rfl; have q12 := D5.kt q7 rfl; have q13 := D5.dn 7 rfl rfl; clear D5; refine tn ?_
  refine cond_t q13 (fun c2 => ?_) (fun c2 => ?_)
  ·
   simp only [Bool.or_eq_true, decide_eq_true_eq] at c2; have hm := callsMay_cnt (cs := cs) c1 (by omega)
   refine wp_seq ?_
   refine rg a5 s5 [(Ty.int (1 : Int))] ok5 ⟨?_, trivial⟩ ?_
   · intro A B E G H; exact rP (y_assign rfl)
   intro a6 s6 D6; have ok6 := D6.ok; have F6 := F5.step0 D6.stp; have q14 := D6.dn 0 rfl rfl; clear D6; refine tn ?_; refine wp_ret ?_; refine tr ?_
   exact retL1 rfl ok6 F6 (cvi (by (exact hm.symm)) q14)
  ·
   obtain ⟨d1, d2⟩ := Bool.or_eq_false_iff.mp c2
   replace d1 := of_decide_eq_false d1
   replace d2 := of_decide_eq_false d2
   have hx2 : ¬ (cs.length < 1 ∨ 8 < cs.length) := (by simp only [Bool.or_eq_false_iff, decide_eq_false_iff_not] at c2; omega); have hm := callsMay_all c1 hx2
   refine wp_skip ?_; refine tn ?_; refine wp_seq ?_; refine wp_seq ?_
   refine rg a5 s5 [(Ty.lstc 2 callC cs), (Ty.nat (List.length cs)), (Ty.int (0 : Int))] ok5 ⟨?_, ?_, ?_, trivial⟩ ?_
   · intro A B E G H; exact rP (y_move (kp (H 1 rfl) E q11))
   · intro A B E G H d0; exact rP (y_len Tryd.underlying25 (ed d0 rfl rfl rfl))
   · intro A B E G H; exact rP (y_move rfl)
   intro a7 s7 D7; have ok7 := D7.ok; have F7 := F5.step0 D7.stp; have q15 := D7.kt q11 rfl; have q16 := D7.kt q12 rfl; have q17 := D7.dn 0 rfl rfl; have q18 := D7.dn 1 rfl rfl; have q19 := D7.dn 2 rfl rfl; clear D7; refine tn ?_; refine wp_block ?_
   refine loop (fun n1 a8 w1 => ∃ (t1 : GW) (i : Nat), t1.w = w1 ∧ FromL [] s0 t1 ∧ Ok 66 a8 ∧ At (Ty.nat i) t1 a8 (.tmp 26) ∧ At (Ty.lstc 2 callC cs) t1 a8 (.tmp 1) ∧ At (Ty.ref [(Ty.val (Value.string nm)), (Ty.int n), (Ty.lst Ty.ints l)]) t1 a8 (.tmp 2) ∧ At (Ty.lstc 2 callC cs) t1 a8 (.tmp 24) ∧ At (Ty.nat (List.length cs)) t1 a8 (.tmp 25) ∧ (i ≤ cs.length) ∧ (callsTo n l.length ((cs.take i).map (·.1)) (cs.drop i) = callsTo n l.length [] cs) ∧ n1 = cs.length - i) (cs.length - (0)) ?_ ?_
   ·
    exact ⟨s7, 0, rfl, F7, ok7, (cvi (by (first | rfl | omega | (simp_all; done) | (simp_all; omega))) q19), q15, q16, q17, q18, by omega, rfl, rfl⟩
   ·
    rintro n2 a9 w2 ⟨t2, i, rfl, F8, ok8, q20, q21, q22, q23, q24, hi, hc, rfl⟩
    refine wp_seq ?_
    refine reg (a := a9) (σ := t2) rfl (fun i_ => List.getD [(Ty.pr (Ty.bool (decide (((i : Nat) : Int) < (((List.length cs) : Nat) : Int)))))] i_ Pr.any) ok8 rfl ⟨?_, trivial⟩ ?_
    · intro A B E G H; exact rP (y_lss (kp (H 26 rfl) E q20) (kp (H 25 rfl) E q24))
    intro a10 s8 D8; have ok9 := D8.ok; have F9 := F8.step0 D8.stp; have q25 := D8.kt q20 rfl; have q26 := D8.kt q21 rfl; have q27 := D8.kt q22 rfl; have q28 := D8.kt q23 rfl; have q29 := D8.kt q24 rfl; have q30 := D8.dn 0 rfl rfl; clear D8; refine tn ?_; refine wp_seq ?_
    refine cond_p (p := (((i : Nat) : Int) < (((List.length cs) : Nat) : Int))) q30 (fun c3 => ?_) (fun c3 => ?_)
    ·
     refine wp_skip ?_; refine tn ?_; refine wp_seq ?_; refine wp_block ?_; refine wp_seq ?_
     refine reg2 (a := a10) (σ := s8) rfl 5 (fun i_ => List.getD [(Ty.pr (Ty.nat i)), (Ty.pr (Ty.ref [(Ty.val (Value.int .i32 ((cs.getD i D0)).1)), (Ty.lst Ty.ints ((cs.getD i D0)).2)])), (Ty.pr (Ty.agg [(Ty.val (Value.int .i32 ((cs.getD i D0)).1)), (Ty.lst Ty.ints ((cs.getD i D0)).2)])), (Pr.ownp 5 [(Ty.val (Value.int .i32 0)), (Ty.val (Value.slice none 0 0))]), (Ty.pr (Ty.nat i))] i_ Pr.any) ok9 rfl (by decide) rfl ⟨?_, ?_, ?_, ?_, ?_, trivial⟩ ?_
     · intro A B E G H; exact rP (y_move (kp (H 26 rfl) E q25))
     · intro A B E G H; exact rP (y_indexc (i := ((i : Nat) : Int)) D0 Tryd.underlying25 Tryd.inf50 (kp (H 24 rfl) E q28) (kp (H 26 rfl) E q25) (by omega) (by omega) (by decide) (fun _ => rfl))
     · intro A B E G H d0; exact rP (y_loadagg Tryd.underlying50 Tryd.inf50 (ed d0 rfl rfl rfl))
     · intro A B E G H; exact rP (y_alloc Tryd.inf50 rfl (alloc_vals (vs := [.int .i32 0, .slice none 0 0]) rfl))
     · intro A B E G H d0 d1 d2 d3 d4; exact rP (y_assign (ed d0 rfl rfl rfl))
     intro a11 s9 D9; have ok10 := D9.ok; have F10 := F9.step0 D9.stp; have q31 := D9.kt q25 rfl; have q32 := D9.kt q26 rfl; have q33 := D9.kt q27 rfl; have q34 := D9.kt q28 rfl; have q35 := D9.kt q29 rfl; have q36 := D9.dn 2 (by decide) rfl rfl
     obtain ⟨x1, hx1⟩ : ∃ x, a11.eval (.tmp 7) = x := ⟨_, rfl⟩
     have q37 : At (Ty.val x1) s9 a11 (.tmp 7) := hx1
     have o1 : OwnP s9 5 x1 [(Ty.val (Value.int .i32 0)), (Ty.val (Value.slice none 0 0))] := al2 (R := (Pr.ownp 5 [(Ty.val (Value.int .i32 0)), (Ty.val (Value.slice none 0 0))])) hx1 (D9.done 3 (by decide))
     have q38 := D9.dn 4 (by decide) rfl rfl; clear D9
     refine tailL0 (L := [5]) (R := (fun _ τ => OwnP τ 5 x1 [(Ty.val (Value.int .i32 ((cs.getD i D0)).1)), (Ty.lst Ty.ints ((cs.getD i D0)).2)])) rfl rfl (YldM.toL (m_storeagg Tryd.inf50 (by decide) o1 q37 rfl q36 (by intro U hU; simp only [List.mem_cons, List.not_mem_nil, or_false] at hU; rcases hU with rfl | rfl <;> first | exact one_val rfl | exact one_sl | exact one_ref))) (fun v1 s10 hs1 r1 => ?_)
     have F11 := F10.stepL hs1 (by decide); have q39 := kpL hs1 (by decide) rfl q31; have q40 := kpL hs1 (by decide) rfl q32; have q41 := kpL hs1 (by decide) rfl q33; have q42 := kpL hs1 (by decide) rfl q34; have q43 := kpL hs1 (by decide) rfl q35; have q44 := kpL hs1 (by decide) rfl q37; have q45 := kpL hs1 (by decide) rfl q38
     have o2 : OwnP s10 5 x1 [(Ty.val (Value.int .i32 ((cs.getD i D0)).1)), (Ty.lst Ty.ints ((cs.getD i D0)).2)] := r1
     clear r1; refine wpList_nil ?_; refine tn ?_; refine wp_seq ?_; refine wp_block ?_; refine wp_seq ?_
     refine rg a11 s10 [(Ty.val (ptrAt x1 0)), (Ty.val (Value.int .i32 ((cs.getD i D0)).1)), (Ty.bool (signMay (((cs.getD i D0)).1))), (Ty.bool (!(signMay (((cs.getD i D0)).1)))), (Ty.bool (!(signMay (((cs.getD i D0)).1))))] ok10 ⟨?_, ?_, ?_, ?_, ?_, trivial⟩ ?_
     · intro A B E G H; exact rP (ownp_field Tryd.fld50_0 Tryd.inf21 (by decide) (OwnP.k0 o2 E) (kp (H 7 rfl) E q44))
     · intro A B E G H d0; exact rP (ownp_load Tryd.underlying21 rfl (OwnP.k0 o2 E) (ed d0 rfl rfl rfl) rfl)
     · intro A B E G H d0; exact rP (y_call #[A.eval (.tmp 33)] Tryd.func6 rfl rfl (by simp only [List.map_toArray, List.map_cons, List.map_nil]) (callSign_fn (((cs.getD i D0)).1) _ _ (cvi (σ := B) (by omega) (ed d0 rfl rfl rfl)) ))
     · intro A B E G H d0; exact rP (y_not (ed d0 rfl rfl rfl))
     · intro A B E G H d0 d1; exact rP (y_assign (ed d0 rfl rfl rfl))
     intro a12 s11 D10; have ok11 := D10.ok; have F12 := F11.step0 D10.stp; have q47 := D10.kt q39 rfl; have q48 := D10.kt q40 rfl; have q49 := D10.kt q41 rfl; have q50 := D10.kt q42 rfl; have q51 := D10.kt q43 rfl; have q52 := D10.kt q44 rfl; have q53 := D10.kt q45 rfl; have o3 := OwnP.k0 o2 D10.stp; have q54 := D10.dn 4 rfl rfl; clear D10; refine tn ?_
     refine cond_t q54 (fun c4 => ?_) (fun c4 => ?_)
     ·
      have hs4 : signMay (cs.getD i D0).1 = false := (by simpa using c4); have hv := calls_at hc (by omega) (step_sign hs4) (by decide)
      refine wp_seq ?_
      refine rg a12 s11 [(Ty.int (4 : Int))] ok11 ⟨?_, trivial⟩ ?_
      · intro A B E G H; exact rP (y_assign rfl)
      intro a13 s12 D11; have ok12 := D11.ok; have F13 := F12.step0 D11.stp; have o4 := OwnP.k0 o3 D11.stp; have q55 := D11.dn 0 rfl rfl; clear D11; refine tn ?_; refine wp_ret ?_; refine br ?_; refine tr ?_; refine br ?_; refine tr ?_; refine tr ?_; refine br ?_; refine tr ?_
      exact retL1 rfl ok12 F13 (cvi (by (rw [hm]; exact hv.symm)) q55)
     ·
      have hs4 : signMay (cs.getD i D0).1 = true := (by simpa using c4)
      refine wp_seq ?_
      obtain ⟨t3, e1, h1, q56⟩ := OwnP.seal o3 (by decide)
      rw [← e1]
      have F14 := F12.step h1 (by decide); have q57 := Ty.up (Ty.nat i) (h1.le (by decide)) q47; have q58 := Ty.up (Ty.lstc 2 callC cs) (h1.le (by decide)) q48; have q59 := Ty.up (Ty.ref [(Ty.val (Value.string nm)), (Ty.int n), (Ty.lst Ty.ints l)]) (h1.le (by decide)) q49; have q60 := Ty.up (Ty.lstc 2 callC cs) (h1.le (by decide)) q50; have q61 := Ty.up (Ty.nat (List.length cs)) (h1.le (by decide)) q51
      have q62 : At (Ty.ref [(Ty.val (Value.int .i32 ((cs.getD i D0)).1)), (Ty.lst Ty.ints ((cs.getD i D0)).2)]) t3 a12 (.tmp 7) := by have e : a12.eval (.tmp 7) = x1 := q52; show Ty.has _ _ _; rw [e]; exact q56
      have q63 := Ty.up (Ty.nat i) (h1.le (by decide)) q53; have q64 := Ty.up (Ty.bool (!(signMay (((cs.getD i D0)).1)))) (h1.le (by decide)) q54
      refine reg (a := a12) (σ := t3) rfl (fun i_ => List.getD [(Ty.pr (Ty.lstc 2 callC cs)), (Ty.pr (Ty.nat i)), (Ty.pr (Ty.lstc 2 callC (cs.take i))), (Ty.pr (Ty.clo 26 [(Ty.val (Value.int .i32 ((cs.getD i D0)).1)), (Ty.lst Ty.ints ((cs.getD i D0)).2)])), (Ty.pr (Ty.bool (decide ((((cs.getD i D0)).1) ∈ ((cs.take i)).map (·.1))))), (Ty.pr (Ty.bool (decide ((((cs.getD i D0)).1) ∈ ((cs.take i)).map (·.1)))))] i_ Pr.any) ok11 rfl ⟨?_, ?_, ?_, ?_, ?_, ?_, trivial⟩ ?_
      · intro A B E G H; exact rP (y_move (kp (H 1 rfl) E q58))
      · intro A B E G H; exact rP (y_move (kp (H 6 rfl) E q63))
      · intro A B E G H d0 d1; exact rP (y_takec Tryd.underlying25 Tryd.inf50 (ed d0 rfl rfl rfl) (ed d1 rfl rfl rfl) (by omega) (fun _ => rfl))
      · intro A B E G H; exact rP (y_clo (kp (H 7 rfl) E q62))
      · intro A B E G H d0 d1; exact rP (y_call #[A.eval (.tmp 39), A.eval (.tmp 40)] Tryd.func25 rfl rfl (by simp only [List.map_toArray, List.map_cons, List.map_nil]) (hasCall_fn ((cs.take i)) (((cs.getD i D0)).1) (((cs.getD i D0)).2) _ _ _ (ed d0 rfl rfl rfl) (ed d1 rfl rfl rfl) ))
      · intro A B E G H d0 d1; exact rP (y_assign (ed d0 rfl rfl rfl))
      intro a14 s13 D12; have ok13 := D12.ok; have F15 := F14.step0 D12.stp; have q65 := D12.kt q57 rfl; have q66 := D12.kt q58 rfl; have q67 := D12.kt q59 rfl; have q68 := D12.kt q60 rfl; have q69 := D12.kt q61 rfl; have q70 := D12.kt q62 rfl; have q71 := D12.dn 5 rfl rfl; clear D12; refine tn ?_
      refine cond_t q71 (fun c5 => ?_) (fun c5 => ?_)
      ·
       have hs5 : (cs.getD i D0).1 ∈ ((cs.take i).map (·.1)) := (by simpa using c5); have hv := calls_at hc (by omega) (step_dbl hs4 hs5) (by decide)
       refine wp_seq ?_
       refine rg a14 s13 [(Ty.int (8 : Int))] ok13 ⟨?_, trivial⟩ ?_
       · intro A B E G H; exact rP (y_assign rfl)
       intro a15 s14 D13; have ok14 := D13.ok; have F16 := F15.step0 D13.stp; have q72 := D13.dn 0 rfl rfl; clear D13; refine tn ?_; refine wp_ret ?_; refine br ?_; refine tr ?_; refine br ?_; refine tr ?_; refine tr ?_; refine br ?_; refine tr ?_
       exact retL1 rfl ok14 F16 (cvi (by (rw [hm]; exact hv.symm)) q72)
      ·
       have hs5 : (cs.getD i D0).1 ∉ ((cs.take i).map (·.1)) := (by simpa using c5)
       refine wp_seq ?_
       refine rg a14 s13 [(Ty.ref [(Ty.lst Ty.ints ((cs.getD i D0)).2)]), (Ty.lst Ty.ints ((cs.getD i D0)).2), (Ty.nat (List.length ((cs.getD i D0)).2)), (Ty.ref [(Ty.lst Ty.ints l)]), (Ty.lst Ty.ints l), (Ty.nat (List.length l)), (Ty.bool (decide ((((List.length l) : Nat) : Int) < (((List.length ((cs.getD i D0)).2) : Nat) : Int)))), (Ty.bool (decide ((((List.length l) : Nat) : Int) < (((List.length ((cs.getD i D0)).2) : Nat) : Int))))] ok13 ⟨?_, ?_, ?_, ?_, ?_, ?_, ?_, ?_, trivial⟩ ?_
       · intro A B E G H; exact rP (y_field Tryd.fld50_1 Tryd.inf22 (by decide) (kp (H 7 rfl) E q70) rfl)
       · intro A B E G H d0; exact rP (y_load Tryd.underlying22 rfl (ed d0 rfl rfl rfl) rfl)
       · intro A B E G H d0; exact rP (y_len Tryd.underlying22 (ed d0 rfl rfl rfl))
       · intro A B E G H; exact rP (y_field Tryd.fld24_2 Tryd.inf22 (by decide) (kp (H 2 rfl) E q67) rfl)
       · intro A B E G H d0; exact rP (y_load Tryd.underlying22 rfl (ed d0 rfl rfl rfl) rfl)
       · intro A B E G H d0; exact rP (y_len Tryd.underlying22 (ed d0 rfl rfl rfl))
       · intro A B E G H d0 d1; exact rP (y_gtr (ed d0 rfl rfl rfl) (ed d1 rfl rfl rfl))
       · intro A B E G H d0; exact rP (y_assign (ed d0 rfl rfl rfl))
       intro a16 s15 D14; have ok15 := D14.ok; have F17 := F15.step0 D14.stp; have q73 := D14.kt q65 rfl; have q74 := D14.kt q66 rfl; have q75 := D14.kt q67 rfl; have q76 := D14.kt q68 rfl; have q77 := D14.kt q69 rfl; have q78 := D14.kt q70 rfl; have q79 := D14.dn 7 rfl rfl; clear D14; refine tn ?_
       refine cond_p (p := ((((List.length l) : Nat) : Int) < (((List.length ((cs.getD i D0)).2) : Nat) : Int))) q79 (fun c6 => ?_) (fun c6 => ?_)
       ·
        have hs6 : l.length < (cs.getD i D0).2.length := (by omega); have hv := calls_at hc (by omega) (step_long hs4 hs5 hs6) (by decide)
        refine wp_seq ?_
        refine rg a16 s15 [(Ty.int (1 : Int))] ok15 ⟨?_, trivial⟩ ?_
        · intro A B E G H; exact rP (y_assign rfl)
        intro a17 s16 D15; have ok16 := D15.ok; have F18 := F17.step0 D15.stp; have q80 := D15.dn 0 rfl rfl; clear D15; refine tn ?_; refine wp_ret ?_; refine br ?_; refine tr ?_; refine br ?_; refine tr ?_; refine tr ?_; refine br ?_; refine tr ?_
        exact retL1 rfl ok16 F18 (cvi (by (rw [hm]; exact hv.symm)) q80)
       ·
        have hs6 : ¬ l.length < (cs.getD i D0).2.length := (by omega)
        refine wp_skip ?_; refine bn ?_; refine tn ?_; refine wp_seq ?_
        refine rg a16 s15 [(Ty.ref [(Ty.lst Ty.ints ((cs.getD i D0)).2)]), (Ty.lst Ty.ints ((cs.getD i D0)).2), (Ty.nat (List.length ((cs.getD i D0)).2)), (Ty.int (0 : Int))] ok15 ⟨?_, ?_, ?_, ?_, trivial⟩ ?_
        · intro A B E G H; exact rP (y_field Tryd.fld50_1 Tryd.inf22 (by decide) (kp (H 7 rfl) E q78) rfl)
        · intro A B E G H d0; exact rP (y_load Tryd.underlying22 rfl (ed d0 rfl rfl rfl) rfl)
        · intro A B E G H d0; exact rP (y_len Tryd.underlying22 (ed d0 rfl rfl rfl))
        · intro A B E G H; exact rP (y_move rfl)
        intro a18 s17 D16; have ok17 := D16.ok; have F19 := F17.step0 D16.stp; have q81 := D16.kt q73 rfl; have q82 := D16.kt q74 rfl; have q83 := D16.kt q75 rfl; have q84 := D16.kt q76 rfl; have q85 := D16.kt q77 rfl; have q86 := D16.dn 1 rfl rfl
        have b2 := sl_le q86
        have q87 := D16.dn 2 rfl rfl; have q88 := D16.dn 3 rfl rfl; clear D16; refine tn ?_; refine wp_block ?_
        refine loop (fun n3 a19 w3 => ∃ (t4 : GW) (k : Nat), t4.w = w3 ∧ FromL [] s0 t4 ∧ Ok 66 a19 ∧ At (Ty.nat k) t4 a19 (.tmp 53) ∧ At (Ty.nat i) t4 a19 (.tmp 26) ∧ At (Ty.lstc 2 callC cs) t4 a19 (.tmp 1) ∧ At (Ty.ref [(Ty.val (Value.string nm)), (Ty.int n), (Ty.lst Ty.ints l)]) t4 a19 (.tmp 2) ∧ At (Ty.lstc 2 callC cs) t4 a19 (.tmp 24) ∧ At (Ty.nat (List.length cs)) t4 a19 (.tmp 25) ∧ At (Ty.lst Ty.ints ((cs.getD i D0)).2) t4 a19 (.tmp 51) ∧ At (Ty.nat (List.length ((cs.getD i D0)).2)) t4 a19 (.tmp 52) ∧ (k ≤ (cs.getD i D0).2.length) ∧ (allMay n ((cs.getD i D0).2.drop k) = allMay n (cs.getD i D0).2) ∧ n3 = (cs.getD i D0).2.length - k) ((cs.getD i D0).2.length - (0)) ?_ ?_
        ·
         exact ⟨s17, 0, rfl, F19, ok17, (cvi (by (first | rfl | omega | (simp_all; done) | (simp_all; omega))) q88), q81, q82, q83, q84, q85, q86, q87, by omega, rfl, rfl⟩
        ·
         rintro n4 a20 w4 ⟨t5, k, rfl, F20, ok18, q89, q90, q91, q92, q93, q94, q95, q96, hk, ha, rfl⟩
         refine wp_seq ?_
         refine reg (a := a20) (σ := t5) rfl (fun i_ => List.getD [(Ty.pr (Ty.bool (decide (((k : Nat) : Int) < (((List.length ((cs.getD i D0)).2) : Nat) : Int)))))] i_ Pr.any) ok18 rfl ⟨?_, trivial⟩ ?_
         · intro A B E G H; exact rP (y_lss (kp (H 53 rfl) E q89) (kp (H 52 rfl) E q96))
         intro a21 s18 D17; have ok19 := D17.ok; have F21 := F20.step0 D17.stp; have q97 := D17.kt q89 rfl; have q98 := D17.kt q90 rfl; have q99 := D17.kt q91 rfl; have q100 := D17.kt q92 rfl; have q101 := D17.kt q93 rfl; have q102 := D17.kt q94 rfl; have q103 := D17.kt q95 rfl; have q104 := D17.kt q96 rfl; have q105 := D17.dn 0 rfl rfl; clear D17; refine tn ?_; refine wp_seq ?_
         refine cond_p (p := (((k : Nat) : Int) < (((List.length ((cs.getD i D0)).2) : Nat) : Int))) q105 (fun c7 => ?_) (fun c7 => ?_)
         ·
          refine wp_skip ?_; refine tn ?_; refine wp_seq ?_; refine wp_block ?_; refine wp_seq ?_
          refine rg a21 s18 [(Ty.ref [(Ty.lst Ty.int (((cs.getD i D0)).2.getD k []))]), (Ty.lst Ty.int (((cs.getD i D0)).2.getD k [])), (Ty.lst Ty.int (((cs.getD i D0)).2.getD k []))] ok19 ⟨?_, ?_, ?_, trivial⟩ ?_
          · intro A B E G H; exact rP (y_index1 Tryd.underlying22 Tryd.inf26 (kp (H 51 rfl) E q103) (kp (H 53 rfl) E q97) (by omega) (lst_get Ty.ints ((cs.getD i D0)).2 [] k (by omega)))
          · intro A B E G H d0; exact rP (y_load Tryd.underlying26 rfl (ed d0 rfl rfl rfl) rfl)
          · intro A B E G H d0 d1 d2; exact rP (y_assign (ed d0 rfl rfl rfl))
          intro a22 s19 D18; have ok20 := D18.ok; have F22 := F21.step0 D18.stp; have q106 := D18.kt q97 rfl; have q107 := D18.kt q98 rfl; have q108 := D18.kt q99 rfl; have q109 := D18.kt q100 rfl; have q110 := D18.kt q101 rfl; have q111 := D18.kt q102 rfl; have q112 := D18.kt q103 rfl; have q113 := D18.kt q104 rfl; have q114 := D18.dn 2 rfl rfl; clear D18; refine tn ?_; refine wp_seq ?_
          refine rg a22 s19 [(Ty.ref [(Ty.int n), (Ty.lst Ty.ints l)]), (Ty.int n), (Ty.lst Ty.int (((cs.getD i D0)).2.getD k [])), (Ty.int (chgMay n ((((cs.getD i D0)).2.getD k [])))), (Ty.int (chgMay n ((((cs.getD i D0)).2.getD k []))))] ok20 ⟨?_, ?_, ?_, ?_, ?_, trivial⟩ ?_
          · intro A B E G H; exact rP (y_field Tryd.fld24_1 Tryd.inf3 (by decide) (kp (H 2 rfl) E q109) rfl)
          · intro A B E G H d0; exact rP (y_load Tryd.underlying3 rfl (ed d0 rfl rfl rfl) rfl)
          · intro A B E G H; exact rP (y_move (kp (H 9 rfl) E q114))
          · intro A B E G H d0 d1; exact rP (y_call #[A.eval (.tmp 58), A.eval (.tmp 59)] Tryd.func27 rfl rfl (by simp only [List.map_toArray, List.map_cons, List.map_nil]) (pCheck_fn (n) ((((cs.getD i D0)).2.getD k [])) _ _ _ (ed d0 rfl rfl rfl) (ed d1 rfl rfl rfl) (by omega)))
          · intro A B E G H d0 d1 d2 d3 d4 d5; exact rP (y_assign (ed d0 rfl rfl rfl))
          intro a23 s20 D19; have ok21 := D19.ok; have F23 := F22.step0 D19.stp; have q115 := D19.kt q106 rfl; have q116 := D19.kt q107 rfl; have q117 := D19.kt q108 rfl; have q118 := D19.kt q109 rfl; have q119 := D19.kt q110 rfl; have q120 := D19.kt q111 rfl; have q121 := D19.kt q112 rfl; have q122 := D19.kt q113 rfl; have q123 := D19.dn 4 rfl rfl; clear D19; refine tn ?_; refine wp_seq ?_
          refine rg a23 s20 [(Ty.int (chgMay n ((((cs.getD i D0)).2.getD k [])))), (Ty.bool (decide ((chgMay n ((((cs.getD i D0)).2.getD k []))) ≠ (0 : Int))))] ok21 ⟨?_, ?_, trivial⟩ ?_
          · intro A B E G H; exact rP (y_move (kp (H 10 rfl) E q123))
          · intro A B E G H d0; exact rP (y_neq (ed d0 rfl rfl rfl) rfl)
          intro a24 s21 D20; have ok22 := D20.ok; have F24 := F23.step0 D20.stp; have q124 := D20.kt q115 rfl; have q125 := D20.kt q116 rfl; have q126 := D20.kt q117 rfl; have q127 := D20.kt q118 rfl; have q128 := D20.kt q119 rfl; have q129 := D20.kt q120 rfl; have q130 := D20.kt q121 rfl; have q131 := D20.kt q122 rfl; have q132 := D20.kt q123 rfl; have q133 := D20.dn 1 rfl rfl; clear D20; refine tn ?_
          refine cond_p (p := ((chgMay n ((((cs.getD i D0)).2.getD k []))) ≠ (0 : Int))) q133 (fun c8 => ?_) (fun c8 => ?_)
          ·
           have hae := allMay_stop ha (by omega) c8; have hv := calls_at hc (by omega) ((step_all hs4 hs5 hs6).trans hae) c8
           refine wp_seq ?_
           refine rg a24 s21 [(Ty.int (chgMay n ((((cs.getD i D0)).2.getD k [])))), (Ty.int (chgMay n ((((cs.getD i D0)).2.getD k []))))] ok22 ⟨?_, ?_, trivial⟩ ?_
           · intro A B E G H; exact rP (y_move (kp (H 10 rfl) E q132))
           · intro A B E G H d0 d1; exact rP (y_assign (ed d0 rfl rfl rfl))
           intro a25 s22 D21; have ok23 := D21.ok; have F25 := F24.step0 D21.stp; have q134 := D21.dn 1 rfl rfl; clear D21; refine tn ?_; refine wp_ret ?_; refine br ?_; refine tr ?_; refine tr ?_; refine br ?_; refine br ?_; refine tr ?_; refine tr ?_; refine br ?_; refine tr ?_
           exact retL1 rfl ok23 F25 (cvi (by (rw [hm]; exact hv.symm)) q134)
          ·
           refine wp_skip ?_; refine bn ?_; refine tn ?_
           refine rg a24 s21 [(Ty.nat (k + 1)), (Ty.nat (k + 1))] ok22 ⟨?_, ?_, trivial⟩ ?_
           · intro A B E G H; exact rP ((y_add (kp (H 53 rfl) E q124) rfl (w64 (by omega) (by omega))).mono (fun τ _ h => cvi (σ := τ) (by first | omega | exact (Int.natCast_mul _ _).symm) h))
           · intro A B E G H d0; exact rP (y_move (ed d0 rfl rfl rfl))
           intro a26 s23 D22; have ok24 := D22.ok; have F26 := F24.step0 D22.stp; have q135 := D22.kt q125 rfl; have q136 := D22.kt q126 rfl; have q137 := D22.kt q127 rfl; have q138 := D22.kt q128 rfl; have q139 := D22.kt q129 rfl; have q140 := D22.kt q130 rfl; have q141 := D22.kt q131 rfl; have q142 := D22.dn 1 rfl rfl; clear D22
           exact tn ⟨(cs.getD i D0).2.length - ((k+1)), by omega, s23, (k+1), rfl, F26, ok24, (cvi (by (first | rfl | omega | (simp_all; done) | (simp_all; omega))) q142), q135, q136, q137, q138, q139, q140, q141, by omega, allMay_step ha (by omega) (by assumption), rfl⟩
         ·
          have ha0 := allMay_end ha (by omega)
          refine wp_exit ?_; refine tx ?_; refine tx ?_; refine bx ?_; refine bn ?_; refine tn ?_
          refine rg a21 s18 [(Ty.nat (i + 1)), (Ty.nat (i + 1))] ok19 ⟨?_, ?_, trivial⟩ ?_
          · intro A B E G H; exact rP ((y_add (kp (H 26 rfl) E q98) rfl (w64 (by omega) (by omega))).mono (fun τ _ h => cvi (σ := τ) (by first | omega | exact (Int.natCast_mul _ _).symm) h))
          · intro A B E G H d0; exact rP (y_move (ed d0 rfl rfl rfl))
          intro a27 s24 D23; have ok25 := D23.ok; have F27 := F21.step0 D23.stp; have q143 := D23.kt q99 rfl; have q144 := D23.kt q100 rfl; have q145 := D23.kt q101 rfl; have q146 := D23.kt q102 rfl; have q147 := D23.dn 1 rfl rfl; clear D23
          exact tn ⟨cs.length - ((i+1)), by omega, s24, (i+1), rfl, F27, ok25, (cvi (by (first | rfl | omega | (simp_all; done) | (simp_all; omega))) q147), q143, q144, q145, q146, by omega, calls_step hc (by omega) (by rw [step_all hs4 hs5 hs6]; exact ha0), rfl⟩
    ·
     refine wp_exit ?_; refine tx ?_; refine tx ?_; refine bx ?_; refine tn ?_; refine wp_seq ?_
     refine rg a10 s8 [(Ty.int (0 : Int))] ok9 ⟨?_, trivial⟩ ?_
     · intro A B E G H; exact rP (y_assign rfl)
     intro a28 s25 D24; have ok26 := D24.ok; have F28 := F9.step0 D24.stp; have q148 := D24.dn 0 rfl rfl; clear D24; refine tn ?_; refine wp_ret ?_
     exact retL1 rfl ok26 F28 (cvi (by (rw [hm]; exact (calls_end hc (by omega)).symm)) q148)


set_option maxHeartbeats 4000000 in
set_option maxRecDepth 100000 in
theorem rRuneAt_fn (s : ByteArray) (σ : GW)  (v0 : Value) (hv0 : Ty.has (Ty.val (Value.string s)) σ v0)  (E : 1 ≤ s.size) :
    FnC Tryd.prog 71 #[v0] σ (Ty.tup2 (Ty.int (runM s 0)) (Ty.nat (wid s 0))) := by
 have hb256 := UInt8.toNat_lt (s.get! 0)
 have hb257 := UInt8.toNat_lt (s.get! ((0 : Int)).toNat)
 have hnb := nb_bd ((s.get! 0).toNat)
 refine fn_intro0 Tryd.func71 rfl Tryd.ntmps71 (Nat.le_of_ble_eq_true rfl) (fun s0 a0 hle F0 ok0 hargs => ?_)
 have p0 : At (Ty.val (Value.string s)) s0 a0 (.tmp 0) := by have e := hargs 0 _ rfl; show Ty.has _ _ _; rw [e]; exact Ty.up _ hle hv0
 clear hargs; refine wp_seq ?_
 refine rg a0 s0 [(Ty.int (0 : Int)), (Ty.int (0 : Int))] ok0 ⟨?_, ?_, trivial⟩ ?_
 · intro A B E G H; exact rP (y_assign rfl)
 · intro A B E G H d0; exact rP (y_assign rfl)
 intro a1 s1 D1; have ok1 := D1.ok; have F1 := F0.step0 D1.stp; have q1 := D1.kt p0 rfl; clear D1; refine tn ?_; refine wp_seq ?_
 refine rg a1 s1 [(Ty.val (Value.string s)), (Ty.val (Value.int .u8 (((s.get! ((0 : Int)).toNat).toNat : Nat) : Int))), (Ty.nat (s.get! ((0 : Int)).toNat).toNat), (Ty.nat (s.get! ((0 : Int)).toNat).toNat)] ok1 ⟨?_, ?_, ?_, ?_, trivial⟩ ?_
 · intro A B E G H; exact rP (y_move (kp (H 0 rfl) E q1))
 · intro A B E G H d0; exact rP (y_sindex Tryd.underlying9 (ed d0 rfl rfl rfl) rfl (by omega) (by omega))
 · intro A B E G H d0; exact rP (y_conv Tryd.underlying3 (ed d0 rfl rfl rfl) (by exact w64 (by omega) (by omega)) (by rw [Tryd.underlying5]; rfl))
 · intro A B E G H d0 d1 d2 d3; exact rP (y_assign (ed d0 rfl rfl rfl))
 intro a2 s2 D2; have ok2 := D2.ok; have F2 := F1.step0 D2.stp; have q2 := D2.kt q1 rfl; have q3 := D2.dn 3 rfl rfl; clear D2
 have q4 : At (Ty.nat ((s.get! 0).toNat)) s2 a2 (.tmp 4) := (cvi (by (rfl)) q3)
 refine tn ?_; refine wp_seq ?_; refine wp_seq ?_
 refine rg a2 s2 [(Ty.nat ((s.get! 0).toNat)), (Ty.bool (decide (((((s.get! 0).toNat) : Nat) : Int) < (128 : Int))))] ok2 ⟨?_, ?_, trivial⟩ ?_
 · intro A B E G H; exact rP (y_move (kp (H 4 rfl) E q4))
 · intro A B E G H d0; exact rP (y_lss (ed d0 rfl rfl rfl) rfl)
 intro a3 s3 D3; have ok3 := D3.ok; have F3 := F2.step0 D3.stp; have q5 := D3.kt q2 rfl; have q6 := D3.kt q4 rfl; have q7 := D3.dn 1 rfl rfl; clear D3; refine tn ?_
 refine cond_p (p := (((((s.get! 0).toNat) : Nat) : Int) < (128 : Int))) q7 (fun c1 => ?_) (fun c1 => ?_)
 ·
  refine wp_seq ?_
  refine rg a3 s3 [(Ty.nat ((s.get! 0).toNat)), (Ty.nat ((s.get! 0).toNat)), (Ty.int (1 : Int))] ok3 ⟨?_, ?_, ?_, trivial⟩ ?_
  · intro A B E G H; exact rP (y_move (kp (H 4 rfl) E q6))
  · intro A B E G H d0 d1; exact rP (y_assign (ed d0 rfl rfl rfl))
  · intro A B E G H d0 d1 d2; exact rP (y_assign rfl)
  intro a4 s4 D4; have ok4 := D4.ok; have F4 := F3.step0 D4.stp; have q8 := D4.dn 1 rfl rfl; have q9 := D4.dn 2 rfl rfl; clear D4; refine tn ?_; refine wp_ret ?_; refine tr ?_
  exact retL2 rfl ok4 F4 (hasT2 (cvi (by (exact (rn_low (by omega)).1.symm)) q8) (cvi (by (have := (rn_low (s := s) (by omega)).2; omega)) q9))
 ·
  refine wp_skip ?_; refine tn ?_; refine wp_seq ?_
  refine rg a3 s3 [(Ty.int (0 : Int))] ok3 ⟨?_, trivial⟩ ?_
  · intro A B E G H; exact rP (y_assign rfl)
  intro a5 s5 D5; have ok5 := D5.ok; have F5 := F3.step0 D5.stp; have q10 := D5.kt q5 rfl; have q11 := D5.kt q6 rfl; have q12 := D5.dn 0 rfl rfl; clear D5; refine tn ?_; refine wp_seq ?_
  refine rg a5 s5 [(Ty.int (0 : Int))] ok5 ⟨?_, trivial⟩ ?_
  · intro A B E G H; exact rP (y_assign rfl)
  intro a6 s6 D6; have ok6 := D6.ok; have F6 := F5.step0 D6.stp; have q13 := D6.kt q10 rfl; have q14 := D6.kt q11 rfl; have q15 := D6.kt q12 rfl; have q16 := D6.dn 0 rfl rfl; clear D6; refine tn ?_; refine wp_seq ?_; refine wp_seq ?_
  refine rg a6 s6 [(Ty.nat ((s.get! 0).toNat)), (Ty.bool (decide ((194 : Int) ≤ ((((s.get! 0).toNat) : Nat) : Int)))), (Ty.bool (decide ((194 : Int) ≤ ((((s.get! 0).toNat) : Nat) : Int)))), (Ty.grd ((decide ((194 : Int) ≤ ((((s.get! 0).toNat) : Nat) : Int))) = true) (Ty.nat ((s.get! 0).toNat))), (Ty.grd ((decide ((194 : Int) ≤ ((((s.get! 0).toNat) : Nat) : Int))) = true) (Ty.bool (decide (((((s.get! 0).toNat) : Nat) : Int) < (224 : Int))))), (Ty.bool ((decide ((194 : Int) ≤ ((((s.get! 0).toNat) : Nat) : Int))) && (decide (((((s.get! 0).toNat) : Nat) : Int) < (224 : Int)))))] ok6 ⟨?_, ?_, ?_, ?_, ?_, ?_, trivial⟩ ?_
  · intro A B E G H; exact rP (y_move (kp (H 4 rfl) E q14))
  · intro A B E G H d0; exact rP (y_geq (ed d0 rfl rfl rfl) rfl)
  · intro A B E G H d0; exact rP (y_move (ed d0 rfl rfl rfl))
  · intro A B E G H d0
    refine run_guard G rfl rfl (by decide) (ed d0 rfl rfl rfl) (fun hg => ?_)
    have hp := of_decide_eq_true hg
    exact y_move (kp (H 4 rfl) E q14)
  · intro A B E G H d0 d1
    refine run_guard G rfl rfl (by decide) (ed d1 rfl rfl rfl) (fun hg => ?_)
    have hp := of_decide_eq_true hg
    exact y_lss ((ed d0 rfl rfl rfl).1 hg) rfl
  · intro A B E G H d0 d1; exact rP (y_pick_and (ed d0 rfl rfl rfl) (ed d1 rfl rfl rfl) rfl)
  intro a7 s7 D7; have ok7 := D7.ok; have F7 := F6.step0 D7.stp; have q17 := D7.kt q13 rfl; have q18 := D7.kt q14 rfl; have q19 := D7.kt q15 rfl; have q20 := D7.kt q16 rfl; have q21 := D7.dn 5 rfl rfl; clear D7; refine tn ?_
  refine Go.KL.join_then (Q' := fun a8 w1 => ∃ (t1 : GW), t1.w = w1 ∧ FromL [] s0 t1 ∧ Ok 86 a8 ∧ At (Ty.nat (nB ((s.get! 0).toNat))) t1 a8 (.tmp 5) ∧ At (Ty.nat (cB ((s.get! 0).toNat))) t1 a8 (.tmp 4) ∧ At (Ty.nat (lowB ((s.get! 0).toNat))) t1 a8 (.tmp 6) ∧ At (Ty.val (Value.string s)) t1 a8 (.tmp 0) ∧ True) ?_ ?_
  ·
   refine cond_t q21 (fun c2 => ?_) (fun c2 => ?_)
   ·
    obtain ⟨d1, d2⟩ := Bool.and_eq_true_iff.mp c2
    replace d1 := of_decide_eq_true d1
    replace d2 := of_decide_eq_true d2
    simp only [Bool.and_eq_true, decide_eq_true_eq] at c2; obtain ⟨n1, n2, n3⟩ := nb2 (b := ((s.get! 0).toNat)) (by omega)
    refine wp_seq ?_
    refine rg a7 s7 [(Ty.int (2 : Int))] ok7 ⟨?_, trivial⟩ ?_
    · intro A B E G H; exact rP (y_assign rfl)
    intro a9 s8 D8; have ok8 := D8.ok; have F8 := F7.step0 D8.stp; have q22 := D8.kt q17 rfl; have q23 := D8.kt q18 rfl; have q24 := D8.dn 0 rfl rfl; clear D8; refine tn ?_; refine wp_seq ?_
    refine rg a9 s8 [(Ty.nat ((s.get! 0).toNat)), (Ty.int (((((s.get! 0).toNat) : Nat) : Int) - (192 : Int))), (Ty.int (((((s.get! 0).toNat) : Nat) : Int) - (192 : Int)))] ok8 ⟨?_, ?_, ?_, trivial⟩ ?_
    · intro A B E G H; exact rP (y_move (kp (H 4 rfl) E q23))
    · intro A B E G H d0; exact rP (y_sub (ed d0 rfl rfl rfl) rfl (w64 (by omega) (by omega)))
    · intro A B E G H d0 d1 d2; exact rP (y_assign (ed d0 rfl rfl rfl))
    intro a10 s9 D9; have ok9 := D9.ok; have F9 := F8.step0 D9.stp; have q25 := D9.kt q22 rfl; have q26 := D9.kt q24 rfl; have q27 := D9.dn 2 rfl rfl; clear D9; refine tn ?_
    refine rg a10 s9 [(Ty.int (128 : Int))] ok9 ⟨?_, trivial⟩ ?_
    · intro A B E G H; exact rP (y_assign rfl)
    intro a11 s10 D10; have ok10 := D10.ok; have F10 := F9.step0 D10.stp; have q28 := D10.kt q25 rfl; have q29 := D10.kt q26 rfl; have q30 := D10.kt q27 rfl; have q31 := D10.dn 0 rfl rfl; clear D10
    exact tn ⟨s10, rfl, F10, ok10, (cvi (by (first | rfl | omega | (simp_all; done) | (simp_all; omega))) q29), (cvi (by (first | rfl | omega | (simp_all; done) | (simp_all; omega))) q30), (cvi (by (first | rfl | omega | (simp_all; done) | (simp_all; omega))) q31), q28, trivial⟩
   ·
    simp only [Bool.and_eq_false_iff, decide_eq_false_iff_not] at c2; have k1 : ¬ (194 ≤ ((s.get! 0).toNat) ∧ ((s.get! 0).toNat) < 224) := (by omega)
    refine wp_seq ?_
    refine rg a7 s7 [(Ty.nat ((s.get! 0).toNat)), (Ty.bool (decide ((224 : Int) ≤ ((((s.get! 0).toNat) : Nat) : Int)))), (Ty.bool (decide ((224 : Int) ≤ ((((s.get! 0).toNat) : Nat) : Int)))), (Ty.grd ((decide ((224 : Int) ≤ ((((s.get! 0).toNat) : Nat) : Int))) = true) (Ty.nat ((s.get! 0).toNat))), (Ty.grd ((decide ((224 : Int) ≤ ((((s.get! 0).toNat) : Nat) : Int))) = true) (Ty.bool (decide (((((s.get! 0).toNat) : Nat) : Int) < (240 : Int))))), (Ty.bool ((decide ((224 : Int) ≤ ((((s.get! 0).toNat) : Nat) : Int))) && (decide (((((s.get! 0).toNat) : Nat) : Int) < (240 : Int)))))] ok7 ⟨?_, ?_, ?_, ?_, ?_, ?_, trivial⟩ ?_
    · intro A B E G H; exact rP (y_move (kp (H 4 rfl) E q18))
    · intro A B E G H d0; exact rP (y_geq (ed d0 rfl rfl rfl) rfl)
    · intro A B E G H d0; exact rP (y_move (ed d0 rfl rfl rfl))
    · intro A B E G H d0
      refine run_guard G rfl rfl (by decide) (ed d0 rfl rfl rfl) (fun hg => ?_)
      have hp := of_decide_eq_true hg
      exact y_move (kp (H 4 rfl) E q18)
    · intro A B E G H d0 d1
      refine run_guard G rfl rfl (by decide) (ed d1 rfl rfl rfl) (fun hg => ?_)
      have hp := of_decide_eq_true hg
      exact y_lss ((ed d0 rfl rfl rfl).1 hg) rfl
    · intro A B E G H d0 d1; exact rP (y_pick_and (ed d0 rfl rfl rfl) (ed d1 rfl rfl rfl) rfl)
    intro a12 s11 D11; have ok11 := D11.ok; have F11 := F7.step0 D11.stp; have q32 := D11.kt q17 rfl; have q33 := D11.kt q18 rfl; have q34 := D11.kt q19 rfl; have q35 := D11.kt q20 rfl; have q36 := D11.dn 5 rfl rfl; clear D11; refine tn ?_
    refine cond_t q36 (fun c3 => ?_) (fun c3 => ?_)
    ·
     obtain ⟨d3, d4⟩ := Bool.and_eq_true_iff.mp c3
     replace d3 := of_decide_eq_true d3
     replace d4 := of_decide_eq_true d4
     simp only [Bool.and_eq_true, decide_eq_true_eq] at c3; obtain ⟨n1, n2, n3⟩ := nb3 (b := ((s.get! 0).toNat)) (by omega)
     refine wp_seq ?_
     refine rg a12 s11 [(Ty.int (3 : Int))] ok11 ⟨?_, trivial⟩ ?_
     · intro A B E G H; exact rP (y_assign rfl)
     intro a13 s12 D12; have ok12 := D12.ok; have F12 := F11.step0 D12.stp; have q37 := D12.kt q32 rfl; have q38 := D12.kt q33 rfl; have q39 := D12.dn 0 rfl rfl; clear D12; refine tn ?_; refine wp_seq ?_
     refine rg a13 s12 [(Ty.nat ((s.get! 0).toNat)), (Ty.int (((((s.get! 0).toNat) : Nat) : Int) - (224 : Int))), (Ty.int (((((s.get! 0).toNat) : Nat) : Int) - (224 : Int)))] ok12 ⟨?_, ?_, ?_, trivial⟩ ?_
     · intro A B E G H; exact rP (y_move (kp (H 4 rfl) E q38))
     · intro A B E G H d0; exact rP (y_sub (ed d0 rfl rfl rfl) rfl (w64 (by omega) (by omega)))
     · intro A B E G H d0 d1 d2; exact rP (y_assign (ed d0 rfl rfl rfl))
     intro a14 s13 D13; have ok13 := D13.ok; have F13 := F12.step0 D13.stp; have q40 := D13.kt q37 rfl; have q41 := D13.kt q39 rfl; have q42 := D13.dn 2 rfl rfl; clear D13; refine tn ?_
     refine rg a14 s13 [(Ty.int (2048 : Int))] ok13 ⟨?_, trivial⟩ ?_
     · intro A B E G H; exact rP (y_assign rfl)
     intro a15 s14 D14; have ok14 := D14.ok; have F14 := F13.step0 D14.stp; have q43 := D14.kt q40 rfl; have q44 := D14.kt q41 rfl; have q45 := D14.kt q42 rfl; have q46 := D14.dn 0 rfl rfl; clear D14
     exact tn ⟨s14, rfl, F14, ok14, (cvi (by (first | rfl | omega | (simp_all; done) | (simp_all; omega))) q44), (cvi (by (first | rfl | omega | (simp_all; done) | (simp_all; omega))) q45), (cvi (by (first | rfl | omega | (simp_all; done) | (simp_all; omega))) q46), q43, trivial⟩
    ·
     simp only [Bool.and_eq_false_iff, decide_eq_false_iff_not] at c3; have k2 : ¬ (224 ≤ ((s.get! 0).toNat) ∧ ((s.get! 0).toNat) < 240) := (by omega)
     refine wp_seq ?_
     refine rg a12 s11 [(Ty.nat ((s.get! 0).toNat)), (Ty.bool (decide ((240 : Int) ≤ ((((s.get! 0).toNat) : Nat) : Int)))), (Ty.bool (decide ((240 : Int) ≤ ((((s.get! 0).toNat) : Nat) : Int)))), (Ty.grd ((decide ((240 : Int) ≤ ((((s.get! 0).toNat) : Nat) : Int))) = true) (Ty.nat ((s.get! 0).toNat))), (Ty.grd ((decide ((240 : Int) ≤ ((((s.get! 0).toNat) : Nat) : Int))) = true) (Ty.bool (decide (((((s.get! 0).toNat) : Nat) : Int) < (245 : Int))))), (Ty.bool ((decide ((240 : Int) ≤ ((((s.get! 0).toNat) : Nat) : Int))) && (decide (((((s.get! 0).toNat) : Nat) : Int) < (245 : Int)))))] ok11 ⟨?_, ?_, ?_, ?_, ?_, ?_, trivial⟩ ?_
     · intro A B E G H; exact rP (y_move (kp (H 4 rfl) E q33))
     · intro A B E G H d0; exact rP (y_geq (ed d0 rfl rfl rfl) rfl)
     · intro A B E G H d0; exact rP (y_move (ed d0 rfl rfl rfl))
     · intro A B E G H d0
       refine run_guard G rfl rfl (by decide) (ed d0 rfl rfl rfl) (fun hg => ?_)
       have hp := of_decide_eq_true hg
       exact y_move (kp (H 4 rfl) E q33)
     · intro A B E G H d0 d1
       refine run_guard G rfl rfl (by decide) (ed d1 rfl rfl rfl) (fun hg => ?_)
       have hp := of_decide_eq_true hg
       exact y_lss ((ed d0 rfl rfl rfl).1 hg) rfl
     · intro A B E G H d0 d1; exact rP (y_pick_and (ed d0 rfl rfl rfl) (ed d1 rfl rfl rfl) rfl)
     intro a16 s15 D15; have ok15 := D15.ok; have F15 := F11.step0 D15.stp; have q47 := D15.kt q32 rfl; have q48 := D15.kt q33 rfl; have q49 := D15.kt q34 rfl; have q50 := D15.kt q35 rfl; have q51 := D15.dn 5 rfl rfl; clear D15; refine tn ?_
     refine cond_t q51 (fun c4 => ?_) (fun c4 => ?_)
     ·
      obtain ⟨d5, d6⟩ := Bool.and_eq_true_iff.mp c4
      replace d5 := of_decide_eq_true d5
      replace d6 := of_decide_eq_true d6
      simp only [Bool.and_eq_true, decide_eq_true_eq] at c4; obtain ⟨n1, n2, n3⟩ := nb4 (b := ((s.get! 0).toNat)) (by omega)
      refine wp_seq ?_
      refine rg a16 s15 [(Ty.int (4 : Int))] ok15 ⟨?_, trivial⟩ ?_
      · intro A B E G H; exact rP (y_assign rfl)
      intro a17 s16 D16; have ok16 := D16.ok; have F16 := F15.step0 D16.stp; have q52 := D16.kt q47 rfl; have q53 := D16.kt q48 rfl; have q54 := D16.dn 0 rfl rfl; clear D16; refine tn ?_; refine wp_seq ?_
      refine rg a17 s16 [(Ty.nat ((s.get! 0).toNat)), (Ty.int (((((s.get! 0).toNat) : Nat) : Int) - (240 : Int))), (Ty.int (((((s.get! 0).toNat) : Nat) : Int) - (240 : Int)))] ok16 ⟨?_, ?_, ?_, trivial⟩ ?_
      · intro A B E G H; exact rP (y_move (kp (H 4 rfl) E q53))
      · intro A B E G H d0; exact rP (y_sub (ed d0 rfl rfl rfl) rfl (w64 (by omega) (by omega)))
      · intro A B E G H d0 d1 d2; exact rP (y_assign (ed d0 rfl rfl rfl))
      intro a18 s17 D17; have ok17 := D17.ok; have F17 := F16.step0 D17.stp; have q55 := D17.kt q52 rfl; have q56 := D17.kt q54 rfl; have q57 := D17.dn 2 rfl rfl; clear D17; refine tn ?_
      refine rg a18 s17 [(Ty.int (65536 : Int))] ok17 ⟨?_, trivial⟩ ?_
      · intro A B E G H; exact rP (y_assign rfl)
      intro a19 s18 D18; have ok18 := D18.ok; have F18 := F17.step0 D18.stp; have q58 := D18.kt q55 rfl; have q59 := D18.kt q56 rfl; have q60 := D18.kt q57 rfl; have q61 := D18.dn 0 rfl rfl; clear D18
      exact tn ⟨s18, rfl, F18, ok18, (cvi (by (first | rfl | omega | (simp_all; done) | (simp_all; omega))) q59), (cvi (by (first | rfl | omega | (simp_all; done) | (simp_all; omega))) q60), (cvi (by (first | rfl | omega | (simp_all; done) | (simp_all; omega))) q61), q58, trivial⟩
     ·
      simp only [Bool.and_eq_false_iff, decide_eq_false_iff_not] at c4; have k3 : ¬ (240 ≤ ((s.get! 0).toNat) ∧ ((s.get! 0).toNat) < 245) := (by omega); obtain ⟨n1, n2, n3⟩ := nb0 k1 k2 k3
      refine wp_skip ?_
      exact tn ⟨s15, rfl, F15, ok15, (cvi (by (first | rfl | omega | (simp_all; done) | (simp_all; omega))) q49), (cvi (by (first | rfl | omega | (simp_all; done) | (simp_all; omega))) q48), (cvi (by (first | rfl | omega | (simp_all; done) | (simp_all; omega))) q50), q47, trivial⟩
  ·
   rintro a20 w2 ⟨t2, rfl, F19, ok19, q62, q63, q64, q65, -⟩
   refine wp_seq ?_; refine wp_seq ?_
   refine reg (a := a20) (σ := t2) rfl (fun i_ => List.getD [(Ty.pr (Ty.nat (nB ((s.get! 0).toNat)))), (Ty.pr (Ty.bool (decide ((((nB ((s.get! 0).toNat)) : Nat) : Int) = (0 : Int))))), (Ty.pr (Ty.bool (decide ((((nB ((s.get! 0).toNat)) : Nat) : Int) = (0 : Int))))), (Ty.pr (Ty.grd ((decide ((((nB ((s.get! 0).toNat)) : Nat) : Int) = (0 : Int))) = false) (Ty.val (Value.string s)))), (Ty.pr (Ty.grd ((decide ((((nB ((s.get! 0).toNat)) : Nat) : Int) = (0 : Int))) = false) (Ty.nat (ByteArray.size s)))), (Ty.pr (Ty.grd ((decide ((((nB ((s.get! 0).toNat)) : Nat) : Int) = (0 : Int))) = false) (Ty.nat (nB ((s.get! 0).toNat))))), (Ty.pr (Ty.grd ((decide ((((nB ((s.get! 0).toNat)) : Nat) : Int) = (0 : Int))) = false) (Ty.bool (decide ((((ByteArray.size s) : Nat) : Int) < (((nB ((s.get! 0).toNat)) : Nat) : Int)))))), (Ty.pr (Ty.bool ((decide ((((nB ((s.get! 0).toNat)) : Nat) : Int) = (0 : Int))) || (decide ((((ByteArray.size s) : Nat) : Int) < (((nB ((s.get! 0).toNat)) : Nat) : Int))))))] i_ Pr.any) ok19 rfl ⟨?_, ?_, ?_, ?_, ?_, ?_, ?_, ?_, trivial⟩ ?_
   · intro A B E G H; exact rP (y_move (kp (H 5 rfl) E q62))
   · intro A B E G H d0; exact rP (y_eql (ed d0 rfl rfl rfl) rfl)
   · intro A B E G H d0; exact rP (y_move (ed d0 rfl rfl rfl))
   · intro A B E G H d0
     refine run_guard G rfl rfl (by decide) (ed d0 rfl rfl rfl) (fun hg => ?_)
     have hp := of_decide_eq_false hg
     exact y_move (kp (H 0 rfl) E q65)
   · intro A B E G H d0 d1
     refine run_guard G rfl rfl (by decide) (ed d1 rfl rfl rfl) (fun hg => ?_)
     have hp := of_decide_eq_false hg
     exact y_len_str Tryd.underlying9 ((ed d0 rfl rfl rfl).1 hg)
   · intro A B E G H d0
     refine run_guard G rfl rfl (by decide) (ed d0 rfl rfl rfl) (fun hg => ?_)
     have hp := of_decide_eq_false hg
     exact y_move (kp (H 5 rfl) E q62)
   · intro A B E G H d0 d1 d2
     refine run_guard G rfl rfl (by decide) (ed d2 rfl rfl rfl) (fun hg => ?_)
     have hp := of_decide_eq_false hg
     exact y_lss ((ed d0 rfl rfl rfl).1 hg) ((ed d1 rfl rfl rfl).1 hg)
   · intro A B E G H d0 d1; exact rP (y_pick_or (ed d0 rfl rfl rfl) rfl (ed d1 rfl rfl rfl))
   intro a21 s19 D19; have ok20 := D19.ok; have F20 := F19.step0 D19.stp; have q66 := D19.kt q62 rfl; have q67 := D19.kt q63 rfl; have q68 := D19.kt q64 rfl; have q69 := D19.kt q65 rfl; have q70 := D19.dn 7 rfl rfl; clear D19; refine tn ?_
   refine cond_t q70 (fun c5 => ?_) (fun c5 => ?_)
   ·
    simp only [Bool.or_eq_true, decide_eq_true_eq] at c5
    refine wp_seq ?_
    refine rg a21 s19 [(Ty.int (-1 : Int)), (Ty.int (1 : Int))] ok20 ⟨?_, ?_, trivial⟩ ?_
    · intro A B E G H; exact rP (y_assign rfl)
    · intro A B E G H d0 d1; exact rP (y_assign rfl)
    intro a22 s20 D20; have ok21 := D20.ok; have F21 := F20.step0 D20.stp; have q71 := D20.dn 0 rfl rfl; have q72 := D20.dn 1 rfl rfl; clear D20; refine tn ?_; refine wp_ret ?_; refine tr ?_
    exact retL2 rfl ok21 F21 (hasT2 (cvi (by (exact (rn_short (by omega) (by omega) E).1.symm)) q71) (cvi (by (have := (rn_short (s := s) (by omega) (by omega) E).2; omega)) q72))
   ·
    obtain ⟨d7, d8⟩ := Bool.or_eq_false_iff.mp c5
    replace d7 := of_decide_eq_false d7
    replace d8 := of_decide_eq_false d8
    simp only [Bool.or_eq_false_iff, decide_eq_false_iff_not] at c5; have h0 : nB ((s.get! 0).toNat) ≠ 0 := (by omega); have hsz : nB ((s.get! 0).toNat) ≤ s.size := (by omega); have hcb := hnb.2 h0
    refine wp_skip ?_; refine tn ?_; refine wp_seq ?_; refine wp_seq ?_
    refine rg a21 s19 [(Ty.int (1 : Int))] ok20 ⟨?_, trivial⟩ ?_
    · intro A B E G H; exact rP (y_assign rfl)
    intro a23 s21 D21; have ok22 := D21.ok; have F22 := F20.step0 D21.stp; have q73 := D21.kt q66 rfl; have q74 := D21.kt q67 rfl; have q75 := D21.kt q68 rfl; have q76 := D21.kt q69 rfl; have q77 := D21.dn 0 rfl rfl; clear D21; refine tn ?_; refine wp_block ?_
    refine loop (fun n1 a24 w3 => ∃ (t3 : GW) (j : Nat), t3.w = w3 ∧ FromL [] s0 t3 ∧ Ok 86 a24 ∧ At (Ty.nat (j + 1)) t3 a24 (.tmp 7) ∧ At (Ty.nat (accR s (cB ((s.get! 0).toNat)) j)) t3 a24 (.tmp 4) ∧ At (Ty.nat (nB ((s.get! 0).toNat))) t3 a24 (.tmp 5) ∧ At (Ty.nat (lowB ((s.get! 0).toNat))) t3 a24 (.tmp 6) ∧ At (Ty.val (Value.string s)) t3 a24 (.tmp 0) ∧ (j + 1 ≤ nB ((s.get! 0).toNat)) ∧ (∀ i, i < j → 128 ≤ (s.get! (i + 1)).toNat ∧ (s.get! (i + 1)).toNat < 192) ∧ n1 = nB ((s.get! 0).toNat) - j) (nB ((s.get! 0).toNat) - (0)) ?_ ?_
    ·
     exact ⟨s21, 0, rfl, F22, ok22, (cvi (by (rfl)) q77), (cvi (by (rfl)) q74), q73, q75, q76, by omega, fun j hj => absurd hj (Nat.not_lt_zero j), rfl⟩
    ·
     rintro n2 a25 w4 ⟨t4, j, rfl, F23, ok23, q78, q79, q80, q81, q82, hj, hc, rfl⟩
     have hab := acc_bd (s := s) (c := cB ((s.get! 0).toNat)) (by omega) hc (by omega)
     have hbk := UInt8.toNat_lt (s.get! (j + 1))
     refine wp_seq ?_; refine wp_seq ?_
     refine reg (a := a25) (σ := t4) rfl (fun i_ => List.getD [(Ty.pr (Ty.nat (j + 1))), (Ty.pr (Ty.nat (nB ((s.get! 0).toNat)))), (Ty.pr (Ty.bool (decide ((((j + 1) : Nat) : Int) < (((nB ((s.get! 0).toNat)) : Nat) : Int)))))] i_ Pr.any) ok23 rfl ⟨?_, ?_, ?_, trivial⟩ ?_
     · intro A B E G H; exact rP (y_move (kp (H 7 rfl) E q78))
     · intro A B E G H; exact rP (y_move (kp (H 5 rfl) E q80))
     · intro A B E G H d0 d1; exact rP (y_lss (ed d0 rfl rfl rfl) (ed d1 rfl rfl rfl))
     intro a26 s22 D22; have ok24 := D22.ok; have F24 := F23.step0 D22.stp; have q83 := D22.kt q78 rfl; have q84 := D22.kt q79 rfl; have q85 := D22.kt q80 rfl; have q86 := D22.kt q81 rfl; have q87 := D22.kt q82 rfl; have q88 := D22.dn 2 rfl rfl; clear D22; refine tn ?_
     refine cond_p (p := ((((j + 1) : Nat) : Int) < (((nB ((s.get! 0).toNat)) : Nat) : Int))) q88 (fun c6 => ?_) (fun c6 => ?_)
     ·
      refine wp_skip ?_; refine tn ?_; refine wp_seq ?_; refine wp_block ?_; refine wp_seq ?_; refine wp_seq ?_
      refine rg a26 s22 [(Ty.val (Value.string s)), (Ty.nat (j + 1)), (Ty.val (Value.int .u8 (((s.get! (j + 1)).toNat : Nat) : Int))), (Ty.bool (decide ((((s.get! (j + 1)).toNat : Nat) : Int) < (128 : Int)))), (Ty.bool (decide ((((s.get! (j + 1)).toNat : Nat) : Int) < (128 : Int)))), (Ty.grd ((decide ((((s.get! (j + 1)).toNat : Nat) : Int) < (128 : Int))) = false) (Ty.val (Value.string s))), (Ty.grd ((decide ((((s.get! (j + 1)).toNat : Nat) : Int) < (128 : Int))) = false) (Ty.nat (j + 1))), (Ty.grd ((decide ((((s.get! (j + 1)).toNat : Nat) : Int) < (128 : Int))) = false) (Ty.val (Value.int .u8 (((s.get! (j + 1)).toNat : Nat) : Int)))), (Ty.grd ((decide ((((s.get! (j + 1)).toNat : Nat) : Int) < (128 : Int))) = false) (Ty.bool (decide ((192 : Int) ≤ (((s.get! (j + 1)).toNat : Nat) : Int))))), (Ty.bool ((decide ((((s.get! (j + 1)).toNat : Nat) : Int) < (128 : Int))) || (decide ((192 : Int) ≤ (((s.get! (j + 1)).toNat : Nat) : Int)))))] ok24 ⟨?_, ?_, ?_, ?_, ?_, ?_, ?_, ?_, ?_, ?_, trivial⟩ ?_
      · intro A B E G H; exact rP (y_move (kp (H 0 rfl) E q87))
      · intro A B E G H; exact rP (y_move (kp (H 7 rfl) E q83))
      · intro A B E G H d0 d1; exact rP (y_sindex Tryd.underlying9 (ed d0 rfl rfl rfl) (ed d1 rfl rfl rfl) (by omega) (by omega))
      · intro A B E G H d0; exact rP (y_lss (ed d0 rfl rfl rfl) rfl)
      · intro A B E G H d0; exact rP (y_move (ed d0 rfl rfl rfl))
      · intro A B E G H d0
        refine run_guard G rfl rfl (by decide) (ed d0 rfl rfl rfl) (fun hg => ?_)
        have hp := of_decide_eq_false hg
        exact y_move (kp (H 0 rfl) E q87)
      · intro A B E G H d0
        refine run_guard G rfl rfl (by decide) (ed d0 rfl rfl rfl) (fun hg => ?_)
        have hp := of_decide_eq_false hg
        exact y_move (kp (H 7 rfl) E q83)
      · intro A B E G H d0 d1 d2
        refine run_guard G rfl rfl (by decide) (ed d2 rfl rfl rfl) (fun hg => ?_)
        have hp := of_decide_eq_false hg
        exact y_sindex Tryd.underlying9 ((ed d0 rfl rfl rfl).1 hg) ((ed d1 rfl rfl rfl).1 hg) (by omega) (by omega)
      · intro A B E G H d0 d1
        refine run_guard G rfl rfl (by decide) (ed d1 rfl rfl rfl) (fun hg => ?_)
        have hp := of_decide_eq_false hg
        exact y_geq ((ed d0 rfl rfl rfl).1 hg) rfl
      · intro A B E G H d0 d1; exact rP (y_pick_or (ed d0 rfl rfl rfl) rfl (ed d1 rfl rfl rfl))
      intro a27 s23 D23; have ok25 := D23.ok; have F25 := F24.step0 D23.stp; have q89 := D23.kt q83 rfl; have q90 := D23.kt q84 rfl; have q91 := D23.kt q85 rfl; have q92 := D23.kt q86 rfl; have q93 := D23.kt q87 rfl; have q94 := D23.dn 9 rfl rfl; clear D23; refine tn ?_
      refine cond_t q94 (fun c7 => ?_) (fun c7 => ?_)
      ·
       simp only [Bool.or_eq_true, decide_eq_true_eq] at c7
       refine wp_seq ?_
       refine rg a27 s23 [(Ty.int (-1 : Int)), (Ty.int (1 : Int))] ok25 ⟨?_, ?_, trivial⟩ ?_
       · intro A B E G H; exact rP (y_assign rfl)
       · intro A B E G H d0 d1; exact rP (y_assign rfl)
       intro a28 s24 D24; have ok26 := D24.ok; have F26 := F25.step0 D24.stp; have q95 := D24.dn 0 rfl rfl; have q96 := D24.dn 1 rfl rfl; clear D24; refine tn ?_; refine wp_ret ?_; refine tr ?_; refine br ?_; refine tr ?_; refine tr ?_; refine br ?_; refine tr ?_
       exact retL2 rfl ok26 F26 (hasT2 (cvi (by (exact (rn_cont (j := j) (by omega) (by omega)).1.symm)) q95) (cvi (by (have := (rn_cont (s := s) (j := j) (by omega) (by omega)).2; omega)) q96))
      ·
       obtain ⟨d9, d10⟩ := Bool.or_eq_false_iff.mp c7
       replace d9 := of_decide_eq_false d9
       replace d10 := of_decide_eq_false d10
       simp only [Bool.or_eq_false_iff, decide_eq_false_iff_not] at c7
       refine wp_skip ?_; refine tn ?_
       refine rg a27 s23 [(Ty.nat (accR s (cB ((s.get! 0).toNat)) j)), (Ty.nat ((accR s (cB ((s.get! 0).toNat)) j) * 64)), (Ty.val (Value.string s)), (Ty.nat (j + 1)), (Ty.val (Value.int .u8 (((s.get! (j + 1)).toNat : Nat) : Int))), (Ty.nat (s.get! (j + 1)).toNat), (Ty.nat (((accR s (cB ((s.get! 0).toNat)) j) * 64) + (s.get! (j + 1)).toNat)), (Ty.int ((((((accR s (cB ((s.get! 0).toNat)) j) * 64) + (s.get! (j + 1)).toNat) : Nat) : Int) - (128 : Int))), (Ty.int ((((((accR s (cB ((s.get! 0).toNat)) j) * 64) + (s.get! (j + 1)).toNat) : Nat) : Int) - (128 : Int)))] ok25 ⟨?_, ?_, ?_, ?_, ?_, ?_, ?_, ?_, ?_, trivial⟩ ?_
       · intro A B E G H; exact rP (y_move (kp (H 4 rfl) E q90))
       · intro A B E G H d0; exact rP ((y_mul (ed d0 rfl rfl rfl) rfl (w64 (by omega) (by omega))).mono (fun τ _ h => cvi (σ := τ) (by first | omega | exact (Int.natCast_mul _ _).symm) h))
       · intro A B E G H; exact rP (y_move (kp (H 0 rfl) E q93))
       · intro A B E G H; exact rP (y_move (kp (H 7 rfl) E q89))
       · intro A B E G H d0 d1; exact rP (y_sindex Tryd.underlying9 (ed d0 rfl rfl rfl) (ed d1 rfl rfl rfl) (by omega) (by omega))
       · intro A B E G H d0; exact rP (y_conv Tryd.underlying3 (ed d0 rfl rfl rfl) (by exact w64 (by omega) (by omega)) (by rw [Tryd.underlying5]; rfl))
       · intro A B E G H d0 d1; exact rP ((y_add (ed d0 rfl rfl rfl) (ed d1 rfl rfl rfl) (w64 (by omega) (by omega))).mono (fun τ _ h => cvi (σ := τ) (by first | omega | exact (Int.natCast_mul _ _).symm) h))
       · intro A B E G H d0; exact rP (y_sub (ed d0 rfl rfl rfl) rfl (w64 (by omega) (by omega)))
       · intro A B E G H d0 d1 d2 d3 d4 d5 d6 d7 d8; exact rP (y_assign (ed d0 rfl rfl rfl))
       intro a29 s25 D25; have ok27 := D25.ok; have F27 := F25.step0 D25.stp; have q97 := D25.kt q89 rfl; have q98 := D25.kt q91 rfl; have q99 := D25.kt q92 rfl; have q100 := D25.kt q93 rfl; have q101 := D25.dn 8 rfl rfl; clear D25; refine bn ?_; refine tn ?_
       refine rg a29 s25 [(Ty.nat (j + 1)), (Ty.nat ((j + 1) + 1)), (Ty.nat ((j + 1) + 1))] ok27 ⟨?_, ?_, ?_, trivial⟩ ?_
       · intro A B E G H; exact rP (y_move (kp (H 7 rfl) E q97))
       · intro A B E G H d0; exact rP ((y_add (ed d0 rfl rfl rfl) rfl (w64 (by omega) (by omega))).mono (fun τ _ h => cvi (σ := τ) (by first | omega | exact (Int.natCast_mul _ _).symm) h))
       · intro A B E G H d0 d1 d2; exact rP (y_assign (ed d0 rfl rfl rfl))
       intro a30 s26 D26; have ok28 := D26.ok; have F28 := F27.step0 D26.stp; have q102 := D26.kt q98 rfl; have q103 := D26.kt q99 rfl; have q104 := D26.kt q100 rfl; have q105 := D26.kt q101 rfl; have q106 := D26.dn 2 rfl rfl; clear D26
       have hac : accR s (cB ((s.get! 0).toNat)) (j + 1) = accR s (cB ((s.get! 0).toNat)) j * 64 + ((s.get! (j + 1)).toNat - 128) := rfl
       exact tn ⟨nB ((s.get! 0).toNat) - ((j + 1)), by omega, s26, (j + 1), rfl, F28, ok28, (cvi (by (first | rfl | omega | (simp_all; done) | (simp_all; omega))) q106), (cvi (by (first | rfl | omega | (simp_all; done) | (simp_all; omega))) q105), q102, q103, q104, by omega, acc_snoc hc (by omega) (by omega), rfl⟩
     ·
      have hje : j + 1 = nB ((s.get! 0).toNat) := (by omega)
      refine wp_exit ?_; refine tx ?_; refine tx ?_; refine bx ?_; refine tn ?_; refine wp_seq ?_; refine wp_seq ?_
      refine rg a26 s22 [(Ty.nat (accR s (cB ((s.get! 0).toNat)) j)), (Ty.nat (lowB ((s.get! 0).toNat))), (Ty.bool (decide ((((accR s (cB ((s.get! 0).toNat)) j) : Nat) : Int) < (((lowB ((s.get! 0).toNat)) : Nat) : Int)))), (Ty.bool (decide ((((accR s (cB ((s.get! 0).toNat)) j) : Nat) : Int) < (((lowB ((s.get! 0).toNat)) : Nat) : Int)))), (Ty.grd ((decide ((((accR s (cB ((s.get! 0).toNat)) j) : Nat) : Int) < (((lowB ((s.get! 0).toNat)) : Nat) : Int))) = false) (Ty.nat (accR s (cB ((s.get! 0).toNat)) j))), (Ty.grd ((decide ((((accR s (cB ((s.get! 0).toNat)) j) : Nat) : Int) < (((lowB ((s.get! 0).toNat)) : Nat) : Int))) = false) (Ty.bool (decide ((1114111 : Int) < (((accR s (cB ((s.get! 0).toNat)) j) : Nat) : Int))))), (Ty.bool ((decide ((((accR s (cB ((s.get! 0).toNat)) j) : Nat) : Int) < (((lowB ((s.get! 0).toNat)) : Nat) : Int))) || (decide ((1114111 : Int) < (((accR s (cB ((s.get! 0).toNat)) j) : Nat) : Int))))), (Ty.bool ((decide ((((accR s (cB ((s.get! 0).toNat)) j) : Nat) : Int) < (((lowB ((s.get! 0).toNat)) : Nat) : Int))) || (decide ((1114111 : Int) < (((accR s (cB ((s.get! 0).toNat)) j) : Nat) : Int))))), (Ty.grd (((decide ((((accR s (cB ((s.get! 0).toNat)) j) : Nat) : Int) < (((lowB ((s.get! 0).toNat)) : Nat) : Int))) || (decide ((1114111 : Int) < (((accR s (cB ((s.get! 0).toNat)) j) : Nat) : Int)))) = false) (Ty.nat (accR s (cB ((s.get! 0).toNat)) j))), (Ty.grd (((decide ((((accR s (cB ((s.get! 0).toNat)) j) : Nat) : Int) < (((lowB ((s.get! 0).toNat)) : Nat) : Int))) || (decide ((1114111 : Int) < (((accR s (cB ((s.get! 0).toNat)) j) : Nat) : Int)))) = false) (Ty.bool (decide ((55296 : Int) ≤ (((accR s (cB ((s.get! 0).toNat)) j) : Nat) : Int))))), (Ty.grd (((decide ((((accR s (cB ((s.get! 0).toNat)) j) : Nat) : Int) < (((lowB ((s.get! 0).toNat)) : Nat) : Int))) || (decide ((1114111 : Int) < (((accR s (cB ((s.get! 0).toNat)) j) : Nat) : Int)))) = false) (Ty.bool (decide ((55296 : Int) ≤ (((accR s (cB ((s.get! 0).toNat)) j) : Nat) : Int))))), (Ty.grd ((((decide ((((accR s (cB ((s.get! 0).toNat)) j) : Nat) : Int) < (((lowB ((s.get! 0).toNat)) : Nat) : Int))) || (decide ((1114111 : Int) < (((accR s (cB ((s.get! 0).toNat)) j) : Nat) : Int)))) = false) ∧ (decide ((55296 : Int) ≤ (((accR s (cB ((s.get! 0).toNat)) j) : Nat) : Int))) = true) (Ty.nat (accR s (cB ((s.get! 0).toNat)) j))), (Ty.grd ((((decide ((((accR s (cB ((s.get! 0).toNat)) j) : Nat) : Int) < (((lowB ((s.get! 0).toNat)) : Nat) : Int))) || (decide ((1114111 : Int) < (((accR s (cB ((s.get! 0).toNat)) j) : Nat) : Int)))) = false) ∧ (decide ((55296 : Int) ≤ (((accR s (cB ((s.get! 0).toNat)) j) : Nat) : Int))) = true) (Ty.bool (decide ((((accR s (cB ((s.get! 0).toNat)) j) : Nat) : Int) < (57344 : Int))))), (Ty.grd (((decide ((((accR s (cB ((s.get! 0).toNat)) j) : Nat) : Int) < (((lowB ((s.get! 0).toNat)) : Nat) : Int))) || (decide ((1114111 : Int) < (((accR s (cB ((s.get! 0).toNat)) j) : Nat) : Int)))) = false) (Ty.bool ((decide ((55296 : Int) ≤ (((accR s (cB ((s.get! 0).toNat)) j) : Nat) : Int))) && (decide ((((accR s (cB ((s.get! 0).toNat)) j) : Nat) : Int) < (57344 : Int)))))), (Ty.bool (((decide ((((accR s (cB ((s.get! 0).toNat)) j) : Nat) : Int) < (((lowB ((s.get! 0).toNat)) : Nat) : Int))) || (decide ((1114111 : Int) < (((accR s (cB ((s.get! 0).toNat)) j) : Nat) : Int)))) || ((decide ((55296 : Int) ≤ (((accR s (cB ((s.get! 0).toNat)) j) : Nat) : Int))) && (decide ((((accR s (cB ((s.get! 0).toNat)) j) : Nat) : Int) < (57344 : Int))))))] ok24 ⟨?_, ?_, ?_, ?_, ?_, ?_, ?_, ?_, ?_, ?_, ?_, ?_, ?_, ?_, ?_, trivial⟩ ?_
      · intro A B E G H; exact rP (y_move (kp (H 4 rfl) E q84))
      · intro A B E G H; exact rP (y_move (kp (H 6 rfl) E q86))
      · intro A B E G H d0 d1; exact rP (y_lss (ed d0 rfl rfl rfl) (ed d1 rfl rfl rfl))
      · intro A B E G H d0; exact rP (y_move (ed d0 rfl rfl rfl))
      · intro A B E G H d0
        refine run_guard G rfl rfl (by decide) (ed d0 rfl rfl rfl) (fun hg => ?_)
        have hp := of_decide_eq_false hg
        exact y_move (kp (H 4 rfl) E q84)
      · intro A B E G H d0 d1
        refine run_guard G rfl rfl (by decide) (ed d1 rfl rfl rfl) (fun hg => ?_)
        have hp := of_decide_eq_false hg
        exact y_gtr ((ed d0 rfl rfl rfl).1 hg) rfl
      · intro A B E G H d0 d1; exact rP (y_pick_or (ed d0 rfl rfl rfl) rfl (ed d1 rfl rfl rfl))
      · intro A B E G H d0 d1; exact rP (y_move (ed d0 rfl rfl rfl))
      · intro A B E G H d0
        refine run_guard G rfl rfl (by decide) (ed d0 rfl rfl rfl) (fun hg => ?_)
        obtain ⟨d11, d12⟩ := Bool.or_eq_false_iff.mp hg
        have d11 := of_decide_eq_false d11
        have d12 := of_decide_eq_false d12
        exact y_move (kp (H 4 rfl) E q84)
      · intro A B E G H d0 d1
        refine run_guard G rfl rfl (by decide) (ed d1 rfl rfl rfl) (fun hg => ?_)
        obtain ⟨d13, d14⟩ := Bool.or_eq_false_iff.mp hg
        have d13 := of_decide_eq_false d13
        have d14 := of_decide_eq_false d14
        exact y_geq ((ed d0 rfl rfl rfl).1 hg) rfl
      · intro A B E G H d0 d1 d2
        refine run_guard G rfl rfl (by decide) (ed d1 rfl rfl rfl) (fun hg => ?_)
        obtain ⟨d15, d16⟩ := Bool.or_eq_false_iff.mp hg
        have d15 := of_decide_eq_false d15
        have d16 := of_decide_eq_false d16
        exact y_move ((ed d0 rfl rfl rfl).1 hg)
      · intro A B E G H d0
        refine run_guard2 G rfl rfl (by decide) (ed d0 rfl rfl rfl) (fun hg => ?_)
        have hp := of_decide_eq_true hg.2
        exact y_move (kp (H 4 rfl) E q84)
      · intro A B E G H d0 d1
        refine run_guard2 G rfl rfl (by decide) (ed d1 rfl rfl rfl) (fun hg => ?_)
        have hp := of_decide_eq_true hg.2
        exact y_lss ((ed d0 rfl rfl rfl).1 hg) rfl
      · intro A B E G H d0 d1 d2
        refine run_guard G rfl rfl (by decide) (ed d2 rfl rfl rfl) (fun hg => ?_)
        obtain ⟨d17, d18⟩ := Bool.or_eq_false_iff.mp hg
        have d17 := of_decide_eq_false d17
        have d18 := of_decide_eq_false d18
        exact y_pick_and ((ed d0 rfl rfl rfl).1 hg) (grd_part hg (ed d1 rfl rfl rfl)) rfl
      · intro A B E G H d0 d1; exact rP (y_pick_or (ed d0 rfl rfl rfl) rfl (ed d1 rfl rfl rfl))
      intro a31 s27 D27; have ok29 := D27.ok; have F29 := F24.step0 D27.stp; have q107 := D27.kt q84 rfl; have q108 := D27.kt q85 rfl; have q109 := D27.dn 14 rfl rfl; clear D27; refine tn ?_
      refine cond_t q109 (fun c8 => ?_) (fun c8 => ?_)
      ·
       simp only [Bool.or_eq_true, Bool.and_eq_true, decide_eq_true_eq] at c8
       refine wp_seq ?_
       refine rg a31 s27 [(Ty.int (-1 : Int)), (Ty.int (1 : Int))] ok29 ⟨?_, ?_, trivial⟩ ?_
       · intro A B E G H; exact rP (y_assign rfl)
       · intro A B E G H d0 d1; exact rP (y_assign rfl)
       intro a32 s28 D28; have ok30 := D28.ok; have F30 := F29.step0 D28.stp; have q110 := D28.dn 0 rfl rfl; have q111 := D28.dn 1 rfl rfl; clear D28; refine tn ?_; refine wp_ret ?_; refine tr ?_
       exact retL2 rfl ok30 F30 (hasT2 (cvi (by (exact (rn_bad h0 hsz hje hc (by omega)).1.symm)) q110) (cvi (by (have := (rn_bad h0 hsz hje hc (by omega)).2; omega)) q111))
      ·
       obtain ⟨d19, d20⟩ := Bool.or_eq_false_iff.mp c8
       obtain ⟨d21, d22⟩ := Bool.or_eq_false_iff.mp d19
       replace d21 := of_decide_eq_false d21
       replace d22 := of_decide_eq_false d22
       simp only [Bool.or_eq_false_iff, Bool.and_eq_false_iff, decide_eq_false_iff_not] at c8
       refine wp_skip ?_; refine tn ?_; refine wp_seq ?_
       refine rg a31 s27 [(Ty.nat (accR s (cB ((s.get! 0).toNat)) j)), (Ty.nat (nB ((s.get! 0).toNat))), (Ty.nat (accR s (cB ((s.get! 0).toNat)) j)), (Ty.nat (nB ((s.get! 0).toNat)))] ok29 ⟨?_, ?_, ?_, ?_, trivial⟩ ?_
       · intro A B E G H; exact rP (y_move (kp (H 4 rfl) E q107))
       · intro A B E G H d0; exact rP (y_move (kp (H 5 rfl) E q108))
       · intro A B E G H d0 d1 d2; exact rP (y_assign (ed d0 rfl rfl rfl))
       · intro A B E G H d0 d1 d2 d3 d4; exact rP (y_assign (ed d0 rfl rfl rfl))
       intro a33 s29 D29; have ok31 := D29.ok; have F31 := F29.step0 D29.stp; have q112 := D29.dn 2 rfl rfl; have q113 := D29.dn 3 rfl rfl; clear D29; refine tn ?_; refine wp_ret ?_
       exact retL2 rfl ok31 F31 (hasT2 (cvi (by (exact (rn_ok h0 hsz hje hc (by omega)).1.symm)) q112) (cvi (by (have := (rn_ok h0 hsz hje hc (by omega)).2; omega)) q113))


set_option maxHeartbeats 4000000 in
set_option maxRecDepth 100000 in
theorem rRunes_fn (s : ByteArray) (σ : GW)  (v0 : Value) (hv0 : Ty.has (Ty.val (Value.string s)) σ v0)  (E : s.size ≤ 17592186044416) :
    FnC Tryd.prog 60 #[v0] σ (Ty.lst Ty.int (runsL s)) := by
 refine fn_intro0 Tryd.func60 rfl Tryd.ntmps60 (Nat.le_of_ble_eq_true rfl) (fun s0 a0 hle F0 ok0 hargs => ?_)
 have p0 : At (Ty.val (Value.string s)) s0 a0 (.tmp 0) := by have e := hargs 0 _ rfl; show Ty.has _ _ _; rw [e]; exact Ty.up _ hle hv0
 clear hargs; refine wp_seq ?_
 refine rg a0 s0 [(Ty.val (Value.slice none 0 0))] ok0 ⟨?_, trivial⟩ ?_
 · intro A B E G H; exact rP (y_assign rfl)
 intro a1 s1 D1; have ok1 := D1.ok; have F1 := F0.step0 D1.stp; have q1 := D1.kt p0 rfl; clear D1; refine tn ?_; refine wp_seq ?_
 refine rg a1 s1 [(Ty.val (Value.slice none 0 0))] ok1 ⟨?_, trivial⟩ ?_
 · intro A B E G H; exact rP (y_assign rfl)
 intro a2 s2 D2; have ok2 := D2.ok; have F2 := F1.step0 D2.stp; have q2 := D2.kt q1 rfl; have q3 := D2.dn 0 rfl rfl; clear D2; refine tn ?_; refine wp_seq ?_; refine wp_block ?_
 have o1 : Own s2 5 3 1 (Value.slice none 0 0) 0 (List.map Ty.int ([] : List Int)) := Own.nil _ _ _ _
 refine loop (fun n1 a3 w1 => ∃ (t1 : GW) (p : Nat) (f : Nat) (xs : List Int) (x3_0 : Value), t1.w = w1 ∧ FromL [] s0 t1 ∧ Ok 22 a3 ∧ At (Ty.val (Value.string (ByteArray.extract s p (ByteArray.size s)))) t1 a3 (.tmp 0) ∧ At (Ty.val x3_0) t1 a3 (.tmp 3) ∧ Own t1 5 3 1 x3_0 (List.length xs) (List.map Ty.int xs) ∧ (xs ++ runsF s f p = runsL s) ∧ (s.size ≤ f + p) ∧ (p ≤ s.size) ∧ (xs.length ≤ p) ∧ n1 = s.size + 1 - p) (s.size + 1 - (0)) ?_ ?_
 ·
  exact ⟨s2, 0, s.size, ([] : List Int), (Value.slice none 0 0), rfl, F2, ok2, (cvt (by (rw [ByteArray.extract_zero_size])) q2), q3, (cvo (by (simp)) (by (simp)) o1), rfl, by omega, by omega, by simp, rfl⟩
 ·
  rintro n2 a4 w2 ⟨t2, p, f, xs, x3_0, rfl, F3, ok3, q4, q5, o2, heq, hf, hp, hx, rfl⟩
  have hez : (ByteArray.extract s p (ByteArray.size s)).size = s.size - p := by rw [ByteArray.size_extract]; omega
  have hw := wid_pos s p
  have her := ext_run s p
  refine wp_seq ?_; refine wp_seq ?_
  refine reg (a := a4) (σ := t2) rfl (fun i_ => List.getD [(Ty.pr (Ty.val (Value.string (ByteArray.extract s p (ByteArray.size s))))), (Ty.pr (Ty.nat (ByteArray.size (ByteArray.extract s p (ByteArray.size s))))), (Ty.pr (Ty.bool (decide ((0 : Int) < (((ByteArray.size (ByteArray.extract s p (ByteArray.size s))) : Nat) : Int)))))] i_ Pr.any) ok3 rfl ⟨?_, ?_, ?_, trivial⟩ ?_
  · intro A B E G H; exact rP (y_move (kp (H 0 rfl) E q4))
  · intro A B E G H d0; exact rP (y_len_str Tryd.underlying9 (ed d0 rfl rfl rfl))
  · intro A B E G H d0; exact rP (y_gtr (ed d0 rfl rfl rfl) rfl)
  intro a5 s3 D3; have ok4 := D3.ok; have F4 := F3.step0 D3.stp; have q6 := D3.kt q4 rfl; have q7 := D3.kt q5 rfl; have o3 := Own.k0 o2 D3.stp; have q8 := D3.dn 2 rfl rfl; clear D3; refine tn ?_
  refine cond_p (p := ((0 : Int) < (((ByteArray.size (ByteArray.extract s p (ByteArray.size s))) : Nat) : Int))) q8 (fun c1 => ?_) (fun c1 => ?_)
  ·
   have hwi := wid_in (s := s) (p := p) (by omega)
   refine wp_skip ?_; refine tn ?_; refine wp_block ?_; refine wp_seq ?_
   refine rg a5 s3 [(Ty.val (Value.string (ByteArray.extract s p (ByteArray.size s)))), (Ty.tup2 (Ty.int (runM s p)) (Ty.nat (wid s p))), (Ty.tup2 (Ty.int (runM s p)) (Ty.nat (wid s p))), (Ty.int (runM s p)), (Ty.nat (wid s p)), (Ty.int (runM s p)), (Ty.nat (wid s p))] ok4 ⟨?_, ?_, ?_, ?_, ?_, ?_, ?_, trivial⟩ ?_
   · intro A B E G H; exact rP (y_move (kp (H 0 rfl) E q6))
   · intro A B E G H d0; exact rP ((y_call #[A.eval (.tmp 10)] Tryd.func71 rfl rfl (by simp only [List.map_toArray, List.map_cons, List.map_nil]) (rRuneAt_fn ((ByteArray.extract s p (ByteArray.size s))) _ _ (ed d0 rfl rfl rfl) (by omega))).mono (fun τ _ h => cvt (σ := τ) (T := (Ty.tup2 (Ty.int (runM ((ByteArray.extract s p (ByteArray.size s))) 0)) (Ty.nat (wid ((ByteArray.extract s p (ByteArray.size s))) 0)))) (U := (Ty.tup2 (Ty.int (runM s p)) (Ty.nat (wid s p)))) (by rw [her.1, her.2]) h))
   · intro A B E G H d0; exact rP (y_move (ed d0 rfl rfl rfl))
   · intro A B E G H d0; exact rP (y_ext2_0 (ed d0 rfl rfl rfl))
   · intro A B E G H d0 d1; exact rP (y_ext2_1 (ed d0 rfl rfl rfl))
   · intro A B E G H d0 d1 d2 d3 d4 d5 d6; exact rP (y_assign (ed d0 rfl rfl rfl))
   · intro A B E G H d0 d1 d2 d3 d4 d5 d6 d7; exact rP (y_assign (ed d0 rfl rfl rfl))
   intro a6 s4 D4; have ok5 := D4.ok; have F5 := F4.step0 D4.stp; have q9 := D4.kt q6 rfl; have q10 := D4.kt q7 rfl; have o4 := Own.k0 o3 D4.stp; have q11 := D4.dn 5 rfl rfl; have q12 := D4.dn 6 rfl rfl; clear D4; refine tn ?_; refine wp_seq ?_
   refine reg2 (a := a6) (σ := s4) rfl 3 (fun i_ => List.getD [(Ty.pr (Ty.val x3_0)), (Ty.pr (Ty.int (runM s p))), (Ty.pr (Ty.sl 1 1 [(Ty.int (runM s p))]))] i_ Pr.any) ok5 rfl (by decide) rfl ⟨?_, ?_, ?_, trivial⟩ ?_
   · intro A B E G H; exact rP (y_move (kp (H 3 rfl) E q10))
   · intro A B E G H; exact rP (y_move (kp (H 4 rfl) E q11))
   · intro A B E G H d0; exact rP (y_build1o Tryd.underlying26 Tryd.inf3 rfl (one_val rfl) (ed d0 rfl rfl rfl))
   intro a7 s5 D5; have ok6 := D5.ok; have F6 := F5.step0 D5.stp; have q13 := D5.kt q9 rfl; have q14 := D5.kt q10 rfl; have q15 := D5.kt q12 rfl; have o5 := Own.k0 o4 D5.stp
   have q16 : At (Ty.val x3_0) s5 a7 (.tmp 14) := D5.done 0 (by decide)
   have q17 := D5.dn 2 (by decide) rfl rfl
   have b1 := sl_le q17
   clear D5
   refine tailL (L := [5]) (R := (fun v τ => Own τ 5 3 1 v ((List.length xs) + 1) ((List.map Ty.int xs) ++ [(Ty.int (runM s p))]))) rfl rfl (by decide) ok6 (YldM.toL (m_append Tryd.underlying26 Tryd.inf3 (by decide) rfl (by decide) (al (R := (Pr.own 5 3 1 (List.length xs) (List.map Ty.int xs))) q16 o5) q17 (by intro U hU; simp at hU; subst hU; exact one_val rfl) (by omega) (by omega))) (fun a8 s6 hs1 ok7 r1 sm1 => ?_)
   have F7 := F6.stepL hs1 (by decide); have q18 := kpL hs1 (by decide) (sm1 0 (by decide)) q13; have q19 := kpL hs1 (by decide) (sm1 3 (by decide)) q14; have q20 := kpL hs1 (by decide) (sm1 5 (by decide)) q15
   obtain ⟨x1, hx1⟩ : ∃ x, a8.eval (.tmp 17) = x := ⟨_, rfl⟩
   have q21 : At (Ty.val x1) s6 a8 (.tmp 17) := hx1
   have o6 : Own s6 5 3 1 x1 (List.length (xs ++ [(runM s p)])) (List.map Ty.int (xs ++ [(runM s p)])) := al2 (R := (Pr.own 5 3 1 (List.length (xs ++ [(runM s p)])) (List.map Ty.int (xs ++ [(runM s p)])))) hx1 (cvo (by simp) (by first | (rw [List.map_append]; rfl) | simp) r1)
   clear r1
   refine tailL (L := []) (R := (fun v τ => Pr.has (Ty.pr (Ty.val x1)) τ v)) rfl rfl (by decide) ok7 (Yld.toL (y_assign q21)) (fun a9 s7 hs2 ok8 r2 sm2 => ?_)
   have F8 := F7.stepL hs2 (by decide); have q22 := kpL hs2 (by decide) (sm2 0 (by decide)) q18; have q23 := kpL hs2 (by decide) (sm2 5 (by decide)) q20; have o7 := Own.keepL o6 hs2 (by decide) (by decide)
   have q24 : At (Ty.val x1) s7 a9 (.tmp 3) := r2
   clear r2; refine wpList_nil ?_; refine tn ?_
   refine rg a9 s7 [(Ty.val (Value.string (ByteArray.extract s p (ByteArray.size s)))), (Ty.nat (wid s p)), (Ty.val (Value.string (ByteArray.extract (ByteArray.extract s p (ByteArray.size s)) (wid s p) (ByteArray.size (ByteArray.extract s p (ByteArray.size s)))))), (Ty.val (Value.string (ByteArray.extract (ByteArray.extract s p (ByteArray.size s)) (wid s p) (ByteArray.size (ByteArray.extract s p (ByteArray.size s))))))] ok8 ⟨?_, ?_, ?_, ?_, trivial⟩ ?_
   · intro A B E G H; exact rP (y_move (kp (H 0 rfl) E q22))
   · intro A B E G H; exact rP (y_move (kp (H 5 rfl) E q23))
   · intro A B E G H d0 d1; exact rP (y_sfrom (l := (wid s p)) Tryd.underlying9 (ed d0 rfl rfl rfl) (ed d1 rfl rfl rfl) (by omega))
   · intro A B E G H d0 d1 d2 d3; exact rP (y_assign (ed d0 rfl rfl rfl))
   intro a10 s8 D6; have ok9 := D6.ok; have F9 := F8.step0 D6.stp; have q25 := D6.kt q24 rfl; have o8 := Own.k0 o7 D6.stp; have q26 := D6.dn 3 rfl rfl; clear D6; refine bn ?_
   exact tn ⟨s.size + 1 - ((p + wid s p)), by omega, s8, (p + wid s p), (f - 1), (xs ++ [runM s p]), x1, rfl, F9, ok9, (cvt (by (rw [ext_ext hwi])) q26), q25, (cvo (by (simp)) (by (simp)) o8), runsF_step heq (by omega) (by omega), by omega, by omega, by simp; omega, rfl⟩
  ·
   refine wp_exit ?_; refine tx ?_; refine tx ?_; refine bx ?_; refine tn ?_; refine wp_seq ?_
   refine rg a5 s3 [(Ty.val x3_0), (Ty.val x3_0)] ok4 ⟨?_, ?_, trivial⟩ ?_
   · intro A B E G H; exact rP (y_move (kp (H 3 rfl) E q7))
   · intro A B E G H d0 d1; exact rP (y_assign (ed d0 rfl rfl rfl))
   intro a11 s9 D7; have ok10 := D7.ok; have F10 := F4.step0 D7.stp; have o9 := Own.k0 o3 D7.stp
   have q27 : At (Ty.val x3_0) s9 a11 (.tmp 2) := D7.done 1
   clear D7; refine tn ?_; refine wp_ret ?_
   obtain ⟨t3, e1, h1, q28⟩ := Own.seal o9 (by decide)
   rw [← e1]
   have F11 := F10.step h1 (by decide)
   have q29 : At (Ty.lst Ty.int xs) t3 a11 (.tmp 2) := by have e : a11.eval (.tmp 2) = x3_0 := q27; show Ty.has _ _ _; rw [e]; exact q28
   exact retL1 rfl ok10 F11 (cvt (by (rw [runsF_end (by omega), List.append_nil] at heq; rw [heq])) q29)


end Go.Proofs.YtbilebfnanlgfaaDoor
