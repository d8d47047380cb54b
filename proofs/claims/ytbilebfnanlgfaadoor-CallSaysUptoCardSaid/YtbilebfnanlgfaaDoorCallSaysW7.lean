/- The functions that the law CallSays reaches, each by its contract. Part 7. -/
import Derived.Test.YtbilebfnanlgfaaDoorCallSaysW6
namespace Go.Proofs.YtbilebfnanlgfaaDoor
open Go.KL

set_option maxHeartbeats 4000000 in
set_option maxRecDepth 100000 in
theorem callSays_fn (nm : ByteArray) (n : Int) (l : List (List Int)) (cs : List BCall) (leads : List Int) (c : Int) (σ : GW)  (v0 v1 v2 v3 : Value) (hv0 : Ty.has (Ty.agg [(Ty.val (Value.string nm)), (Ty.int n), (Ty.lst Ty.ints l)]) σ v0) (hv1 : Ty.has (Ty.lstc 2 callC cs) σ v1) (hv2 : Ty.has (Ty.lst Ty.int leads) σ v2) (hv3 : Ty.has (Ty.val (Value.int .i32 c)) σ v3)  (hnm : nm.size ≤ 1099511627776) (hn : -9223372036854775808 ≤ n ∧ n ≤ 9223372036854775807) (hasc : ∀ c ∈ cs, -2147483648 ≤ c.1 ∧ c.1 ≤ 2147483647) :
    FnC Tryd.prog 3 #[v0, v1, v2, v3] σ (Ty.bool true) := by
 refine fn_intro0 Tryd.func3 rfl Tryd.ntmps3 (Nat.le_of_ble_eq_true rfl) (fun s0 a0 hle F0 ok0 hargs => ?_)
 have p0 : At (Ty.agg [(Ty.val (Value.string nm)), (Ty.int n), (Ty.lst Ty.ints l)]) s0 a0 (.tmp 0) := by have e := hargs 0 _ rfl; show Ty.has _ _ _; rw [e]; exact Ty.up _ hle hv0
 have p1 : At (Ty.lstc 2 callC cs) s0 a0 (.tmp 1) := by have e := hargs 1 _ rfl; show Ty.has _ _ _; rw [e]; exact Ty.up _ hle hv1
 have b1 := sl_le p1
 have p2 : At (Ty.lst Ty.int leads) s0 a0 (.tmp 2) := by have e := hargs 2 _ rfl; show Ty.has _ _ _; rw [e]; exact Ty.up _ hle hv2
 have b2 := sl_le p2
 have p3 : At (Ty.val (Value.int .i32 c)) s0 a0 (.tmp 3) := by have e := hargs 3 _ rfl; show Ty.has _ _ _; rw [e]; exact Ty.up _ hle hv3
 clear hargs; refine wp_seq ?_
 refine rg a0 s0 [(Ty.ref [(Ty.val (Value.string nm)), (Ty.int n), (Ty.lst Ty.ints l)]), (Ty.bool false)] ok0 ⟨?_, ?_, trivial⟩ ?_
 · intro A B E G H; exact rP (y_boxagg (kp (H 0 rfl) E p0))
 · intro A B E G H; exact rP (y_assign rfl)
 intro a1 s1 D1; have ok1 := D1.ok; have F1 := F0.step0 D1.stp; have q1 := D1.kt p1 rfl; have q2 := D1.kt p2 rfl; have q3 := D1.kt p3 rfl; have q4 := D1.dn 0 rfl rfl; clear D1; refine tn ?_; refine wp_seq ?_; refine wp_seq ?_
 refine rg a1 s1 [(Ty.lstc 2 callC cs), (Ty.nat (List.length cs)), (Ty.bool (decide ((12 : Int) < (((List.length cs) : Nat) : Int)))), (Ty.bool (decide ((12 : Int) < (((List.length cs) : Nat) : Int)))), (Ty.grd ((decide ((12 : Int) < (((List.length cs) : Nat) : Int))) = false) (Ty.lst Ty.int leads)), (Ty.grd ((decide ((12 : Int) < (((List.length cs) : Nat) : Int))) = false) (Ty.nat (List.length leads))), (Ty.grd ((decide ((12 : Int) < (((List.length cs) : Nat) : Int))) = false) (Ty.bool (decide ((60 : Int) < (((List.length leads) : Nat) : Int))))), (Ty.grd ((decide ((12 : Int) < (((List.length cs) : Nat) : Int))) = false) (Ty.bool (decide ((60 : Int) < (((List.length leads) : Nat) : Int))))), (Ty.grd (((decide ((12 : Int) < (((List.length cs) : Nat) : Int))) = false) ∧ (decide ((60 : Int) < (((List.length leads) : Nat) : Int))) = true) (Ty.lst Ty.int leads)), (Ty.grd (((decide ((12 : Int) < (((List.length cs) : Nat) : Int))) = false) ∧ (decide ((60 : Int) < (((List.length leads) : Nat) : Int))) = true) (Ty.nat (List.length leads))), (Ty.grd (((decide ((12 : Int) < (((List.length cs) : Nat) : Int))) = false) ∧ (decide ((60 : Int) < (((List.length leads) : Nat) : Int))) = true) (Ty.bool (decide ((((List.length leads) : Nat) : Int) < (401 : Int))))), (Ty.grd ((decide ((12 : Int) < (((List.length cs) : Nat) : Int))) = false) (Ty.bool ((decide ((60 : Int) < (((List.length leads) : Nat) : Int))) && (decide ((((List.length leads) : Nat) : Int) < (401 : Int)))))), (Ty.bool ((decide ((12 : Int) < (((List.length cs) : Nat) : Int))) || ((decide ((60 : Int) < (((List.length leads) : Nat) : Int))) && (decide ((((List.length leads) : Nat) : Int) < (401 : Int)))))), (Ty.bool ((decide ((12 : Int) < (((List.length cs) : Nat) : Int))) || ((decide ((60 : Int) < (((List.length leads) : Nat) : Int))) && (decide ((((List.length leads) : Nat) : Int) < (401 : Int)))))), (Ty.grd (((decide ((12 : Int) < (((List.length cs) : Nat) : Int))) || ((decide ((60 : Int) < (((List.length leads) : Nat) : Int))) && (decide ((((List.length leads) : Nat) : Int) < (401 : Int))))) = false) (Ty.lst Ty.int leads)), (Ty.grd (((decide ((12 : Int) < (((List.length cs) : Nat) : Int))) || ((decide ((60 : Int) < (((List.length leads) : Nat) : Int))) && (decide ((((List.length leads) : Nat) : Int) < (401 : Int))))) = false) (Ty.nat (List.length leads))), (Ty.grd (((decide ((12 : Int) < (((List.length cs) : Nat) : Int))) || ((decide ((60 : Int) < (((List.length leads) : Nat) : Int))) && (decide ((((List.length leads) : Nat) : Int) < (401 : Int))))) = false) (Ty.bool (decide ((500 : Int) < (((List.length leads) : Nat) : Int))))), (Ty.bool (((decide ((12 : Int) < (((List.length cs) : Nat) : Int))) || ((decide ((60 : Int) < (((List.length leads) : Nat) : Int))) && (decide ((((List.length leads) : Nat) : Int) < (401 : Int))))) || (decide ((500 : Int) < (((List.length leads) : Nat) : Int)))))] ok1 ⟨?_, ?_, ?_, ?_, ?_, ?_, ?_, ?_, ?_, ?_, ?_, ?_, ?_, ?_, ?_, ?_, ?_, ?_, trivial⟩ ?_
 · intro A B E G H; exact rP (y_move (kp (H 1 rfl) E q1))
 · intro A B E G H d0; exact rP (y_len Tryd.underlying25 (ed d0 rfl rfl rfl))
 · intro A B E G H d0; exact rP (y_gtr (ed d0 rfl rfl rfl) rfl)
 · intro A B E G H d0; exact rP (y_move (ed d0 rfl rfl rfl))
 · intro A B E G H d0
   refine run_guard G rfl rfl (by decide) (ed d0 rfl rfl rfl) (fun hg => ?_)
   have hp := of_decide_eq_false hg
   exact y_move (kp (H 2 rfl) E q2)
 · intro A B E G H d0 d1
   refine run_guard G rfl rfl (by decide) (ed d1 rfl rfl rfl) (fun hg => ?_)
   have hp := of_decide_eq_false hg
   exact y_len Tryd.underlying26 ((ed d0 rfl rfl rfl).1 hg)
 · intro A B E G H d0 d1
   refine run_guard G rfl rfl (by decide) (ed d1 rfl rfl rfl) (fun hg => ?_)
   have hp := of_decide_eq_false hg
   exact y_gtr ((ed d0 rfl rfl rfl).1 hg) rfl
 · intro A B E G H d0 d1 d2
   refine run_guard G rfl rfl (by decide) (ed d1 rfl rfl rfl) (fun hg => ?_)
   have hp := of_decide_eq_false hg
   exact y_move ((ed d0 rfl rfl rfl).1 hg)
 · intro A B E G H d0
   refine run_guard2 G rfl rfl (by decide) (ed d0 rfl rfl rfl) (fun hg => ?_)
   have hp := of_decide_eq_true hg.2
   have hp0 := hg.1; try simp only [Bool.and_eq_true, Bool.or_eq_true, decide_eq_true_eq, decide_eq_false_iff_not] at hp0
   exact y_move (kp (H 2 rfl) E q2)
 · intro A B E G H d0 d1
   refine run_guard2 G rfl rfl (by decide) (ed d1 rfl rfl rfl) (fun hg => ?_)
   have hp := of_decide_eq_true hg.2
   have hp0 := hg.1; try simp only [Bool.and_eq_true, Bool.or_eq_true, decide_eq_true_eq, decide_eq_false_iff_not] at hp0
   exact y_len Tryd.underlying26 ((ed d0 rfl rfl rfl).1 hg)
 · intro A B E G H d0 d1
   refine run_guard2 G rfl rfl (by decide) (ed d1 rfl rfl rfl) (fun hg => ?_)
   have hp := of_decide_eq_true hg.2
   have hp0 := hg.1; try simp only [Bool.and_eq_true, Bool.or_eq_true, decide_eq_true_eq, decide_eq_false_iff_not] at hp0
   exact y_lss ((ed d0 rfl rfl rfl).1 hg) rfl
 · intro A B E G H d0 d1 d2
   refine run_guard G rfl rfl (by decide) (ed d2 rfl rfl rfl) (fun hg => ?_)
   have hp := of_decide_eq_false hg
   exact y_pick_and ((ed d0 rfl rfl rfl).1 hg) (grd_part hg (ed d1 rfl rfl rfl)) rfl
 · intro A B E G H d0 d1; exact rP (y_pick_or (ed d0 rfl rfl rfl) rfl (ed d1 rfl rfl rfl))
 · intro A B E G H d0 d1; exact rP (y_move (ed d0 rfl rfl rfl))
 · intro A B E G H d0
   refine run_guard G rfl rfl (by decide) (ed d0 rfl rfl rfl) (fun hg => ?_)
   obtain ⟨d1, d2⟩ := Bool.or_eq_false_iff.mp hg
   have d1 := of_decide_eq_false d1
   exact y_move (kp (H 2 rfl) E q2)
 · intro A B E G H d0 d1
   refine run_guard G rfl rfl (by decide) (ed d1 rfl rfl rfl) (fun hg => ?_)
   obtain ⟨d3, d4⟩ := Bool.or_eq_false_iff.mp hg
   have d3 := of_decide_eq_false d3
   exact y_len Tryd.underlying26 ((ed d0 rfl rfl rfl).1 hg)
 · intro A B E G H d0 d1
   refine run_guard G rfl rfl (by decide) (ed d1 rfl rfl rfl) (fun hg => ?_)
   obtain ⟨d5, d6⟩ := Bool.or_eq_false_iff.mp hg
   have d5 := of_decide_eq_false d5
   exact y_gtr ((ed d0 rfl rfl rfl).1 hg) rfl
 · intro A B E G H d0 d1; exact rP (y_pick_or (ed d0 rfl rfl rfl) rfl (ed d1 rfl rfl rfl))
 intro a2 s2 D2; have ok2 := D2.ok; have F2 := F1.step0 D2.stp; have q5 := D2.kt q1 rfl; have q6 := D2.kt q2 rfl; have q7 := D2.kt q3 rfl; have q8 := D2.kt q4 rfl; have q9 := D2.dn 17 rfl rfl; clear D2; refine tn ?_
 refine cond_t q9 (fun c1 => ?_) (fun c1 => ?_)
 ·
  refine wp_seq ?_
  refine rg a2 s2 [(Ty.bool true)] ok2 ⟨?_, trivial⟩ ?_
  · intro A B E G H; exact rP (y_assign rfl)
  intro a3 s3 D3; have ok3 := D3.ok; have F3 := F2.step0 D3.stp; have q10 := D3.dn 0 rfl rfl; clear D3; refine tn ?_; refine wp_ret ?_; refine tr ?_
  exact retL1 rfl ok3 F3 q10
 ·
  obtain ⟨d7, d8⟩ := Bool.or_eq_false_iff.mp c1
  obtain ⟨d9, d10⟩ := Bool.or_eq_false_iff.mp d7
  replace d9 := of_decide_eq_false d9
  replace d8 := of_decide_eq_false d8
  refine wp_skip ?_; refine tn ?_; refine wp_seq ?_; refine wp_seq ?_
  refine rg a2 s2 [(Ty.val (Value.int .i32 c)), (Ty.bool (signMay c)), (Ty.val (Value.int .i32 c)), (Ty.bool (signMay c)), (Ty.bool ((signMay c) != (signMay c))), (Ty.bool ((signMay c) != (signMay c))), (Ty.grd (((signMay c) != (signMay c)) = false) (Ty.agg [(Ty.val (Value.string nm)), (Ty.int n), (Ty.lst Ty.ints l)])), (Ty.grd (((signMay c) != (signMay c)) = false) (Ty.lstc 2 callC cs)), (Ty.grd (((signMay c) != (signMay c)) = false) (Ty.int (callsMay nm n l cs))), (Ty.grd (((signMay c) != (signMay c)) = false) (Ty.agg [(Ty.val (Value.string nm)), (Ty.int n), (Ty.lst Ty.ints l)])), (Ty.grd (((signMay c) != (signMay c)) = false) (Ty.lstc 2 callC cs)), (Ty.grd (((signMay c) != (signMay c)) = false) (Ty.int (callsMay nm n l cs))), (Ty.grd (((signMay c) != (signMay c)) = false) (Ty.bool (decide ((callsMay nm n l cs) ≠ (callsMay nm n l cs))))), (Ty.bool (((signMay c) != (signMay c)) || (decide ((callsMay nm n l cs) ≠ (callsMay nm n l cs)))))] ok2 ⟨?_, ?_, ?_, ?_, ?_, ?_, ?_, ?_, ?_, ?_, ?_, ?_, ?_, ?_, trivial⟩ ?_
  · intro A B E G H; exact rP (y_move (kp (H 3 rfl) E q7))
  · intro A B E G H d0; exact rP (y_call #[A.eval (.tmp 32)] Tryd.func6 rfl rfl (by simp only [List.map_toArray, List.map_cons, List.map_nil]) (callSign_fn (c) _ _ (ed d0 rfl rfl rfl) ))
  · intro A B E G H; exact rP (y_move (kp (H 3 rfl) E q7))
  · intro A B E G H d0 d1; exact rP (y_call #[A.eval (.tmp 34)] Tryd.func7 rfl rfl (by simp only [List.map_toArray, List.map_cons, List.map_nil]) (rSignMay_fn (c) _ _ (ed d0 rfl rfl rfl) ))
  · intro A B E G H d0 d1; exact rP (y_neqB Tryd.underlying4 (ed d0 rfl rfl rfl) (ed d1 rfl rfl rfl))
  · intro A B E G H d0 d1; exact rP (y_move (ed d0 rfl rfl rfl))
  · intro A B E G H d0
    refine run_guard G rfl rfl (by decide) (ed d0 rfl rfl rfl) (fun hg => ?_)
    exact y_loadagg Tryd.underlying24 Tryd.inf24 (kp (H 4 rfl) E q8)
  · intro A B E G H d0
    refine run_guard G rfl rfl (by decide) (ed d0 rfl rfl rfl) (fun hg => ?_)
    exact y_move (kp (H 1 rfl) E q5)
  · intro A B E G H d0 d1 d2 d3
    refine run_guard G rfl rfl (by decide) (ed d2 rfl rfl rfl) (fun hg => ?_)
    exact y_call #[A.eval (.tmp 38), A.eval (.tmp 39)] Tryd.func8 rfl rfl (by simp only [List.map_toArray, List.map_cons, List.map_nil]) (callCheck_fn (nm) (n) (l) (cs) _ _ _ ((ed d0 rfl rfl rfl).1 hg) ((ed d1 rfl rfl rfl).1 hg) (by first | omega | assumption) (by first | omega | assumption))
  · intro A B E G H d0
    refine run_guard G rfl rfl (by decide) (ed d0 rfl rfl rfl) (fun hg => ?_)
    exact y_loadagg Tryd.underlying24 Tryd.inf24 (kp (H 4 rfl) E q8)
  · intro A B E G H d0
    refine run_guard G rfl rfl (by decide) (ed d0 rfl rfl rfl) (fun hg => ?_)
    exact y_move (kp (H 1 rfl) E q5)
  · intro A B E G H d0 d1 d2 d3
    refine run_guard G rfl rfl (by decide) (ed d3 rfl rfl rfl) (fun hg => ?_)
    exact y_call #[A.eval (.tmp 41), A.eval (.tmp 42)] Tryd.func9 rfl rfl (by simp only [List.map_toArray, List.map_cons, List.map_nil]) (rCallsMay_fn (nm) (n) (l) (cs) _ _ _ ((ed d0 rfl rfl rfl).1 hg) ((ed d1 rfl rfl rfl).1 hg) (by first | omega | assumption) (by first | omega | assumption))
  · intro A B E G H d0 d1 d2
    refine run_guard G rfl rfl (by decide) (ed d2 rfl rfl rfl) (fun hg => ?_)
    exact y_neq ((ed d0 rfl rfl rfl).1 hg) ((ed d1 rfl rfl rfl).1 hg)
  · intro A B E G H d0 d1; exact rP (y_pick_or (ed d0 rfl rfl rfl) rfl (ed d1 rfl rfl rfl))
  intro a4 s4 D4; have ok4 := D4.ok; have F4 := F2.step0 D4.stp; have q11 := D4.kt q5 rfl; have q12 := D4.kt q6 rfl; have q13 := D4.kt q8 rfl; have q14 := D4.dn 13 rfl rfl; clear D4; refine tn ?_
  refine cond_t q14 (fun c2 => ?_) (fun c2 => ?_)
  ·
   exfalso
   simp at c2
  ·
   obtain ⟨d11, d12⟩ := Bool.or_eq_false_iff.mp c2
   replace d12 := of_decide_eq_false d12
   refine wp_skip ?_; refine tn ?_; refine wp_seq ?_
   refine rg a4 s4 [(Ty.lstc 2 callC cs), (Ty.lst Ty.int leads), (Ty.tup2 (Ty.val (Value.string (ptT cs (leads)))) (Ty.int (ptE cs (leads)))), (Ty.tup2 (Ty.val (Value.string (ptT cs (leads)))) (Ty.int (ptE cs (leads)))), (Ty.val (Value.string (ptT cs (leads)))), (Ty.int (ptE cs (leads))), (Ty.val (Value.string (ptT cs (leads)))), (Ty.int (ptE cs (leads)))] ok4 ⟨?_, ?_, ?_, ?_, ?_, ?_, ?_, ?_, trivial⟩ ?_
   · intro A B E G H; exact rP (y_move (kp (H 1 rfl) E q11))
   · intro A B E G H; exact rP (y_move (kp (H 2 rfl) E q12))
   · intro A B E G H d0 d1; exact rP (y_call #[A.eval (.tmp 47), A.eval (.tmp 48)] Tryd.func10 rfl rfl (by simp only [List.map_toArray, List.map_cons, List.map_nil]) (print_fn (cs) (leads) _ _ _ (ed d0 rfl rfl rfl) (ed d1 rfl rfl rfl) (by first | omega | assumption | rfl)))
   · intro A B E G H d0; exact rP (y_move (ed d0 rfl rfl rfl))
   · intro A B E G H d0; exact rP (y_ext2_0 (ed d0 rfl rfl rfl))
   · intro A B E G H d0 d1; exact rP (y_ext2_1 (ed d0 rfl rfl rfl))
   · intro A B E G H d0 d1 d2 d3 d4 d5 d6 d7; exact rP (y_assign (ed d0 rfl rfl rfl))
   · intro A B E G H d0 d1 d2 d3 d4 d5 d6 d7 d8; exact rP (y_assign (ed d0 rfl rfl rfl))
   intro a5 s5 D5; have ok5 := D5.ok; have F5 := F4.step0 D5.stp; have q15 := D5.kt q11 rfl; have q16 := D5.kt q12 rfl; have q17 := D5.kt q13 rfl; have q18 := D5.dn 6 rfl rfl; have q19 := D5.dn 7 rfl rfl; clear D5; refine tn ?_; refine wp_seq ?_
   refine rg a5 s5 [(Ty.lstc 2 callC cs), (Ty.lst Ty.int leads), (Ty.tup2 (Ty.val (Value.string (ptT cs (leads)))) (Ty.int (ptE cs (leads)))), (Ty.tup2 (Ty.val (Value.string (ptT cs (leads)))) (Ty.int (ptE cs (leads)))), (Ty.val (Value.string (ptT cs (leads)))), (Ty.int (ptE cs (leads))), (Ty.val (Value.string (ptT cs (leads)))), (Ty.int (ptE cs (leads)))] ok5 ⟨?_, ?_, ?_, ?_, ?_, ?_, ?_, ?_, trivial⟩ ?_
   · intro A B E G H; exact rP (y_move (kp (H 1 rfl) E q15))
   · intro A B E G H; exact rP (y_move (kp (H 2 rfl) E q16))
   · intro A B E G H d0 d1; exact rP (y_call #[A.eval (.tmp 53), A.eval (.tmp 54)] Tryd.func11 rfl rfl (by simp only [List.map_toArray, List.map_cons, List.map_nil]) (rPrintTouch_fn (cs) (leads) _ _ _ (ed d0 rfl rfl rfl) (ed d1 rfl rfl rfl) ))
   · intro A B E G H d0; exact rP (y_move (ed d0 rfl rfl rfl))
   · intro A B E G H d0; exact rP (y_ext2_0 (ed d0 rfl rfl rfl))
   · intro A B E G H d0 d1; exact rP (y_ext2_1 (ed d0 rfl rfl rfl))
   · intro A B E G H d0 d1 d2 d3 d4 d5 d6 d7; exact rP (y_assign (ed d0 rfl rfl rfl))
   · intro A B E G H d0 d1 d2 d3 d4 d5 d6 d7 d8; exact rP (y_assign (ed d0 rfl rfl rfl))
   intro a6 s6 D6; have ok6 := D6.ok; have F6 := F5.step0 D6.stp; have q20 := D6.kt q15 rfl; have q21 := D6.kt q16 rfl; have q22 := D6.kt q17 rfl; have q23 := D6.kt q18 rfl; have q24 := D6.kt q19 rfl; have q25 := D6.dn 6 rfl rfl; have q26 := D6.dn 7 rfl rfl; clear D6; refine tn ?_; refine wp_seq ?_; refine wp_seq ?_
   refine rg a6 s6 [(Ty.val (Value.string (ptT cs (leads)))), (Ty.val (Value.string (ptT cs (leads)))), (Ty.bool (!(decide ((ptT cs (leads)) = (ptT cs (leads)))))), (Ty.bool (!(decide ((ptT cs (leads)) = (ptT cs (leads)))))), (Ty.grd ((!(decide ((ptT cs (leads)) = (ptT cs (leads))))) = false) (Ty.int (ptE cs (leads)))), (Ty.grd ((!(decide ((ptT cs (leads)) = (ptT cs (leads))))) = false) (Ty.int (ptE cs (leads)))), (Ty.grd ((!(decide ((ptT cs (leads)) = (ptT cs (leads))))) = false) (Ty.bool (decide ((ptE cs (leads)) ≠ (ptE cs (leads)))))), (Ty.bool ((!(decide ((ptT cs (leads)) = (ptT cs (leads))))) || (decide ((ptE cs (leads)) ≠ (ptE cs (leads))))))] ok6 ⟨?_, ?_, ?_, ?_, ?_, ?_, ?_, ?_, trivial⟩ ?_
   · intro A B E G H; exact rP (y_move (kp (H 9 rfl) E q23))
   · intro A B E G H; exact rP (y_move (kp (H 11 rfl) E q25))
   · intro A B E G H d0 d1; exact rP (y_sneq Tryd.underlying9 (ed d0 rfl rfl rfl) (ed d1 rfl rfl rfl))
   · intro A B E G H d0; exact rP (y_move (ed d0 rfl rfl rfl))
   · intro A B E G H d0
     refine run_guard G rfl rfl (by decide) (ed d0 rfl rfl rfl) (fun hg => ?_)
     exact y_move (kp (H 10 rfl) E q24)
   · intro A B E G H d0
     refine run_guard G rfl rfl (by decide) (ed d0 rfl rfl rfl) (fun hg => ?_)
     exact y_move (kp (H 12 rfl) E q26)
   · intro A B E G H d0 d1 d2
     refine run_guard G rfl rfl (by decide) (ed d2 rfl rfl rfl) (fun hg => ?_)
     exact y_neq ((ed d0 rfl rfl rfl).1 hg) ((ed d1 rfl rfl rfl).1 hg)
   · intro A B E G H d0 d1; exact rP (y_pick_or (ed d0 rfl rfl rfl) rfl (ed d1 rfl rfl rfl))
   intro a7 s7 D7; have ok7 := D7.ok; have F7 := F6.step0 D7.stp; have q27 := D7.kt q20 rfl; have q28 := D7.kt q21 rfl; have q29 := D7.kt q22 rfl; have q30 := D7.dn 7 rfl rfl; clear D7; refine tn ?_
   refine cond_t q30 (fun c3 => ?_) (fun c3 => ?_)
   ·
    exfalso
    simp at c3
   ·
    obtain ⟨d13, d14⟩ := Bool.or_eq_false_iff.mp c3
    replace d14 := of_decide_eq_false d14
    refine wp_skip ?_; refine tn ?_; refine wp_seq ?_
    refine rg a7 s7 [(Ty.agg [(Ty.val (Value.string nm)), (Ty.int n), (Ty.lst Ty.ints l)]), (Ty.lstc 2 callC cs), (Ty.lst Ty.int leads), (Ty.int (touchMay nm n l cs leads)), (Ty.int (touchMay nm n l cs leads))] ok7 ⟨?_, ?_, ?_, ?_, ?_, trivial⟩ ?_
    · intro A B E G H; exact rP (y_loadagg Tryd.underlying24 Tryd.inf24 (kp (H 4 rfl) E q29))
    · intro A B E G H; exact rP (y_move (kp (H 1 rfl) E q27))
    · intro A B E G H; exact rP (y_move (kp (H 2 rfl) E q28))
    · intro A B E G H d0 d1 d2; exact rP (y_call #[A.eval (.tmp 66), A.eval (.tmp 67), A.eval (.tmp 68)] Tryd.func12 rfl rfl (by simp only [List.map_toArray, List.map_cons, List.map_nil]) (rTouchMay_fn (nm) (n) (l) (cs) (leads) _ _ _ _ (ed d0 rfl rfl rfl) (ed d1 rfl rfl rfl) (ed d2 rfl rfl rfl) (by first | omega | assumption) (by first | omega | assumption)))
    · intro A B E G H d0 d1 d2 d3 d4 d5; exact rP (y_assign (ed d0 rfl rfl rfl))
    intro a8 s8 D8; have ok8 := D8.ok; have F8 := F7.step0 D8.stp; have q31 := D8.kt q27 rfl; have q32 := D8.kt q28 rfl; have q33 := D8.kt q29 rfl; have q34 := D8.dn 4 rfl rfl; clear D8; refine tn ?_; refine wp_seq ?_
    refine rg a8 s8 [(Ty.agg [(Ty.val (Value.string nm)), (Ty.int n), (Ty.lst Ty.ints l)]), (Ty.lstc 2 callC cs), (Ty.lst Ty.int leads), (Ty.tup2 (Ty.lst Ty.ints (if touchMay nm n l cs leads = 0 then (tRows n.toNat l cs leads leads.length) else [])) (Ty.int (touchMay nm n l cs leads))), (Ty.tup2 (Ty.lst Ty.ints (if touchMay nm n l cs leads = 0 then (tRows n.toNat l cs leads leads.length) else [])) (Ty.int (touchMay nm n l cs leads))), (Ty.lst Ty.ints (if touchMay nm n l cs leads = 0 then (tRows n.toNat l cs leads leads.length) else [])), (Ty.int (touchMay nm n l cs leads)), (Ty.lst Ty.ints (if touchMay nm n l cs leads = 0 then (tRows n.toNat l cs leads leads.length) else [])), (Ty.int (touchMay nm n l cs leads))] ok8 ⟨?_, ?_, ?_, ?_, ?_, ?_, ?_, ?_, ?_, trivial⟩ ?_
    · intro A B E G H; exact rP (y_loadagg Tryd.underlying24 Tryd.inf24 (kp (H 4 rfl) E q33))
    · intro A B E G H; exact rP (y_move (kp (H 1 rfl) E q31))
    · intro A B E G H; exact rP (y_move (kp (H 2 rfl) E q32))
    · intro A B E G H d0 d1 d2; exact rP (y_call #[A.eval (.tmp 71), A.eval (.tmp 72), A.eval (.tmp 73)] Tryd.func13 rfl rfl (by simp only [List.map_toArray, List.map_cons, List.map_nil]) (callRows_fn (nm) (n) (l) (cs) (leads) _ _ _ _ (ed d0 rfl rfl rfl) (ed d1 rfl rfl rfl) (ed d2 rfl rfl rfl) (by first | omega | assumption) (by first | omega | assumption)))
    · intro A B E G H d0; exact rP (y_move (ed d0 rfl rfl rfl))
    · intro A B E G H d0; exact rP (y_ext2_0 (ed d0 rfl rfl rfl))
    · intro A B E G H d0 d1; exact rP (y_ext2_1 (ed d0 rfl rfl rfl))
    · intro A B E G H d0 d1 d2 d3 d4 d5 d6 d7 d8; exact rP (y_assign (ed d0 rfl rfl rfl))
    · intro A B E G H d0 d1 d2 d3 d4 d5 d6 d7 d8 d9; exact rP (y_assign (ed d0 rfl rfl rfl))
    intro a9 s9 D9; have ok9 := D9.ok; have F9 := F8.step0 D9.stp; have q35 := D9.kt q31 rfl; have q36 := D9.kt q32 rfl; have q37 := D9.kt q33 rfl; have q38 := D9.kt q34 rfl; have q39 := D9.dn 7 rfl rfl; have q40 := D9.dn 8 rfl rfl; clear D9; refine tn ?_; refine wp_seq ?_; refine wp_seq ?_
    refine rg a9 s9 [(Ty.agg [(Ty.val (Value.string nm)), (Ty.int n), (Ty.lst Ty.ints l)]), (Ty.lstc 2 callC cs), (Ty.lst Ty.int leads), (Ty.int (touchMay nm n l cs leads)), (Ty.int (touchMay nm n l cs leads)), (Ty.bool (decide ((touchMay nm n l cs leads) ≠ (touchMay nm n l cs leads)))), (Ty.bool (decide ((touchMay nm n l cs leads) ≠ (touchMay nm n l cs leads)))), (Ty.grd ((decide ((touchMay nm n l cs leads) ≠ (touchMay nm n l cs leads))) = false) (Ty.int (touchMay nm n l cs leads))), (Ty.grd ((decide ((touchMay nm n l cs leads) ≠ (touchMay nm n l cs leads))) = false) (Ty.int (touchMay nm n l cs leads))), (Ty.grd ((decide ((touchMay nm n l cs leads) ≠ (touchMay nm n l cs leads))) = false) (Ty.bool (decide ((touchMay nm n l cs leads) ≠ (touchMay nm n l cs leads))))), (Ty.bool ((decide ((touchMay nm n l cs leads) ≠ (touchMay nm n l cs leads))) || (decide ((touchMay nm n l cs leads) ≠ (touchMay nm n l cs leads)))))] ok9 ⟨?_, ?_, ?_, ?_, ?_, ?_, ?_, ?_, ?_, ?_, ?_, trivial⟩ ?_
    · intro A B E G H; exact rP (y_loadagg Tryd.underlying24 Tryd.inf24 (kp (H 4 rfl) E q37))
    · intro A B E G H; exact rP (y_move (kp (H 1 rfl) E q35))
    · intro A B E G H; exact rP (y_move (kp (H 2 rfl) E q36))
    · intro A B E G H d0 d1 d2; exact rP (y_call #[A.eval (.tmp 77), A.eval (.tmp 78), A.eval (.tmp 79)] Tryd.func14 rfl rfl (by simp only [List.map_toArray, List.map_cons, List.map_nil]) (callMay_fn (nm) (n) (l) (cs) (leads) _ _ _ _ (ed d0 rfl rfl rfl) (ed d1 rfl rfl rfl) (ed d2 rfl rfl rfl) (by first | omega | assumption) (by first | omega | assumption)))
    · intro A B E G H; exact rP (y_move (kp (H 12 rfl) E q38))
    · intro A B E G H d0 d1; exact rP (y_neq (ed d0 rfl rfl rfl) (ed d1 rfl rfl rfl))
    · intro A B E G H d0 d1; exact rP (y_move (ed d0 rfl rfl rfl))
    · intro A B E G H d0
      refine run_guard G rfl rfl (by decide) (ed d0 rfl rfl rfl) (fun hg => ?_)
      have hp := of_decide_eq_false hg
      exact y_move (kp (H 10 rfl) E q40)
    · intro A B E G H d0
      refine run_guard G rfl rfl (by decide) (ed d0 rfl rfl rfl) (fun hg => ?_)
      have hp := of_decide_eq_false hg
      exact y_move (kp (H 12 rfl) E q38)
    · intro A B E G H d0 d1 d2
      refine run_guard G rfl rfl (by decide) (ed d2 rfl rfl rfl) (fun hg => ?_)
      have hp := of_decide_eq_false hg
      exact y_neq ((ed d0 rfl rfl rfl).1 hg) ((ed d1 rfl rfl rfl).1 hg)
    · intro A B E G H d0 d1; exact rP (y_pick_or (ed d0 rfl rfl rfl) rfl (ed d1 rfl rfl rfl))
    intro a10 s10 D10; have ok10 := D10.ok; have F10 := F9.step0 D10.stp; have q41 := D10.kt q35 rfl; have q42 := D10.kt q36 rfl; have q43 := D10.kt q37 rfl; have q44 := D10.kt q38 rfl; have q45 := D10.kt q39 rfl; have q46 := D10.dn 10 rfl rfl; clear D10; refine tn ?_
    refine cond_t q46 (fun c4 => ?_) (fun c4 => ?_)
    ·
     exfalso
     simp at c4
    ·
     obtain ⟨d15, d16⟩ := Bool.or_eq_false_iff.mp c4
     replace d15 := of_decide_eq_false d15
     replace d16 := of_decide_eq_false d16
     refine wp_skip ?_; refine tn ?_; refine wp_seq ?_; refine wp_seq ?_
     refine rg a10 s10 [(Ty.int (touchMay nm n l cs leads)), (Ty.bool (decide ((touchMay nm n l cs leads) ≠ (0 : Int))))] ok10 ⟨?_, ?_, trivial⟩ ?_
     · intro A B E G H; exact rP (y_move (kp (H 12 rfl) E q44))
     · intro A B E G H d0; exact rP (y_neq (ed d0 rfl rfl rfl) rfl)
     intro a11 s11 D11; have ok11 := D11.ok; have F11 := F10.step0 D11.stp; have q47 := D11.kt q41 rfl; have q48 := D11.kt q42 rfl; have q49 := D11.kt q43 rfl; have q50 := D11.kt q45 rfl; have q51 := D11.dn 1 rfl rfl; clear D11; refine tn ?_
     refine cond_p (p := ((touchMay nm n l cs leads) ≠ (0 : Int))) q51 (fun c5 => ?_) (fun c5 => ?_)
     ·
      refine wp_seq ?_
      refine rg a11 s11 [(Ty.lst Ty.ints (if touchMay nm n l cs leads = 0 then (tRows n.toNat l cs leads leads.length) else [])), (Ty.nat (List.length (if touchMay nm n l cs leads = 0 then (tRows n.toNat l cs leads leads.length) else []))), (Ty.bool (decide ((((List.length (if touchMay nm n l cs leads = 0 then (tRows n.toNat l cs leads leads.length) else [])) : Nat) : Int) = (0 : Int)))), (Ty.bool (decide ((((List.length (if touchMay nm n l cs leads = 0 then (tRows n.toNat l cs leads leads.length) else [])) : Nat) : Int) = (0 : Int))))] ok11 ⟨?_, ?_, ?_, ?_, trivial⟩ ?_
      · intro A B E G H; exact rP (y_move (kp (H 13 rfl) E q50))
      · intro A B E G H d0; exact rP (y_len Tryd.underlying22 (ed d0 rfl rfl rfl))
      · intro A B E G H d0; exact rP (y_eql (ed d0 rfl rfl rfl) rfl)
      · intro A B E G H d0 d1 d2 d3; exact rP (y_assign (ed d0 rfl rfl rfl))
      intro a12 s12 D12; have ok12 := D12.ok; have F12 := F11.step0 D12.stp; have q52 := D12.dn 3 rfl rfl; clear D12; refine tn ?_; refine wp_ret ?_; refine tr ?_
      exact retL1 rfl ok12 F12 (cvb (by (simp [c5])) q52)
     ·
      refine wp_skip ?_; refine tn ?_; refine wp_seq ?_
      refine rg a11 s11 [(Ty.lst Ty.ints (if touchMay nm n l cs leads = 0 then (tRows n.toNat l cs leads leads.length) else [])), (Ty.agg [(Ty.val (Value.string nm)), (Ty.int n), (Ty.lst Ty.ints l)]), (Ty.lstc 2 callC cs), (Ty.lst Ty.int leads), (Ty.lst Ty.ints (tRows n.toNat l cs leads leads.length)), (Ty.bool (decide (((if touchMay nm n l cs leads = 0 then (tRows n.toNat l cs leads leads.length) else [])) = ((tRows n.toNat l cs leads leads.length))))), (Ty.bool (decide (((if touchMay nm n l cs leads = 0 then (tRows n.toNat l cs leads leads.length) else [])) = ((tRows n.toNat l cs leads leads.length)))))] ok11 ⟨?_, ?_, ?_, ?_, ?_, ?_, ?_, trivial⟩ ?_
      · intro A B E G H; exact rP (y_move (kp (H 13 rfl) E q50))
      · intro A B E G H; exact rP (y_loadagg Tryd.underlying24 Tryd.inf24 (kp (H 4 rfl) E q49))
      · intro A B E G H; exact rP (y_move (kp (H 1 rfl) E q47))
      · intro A B E G H; exact rP (y_move (kp (H 2 rfl) E q48))
      · intro A B E G H d0 d1 d2; exact rP (y_call #[A.eval (.tmp 94), A.eval (.tmp 95), A.eval (.tmp 96)] Tryd.func16 rfl rfl (by simp only [List.map_toArray, List.map_cons, List.map_nil]) (rTouchRows_fn (nm) (n) (l) (cs) (leads) _ _ _ _ (ed d0 rfl rfl rfl) (ed d1 rfl rfl rfl) (ed d2 rfl rfl rfl) (by first | omega | assumption)))
      · intro A B E G H d0 d1 d2; exact rP (y_call #[A.eval (.tmp 93), A.eval (.tmp 97)] Tryd.func15 rfl rfl (by simp only [List.map_toArray, List.map_cons, List.map_nil]) (rSameAll_fn ((if touchMay nm n l cs leads = 0 then (tRows n.toNat l cs leads leads.length) else [])) ((tRows n.toNat l cs leads leads.length)) _ _ _ (ed d0 rfl rfl rfl) (ed d1 rfl rfl rfl) ))
      · intro A B E G H d0 d1 d2 d3 d4 d5 d6 d7; exact rP (y_assign (ed d0 rfl rfl rfl))
      intro a13 s13 D13; have ok13 := D13.ok; have F13 := F11.step0 D13.stp; have q53 := D13.dn 6 rfl rfl; clear D13; refine tn ?_; refine wp_ret ?_
      exact retL1 rfl ok13 F13 (cvb (by (simp [c5])) q53)


end Go.Proofs.YtbilebfnanlgfaaDoor
