/- The functions that the law TruthMade reaches, each by its contract. Part 10. -/
import Derived.Test.YtbilebfnanlgfaaTruthMadeW9
namespace Go.Proofs.Ytbilebfnanlgfaa
open Go.KL

set_option maxHeartbeats 4000000 in
set_option maxRecDepth 100000 in
theorem truthSays_fn (nm : ByteArray) (n : Int) (l : List (List Int)) (cs : List BCall) (leads : List Int) (σ : GW)  (v0 v1 v2 : Value) (hv0 : Ty.has (Ty.agg [(Ty.val (Value.string nm)), (Ty.int n), (Ty.lst Ty.ints l)]) σ v0) (hv1 : Ty.has (Ty.lstc 2 callC cs) σ v1) (hv2 : Ty.has (Ty.lst Ty.int leads) σ v2)  (hnm : nm.size ≤ 1099511627776) (hn : -9223372036854775808 ≤ n ∧ n ≤ 9223372036854775807) :
    FnC Try.prog 6 #[v0, v1, v2] σ (Ty.bool true) := by
 refine fn_intro0 Try.func6 rfl Try.ntmps6 (Nat.le_of_ble_eq_true rfl) (fun s0 a0 hle F0 ok0 hargs => ?_)
 have p0 : At (Ty.agg [(Ty.val (Value.string nm)), (Ty.int n), (Ty.lst Ty.ints l)]) s0 a0 (.tmp 0) := by have e := hargs 0 _ rfl; show Ty.has _ _ _; rw [e]; exact Ty.up _ hle hv0
 have p1 : At (Ty.lstc 2 callC cs) s0 a0 (.tmp 1) := by have e := hargs 1 _ rfl; show Ty.has _ _ _; rw [e]; exact Ty.up _ hle hv1
 have b1 := sl_le p1
 have p2 : At (Ty.lst Ty.int leads) s0 a0 (.tmp 2) := by have e := hargs 2 _ rfl; show Ty.has _ _ _; rw [e]; exact Ty.up _ hle hv2
 have b2 := sl_le p2
 clear hargs; refine wp_seq ?_
 refine rg a0 s0 [(Ty.ref [(Ty.val (Value.string nm)), (Ty.int n), (Ty.lst Ty.ints l)]), (Ty.bool false)] ok0 ⟨?_, ?_, trivial⟩ ?_
 · intro A B E G H; exact rP (y_boxagg (kp (H 0 rfl) E p0))
 · intro A B E G H; exact rP (y_assign rfl)
 intro a1 s1 D1; have ok1 := D1.ok; have F1 := F0.step0 D1.stp; have q1 := D1.kt p1 rfl; have q2 := D1.kt p2 rfl; have q3 := D1.dn 0 rfl rfl; clear D1; refine tn ?_; refine wp_seq ?_; refine wp_seq ?_
 refine rg a1 s1 [(Ty.lstc 2 callC cs), (Ty.nat (List.length cs)), (Ty.bool (decide ((12 : Int) < (((List.length cs) : Nat) : Int)))), (Ty.bool (decide ((12 : Int) < (((List.length cs) : Nat) : Int)))), (Ty.grd ((decide ((12 : Int) < (((List.length cs) : Nat) : Int))) = false) (Ty.lst Ty.int leads)), (Ty.grd ((decide ((12 : Int) < (((List.length cs) : Nat) : Int))) = false) (Ty.nat (List.length leads))), (Ty.grd ((decide ((12 : Int) < (((List.length cs) : Nat) : Int))) = false) (Ty.bool (decide ((60 : Int) < (((List.length leads) : Nat) : Int))))), (Ty.grd ((decide ((12 : Int) < (((List.length cs) : Nat) : Int))) = false) (Ty.bool (decide ((60 : Int) < (((List.length leads) : Nat) : Int))))), (Ty.grd (((decide ((12 : Int) < (((List.length cs) : Nat) : Int))) = false) ∧ (decide ((60 : Int) < (((List.length leads) : Nat) : Int))) = true) (Ty.lst Ty.int leads)), (Ty.grd (((decide ((12 : Int) < (((List.length cs) : Nat) : Int))) = false) ∧ (decide ((60 : Int) < (((List.length leads) : Nat) : Int))) = true) (Ty.nat (List.length leads))), (Ty.grd (((decide ((12 : Int) < (((List.length cs) : Nat) : Int))) = false) ∧ (decide ((60 : Int) < (((List.length leads) : Nat) : Int))) = true) (Ty.bool (decide ((((List.length leads) : Nat) : Int) < (401 : Int))))), (Ty.grd ((decide ((12 : Int) < (((List.length cs) : Nat) : Int))) = false) (Ty.bool ((decide ((60 : Int) < (((List.length leads) : Nat) : Int))) && (decide ((((List.length leads) : Nat) : Int) < (401 : Int)))))), (Ty.bool ((decide ((12 : Int) < (((List.length cs) : Nat) : Int))) || ((decide ((60 : Int) < (((List.length leads) : Nat) : Int))) && (decide ((((List.length leads) : Nat) : Int) < (401 : Int)))))), (Ty.bool ((decide ((12 : Int) < (((List.length cs) : Nat) : Int))) || ((decide ((60 : Int) < (((List.length leads) : Nat) : Int))) && (decide ((((List.length leads) : Nat) : Int) < (401 : Int)))))), (Ty.grd (((decide ((12 : Int) < (((List.length cs) : Nat) : Int))) || ((decide ((60 : Int) < (((List.length leads) : Nat) : Int))) && (decide ((((List.length leads) : Nat) : Int) < (401 : Int))))) = false) (Ty.lst Ty.int leads)), (Ty.grd (((decide ((12 : Int) < (((List.length cs) : Nat) : Int))) || ((decide ((60 : Int) < (((List.length leads) : Nat) : Int))) && (decide ((((List.length leads) : Nat) : Int) < (401 : Int))))) = false) (Ty.nat (List.length leads))), (Ty.grd (((decide ((12 : Int) < (((List.length cs) : Nat) : Int))) || ((decide ((60 : Int) < (((List.length leads) : Nat) : Int))) && (decide ((((List.length leads) : Nat) : Int) < (401 : Int))))) = false) (Ty.bool (decide ((500 : Int) < (((List.length leads) : Nat) : Int))))), (Ty.bool (((decide ((12 : Int) < (((List.length cs) : Nat) : Int))) || ((decide ((60 : Int) < (((List.length leads) : Nat) : Int))) && (decide ((((List.length leads) : Nat) : Int) < (401 : Int))))) || (decide ((500 : Int) < (((List.length leads) : Nat) : Int))))), (Ty.bool (((decide ((12 : Int) < (((List.length cs) : Nat) : Int))) || ((decide ((60 : Int) < (((List.length leads) : Nat) : Int))) && (decide ((((List.length leads) : Nat) : Int) < (401 : Int))))) || (decide ((500 : Int) < (((List.length leads) : Nat) : Int))))), (Ty.grd ((((decide ((12 : Int) < (((List.length cs) : Nat) : Int))) || ((decide ((60 : Int) < (((List.length leads) : Nat) : Int))) && (decide ((((List.length leads) : Nat) : Int) < (401 : Int))))) || (decide ((500 : Int) < (((List.length leads) : Nat) : Int)))) = false) (Ty.ref [(Ty.lst Ty.ints l)])), (Ty.grd ((((decide ((12 : Int) < (((List.length cs) : Nat) : Int))) || ((decide ((60 : Int) < (((List.length leads) : Nat) : Int))) && (decide ((((List.length leads) : Nat) : Int) < (401 : Int))))) || (decide ((500 : Int) < (((List.length leads) : Nat) : Int)))) = false) (Ty.lst Ty.ints l)), (Ty.grd ((((decide ((12 : Int) < (((List.length cs) : Nat) : Int))) || ((decide ((60 : Int) < (((List.length leads) : Nat) : Int))) && (decide ((((List.length leads) : Nat) : Int) < (401 : Int))))) || (decide ((500 : Int) < (((List.length leads) : Nat) : Int)))) = false) (Ty.nat (List.length l))), (Ty.grd ((((decide ((12 : Int) < (((List.length cs) : Nat) : Int))) || ((decide ((60 : Int) < (((List.length leads) : Nat) : Int))) && (decide ((((List.length leads) : Nat) : Int) < (401 : Int))))) || (decide ((500 : Int) < (((List.length leads) : Nat) : Int)))) = false) (Ty.bool (decide ((40 : Int) < (((List.length l) : Nat) : Int))))), (Ty.grd ((((decide ((12 : Int) < (((List.length cs) : Nat) : Int))) || ((decide ((60 : Int) < (((List.length leads) : Nat) : Int))) && (decide ((((List.length leads) : Nat) : Int) < (401 : Int))))) || (decide ((500 : Int) < (((List.length leads) : Nat) : Int)))) = false) (Ty.bool (decide ((40 : Int) < (((List.length l) : Nat) : Int))))), (Ty.grd (((((decide ((12 : Int) < (((List.length cs) : Nat) : Int))) || ((decide ((60 : Int) < (((List.length leads) : Nat) : Int))) && (decide ((((List.length leads) : Nat) : Int) < (401 : Int))))) || (decide ((500 : Int) < (((List.length leads) : Nat) : Int)))) = false) ∧ (decide ((40 : Int) < (((List.length l) : Nat) : Int))) = true) (Ty.ref [(Ty.lst Ty.ints l)])), (Ty.grd (((((decide ((12 : Int) < (((List.length cs) : Nat) : Int))) || ((decide ((60 : Int) < (((List.length leads) : Nat) : Int))) && (decide ((((List.length leads) : Nat) : Int) < (401 : Int))))) || (decide ((500 : Int) < (((List.length leads) : Nat) : Int)))) = false) ∧ (decide ((40 : Int) < (((List.length l) : Nat) : Int))) = true) (Ty.lst Ty.ints l)), (Ty.grd (((((decide ((12 : Int) < (((List.length cs) : Nat) : Int))) || ((decide ((60 : Int) < (((List.length leads) : Nat) : Int))) && (decide ((((List.length leads) : Nat) : Int) < (401 : Int))))) || (decide ((500 : Int) < (((List.length leads) : Nat) : Int)))) = false) ∧ (decide ((40 : Int) < (((List.length l) : Nat) : Int))) = true) (Ty.nat (List.length l))), (Ty.grd (((((decide ((12 : Int) < (((List.length cs) : Nat) : Int))) || ((decide ((60 : Int) < (((List.length leads) : Nat) : Int))) && (decide ((((List.length leads) : Nat) : Int) < (401 : Int))))) || (decide ((500 : Int) < (((List.length leads) : Nat) : Int)))) = false) ∧ (decide ((40 : Int) < (((List.length l) : Nat) : Int))) = true) (Ty.bool (decide ((((List.length l) : Nat) : Int) < (201 : Int))))), (Ty.grd ((((decide ((12 : Int) < (((List.length cs) : Nat) : Int))) || ((decide ((60 : Int) < (((List.length leads) : Nat) : Int))) && (decide ((((List.length leads) : Nat) : Int) < (401 : Int))))) || (decide ((500 : Int) < (((List.length leads) : Nat) : Int)))) = false) (Ty.bool ((decide ((40 : Int) < (((List.length l) : Nat) : Int))) && (decide ((((List.length l) : Nat) : Int) < (201 : Int)))))), (Ty.bool ((((decide ((12 : Int) < (((List.length cs) : Nat) : Int))) || ((decide ((60 : Int) < (((List.length leads) : Nat) : Int))) && (decide ((((List.length leads) : Nat) : Int) < (401 : Int))))) || (decide ((500 : Int) < (((List.length leads) : Nat) : Int)))) || ((decide ((40 : Int) < (((List.length l) : Nat) : Int))) && (decide ((((List.length l) : Nat) : Int) < (201 : Int))))))] ok1 ⟨?_, ?_, ?_, ?_, ?_, ?_, ?_, ?_, ?_, ?_, ?_, ?_, ?_, ?_, ?_, ?_, ?_, ?_, ?_, ?_, ?_, ?_, ?_, ?_, ?_, ?_, ?_, ?_, ?_, ?_, trivial⟩ ?_
 · intro A B E G H; exact rP (y_move (kp (H 1 rfl) E q1))
 · intro A B E G H d0; exact rP (y_len Try.underlying22 (ed d0 rfl rfl rfl))
 · intro A B E G H d0; exact rP (y_gtr (ed d0 rfl rfl rfl) rfl)
 · intro A B E G H d0; exact rP (y_move (ed d0 rfl rfl rfl))
 · intro A B E G H d0
   refine run_guard G rfl rfl (by decide) (ed d0 rfl rfl rfl) (fun hg => ?_)
   have hp := of_decide_eq_false hg
   exact y_move (kp (H 2 rfl) E q2)
 · intro A B E G H d0 d1
   refine run_guard G rfl rfl (by decide) (ed d1 rfl rfl rfl) (fun hg => ?_)
   have hp := of_decide_eq_false hg
   exact y_len Try.underlying23 ((ed d0 rfl rfl rfl).1 hg)
 · intro A B E G H d0 d1
   refine run_guard G rfl rfl (by decide) (ed d1 rfl rfl rfl) (fun hg => ?_)
   have hp := of_decide_eq_false hg
   exact y_gtr ((ed d0 rfl rfl rfl).1 hg) rfl
 · intro A B E G H d0 d1 d2
   refine run_guard G rfl rfl (by decide) (ed d1 rfl rfl rfl) (fun hg => ?_)
   have hp := of_decide_eq_false hg
   exact y_move ((ed d0 rfl rfl rfl).1 hg)
 · intro A B E G H d0
   refine run_guard2 G rfl rfl (by decide) (ed d0 rfl rfl rfl) (fun hg => ?_)
   have hp := of_decide_eq_true hg.2
   have hp0 := hg.1; try simp only [Bool.and_eq_true, Bool.or_eq_true, decide_eq_true_eq, decide_eq_false_iff_not] at hp0
   exact y_move (kp (H 2 rfl) E q2)
 · intro A B E G H d0 d1
   refine run_guard2 G rfl rfl (by decide) (ed d1 rfl rfl rfl) (fun hg => ?_)
   have hp := of_decide_eq_true hg.2
   have hp0 := hg.1; try simp only [Bool.and_eq_true, Bool.or_eq_true, decide_eq_true_eq, decide_eq_false_iff_not] at hp0
   exact y_len Try.underlying23 ((ed d0 rfl rfl rfl).1 hg)
 · intro A B E G H d0 d1
   refine run_guard2 G rfl rfl (by decide) (ed d1 rfl rfl rfl) (fun hg => ?_)
   have hp := of_decide_eq_true hg.2
   have hp0 := hg.1; try simp only [Bool.and_eq_true, Bool.or_eq_true, decide_eq_true_eq, decide_eq_false_iff_not] at hp0
   exact y_lss ((ed d0 rfl rfl rfl).1 hg) rfl
 · intro A B E G H d0 d1 d2
   refine run_guard G rfl rfl (by decide) (ed d2 rfl rfl rfl) (fun hg => ?_)
   have hp := of_decide_eq_false hg
   exact y_pick_and ((ed d0 rfl rfl rfl).1 hg) (grd_part hg (ed d1 rfl rfl rfl)) rfl
 · intro A B E G H d0 d1; exact rP (y_pick_or (ed d0 rfl rfl rfl) rfl (ed d1 rfl rfl rfl))
 · intro A B E G H d0 d1; exact rP (y_move (ed d0 rfl rfl rfl))
 · intro A B E G H d0
   refine run_guard G rfl rfl (by decide) (ed d0 rfl rfl rfl) (fun hg => ?_)
   obtain ⟨d1, d2⟩ := Bool.or_eq_false_iff.mp hg
   have d1 := of_decide_eq_false d1
   exact y_move (kp (H 2 rfl) E q2)
 · intro A B E G H d0 d1
   refine run_guard G rfl rfl (by decide) (ed d1 rfl rfl rfl) (fun hg => ?_)
   obtain ⟨d3, d4⟩ := Bool.or_eq_false_iff.mp hg
   have d3 := of_decide_eq_false d3
   exact y_len Try.underlying23 ((ed d0 rfl rfl rfl).1 hg)
 · intro A B E G H d0 d1
   refine run_guard G rfl rfl (by decide) (ed d1 rfl rfl rfl) (fun hg => ?_)
   obtain ⟨d5, d6⟩ := Bool.or_eq_false_iff.mp hg
   have d5 := of_decide_eq_false d5
   exact y_gtr ((ed d0 rfl rfl rfl).1 hg) rfl
 · intro A B E G H d0 d1; exact rP (y_pick_or (ed d0 rfl rfl rfl) rfl (ed d1 rfl rfl rfl))
 · intro A B E G H d0 d1; exact rP (y_move (ed d0 rfl rfl rfl))
 · intro A B E G H d0
   refine run_guard G rfl rfl (by decide) (ed d0 rfl rfl rfl) (fun hg => ?_)
   obtain ⟨d7, d8⟩ := Bool.or_eq_false_iff.mp hg
   obtain ⟨d9, d10⟩ := Bool.or_eq_false_iff.mp d7
   have d9 := of_decide_eq_false d9
   have d8 := of_decide_eq_false d8
   exact y_field Try.fld31_2 Try.inf29 (by decide) (kp (H 3 rfl) E q3) rfl
 · intro A B E G H d0 d1
   refine run_guard G rfl rfl (by decide) (ed d1 rfl rfl rfl) (fun hg => ?_)
   obtain ⟨d11, d12⟩ := Bool.or_eq_false_iff.mp hg
   obtain ⟨d13, d14⟩ := Bool.or_eq_false_iff.mp d11
   have d13 := of_decide_eq_false d13
   have d12 := of_decide_eq_false d12
   exact y_load Try.underlying29 rfl ((ed d0 rfl rfl rfl).1 hg) rfl
 · intro A B E G H d0 d1
   refine run_guard G rfl rfl (by decide) (ed d1 rfl rfl rfl) (fun hg => ?_)
   obtain ⟨d15, d16⟩ := Bool.or_eq_false_iff.mp hg
   obtain ⟨d17, d18⟩ := Bool.or_eq_false_iff.mp d15
   have d17 := of_decide_eq_false d17
   have d16 := of_decide_eq_false d16
   exact y_len Try.underlying29 ((ed d0 rfl rfl rfl).1 hg)
 · intro A B E G H d0 d1
   refine run_guard G rfl rfl (by decide) (ed d1 rfl rfl rfl) (fun hg => ?_)
   obtain ⟨d19, d20⟩ := Bool.or_eq_false_iff.mp hg
   obtain ⟨d21, d22⟩ := Bool.or_eq_false_iff.mp d19
   have d21 := of_decide_eq_false d21
   have d20 := of_decide_eq_false d20
   exact y_gtr ((ed d0 rfl rfl rfl).1 hg) rfl
 · intro A B E G H d0 d1 d2
   refine run_guard G rfl rfl (by decide) (ed d1 rfl rfl rfl) (fun hg => ?_)
   obtain ⟨d23, d24⟩ := Bool.or_eq_false_iff.mp hg
   obtain ⟨d25, d26⟩ := Bool.or_eq_false_iff.mp d23
   have d25 := of_decide_eq_false d25
   have d24 := of_decide_eq_false d24
   exact y_move ((ed d0 rfl rfl rfl).1 hg)
 · intro A B E G H d0
   refine run_guard2 G rfl rfl (by decide) (ed d0 rfl rfl rfl) (fun hg => ?_)
   have hp := of_decide_eq_true hg.2
   have hp0 := hg.1; try simp only [Bool.and_eq_true, Bool.or_eq_true, decide_eq_true_eq, decide_eq_false_iff_not] at hp0
   exact y_field Try.fld31_2 Try.inf29 (by decide) (kp (H 3 rfl) E q3) rfl
 · intro A B E G H d0 d1
   refine run_guard2 G rfl rfl (by decide) (ed d1 rfl rfl rfl) (fun hg => ?_)
   have hp := of_decide_eq_true hg.2
   have hp0 := hg.1; try simp only [Bool.and_eq_true, Bool.or_eq_true, decide_eq_true_eq, decide_eq_false_iff_not] at hp0
   exact y_load Try.underlying29 rfl ((ed d0 rfl rfl rfl).1 hg) rfl
 · intro A B E G H d0 d1
   refine run_guard2 G rfl rfl (by decide) (ed d1 rfl rfl rfl) (fun hg => ?_)
   have hp := of_decide_eq_true hg.2
   have hp0 := hg.1; try simp only [Bool.and_eq_true, Bool.or_eq_true, decide_eq_true_eq, decide_eq_false_iff_not] at hp0
   exact y_len Try.underlying29 ((ed d0 rfl rfl rfl).1 hg)
 · intro A B E G H d0 d1
   refine run_guard2 G rfl rfl (by decide) (ed d1 rfl rfl rfl) (fun hg => ?_)
   have hp := of_decide_eq_true hg.2
   have hp0 := hg.1; try simp only [Bool.and_eq_true, Bool.or_eq_true, decide_eq_true_eq, decide_eq_false_iff_not] at hp0
   exact y_lss ((ed d0 rfl rfl rfl).1 hg) rfl
 · intro A B E G H d0 d1 d2
   refine run_guard G rfl rfl (by decide) (ed d2 rfl rfl rfl) (fun hg => ?_)
   obtain ⟨d27, d28⟩ := Bool.or_eq_false_iff.mp hg
   obtain ⟨d29, d30⟩ := Bool.or_eq_false_iff.mp d27
   have d29 := of_decide_eq_false d29
   have d28 := of_decide_eq_false d28
   exact y_pick_and ((ed d0 rfl rfl rfl).1 hg) (grd_part hg (ed d1 rfl rfl rfl)) rfl
 · intro A B E G H d0 d1; exact rP (y_pick_or (ed d0 rfl rfl rfl) rfl (ed d1 rfl rfl rfl))
 intro a2 s2 D2; have ok2 := D2.ok; have F2 := F1.step0 D2.stp; have q4 := D2.kt q1 rfl; have q5 := D2.kt q2 rfl; have q6 := D2.kt q3 rfl; have q7 := D2.dn 29 rfl rfl; clear D2; refine tn ?_
 refine cond_t q7 (fun c1 => ?_) (fun c1 => ?_)
 ·
  refine wp_seq ?_
  refine rg a2 s2 [(Ty.bool true)] ok2 ⟨?_, trivial⟩ ?_
  · intro A B E G H; exact rP (y_assign rfl)
  intro a3 s3 D3; have ok3 := D3.ok; have F3 := F2.step0 D3.stp; have q8 := D3.dn 0 rfl rfl; clear D3; refine tn ?_; refine wp_ret ?_; refine tr ?_
  exact retL1 rfl ok3 F3 q8
 ·
  obtain ⟨d31, d32⟩ := Bool.or_eq_false_iff.mp c1
  obtain ⟨d33, d34⟩ := Bool.or_eq_false_iff.mp d31
  obtain ⟨d35, d36⟩ := Bool.or_eq_false_iff.mp d33
  replace d35 := of_decide_eq_false d35
  replace d34 := of_decide_eq_false d34
  refine wp_skip ?_; refine tn ?_; refine wp_seq ?_
  refine rg a2 s2 [(Ty.agg [(Ty.val (Value.string nm)), (Ty.int n), (Ty.lst Ty.ints l)]), (Ty.lstc 2 callC cs), (Ty.lst Ty.int leads), (Ty.int (touchMay nm n l cs leads)), (Ty.int (touchMay nm n l cs leads))] ok2 ⟨?_, ?_, ?_, ?_, ?_, trivial⟩ ?_
  · intro A B E G H; exact rP (y_loadagg Try.underlying31 Try.inf31 (kp (H 3 rfl) E q6))
  · intro A B E G H; exact rP (y_move (kp (H 1 rfl) E q4))
  · intro A B E G H; exact rP (y_move (kp (H 2 rfl) E q5))
  · intro A B E G H d0 d1 d2; exact rP (y_call #[A.eval (.tmp 54), A.eval (.tmp 55), A.eval (.tmp 56)] Try.func21 rfl rfl (by simp only [List.map_toArray, List.map_cons, List.map_nil]) (rTouchMay_fn (nm) (n) (l) (cs) (leads) _ _ _ _ (ed d0 rfl rfl rfl) (ed d1 rfl rfl rfl) (ed d2 rfl rfl rfl) (by first | omega | assumption) (by first | omega | assumption)))
  · intro A B E G H d0 d1 d2 d3 d4 d5; exact rP (y_assign (ed d0 rfl rfl rfl))
  intro a4 s4 D4; have ok4 := D4.ok; have F4 := F2.step0 D4.stp; have q9 := D4.kt q4 rfl; have q10 := D4.kt q5 rfl; have q11 := D4.kt q6 rfl; have q12 := D4.dn 4 rfl rfl; clear D4; refine tn ?_; refine wp_seq ?_
  refine reg2 (a := a4) (σ := s4) rfl 8 (fun i_ => List.getD [(Ty.pr (Ty.agg [(Ty.val (Value.string nm)), (Ty.int n), (Ty.lst Ty.ints l)])), (Ty.pr (Ty.lstc 2 callC cs)), (Ty.pr (Ty.lst Ty.int leads)), (Ty.pr (Ty.tup2 (Ty.agg [(Ty.nat (if touchMay nm n l cs leads = 0 then leads.length * l.length else 0)), (Ty.bool (if touchMay nm n l cs leads = 0 then rndB (tRows n.toNat l cs leads leads.length) else false)), (Ty.bool (if touchMay nm n l cs leads = 0 then (prO (tRows n.toNat l cs leads leads.length)).isNone else false)), (Ty.nat (if touchMay nm n l cs leads = 0 then agnL (tRows n.toNat l cs leads leads.length) else 0)), (Ty.int (if touchMay nm n l cs leads = 0 then befL (tRows n.toNat l cs leads leads.length) else 0))]) (Ty.int (touchMay nm n l cs leads)))), (Ty.pr (Ty.tup2 (Ty.agg [(Ty.nat (if touchMay nm n l cs leads = 0 then leads.length * l.length else 0)), (Ty.bool (if touchMay nm n l cs leads = 0 then rndB (tRows n.toNat l cs leads leads.length) else false)), (Ty.bool (if touchMay nm n l cs leads = 0 then (prO (tRows n.toNat l cs leads leads.length)).isNone else false)), (Ty.nat (if touchMay nm n l cs leads = 0 then agnL (tRows n.toNat l cs leads leads.length) else 0)), (Ty.int (if touchMay nm n l cs leads = 0 then befL (tRows n.toNat l cs leads leads.length) else 0))]) (Ty.int (touchMay nm n l cs leads)))), (Ty.pr (Ty.agg [(Ty.nat (if touchMay nm n l cs leads = 0 then leads.length * l.length else 0)), (Ty.bool (if touchMay nm n l cs leads = 0 then rndB (tRows n.toNat l cs leads leads.length) else false)), (Ty.bool (if touchMay nm n l cs leads = 0 then (prO (tRows n.toNat l cs leads leads.length)).isNone else false)), (Ty.nat (if touchMay nm n l cs leads = 0 then agnL (tRows n.toNat l cs leads leads.length) else 0)), (Ty.int (if touchMay nm n l cs leads = 0 then befL (tRows n.toNat l cs leads leads.length) else 0))])), (Ty.pr (Ty.int (touchMay nm n l cs leads))), (Pr.ownp 7 [(Ty.int (0 : Int)), (Ty.bool false), (Ty.bool false), (Ty.int (0 : Int)), (Ty.int (0 : Int))])] i_ Pr.any) ok4 rfl (by decide) rfl ⟨?_, ?_, ?_, ?_, ?_, ?_, ?_, ?_, trivial⟩ ?_
  · intro A B E G H; exact rP (y_loadagg Try.underlying31 Try.inf31 (kp (H 3 rfl) E q11))
  · intro A B E G H; exact rP (y_move (kp (H 1 rfl) E q9))
  · intro A B E G H; exact rP (y_move (kp (H 2 rfl) E q10))
  · intro A B E G H d0 d1 d2; exact rP (y_call #[A.eval (.tmp 59), A.eval (.tmp 60), A.eval (.tmp 61)] Try.func22 rfl rfl (by simp only [List.map_toArray, List.map_cons, List.map_nil]) (prove_fn (nm) (n) (l) (cs) (leads) _ _ _ _ (ed d0 rfl rfl rfl) (ed d1 rfl rfl rfl) (ed d2 rfl rfl rfl) (by first | omega | assumption) (by first | omega | assumption)))
  · intro A B E G H d0; exact rP (y_move (ed d0 rfl rfl rfl))
  · intro A B E G H d0; exact rP (y_ext2_0 (ed d0 rfl rfl rfl))
  · intro A B E G H d0 d1; exact rP (y_ext2_1 (ed d0 rfl rfl rfl))
  · intro A B E G H; exact rP (y_alloc Try.inf42 rfl (alloc_vals (vs := [.int .i64 0, .bool false, .bool false, .int .i64 0, .int .i64 0]) rfl))
  intro a5 s5 D5; have ok5 := D5.ok; have F5 := F4.step0 D5.stp; have q13 := D5.kt q9 rfl; have q14 := D5.kt q10 rfl; have q15 := D5.kt q11 rfl; have q16 := D5.kt q12 rfl; have q17 := D5.dn 5 (by decide) rfl rfl; have q18 := D5.dn 6 (by decide) rfl rfl
  obtain ⟨x1, hx1⟩ : ∃ x, a5.eval (.tmp 8) = x := ⟨_, rfl⟩
  have q19 : At (Ty.val x1) s5 a5 (.tmp 8) := hx1
  have o1 : OwnP s5 7 x1 [(Ty.int (0 : Int)), (Ty.bool false), (Ty.bool false), (Ty.int (0 : Int)), (Ty.int (0 : Int))] := al2 (R := (Pr.ownp 7 [(Ty.int (0 : Int)), (Ty.bool false), (Ty.bool false), (Ty.int (0 : Int)), (Ty.int (0 : Int))])) hx1 (D5.done 7 (by decide))
  clear D5
  refine tailL0 (L := [7]) (R := (fun _ τ => OwnP τ 7 x1 [(Ty.nat (if touchMay nm n l cs leads = 0 then leads.length * l.length else 0)), (Ty.bool (if touchMay nm n l cs leads = 0 then rndB (tRows n.toNat l cs leads leads.length) else false)), (Ty.bool (if touchMay nm n l cs leads = 0 then (prO (tRows n.toNat l cs leads leads.length)).isNone else false)), (Ty.nat (if touchMay nm n l cs leads = 0 then agnL (tRows n.toNat l cs leads leads.length) else 0)), (Ty.int (if touchMay nm n l cs leads = 0 then befL (tRows n.toNat l cs leads leads.length) else 0))])) rfl rfl (YldM.toL (m_storeagg Try.inf42 (by decide) o1 q19 rfl q17 (by intro U hU; simp only [List.mem_cons, List.not_mem_nil, or_false] at hU; rcases hU with rfl | rfl | rfl | rfl | rfl <;> first | exact one_val rfl | exact one_sl | exact one_ref))) (fun v1 s6 hs1 r1 => ?_)
  have F6 := F5.stepL hs1 (by decide); have q20 := kpL hs1 (by decide) rfl q13; have q21 := kpL hs1 (by decide) rfl q14; have q22 := kpL hs1 (by decide) rfl q15; have q23 := kpL hs1 (by decide) rfl q16; have q24 := kpL hs1 (by decide) rfl q18; have q25 := kpL hs1 (by decide) rfl q19
  have o2 : OwnP s6 7 x1 [(Ty.nat (if touchMay nm n l cs leads = 0 then leads.length * l.length else 0)), (Ty.bool (if touchMay nm n l cs leads = 0 then rndB (tRows n.toNat l cs leads leads.length) else false)), (Ty.bool (if touchMay nm n l cs leads = 0 then (prO (tRows n.toNat l cs leads leads.length)).isNone else false)), (Ty.nat (if touchMay nm n l cs leads = 0 then agnL (tRows n.toNat l cs leads leads.length) else 0)), (Ty.int (if touchMay nm n l cs leads = 0 then befL (tRows n.toNat l cs leads leads.length) else 0))] := r1
  clear r1
  refine tailL (L := []) (R := (fun v τ => Pr.has (Ty.pr (Ty.int (touchMay nm n l cs leads))) τ v)) rfl rfl (by decide) ok5 (Yld.toL (y_assign q24)) (fun a6 s7 hs2 ok6 r2 sm1 => ?_)
  have F7 := F6.stepL hs2 (by decide); have q27 := kpL hs2 (by decide) (sm1 1 (by decide)) q20; have q28 := kpL hs2 (by decide) (sm1 2 (by decide)) q21; have q29 := kpL hs2 (by decide) (sm1 3 (by decide)) q22; have q30 := kpL hs2 (by decide) (sm1 7 (by decide)) q23; have q31 := kpL hs2 (by decide) (sm1 8 (by decide)) q25; have o3 := OwnP.keepL o2 hs2 (by decide) (by decide)
  have q32 : At (Ty.int (touchMay nm n l cs leads)) s7 a6 (.tmp 9) := r2
  clear r2; refine wpList_nil ?_; refine tn ?_; refine wp_seq ?_
  refine rg a6 s7 [(Ty.agg [(Ty.val (Value.string nm)), (Ty.int n), (Ty.lst Ty.ints l)]), (Ty.lstc 2 callC cs), (Ty.lst Ty.int leads), (Ty.tup2 (Ty.lst Ty.ints (if touchMay nm n l cs leads = 0 then (tHds n.toNat l cs leads leads.length) else [])) (Ty.int (touchMay nm n l cs leads))), (Ty.tup2 (Ty.lst Ty.ints (if touchMay nm n l cs leads = 0 then (tHds n.toNat l cs leads leads.length) else [])) (Ty.int (touchMay nm n l cs leads))), (Ty.lst Ty.ints (if touchMay nm n l cs leads = 0 then (tHds n.toNat l cs leads leads.length) else [])), (Ty.int (touchMay nm n l cs leads)), (Ty.lst Ty.ints (if touchMay nm n l cs leads = 0 then (tHds n.toNat l cs leads leads.length) else [])), (Ty.int (touchMay nm n l cs leads))] ok6 ⟨?_, ?_, ?_, ?_, ?_, ?_, ?_, ?_, ?_, trivial⟩ ?_
  · intro A B E G H; exact rP (y_loadagg Try.underlying31 Try.inf31 (kp (H 3 rfl) E q29))
  · intro A B E G H; exact rP (y_move (kp (H 1 rfl) E q27))
  · intro A B E G H; exact rP (y_move (kp (H 2 rfl) E q28))
  · intro A B E G H d0 d1 d2; exact rP (y_call #[A.eval (.tmp 66), A.eval (.tmp 67), A.eval (.tmp 68)] Try.func23 rfl rfl (by simp only [List.map_toArray, List.map_cons, List.map_nil]) (heads_fn (nm) (n) (l) (cs) (leads) _ _ _ _ (ed d0 rfl rfl rfl) (ed d1 rfl rfl rfl) (ed d2 rfl rfl rfl) (by first | omega | assumption) (by first | omega | assumption)))
  · intro A B E G H d0; exact rP (y_move (ed d0 rfl rfl rfl))
  · intro A B E G H d0; exact rP (y_ext2_0 (ed d0 rfl rfl rfl))
  · intro A B E G H d0 d1; exact rP (y_ext2_1 (ed d0 rfl rfl rfl))
  · intro A B E G H d0 d1 d2 d3 d4 d5 d6 d7 d8; exact rP (y_assign (ed d0 rfl rfl rfl))
  · intro A B E G H d0 d1 d2 d3 d4 d5 d6 d7 d8 d9; exact rP (y_assign (ed d0 rfl rfl rfl))
  intro a7 s8 D6; have ok7 := D6.ok; have F8 := F7.step0 D6.stp; have q33 := D6.kt q27 rfl; have q34 := D6.kt q28 rfl; have q35 := D6.kt q29 rfl; have q36 := D6.kt q30 rfl; have q37 := D6.kt q31 rfl; have q38 := D6.kt q32 rfl; have o4 := OwnP.k0 o3 D6.stp; have q39 := D6.dn 7 rfl rfl; have q40 := D6.dn 8 rfl rfl; clear D6; refine tn ?_; refine wp_seq ?_
  refine rg a7 s8 [(Ty.agg [(Ty.val (Value.string nm)), (Ty.int n), (Ty.lst Ty.ints l)]), (Ty.lstc 2 callC cs), (Ty.lst Ty.int leads), (Ty.tup2 (Ty.bool (if touchMay nm n l cs leads = 0 then (oneB cs leads && ((!(sfTo ((fromL (roundsL n.toNat) l).take l.length) ((fromL (roundsL n.toNat) l).take l.length).length ((fromL (roundsL n.toNat) l).take l.length).length)) && bhTo (addS [0] (onceL (enTo ((fromL (roundsL n.toNat) l).take l.length) ((fromL (roundsL n.toNat) l).take l.length).length ((fromL (roundsL n.toNat) l).take l.length).length))) (tHds n.toNat l cs leads leads.length) leads.length)) else false)) (Ty.int (if touchMay nm n l cs leads = 0 then (if oneB cs leads = true then 0 else 11) else touchMay nm n l cs leads))), (Ty.tup2 (Ty.bool (if touchMay nm n l cs leads = 0 then (oneB cs leads && ((!(sfTo ((fromL (roundsL n.toNat) l).take l.length) ((fromL (roundsL n.toNat) l).take l.length).length ((fromL (roundsL n.toNat) l).take l.length).length)) && bhTo (addS [0] (onceL (enTo ((fromL (roundsL n.toNat) l).take l.length) ((fromL (roundsL n.toNat) l).take l.length).length ((fromL (roundsL n.toNat) l).take l.length).length))) (tHds n.toNat l cs leads leads.length) leads.length)) else false)) (Ty.int (if touchMay nm n l cs leads = 0 then (if oneB cs leads = true then 0 else 11) else touchMay nm n l cs leads))), (Ty.bool (if touchMay nm n l cs leads = 0 then (oneB cs leads && ((!(sfTo ((fromL (roundsL n.toNat) l).take l.length) ((fromL (roundsL n.toNat) l).take l.length).length ((fromL (roundsL n.toNat) l).take l.length).length)) && bhTo (addS [0] (onceL (enTo ((fromL (roundsL n.toNat) l).take l.length) ((fromL (roundsL n.toNat) l).take l.length).length ((fromL (roundsL n.toNat) l).take l.length).length))) (tHds n.toNat l cs leads leads.length) leads.length)) else false)), (Ty.int (if touchMay nm n l cs leads = 0 then (if oneB cs leads = true then 0 else 11) else touchMay nm n l cs leads)), (Ty.bool (if touchMay nm n l cs leads = 0 then (oneB cs leads && ((!(sfTo ((fromL (roundsL n.toNat) l).take l.length) ((fromL (roundsL n.toNat) l).take l.length).length ((fromL (roundsL n.toNat) l).take l.length).length)) && bhTo (addS [0] (onceL (enTo ((fromL (roundsL n.toNat) l).take l.length) ((fromL (roundsL n.toNat) l).take l.length).length ((fromL (roundsL n.toNat) l).take l.length).length))) (tHds n.toNat l cs leads leads.length) leads.length)) else false)), (Ty.int (if touchMay nm n l cs leads = 0 then (if oneB cs leads = true then 0 else 11) else touchMay nm n l cs leads))] ok7 ⟨?_, ?_, ?_, ?_, ?_, ?_, ?_, ?_, ?_, trivial⟩ ?_
  · intro A B E G H; exact rP (y_loadagg Try.underlying31 Try.inf31 (kp (H 3 rfl) E q35))
  · intro A B E G H; exact rP (y_move (kp (H 1 rfl) E q33))
  · intro A B E G H; exact rP (y_move (kp (H 2 rfl) E q34))
  · intro A B E G H d0 d1 d2; exact rP (y_call #[A.eval (.tmp 73), A.eval (.tmp 74), A.eval (.tmp 75)] Try.func24 rfl rfl (by simp only [List.map_toArray, List.map_cons, List.map_nil]) (byHeads_fn (nm) (n) (l) (cs) (leads) _ _ _ _ (ed d0 rfl rfl rfl) (ed d1 rfl rfl rfl) (ed d2 rfl rfl rfl) (by first | omega | assumption) (by first | omega | assumption)))
  · intro A B E G H d0; exact rP (y_move (ed d0 rfl rfl rfl))
  · intro A B E G H d0; exact rP (y_ext2_0 (ed d0 rfl rfl rfl))
  · intro A B E G H d0 d1; exact rP (y_ext2_1 (ed d0 rfl rfl rfl))
  · intro A B E G H d0 d1 d2 d3 d4 d5 d6 d7 d8; exact rP (y_assign (ed d0 rfl rfl rfl))
  · intro A B E G H d0 d1 d2 d3 d4 d5 d6 d7 d8 d9; exact rP (y_assign (ed d0 rfl rfl rfl))
  intro a8 s9 D7; have ok8 := D7.ok; have F9 := F8.step0 D7.stp; have q41 := D7.kt q33 rfl; have q42 := D7.kt q34 rfl; have q43 := D7.kt q35 rfl; have q44 := D7.kt q36 rfl; have q45 := D7.kt q37 rfl; have q46 := D7.kt q38 rfl; have q47 := D7.kt q39 rfl; have q48 := D7.kt q40 rfl; have o5 := OwnP.k0 o4 D7.stp; have q49 := D7.dn 7 rfl rfl; have q50 := D7.dn 8 rfl rfl; clear D7; refine tn ?_; refine wp_seq ?_
  refine rg a8 s9 [(Ty.agg [(Ty.val (Value.string nm)), (Ty.int n), (Ty.lst Ty.ints l)]), (Ty.tup3 (Ty.lst Ty.ints (if methMay nm n l = 0 then (onceL (enTo ((fromL (roundsL n.toNat) l).take l.length) ((fromL (roundsL n.toNat) l).take l.length).length ((fromL (roundsL n.toNat) l).take l.length).length)) else [])) (Ty.bool (if methMay nm n l = 0 then (sfTo ((fromL (roundsL n.toNat) l).take l.length) ((fromL (roundsL n.toNat) l).take l.length).length ((fromL (roundsL n.toNat) l).take l.length).length) else false)) (Ty.int (methMay nm n l))), (Ty.tup3 (Ty.lst Ty.ints (if methMay nm n l = 0 then (onceL (enTo ((fromL (roundsL n.toNat) l).take l.length) ((fromL (roundsL n.toNat) l).take l.length).length ((fromL (roundsL n.toNat) l).take l.length).length)) else [])) (Ty.bool (if methMay nm n l = 0 then (sfTo ((fromL (roundsL n.toNat) l).take l.length) ((fromL (roundsL n.toNat) l).take l.length).length ((fromL (roundsL n.toNat) l).take l.length).length) else false)) (Ty.int (methMay nm n l))), (Ty.lst Ty.ints (if methMay nm n l = 0 then (onceL (enTo ((fromL (roundsL n.toNat) l).take l.length) ((fromL (roundsL n.toNat) l).take l.length).length ((fromL (roundsL n.toNat) l).take l.length).length)) else [])), (Ty.bool (if methMay nm n l = 0 then (sfTo ((fromL (roundsL n.toNat) l).take l.length) ((fromL (roundsL n.toNat) l).take l.length).length ((fromL (roundsL n.toNat) l).take l.length).length) else false)), (Ty.int (methMay nm n l)), (Ty.lst Ty.ints (if methMay nm n l = 0 then (onceL (enTo ((fromL (roundsL n.toNat) l).take l.length) ((fromL (roundsL n.toNat) l).take l.length).length ((fromL (roundsL n.toNat) l).take l.length).length)) else [])), (Ty.bool (if methMay nm n l = 0 then (sfTo ((fromL (roundsL n.toNat) l).take l.length) ((fromL (roundsL n.toNat) l).take l.length).length ((fromL (roundsL n.toNat) l).take l.length).length) else false)), (Ty.int (methMay nm n l))] ok8 ⟨?_, ?_, ?_, ?_, ?_, ?_, ?_, ?_, ?_, trivial⟩ ?_
  · intro A B E G H; exact rP (y_loadagg Try.underlying31 Try.inf31 (kp (H 3 rfl) E q43))
  · intro A B E G H d0; exact rP (y_call #[A.eval (.tmp 80)] Try.func25 rfl rfl (by simp only [List.map_toArray, List.map_cons, List.map_nil]) (false_fn (nm) (n) (l) _ _ (ed d0 rfl rfl rfl) (by first | omega | assumption) (by first | omega | assumption)))
  · intro A B E G H d0; exact rP (y_move (ed d0 rfl rfl rfl))
  · intro A B E G H d0; exact rP (y_ext3_0 (ed d0 rfl rfl rfl))
  · intro A B E G H d0 d1; exact rP (y_ext3_1 (ed d0 rfl rfl rfl))
  · intro A B E G H d0 d1; exact rP (y_ext3_2 (ed d0 rfl rfl rfl))
  · intro A B E G H d0 d1 d2 d3 d4 d5 d6 d7; exact rP (y_assign (ed d0 rfl rfl rfl))
  · intro A B E G H d0 d1 d2 d3 d4 d5 d6 d7 d8; exact rP (y_assign (ed d0 rfl rfl rfl))
  · intro A B E G H d0 d1 d2 d3 d4 d5 d6 d7 d8 d9; exact rP (y_assign (ed d0 rfl rfl rfl))
  intro a9 s10 D8; have ok9 := D8.ok; have F10 := F9.step0 D8.stp; have q51 := D8.kt q41 rfl; have q52 := D8.kt q42 rfl; have q53 := D8.kt q43 rfl; have q54 := D8.kt q44 rfl; have q55 := D8.kt q45 rfl; have q56 := D8.kt q46 rfl; have q57 := D8.kt q47 rfl; have q58 := D8.kt q48 rfl; have q59 := D8.kt q49 rfl; have q60 := D8.kt q50 rfl; have o6 := OwnP.k0 o5 D8.stp; have q61 := D8.dn 6 rfl rfl; have q62 := D8.dn 7 rfl rfl; have q63 := D8.dn 8 rfl rfl; clear D8; refine tn ?_; refine wp_seq ?_; refine wp_seq ?_
  refine rg a9 s10 [(Ty.int (touchMay nm n l cs leads)), (Ty.int (touchMay nm n l cs leads)), (Ty.bool (decide ((touchMay nm n l cs leads) ≠ (touchMay nm n l cs leads)))), (Ty.bool (decide ((touchMay nm n l cs leads) ≠ (touchMay nm n l cs leads)))), (Ty.grd ((decide ((touchMay nm n l cs leads) ≠ (touchMay nm n l cs leads))) = false) (Ty.int (touchMay nm n l cs leads))), (Ty.grd ((decide ((touchMay nm n l cs leads) ≠ (touchMay nm n l cs leads))) = false) (Ty.int (touchMay nm n l cs leads))), (Ty.grd ((decide ((touchMay nm n l cs leads) ≠ (touchMay nm n l cs leads))) = false) (Ty.bool (decide ((touchMay nm n l cs leads) ≠ (touchMay nm n l cs leads))))), (Ty.bool ((decide ((touchMay nm n l cs leads) ≠ (touchMay nm n l cs leads))) || (decide ((touchMay nm n l cs leads) ≠ (touchMay nm n l cs leads))))), (Ty.bool ((decide ((touchMay nm n l cs leads) ≠ (touchMay nm n l cs leads))) || (decide ((touchMay nm n l cs leads) ≠ (touchMay nm n l cs leads))))), (Ty.grd (((decide ((touchMay nm n l cs leads) ≠ (touchMay nm n l cs leads))) || (decide ((touchMay nm n l cs leads) ≠ (touchMay nm n l cs leads)))) = false) (Ty.int (methMay nm n l))), (Ty.grd (((decide ((touchMay nm n l cs leads) ≠ (touchMay nm n l cs leads))) || (decide ((touchMay nm n l cs leads) ≠ (touchMay nm n l cs leads)))) = false) (Ty.agg [(Ty.val (Value.string nm)), (Ty.int n), (Ty.lst Ty.ints l)])), (Ty.grd (((decide ((touchMay nm n l cs leads) ≠ (touchMay nm n l cs leads))) || (decide ((touchMay nm n l cs leads) ≠ (touchMay nm n l cs leads)))) = false) (Ty.int (methMay nm n l))), (Ty.grd (((decide ((touchMay nm n l cs leads) ≠ (touchMay nm n l cs leads))) || (decide ((touchMay nm n l cs leads) ≠ (touchMay nm n l cs leads)))) = false) (Ty.bool (decide ((methMay nm n l) ≠ (methMay nm n l))))), (Ty.bool (((decide ((touchMay nm n l cs leads) ≠ (touchMay nm n l cs leads))) || (decide ((touchMay nm n l cs leads) ≠ (touchMay nm n l cs leads)))) || (decide ((methMay nm n l) ≠ (methMay nm n l)))))] ok9 ⟨?_, ?_, ?_, ?_, ?_, ?_, ?_, ?_, ?_, ?_, ?_, ?_, ?_, ?_, trivial⟩ ?_
  · intro A B E G H; exact rP (y_move (kp (H 9 rfl) E q56))
  · intro A B E G H; exact rP (y_move (kp (H 7 rfl) E q54))
  · intro A B E G H d0 d1; exact rP (y_neq (ed d0 rfl rfl rfl) (ed d1 rfl rfl rfl))
  · intro A B E G H d0; exact rP (y_move (ed d0 rfl rfl rfl))
  · intro A B E G H d0
    refine run_guard G rfl rfl (by decide) (ed d0 rfl rfl rfl) (fun hg => ?_)
    have hp := of_decide_eq_false hg
    exact y_move (kp (H 11 rfl) E q58)
  · intro A B E G H d0
    refine run_guard G rfl rfl (by decide) (ed d0 rfl rfl rfl) (fun hg => ?_)
    have hp := of_decide_eq_false hg
    exact y_move (kp (H 7 rfl) E q54)
  · intro A B E G H d0 d1 d2
    refine run_guard G rfl rfl (by decide) (ed d2 rfl rfl rfl) (fun hg => ?_)
    have hp := of_decide_eq_false hg
    exact y_neq ((ed d0 rfl rfl rfl).1 hg) ((ed d1 rfl rfl rfl).1 hg)
  · intro A B E G H d0 d1; exact rP (y_pick_or (ed d0 rfl rfl rfl) rfl (ed d1 rfl rfl rfl))
  · intro A B E G H d0 d1; exact rP (y_move (ed d0 rfl rfl rfl))
  · intro A B E G H d0
    refine run_guard G rfl rfl (by decide) (ed d0 rfl rfl rfl) (fun hg => ?_)
    obtain ⟨d37, d38⟩ := Bool.or_eq_false_iff.mp hg
    have d37 := of_decide_eq_false d37
    have d38 := of_decide_eq_false d38
    exact y_move (kp (H 16 rfl) E q63)
  · intro A B E G H d0
    refine run_guard G rfl rfl (by decide) (ed d0 rfl rfl rfl) (fun hg => ?_)
    obtain ⟨d39, d40⟩ := Bool.or_eq_false_iff.mp hg
    have d39 := of_decide_eq_false d39
    have d40 := of_decide_eq_false d40
    exact y_loadagg Try.underlying31 Try.inf31 (kp (H 3 rfl) E q53)
  · intro A B E G H d0 d1 d2
    refine run_guard G rfl rfl (by decide) (ed d1 rfl rfl rfl) (fun hg => ?_)
    obtain ⟨d41, d42⟩ := Bool.or_eq_false_iff.mp hg
    have d41 := of_decide_eq_false d41
    have d42 := of_decide_eq_false d42
    exact y_call #[A.eval (.tmp 95)] Try.func26 rfl rfl (by simp only [List.map_toArray, List.map_cons, List.map_nil]) (rMethodMay_fn (nm) (n) (l) _ _ ((ed d0 rfl rfl rfl).1 hg) (by first | omega | assumption) (by first | omega | assumption))
  · intro A B E G H d0 d1 d2
    refine run_guard G rfl rfl (by decide) (ed d2 rfl rfl rfl) (fun hg => ?_)
    obtain ⟨d43, d44⟩ := Bool.or_eq_false_iff.mp hg
    have d43 := of_decide_eq_false d43
    have d44 := of_decide_eq_false d44
    exact y_neq ((ed d0 rfl rfl rfl).1 hg) ((ed d1 rfl rfl rfl).1 hg)
  · intro A B E G H d0 d1; exact rP (y_pick_or (ed d0 rfl rfl rfl) rfl (ed d1 rfl rfl rfl))
  intro a10 s11 D9; have ok10 := D9.ok; have F11 := F10.step0 D9.stp; have q64 := D9.kt q51 rfl; have q65 := D9.kt q52 rfl; have q66 := D9.kt q53 rfl; have q67 := D9.kt q54 rfl; have q68 := D9.kt q55 rfl; have q69 := D9.kt q57 rfl; have q70 := D9.kt q59 rfl; have q71 := D9.kt q60 rfl; have q72 := D9.kt q61 rfl; have q73 := D9.kt q62 rfl; have q74 := D9.kt q63 rfl; have o7 := OwnP.k0 o6 D9.stp; have q75 := D9.dn 13 rfl rfl; clear D9; refine tn ?_
  refine cond_t q75 (fun c2 => ?_) (fun c2 => ?_)
  ·
   exfalso
   simp at c2
  ·
   obtain ⟨d45, d46⟩ := Bool.or_eq_false_iff.mp c2
   obtain ⟨d47, d48⟩ := Bool.or_eq_false_iff.mp d45
   replace d47 := of_decide_eq_false d47
   replace d48 := of_decide_eq_false d48
   replace d46 := of_decide_eq_false d46
   refine wp_skip ?_; refine tn ?_; refine wp_seq ?_; refine wp_seq ?_
   refine rg a10 s11 [(Ty.int (methMay nm n l)), (Ty.bool (decide ((methMay nm n l) = (0 : Int))))] ok10 ⟨?_, ?_, trivial⟩ ?_
   · intro A B E G H; exact rP (y_move (kp (H 16 rfl) E q74))
   · intro A B E G H d0; exact rP (y_eql (ed d0 rfl rfl rfl) rfl)
   intro a11 s12 D10; have ok11 := D10.ok; have F12 := F11.step0 D10.stp; have q76 := D10.kt q64 rfl; have q77 := D10.kt q65 rfl; have q78 := D10.kt q66 rfl; have q79 := D10.kt q67 rfl; have q80 := D10.kt q68 rfl; have q81 := D10.kt q69 rfl; have q82 := D10.kt q70 rfl; have q83 := D10.kt q71 rfl; have q84 := D10.kt q72 rfl; have q85 := D10.kt q73 rfl; have o8 := OwnP.k0 o7 D10.stp; have q86 := D10.dn 1 rfl rfl; clear D10; refine tn ?_
   refine Go.KL.join_then (Q' := fun a12 w1 => ∃ (t1 : GW), t1.w = w1 ∧ FromL [] s0 t1 ∧ Ok 220 a12 ∧ At (Ty.lstc 2 callC cs) t1 a12 (.tmp 1) ∧ At (Ty.lst Ty.int leads) t1 a12 (.tmp 2) ∧ At (Ty.ref [(Ty.val (Value.string nm)), (Ty.int n), (Ty.lst Ty.ints l)]) t1 a12 (.tmp 3) ∧ At (Ty.int (touchMay nm n l cs leads)) t1 a12 (.tmp 7) ∧ At (Ty.val x1) t1 a12 (.tmp 8) ∧ At (Ty.lst Ty.ints (if touchMay nm n l cs leads = 0 then (tHds n.toNat l cs leads leads.length) else [])) t1 a12 (.tmp 10) ∧ At (Ty.bool (if touchMay nm n l cs leads = 0 then (oneB cs leads && ((!(sfTo ((fromL (roundsL n.toNat) l).take l.length) ((fromL (roundsL n.toNat) l).take l.length).length ((fromL (roundsL n.toNat) l).take l.length).length)) && bhTo (addS [0] (onceL (enTo ((fromL (roundsL n.toNat) l).take l.length) ((fromL (roundsL n.toNat) l).take l.length).length ((fromL (roundsL n.toNat) l).take l.length).length))) (tHds n.toNat l cs leads leads.length) leads.length)) else false)) t1 a12 (.tmp 12) ∧ At (Ty.int (if touchMay nm n l cs leads = 0 then (if oneB cs leads = true then 0 else 11) else touchMay nm n l cs leads)) t1 a12 (.tmp 13) ∧ OwnP t1 7 x1 [(Ty.nat (if touchMay nm n l cs leads = 0 then leads.length * l.length else 0)), (Ty.bool (if touchMay nm n l cs leads = 0 then rndB (tRows n.toNat l cs leads leads.length) else false)), (Ty.bool (if touchMay nm n l cs leads = 0 then (prO (tRows n.toNat l cs leads leads.length)).isNone else false)), (Ty.nat (if touchMay nm n l cs leads = 0 then agnL (tRows n.toNat l cs leads leads.length) else 0)), (Ty.int (if touchMay nm n l cs leads = 0 then befL (tRows n.toNat l cs leads leads.length) else 0))] ∧ True) ?_ ?_
   ·
    refine cond_p (p := ((methMay nm n l) = (0 : Int))) q86 (fun c3 => ?_) (fun c3 => ?_)
    ·
     have hm0 := c3
     refine wp_seq ?_
     refine rg a11 s12 [(Ty.agg [(Ty.val (Value.string nm)), (Ty.int n), (Ty.lst Ty.ints l)]), (Ty.tup2 (Ty.lst Ty.ints (onceL (enTo ((fromL (roundsL n.toNat) l).take l.length) ((fromL (roundsL n.toNat) l).take l.length).length ((fromL (roundsL n.toNat) l).take l.length).length))) (Ty.bool (sfTo ((fromL (roundsL n.toNat) l).take l.length) ((fromL (roundsL n.toNat) l).take l.length).length ((fromL (roundsL n.toNat) l).take l.length).length))), (Ty.tup2 (Ty.lst Ty.ints (onceL (enTo ((fromL (roundsL n.toNat) l).take l.length) ((fromL (roundsL n.toNat) l).take l.length).length ((fromL (roundsL n.toNat) l).take l.length).length))) (Ty.bool (sfTo ((fromL (roundsL n.toNat) l).take l.length) ((fromL (roundsL n.toNat) l).take l.length).length ((fromL (roundsL n.toNat) l).take l.length).length))), (Ty.lst Ty.ints (onceL (enTo ((fromL (roundsL n.toNat) l).take l.length) ((fromL (roundsL n.toNat) l).take l.length).length ((fromL (roundsL n.toNat) l).take l.length).length))), (Ty.bool (sfTo ((fromL (roundsL n.toNat) l).take l.length) ((fromL (roundsL n.toNat) l).take l.length).length ((fromL (roundsL n.toNat) l).take l.length).length)), (Ty.lst Ty.ints (onceL (enTo ((fromL (roundsL n.toNat) l).take l.length) ((fromL (roundsL n.toNat) l).take l.length).length ((fromL (roundsL n.toNat) l).take l.length).length))), (Ty.bool (sfTo ((fromL (roundsL n.toNat) l).take l.length) ((fromL (roundsL n.toNat) l).take l.length).length ((fromL (roundsL n.toNat) l).take l.length).length))] ok11 ⟨?_, ?_, ?_, ?_, ?_, ?_, ?_, trivial⟩ ?_
     · intro A B E G H; exact rP (y_loadagg Try.underlying31 Try.inf31 (kp (H 3 rfl) E q78))
     · intro A B E G H d0; exact rP (y_call #[A.eval (.tmp 102)] Try.func27 rfl rfl (by simp only [List.map_toArray, List.map_cons, List.map_nil]) (rFalse_fn (nm) (n) (l) _ _ (ed d0 rfl rfl rfl) (by first | omega | assumption) (by first | omega | assumption) (by first | omega | assumption)))
     · intro A B E G H d0; exact rP (y_move (ed d0 rfl rfl rfl))
     · intro A B E G H d0; exact rP (y_ext2_0 (ed d0 rfl rfl rfl))
     · intro A B E G H d0 d1; exact rP (y_ext2_1 (ed d0 rfl rfl rfl))
     · intro A B E G H d0 d1 d2 d3 d4 d5 d6; exact rP (y_assign (ed d0 rfl rfl rfl))
     · intro A B E G H d0 d1 d2 d3 d4 d5 d6 d7; exact rP (y_assign (ed d0 rfl rfl rfl))
     intro a13 s13 D11; have ok12 := D11.ok; have F13 := F12.step0 D11.stp; have q87 := D11.kt q76 rfl; have q88 := D11.kt q77 rfl; have q89 := D11.kt q78 rfl; have q90 := D11.kt q79 rfl; have q91 := D11.kt q80 rfl; have q92 := D11.kt q81 rfl; have q93 := D11.kt q82 rfl; have q94 := D11.kt q83 rfl; have q95 := D11.kt q84 rfl; have q96 := D11.kt q85 rfl; have o9 := OwnP.k0 o8 D11.stp; have q97 := D11.dn 5 rfl rfl; have q98 := D11.dn 6 rfl rfl; clear D11; refine tn ?_; refine wp_seq ?_
     refine rg a13 s13 [(Ty.lst Ty.ints (if methMay nm n l = 0 then (onceL (enTo ((fromL (roundsL n.toNat) l).take l.length) ((fromL (roundsL n.toNat) l).take l.length).length ((fromL (roundsL n.toNat) l).take l.length).length)) else [])), (Ty.lst Ty.ints (onceL (enTo ((fromL (roundsL n.toNat) l).take l.length) ((fromL (roundsL n.toNat) l).take l.length).length ((fromL (roundsL n.toNat) l).take l.length).length))), (Ty.bool (decide (((if methMay nm n l = 0 then (onceL (enTo ((fromL (roundsL n.toNat) l).take l.length) ((fromL (roundsL n.toNat) l).take l.length).length ((fromL (roundsL n.toNat) l).take l.length).length)) else [])) = ((onceL (enTo ((fromL (roundsL n.toNat) l).take l.length) ((fromL (roundsL n.toNat) l).take l.length).length ((fromL (roundsL n.toNat) l).take l.length).length)))))), (Ty.bool (!(decide (((if methMay nm n l = 0 then (onceL (enTo ((fromL (roundsL n.toNat) l).take l.length) ((fromL (roundsL n.toNat) l).take l.length).length ((fromL (roundsL n.toNat) l).take l.length).length)) else [])) = ((onceL (enTo ((fromL (roundsL n.toNat) l).take l.length) ((fromL (roundsL n.toNat) l).take l.length).length ((fromL (roundsL n.toNat) l).take l.length).length))))))), (Ty.bool (!(decide (((if methMay nm n l = 0 then (onceL (enTo ((fromL (roundsL n.toNat) l).take l.length) ((fromL (roundsL n.toNat) l).take l.length).length ((fromL (roundsL n.toNat) l).take l.length).length)) else [])) = ((onceL (enTo ((fromL (roundsL n.toNat) l).take l.length) ((fromL (roundsL n.toNat) l).take l.length).length ((fromL (roundsL n.toNat) l).take l.length).length))))))), (Ty.grd ((!(decide (((if methMay nm n l = 0 then (onceL (enTo ((fromL (roundsL n.toNat) l).take l.length) ((fromL (roundsL n.toNat) l).take l.length).length ((fromL (roundsL n.toNat) l).take l.length).length)) else [])) = ((onceL (enTo ((fromL (roundsL n.toNat) l).take l.length) ((fromL (roundsL n.toNat) l).take l.length).length ((fromL (roundsL n.toNat) l).take l.length).length)))))) = false) (Ty.bool (if methMay nm n l = 0 then (sfTo ((fromL (roundsL n.toNat) l).take l.length) ((fromL (roundsL n.toNat) l).take l.length).length ((fromL (roundsL n.toNat) l).take l.length).length) else false))), (Ty.grd ((!(decide (((if methMay nm n l = 0 then (onceL (enTo ((fromL (roundsL n.toNat) l).take l.length) ((fromL (roundsL n.toNat) l).take l.length).length ((fromL (roundsL n.toNat) l).take l.length).length)) else [])) = ((onceL (enTo ((fromL (roundsL n.toNat) l).take l.length) ((fromL (roundsL n.toNat) l).take l.length).length ((fromL (roundsL n.toNat) l).take l.length).length)))))) = false) (Ty.bool (sfTo ((fromL (roundsL n.toNat) l).take l.length) ((fromL (roundsL n.toNat) l).take l.length).length ((fromL (roundsL n.toNat) l).take l.length).length))), (Ty.grd ((!(decide (((if methMay nm n l = 0 then (onceL (enTo ((fromL (roundsL n.toNat) l).take l.length) ((fromL (roundsL n.toNat) l).take l.length).length ((fromL (roundsL n.toNat) l).take l.length).length)) else [])) = ((onceL (enTo ((fromL (roundsL n.toNat) l).take l.length) ((fromL (roundsL n.toNat) l).take l.length).length ((fromL (roundsL n.toNat) l).take l.length).length)))))) = false) (Ty.bool ((if methMay nm n l = 0 then (sfTo ((fromL (roundsL n.toNat) l).take l.length) ((fromL (roundsL n.toNat) l).take l.length).length ((fromL (roundsL n.toNat) l).take l.length).length) else false) != (sfTo ((fromL (roundsL n.toNat) l).take l.length) ((fromL (roundsL n.toNat) l).take l.length).length ((fromL (roundsL n.toNat) l).take l.length).length)))), (Ty.bool ((!(decide (((if methMay nm n l = 0 then (onceL (enTo ((fromL (roundsL n.toNat) l).take l.length) ((fromL (roundsL n.toNat) l).take l.length).length ((fromL (roundsL n.toNat) l).take l.length).length)) else [])) = ((onceL (enTo ((fromL (roundsL n.toNat) l).take l.length) ((fromL (roundsL n.toNat) l).take l.length).length ((fromL (roundsL n.toNat) l).take l.length).length)))))) || ((if methMay nm n l = 0 then (sfTo ((fromL (roundsL n.toNat) l).take l.length) ((fromL (roundsL n.toNat) l).take l.length).length ((fromL (roundsL n.toNat) l).take l.length).length) else false) != (sfTo ((fromL (roundsL n.toNat) l).take l.length) ((fromL (roundsL n.toNat) l).take l.length).length ((fromL (roundsL n.toNat) l).take l.length).length))))] ok12 ⟨?_, ?_, ?_, ?_, ?_, ?_, ?_, ?_, ?_, trivial⟩ ?_
     · intro A B E G H; exact rP (y_move (kp (H 14 rfl) E q95))
     · intro A B E G H; exact rP (y_move (kp (H 17 rfl) E q97))
     · intro A B E G H d0 d1; exact rP (y_call #[A.eval (.tmp 106), A.eval (.tmp 107)] Try.func17 rfl rfl (by simp only [List.map_toArray, List.map_cons, List.map_nil]) (rSameAll_fn ((if methMay nm n l = 0 then (onceL (enTo ((fromL (roundsL n.toNat) l).take l.length) ((fromL (roundsL n.toNat) l).take l.length).length ((fromL (roundsL n.toNat) l).take l.length).length)) else [])) ((onceL (enTo ((fromL (roundsL n.toNat) l).take l.length) ((fromL (roundsL n.toNat) l).take l.length).length ((fromL (roundsL n.toNat) l).take l.length).length))) _ _ _ (ed d0 rfl rfl rfl) (ed d1 rfl rfl rfl) ))
     · intro A B E G H d0; exact rP (y_not (ed d0 rfl rfl rfl))
     · intro A B E G H d0 d1; exact rP (y_move (ed d0 rfl rfl rfl))
     · intro A B E G H d0
       refine run_guard G rfl rfl (by decide) (ed d0 rfl rfl rfl) (fun hg => ?_)
       exact y_move (kp (H 15 rfl) E q96)
     · intro A B E G H d0
       refine run_guard G rfl rfl (by decide) (ed d0 rfl rfl rfl) (fun hg => ?_)
       exact y_move (kp (H 18 rfl) E q98)
     · intro A B E G H d0 d1 d2
       refine run_guard G rfl rfl (by decide) (ed d2 rfl rfl rfl) (fun hg => ?_)
       exact y_neqB Try.underlying4 ((ed d0 rfl rfl rfl).1 hg) ((ed d1 rfl rfl rfl).1 hg)
     · intro A B E G H d0 d1; exact rP (y_pick_or (ed d0 rfl rfl rfl) rfl (ed d1 rfl rfl rfl))
     intro a14 s14 D12; have ok13 := D12.ok; have F14 := F13.step0 D12.stp; have q99 := D12.kt q87 rfl; have q100 := D12.kt q88 rfl; have q101 := D12.kt q89 rfl; have q102 := D12.kt q90 rfl; have q103 := D12.kt q91 rfl; have q104 := D12.kt q92 rfl; have q105 := D12.kt q93 rfl; have q106 := D12.kt q94 rfl; have o10 := OwnP.k0 o9 D12.stp; have q107 := D12.dn 8 rfl rfl; clear D12; refine tn ?_
     refine cond_t q107 (fun c4 => ?_) (fun c4 => ?_)
     ·
      exfalso
      simp [c3] at c4
     ·
      obtain ⟨d49, d50⟩ := Bool.or_eq_false_iff.mp c4
      refine wp_skip ?_
      exact tn ⟨s14, rfl, F14, ok13, q99, q100, q101, q102, q103, q104, q105, q106, o10, trivial⟩
    ·
     refine wp_seq ?_
     refine rg a11 s12 [(Ty.lst Ty.ints (if methMay nm n l = 0 then (onceL (enTo ((fromL (roundsL n.toNat) l).take l.length) ((fromL (roundsL n.toNat) l).take l.length).length ((fromL (roundsL n.toNat) l).take l.length).length)) else [])), (Ty.nat (List.length (if methMay nm n l = 0 then (onceL (enTo ((fromL (roundsL n.toNat) l).take l.length) ((fromL (roundsL n.toNat) l).take l.length).length ((fromL (roundsL n.toNat) l).take l.length).length)) else []))), (Ty.bool (decide ((0 : Int) < (((List.length (if methMay nm n l = 0 then (onceL (enTo ((fromL (roundsL n.toNat) l).take l.length) ((fromL (roundsL n.toNat) l).take l.length).length ((fromL (roundsL n.toNat) l).take l.length).length)) else [])) : Nat) : Int)))), (Ty.bool (decide ((0 : Int) < (((List.length (if methMay nm n l = 0 then (onceL (enTo ((fromL (roundsL n.toNat) l).take l.length) ((fromL (roundsL n.toNat) l).take l.length).length ((fromL (roundsL n.toNat) l).take l.length).length)) else [])) : Nat) : Int)))), (Ty.grd ((decide ((0 : Int) < (((List.length (if methMay nm n l = 0 then (onceL (enTo ((fromL (roundsL n.toNat) l).take l.length) ((fromL (roundsL n.toNat) l).take l.length).length ((fromL (roundsL n.toNat) l).take l.length).length)) else [])) : Nat) : Int))) = false) (Ty.bool (if methMay nm n l = 0 then (sfTo ((fromL (roundsL n.toNat) l).take l.length) ((fromL (roundsL n.toNat) l).take l.length).length ((fromL (roundsL n.toNat) l).take l.length).length) else false))), (Ty.bool ((decide ((0 : Int) < (((List.length (if methMay nm n l = 0 then (onceL (enTo ((fromL (roundsL n.toNat) l).take l.length) ((fromL (roundsL n.toNat) l).take l.length).length ((fromL (roundsL n.toNat) l).take l.length).length)) else [])) : Nat) : Int))) || (if methMay nm n l = 0 then (sfTo ((fromL (roundsL n.toNat) l).take l.length) ((fromL (roundsL n.toNat) l).take l.length).length ((fromL (roundsL n.toNat) l).take l.length).length) else false)))] ok11 ⟨?_, ?_, ?_, ?_, ?_, ?_, trivial⟩ ?_
     · intro A B E G H; exact rP (y_move (kp (H 14 rfl) E q84))
     · intro A B E G H d0; exact rP (y_len Try.underlying29 (ed d0 rfl rfl rfl))
     · intro A B E G H d0; exact rP (y_gtr (ed d0 rfl rfl rfl) rfl)
     · intro A B E G H d0; exact rP (y_move (ed d0 rfl rfl rfl))
     · intro A B E G H d0
       refine run_guard G rfl rfl (by decide) (ed d0 rfl rfl rfl) (fun hg => ?_)
       have hp := of_decide_eq_false hg
       exact y_move (kp (H 15 rfl) E q85)
     · intro A B E G H d0 d1; exact rP (y_pick_or (ed d0 rfl rfl rfl) rfl (ed d1 rfl rfl rfl))
     intro a15 s15 D13; have ok14 := D13.ok; have F15 := F12.step0 D13.stp; have q108 := D13.kt q76 rfl; have q109 := D13.kt q77 rfl; have q110 := D13.kt q78 rfl; have q111 := D13.kt q79 rfl; have q112 := D13.kt q80 rfl; have q113 := D13.kt q81 rfl; have q114 := D13.kt q82 rfl; have q115 := D13.kt q83 rfl; have o11 := OwnP.k0 o8 D13.stp; have q116 := D13.dn 5 rfl rfl; clear D13; refine tn ?_
     refine cond_t q116 (fun c5 => ?_) (fun c5 => ?_)
     ·
      exfalso
      simp [c3] at c5
     ·
      obtain ⟨d51, d52⟩ := Bool.or_eq_false_iff.mp c5
      replace d51 := of_decide_eq_false d51
      refine wp_skip ?_
      exact tn ⟨s15, rfl, F15, ok14, q108, q109, q110, q111, q112, q113, q114, q115, o11, trivial⟩
   ·
    rintro a16 w2 ⟨t2, rfl, F16, ok15, q117, q118, q119, q120, q121, q122, q123, q124, o12, -⟩
    refine wp_seq ?_; refine wp_seq ?_
    refine reg (a := a16) (σ := t2) rfl (fun i_ => List.getD [(Ty.pr (Ty.int (touchMay nm n l cs leads))), (Ty.pr (Ty.bool (decide ((touchMay nm n l cs leads) ≠ (0 : Int)))))] i_ Pr.any) ok15 rfl ⟨?_, ?_, trivial⟩ ?_
    · intro A B E G H; exact rP (y_move (kp (H 7 rfl) E q120))
    · intro A B E G H d0; exact rP (y_neq (ed d0 rfl rfl rfl) rfl)
    intro a17 s16 D14; have ok16 := D14.ok; have F17 := F16.step0 D14.stp; have q125 := D14.kt q117 rfl; have q126 := D14.kt q118 rfl; have q127 := D14.kt q119 rfl; have q128 := D14.kt q120 rfl; have q129 := D14.kt q121 rfl; have q130 := D14.kt q122 rfl; have q131 := D14.kt q123 rfl; have q132 := D14.kt q124 rfl; have o13 := OwnP.k0 o12 D14.stp; have q133 := D14.dn 1 rfl rfl; clear D14; refine tn ?_
    refine cond_p (p := ((touchMay nm n l cs leads) ≠ (0 : Int))) q133 (fun c6 => ?_) (fun c6 => ?_)
    ·
     refine wp_seq ?_
     refine rg a17 s16 [(Ty.int (if touchMay nm n l cs leads = 0 then (if oneB cs leads = true then 0 else 11) else touchMay nm n l cs leads)), (Ty.int (touchMay nm n l cs leads)), (Ty.bool (decide ((if touchMay nm n l cs leads = 0 then (if oneB cs leads = true then 0 else 11) else touchMay nm n l cs leads) = (touchMay nm n l cs leads)))), (Ty.bool (decide ((if touchMay nm n l cs leads = 0 then (if oneB cs leads = true then 0 else 11) else touchMay nm n l cs leads) = (touchMay nm n l cs leads)))), (Ty.grd ((decide ((if touchMay nm n l cs leads = 0 then (if oneB cs leads = true then 0 else 11) else touchMay nm n l cs leads) = (touchMay nm n l cs leads))) = true) (Ty.bool (if touchMay nm n l cs leads = 0 then (oneB cs leads && ((!(sfTo ((fromL (roundsL n.toNat) l).take l.length) ((fromL (roundsL n.toNat) l).take l.length).length ((fromL (roundsL n.toNat) l).take l.length).length)) && bhTo (addS [0] (onceL (enTo ((fromL (roundsL n.toNat) l).take l.length) ((fromL (roundsL n.toNat) l).take l.length).length ((fromL (roundsL n.toNat) l).take l.length).length))) (tHds n.toNat l cs leads leads.length) leads.length)) else false))), (Ty.grd ((decide ((if touchMay nm n l cs leads = 0 then (if oneB cs leads = true then 0 else 11) else touchMay nm n l cs leads) = (touchMay nm n l cs leads))) = true) (Ty.bool (!(if touchMay nm n l cs leads = 0 then (oneB cs leads && ((!(sfTo ((fromL (roundsL n.toNat) l).take l.length) ((fromL (roundsL n.toNat) l).take l.length).length ((fromL (roundsL n.toNat) l).take l.length).length)) && bhTo (addS [0] (onceL (enTo ((fromL (roundsL n.toNat) l).take l.length) ((fromL (roundsL n.toNat) l).take l.length).length ((fromL (roundsL n.toNat) l).take l.length).length))) (tHds n.toNat l cs leads leads.length) leads.length)) else false)))), (Ty.bool ((decide ((if touchMay nm n l cs leads = 0 then (if oneB cs leads = true then 0 else 11) else touchMay nm n l cs leads) = (touchMay nm n l cs leads))) && (!(if touchMay nm n l cs leads = 0 then (oneB cs leads && ((!(sfTo ((fromL (roundsL n.toNat) l).take l.length) ((fromL (roundsL n.toNat) l).take l.length).length ((fromL (roundsL n.toNat) l).take l.length).length)) && bhTo (addS [0] (onceL (enTo ((fromL (roundsL n.toNat) l).take l.length) ((fromL (roundsL n.toNat) l).take l.length).length ((fromL (roundsL n.toNat) l).take l.length).length))) (tHds n.toNat l cs leads leads.length) leads.length)) else false)))), (Ty.bool ((decide ((if touchMay nm n l cs leads = 0 then (if oneB cs leads = true then 0 else 11) else touchMay nm n l cs leads) = (touchMay nm n l cs leads))) && (!(if touchMay nm n l cs leads = 0 then (oneB cs leads && ((!(sfTo ((fromL (roundsL n.toNat) l).take l.length) ((fromL (roundsL n.toNat) l).take l.length).length ((fromL (roundsL n.toNat) l).take l.length).length)) && bhTo (addS [0] (onceL (enTo ((fromL (roundsL n.toNat) l).take l.length) ((fromL (roundsL n.toNat) l).take l.length).length ((fromL (roundsL n.toNat) l).take l.length).length))) (tHds n.toNat l cs leads leads.length) leads.length)) else false)))), (Ty.grd (((decide ((if touchMay nm n l cs leads = 0 then (if oneB cs leads = true then 0 else 11) else touchMay nm n l cs leads) = (touchMay nm n l cs leads))) && (!(if touchMay nm n l cs leads = 0 then (oneB cs leads && ((!(sfTo ((fromL (roundsL n.toNat) l).take l.length) ((fromL (roundsL n.toNat) l).take l.length).length ((fromL (roundsL n.toNat) l).take l.length).length)) && bhTo (addS [0] (onceL (enTo ((fromL (roundsL n.toNat) l).take l.length) ((fromL (roundsL n.toNat) l).take l.length).length ((fromL (roundsL n.toNat) l).take l.length).length))) (tHds n.toNat l cs leads leads.length) leads.length)) else false))) = true) (Ty.lst Ty.ints (if touchMay nm n l cs leads = 0 then (tHds n.toNat l cs leads leads.length) else []))), (Ty.grd (((decide ((if touchMay nm n l cs leads = 0 then (if oneB cs leads = true then 0 else 11) else touchMay nm n l cs leads) = (touchMay nm n l cs leads))) && (!(if touchMay nm n l cs leads = 0 then (oneB cs leads && ((!(sfTo ((fromL (roundsL n.toNat) l).take l.length) ((fromL (roundsL n.toNat) l).take l.length).length ((fromL (roundsL n.toNat) l).take l.length).length)) && bhTo (addS [0] (onceL (enTo ((fromL (roundsL n.toNat) l).take l.length) ((fromL (roundsL n.toNat) l).take l.length).length ((fromL (roundsL n.toNat) l).take l.length).length))) (tHds n.toNat l cs leads leads.length) leads.length)) else false))) = true) (Ty.nat (List.length (if touchMay nm n l cs leads = 0 then (tHds n.toNat l cs leads leads.length) else [])))), (Ty.grd (((decide ((if touchMay nm n l cs leads = 0 then (if oneB cs leads = true then 0 else 11) else touchMay nm n l cs leads) = (touchMay nm n l cs leads))) && (!(if touchMay nm n l cs leads = 0 then (oneB cs leads && ((!(sfTo ((fromL (roundsL n.toNat) l).take l.length) ((fromL (roundsL n.toNat) l).take l.length).length ((fromL (roundsL n.toNat) l).take l.length).length)) && bhTo (addS [0] (onceL (enTo ((fromL (roundsL n.toNat) l).take l.length) ((fromL (roundsL n.toNat) l).take l.length).length ((fromL (roundsL n.toNat) l).take l.length).length))) (tHds n.toNat l cs leads leads.length) leads.length)) else false))) = true) (Ty.bool (decide ((((List.length (if touchMay nm n l cs leads = 0 then (tHds n.toNat l cs leads leads.length) else [])) : Nat) : Int) = (0 : Int))))), (Ty.bool (((decide ((if touchMay nm n l cs leads = 0 then (if oneB cs leads = true then 0 else 11) else touchMay nm n l cs leads) = (touchMay nm n l cs leads))) && (!(if touchMay nm n l cs leads = 0 then (oneB cs leads && ((!(sfTo ((fromL (roundsL n.toNat) l).take l.length) ((fromL (roundsL n.toNat) l).take l.length).length ((fromL (roundsL n.toNat) l).take l.length).length)) && bhTo (addS [0] (onceL (enTo ((fromL (roundsL n.toNat) l).take l.length) ((fromL (roundsL n.toNat) l).take l.length).length ((fromL (roundsL n.toNat) l).take l.length).length))) (tHds n.toNat l cs leads leads.length) leads.length)) else false))) && (decide ((((List.length (if touchMay nm n l cs leads = 0 then (tHds n.toNat l cs leads leads.length) else [])) : Nat) : Int) = (0 : Int))))), (Ty.bool (((decide ((if touchMay nm n l cs leads = 0 then (if oneB cs leads = true then 0 else 11) else touchMay nm n l cs leads) = (touchMay nm n l cs leads))) && (!(if touchMay nm n l cs leads = 0 then (oneB cs leads && ((!(sfTo ((fromL (roundsL n.toNat) l).take l.length) ((fromL (roundsL n.toNat) l).take l.length).length ((fromL (roundsL n.toNat) l).take l.length).length)) && bhTo (addS [0] (onceL (enTo ((fromL (roundsL n.toNat) l).take l.length) ((fromL (roundsL n.toNat) l).take l.length).length ((fromL (roundsL n.toNat) l).take l.length).length))) (tHds n.toNat l cs leads leads.length) leads.length)) else false))) && (decide ((((List.length (if touchMay nm n l cs leads = 0 then (tHds n.toNat l cs leads leads.length) else [])) : Nat) : Int) = (0 : Int))))), (Ty.grd ((((decide ((if touchMay nm n l cs leads = 0 then (if oneB cs leads = true then 0 else 11) else touchMay nm n l cs leads) = (touchMay nm n l cs leads))) && (!(if touchMay nm n l cs leads = 0 then (oneB cs leads && ((!(sfTo ((fromL (roundsL n.toNat) l).take l.length) ((fromL (roundsL n.toNat) l).take l.length).length ((fromL (roundsL n.toNat) l).take l.length).length)) && bhTo (addS [0] (onceL (enTo ((fromL (roundsL n.toNat) l).take l.length) ((fromL (roundsL n.toNat) l).take l.length).length ((fromL (roundsL n.toNat) l).take l.length).length))) (tHds n.toNat l cs leads leads.length) leads.length)) else false))) && (decide ((((List.length (if touchMay nm n l cs leads = 0 then (tHds n.toNat l cs leads leads.length) else [])) : Nat) : Int) = (0 : Int)))) = true) (Ty.agg [(Ty.nat (if touchMay nm n l cs leads = 0 then leads.length * l.length else 0)), (Ty.bool (if touchMay nm n l cs leads = 0 then rndB (tRows n.toNat l cs leads leads.length) else false)), (Ty.bool (if touchMay nm n l cs leads = 0 then (prO (tRows n.toNat l cs leads leads.length)).isNone else false)), (Ty.nat (if touchMay nm n l cs leads = 0 then agnL (tRows n.toNat l cs leads leads.length) else 0)), (Ty.int (if touchMay nm n l cs leads = 0 then befL (tRows n.toNat l cs leads leads.length) else 0))])), (Ty.grd ((((decide ((if touchMay nm n l cs leads = 0 then (if oneB cs leads = true then 0 else 11) else touchMay nm n l cs leads) = (touchMay nm n l cs leads))) && (!(if touchMay nm n l cs leads = 0 then (oneB cs leads && ((!(sfTo ((fromL (roundsL n.toNat) l).take l.length) ((fromL (roundsL n.toNat) l).take l.length).length ((fromL (roundsL n.toNat) l).take l.length).length)) && bhTo (addS [0] (onceL (enTo ((fromL (roundsL n.toNat) l).take l.length) ((fromL (roundsL n.toNat) l).take l.length).length ((fromL (roundsL n.toNat) l).take l.length).length))) (tHds n.toNat l cs leads leads.length) leads.length)) else false))) && (decide ((((List.length (if touchMay nm n l cs leads = 0 then (tHds n.toNat l cs leads leads.length) else [])) : Nat) : Int) = (0 : Int)))) = true) (Ty.agg [(Ty.int (0 : Int)), (Ty.bool false), (Ty.bool false), (Ty.int (0 : Int)), (Ty.int (0 : Int))])), (Ty.grd ((((decide ((if touchMay nm n l cs leads = 0 then (if oneB cs leads = true then 0 else 11) else touchMay nm n l cs leads) = (touchMay nm n l cs leads))) && (!(if touchMay nm n l cs leads = 0 then (oneB cs leads && ((!(sfTo ((fromL (roundsL n.toNat) l).take l.length) ((fromL (roundsL n.toNat) l).take l.length).length ((fromL (roundsL n.toNat) l).take l.length).length)) && bhTo (addS [0] (onceL (enTo ((fromL (roundsL n.toNat) l).take l.length) ((fromL (roundsL n.toNat) l).take l.length).length ((fromL (roundsL n.toNat) l).take l.length).length))) (tHds n.toNat l cs leads leads.length) leads.length)) else false))) && (decide ((((List.length (if touchMay nm n l cs leads = 0 then (tHds n.toNat l cs leads leads.length) else [])) : Nat) : Int) = (0 : Int)))) = true) (Ty.bool (repB ((((if touchMay nm n l cs leads = 0 then leads.length * l.length else 0) : Nat) : Int), (if touchMay nm n l cs leads = 0 then rndB (tRows n.toNat l cs leads leads.length) else false), (if touchMay nm n l cs leads = 0 then (prO (tRows n.toNat l cs leads leads.length)).isNone else false), (((if touchMay nm n l cs leads = 0 then agnL (tRows n.toNat l cs leads leads.length) else 0) : Nat) : Int), (if touchMay nm n l cs leads = 0 then befL (tRows n.toNat l cs leads leads.length) else 0)) ((0 : Int), false, false, (0 : Int), (0 : Int))))), (Ty.bool ((((decide ((if touchMay nm n l cs leads = 0 then (if oneB cs leads = true then 0 else 11) else touchMay nm n l cs leads) = (touchMay nm n l cs leads))) && (!(if touchMay nm n l cs leads = 0 then (oneB cs leads && ((!(sfTo ((fromL (roundsL n.toNat) l).take l.length) ((fromL (roundsL n.toNat) l).take l.length).length ((fromL (roundsL n.toNat) l).take l.length).length)) && bhTo (addS [0] (onceL (enTo ((fromL (roundsL n.toNat) l).take l.length) ((fromL (roundsL n.toNat) l).take l.length).length ((fromL (roundsL n.toNat) l).take l.length).length))) (tHds n.toNat l cs leads leads.length) leads.length)) else false))) && (decide ((((List.length (if touchMay nm n l cs leads = 0 then (tHds n.toNat l cs leads leads.length) else [])) : Nat) : Int) = (0 : Int)))) && (repB ((((if touchMay nm n l cs leads = 0 then leads.length * l.length else 0) : Nat) : Int), (if touchMay nm n l cs leads = 0 then rndB (tRows n.toNat l cs leads leads.length) else false), (if touchMay nm n l cs leads = 0 then (prO (tRows n.toNat l cs leads leads.length)).isNone else false), (((if touchMay nm n l cs leads = 0 then agnL (tRows n.toNat l cs leads leads.length) else 0) : Nat) : Int), (if touchMay nm n l cs leads = 0 then befL (tRows n.toNat l cs leads leads.length) else 0)) ((0 : Int), false, false, (0 : Int), (0 : Int))))), (Ty.bool ((((decide ((if touchMay nm n l cs leads = 0 then (if oneB cs leads = true then 0 else 11) else touchMay nm n l cs leads) = (touchMay nm n l cs leads))) && (!(if touchMay nm n l cs leads = 0 then (oneB cs leads && ((!(sfTo ((fromL (roundsL n.toNat) l).take l.length) ((fromL (roundsL n.toNat) l).take l.length).length ((fromL (roundsL n.toNat) l).take l.length).length)) && bhTo (addS [0] (onceL (enTo ((fromL (roundsL n.toNat) l).take l.length) ((fromL (roundsL n.toNat) l).take l.length).length ((fromL (roundsL n.toNat) l).take l.length).length))) (tHds n.toNat l cs leads leads.length) leads.length)) else false))) && (decide ((((List.length (if touchMay nm n l cs leads = 0 then (tHds n.toNat l cs leads leads.length) else [])) : Nat) : Int) = (0 : Int)))) && (repB ((((if touchMay nm n l cs leads = 0 then leads.length * l.length else 0) : Nat) : Int), (if touchMay nm n l cs leads = 0 then rndB (tRows n.toNat l cs leads leads.length) else false), (if touchMay nm n l cs leads = 0 then (prO (tRows n.toNat l cs leads leads.length)).isNone else false), (((if touchMay nm n l cs leads = 0 then agnL (tRows n.toNat l cs leads leads.length) else 0) : Nat) : Int), (if touchMay nm n l cs leads = 0 then befL (tRows n.toNat l cs leads leads.length) else 0)) ((0 : Int), false, false, (0 : Int), (0 : Int)))))] ok16 ⟨?_, ?_, ?_, ?_, ?_, ?_, ?_, ?_, ?_, ?_, ?_, ?_, ?_, ?_, ?_, ?_, ?_, ?_, trivial⟩ ?_
     · intro A B E G H; exact rP (y_move (kp (H 13 rfl) E q132))
     · intro A B E G H; exact rP (y_move (kp (H 7 rfl) E q128))
     · intro A B E G H d0 d1; exact rP (y_eql (ed d0 rfl rfl rfl) (ed d1 rfl rfl rfl))
     · intro A B E G H d0; exact rP (y_move (ed d0 rfl rfl rfl))
     · intro A B E G H d0
       refine run_guard G rfl rfl (by decide) (ed d0 rfl rfl rfl) (fun hg => ?_)
       have hp := of_decide_eq_true hg
       exact y_move (kp (H 12 rfl) E q131)
     · intro A B E G H d0 d1
       refine run_guard G rfl rfl (by decide) (ed d1 rfl rfl rfl) (fun hg => ?_)
       have hp := of_decide_eq_true hg
       exact y_not ((ed d0 rfl rfl rfl).1 hg)
     · intro A B E G H d0 d1; exact rP (y_pick_and (ed d0 rfl rfl rfl) (ed d1 rfl rfl rfl) rfl)
     · intro A B E G H d0 d1; exact rP (y_move (ed d0 rfl rfl rfl))
     · intro A B E G H d0
       refine run_guard G rfl rfl (by decide) (ed d0 rfl rfl rfl) (fun hg => ?_)
       obtain ⟨d53, d54⟩ := Bool.and_eq_true_iff.mp hg
       have d53 := of_decide_eq_true d53
       exact y_move (kp (H 10 rfl) E q130)
     · intro A B E G H d0 d1
       refine run_guard G rfl rfl (by decide) (ed d1 rfl rfl rfl) (fun hg => ?_)
       obtain ⟨d55, d56⟩ := Bool.and_eq_true_iff.mp hg
       have d55 := of_decide_eq_true d55
       exact y_len Try.underlying29 ((ed d0 rfl rfl rfl).1 hg)
     · intro A B E G H d0 d1
       refine run_guard G rfl rfl (by decide) (ed d1 rfl rfl rfl) (fun hg => ?_)
       obtain ⟨d57, d58⟩ := Bool.and_eq_true_iff.mp hg
       have d57 := of_decide_eq_true d57
       exact y_eql ((ed d0 rfl rfl rfl).1 hg) rfl
     · intro A B E G H d0 d1; exact rP (y_pick_and (ed d0 rfl rfl rfl) (ed d1 rfl rfl rfl) rfl)
     · intro A B E G H d0 d1; exact rP (y_move (ed d0 rfl rfl rfl))
     · intro A B E G H d0
       refine run_guard G rfl rfl (by decide) (ed d0 rfl rfl rfl) (fun hg => ?_)
       obtain ⟨d59, d60⟩ := Bool.and_eq_true_iff.mp hg
       obtain ⟨d61, d62⟩ := Bool.and_eq_true_iff.mp d59
       have d61 := of_decide_eq_true d61
       have d60 := of_decide_eq_true d60
       exact ownp_loadagg Try.underlying42 Try.inf42 (OwnP.k0 o13 E) (kp (H 8 rfl) E q129)
     · intro A B E G H d0
       refine run_guard G rfl rfl (by decide) (ed d0 rfl rfl rfl) (fun hg => ?_)
       obtain ⟨d63, d64⟩ := Bool.and_eq_true_iff.mp hg
       obtain ⟨d65, d66⟩ := Bool.and_eq_true_iff.mp d63
       have d65 := of_decide_eq_true d65
       have d64 := of_decide_eq_true d64
       exact y_bld [] [(Ty.int (0 : Int)), (Ty.bool false), (Ty.bool false), (Ty.int (0 : Int)), (Ty.int (0 : Int))] (l := [(0, 1), (1, 1), (2, 1), (3, 1), (4, 1)]) rfl Try.inf42 rfl (alloc_vals (vs := [.int .i64 0, .bool false, .bool false, .int .i64 0, .int .i64 0]) rfl) rfl (by intro p hp; cases hp)
     · intro A B E G H d0 d1 d2
       refine run_guard G rfl rfl (by decide) (ed d2 rfl rfl rfl) (fun hg => ?_)
       obtain ⟨d67, d68⟩ := Bool.and_eq_true_iff.mp hg
       obtain ⟨d69, d70⟩ := Bool.and_eq_true_iff.mp d67
       have d69 := of_decide_eq_true d69
       have d68 := of_decide_eq_true d68
       exact y_eqrep (X := ((((if touchMay nm n l cs leads = 0 then leads.length * l.length else 0) : Nat) : Int), (if touchMay nm n l cs leads = 0 then rndB (tRows n.toNat l cs leads leads.length) else false), (if touchMay nm n l cs leads = 0 then (prO (tRows n.toNat l cs leads leads.length)).isNone else false), (((if touchMay nm n l cs leads = 0 then agnL (tRows n.toNat l cs leads leads.length) else 0) : Nat) : Int), (if touchMay nm n l cs leads = 0 then befL (tRows n.toNat l cs leads leads.length) else 0))) (Y := ((0 : Int), false, false, (0 : Int), (0 : Int))) ((ed d0 rfl rfl rfl).1 hg) ((ed d1 rfl rfl rfl).1 hg)
     · intro A B E G H d0 d1; exact rP (y_pick_and (ed d0 rfl rfl rfl) (ed d1 rfl rfl rfl) rfl)
     · intro A B E G H d0 d1 d2 d3 d4 d5 d6 d7 d8 d9 d10 d11 d12 d13 d14 d15 d16 d17 d18; exact rP (y_assign (ed d0 rfl rfl rfl))
     intro a18 s17 D15; have ok17 := D15.ok; have F18 := F17.step0 D15.stp; have o14 := OwnP.k0 o13 D15.stp; have q134 := D15.dn 17 rfl rfl; clear D15; refine tn ?_; refine wp_ret ?_; refine tr ?_
     exact retL1 rfl ok17 F18 (cvb (by (simp [c6, repB])) q134)
    ·
     have h0 := Classical.not_not.1 c6; obtain ⟨hok, hnn, hlo, hlh, hin, hlim⟩ := touchMay_ok h0; have hl1 := hok.meth.l1; have hl2 := hok.meth.l2; have hn1 := hok.meth.n1; have hn2 := hok.meth.n2; obtain ⟨HD, hHD⟩ : ∃ HD, HD = (tHds n.toNat l cs leads leads.length) := ⟨_, rfl⟩; have hHl : HD.length = leads.length := (by rw [hHD]; exact tHds_len _ _ _ _ _); obtain ⟨R, hR⟩ : ∃ R, R = (tRows n.toNat l cs leads leads.length) := ⟨_, rfl⟩; have hRl : R.length = leads.length * l.length + 1 := (by rw [hR]; exact tRows_len hok hin _ (Nat.le_refl _)); have hHR : ∀ k, k < leads.length → HD.getD k [] = R.getD (k * l.length) [] := (fun k hk => by (rw [hHD, hR, tHds_get hk, tRows_head hok hin (by omega)])); have hob := one_and hok hin (by omega)
     have q135 : At (Ty.lst Ty.ints HD) s16 a17 (.tmp 10) := cvt (T := (Ty.lst Ty.ints (if touchMay nm n l cs leads = 0 then (tHds n.toNat l cs leads leads.length) else []))) (U := (Ty.lst Ty.ints HD)) (by rw [if_pos h0, hHD]) q130
     have q136 : At (Ty.bool (oneB cs leads && trueP n.toNat l cs leads)) s16 a17 (.tmp 12) := cvt (T := (Ty.bool (if touchMay nm n l cs leads = 0 then (oneB cs leads && ((!(sfTo ((fromL (roundsL n.toNat) l).take l.length) ((fromL (roundsL n.toNat) l).take l.length).length ((fromL (roundsL n.toNat) l).take l.length).length)) && bhTo (addS [0] (onceL (enTo ((fromL (roundsL n.toNat) l).take l.length) ((fromL (roundsL n.toNat) l).take l.length).length ((fromL (roundsL n.toNat) l).take l.length).length))) (tHds n.toNat l cs leads leads.length) leads.length)) else false))) (U := (Ty.bool (oneB cs leads && trueP n.toNat l cs leads))) (by rw [if_pos h0, hob]) q131
     have q137 : At (Ty.int (if oneB cs leads = true then 0 else 11)) s16 a17 (.tmp 13) := cvt (T := (Ty.int (if touchMay nm n l cs leads = 0 then (if oneB cs leads = true then 0 else 11) else touchMay nm n l cs leads))) (U := (Ty.int (if oneB cs leads = true then 0 else 11))) (by rw [if_pos h0]) q132
     refine wp_skip ?_; refine tn ?_; refine wp_seq ?_
     refine reg2 (a := a17) (σ := s16) rfl 5 (fun i_ => List.getD [(Ty.pr (Ty.agg [(Ty.val (Value.string nm)), (Ty.int n), (Ty.lst Ty.ints l)])), (Ty.pr (Ty.lstc 2 callC cs)), (Ty.pr (Ty.lst Ty.int leads)), (Ty.pr (Ty.agg [(Ty.nat (leads.length * l.length)), (Ty.bool (rndB (tRows n.toNat l cs leads leads.length))), (Ty.bool (trueP n.toNat l cs leads)), (Ty.nat (agnL (tRows n.toNat l cs leads leads.length))), (Ty.int (befL (tRows n.toNat l cs leads leads.length)))])), (Pr.ownp 8 [(Ty.int (0 : Int)), (Ty.bool false), (Ty.bool false), (Ty.int (0 : Int)), (Ty.int (0 : Int))])] i_ Pr.any) ok16 rfl (by decide) rfl ⟨?_, ?_, ?_, ?_, ?_, trivial⟩ ?_
     · intro A B E G H; exact rP (y_loadagg Try.underlying31 Try.inf31 (kp (H 3 rfl) E q127))
     · intro A B E G H; exact rP (y_move (kp (H 1 rfl) E q125))
     · intro A B E G H; exact rP (y_move (kp (H 2 rfl) E q126))
     · intro A B E G H d0 d1 d2; exact rP ((y_call #[A.eval (.tmp 140), A.eval (.tmp 141), A.eval (.tmp 142)] Try.func28 rfl rfl (by simp only [List.map_toArray, List.map_cons, List.map_nil]) (rProve_fn (nm) (n) (l) (cs) (leads) _ _ _ _ (ed d0 rfl rfl rfl) (ed d1 rfl rfl rfl) (ed d2 rfl rfl rfl) (by first | omega | assumption))).mono (fun τ _ h => cvt (σ := τ) (T := (Ty.agg [(Ty.nat (leads.length * l.length)), (Ty.bool (rndB (tRows n.toNat l cs leads leads.length))), (Ty.bool (prO (tRows n.toNat l cs leads leads.length)).isNone), (Ty.nat (agnL (tRows n.toNat l cs leads leads.length))), (Ty.int (befL (tRows n.toNat l cs leads leads.length)))])) (U := (Ty.agg [(Ty.nat (leads.length * l.length)), (Ty.bool (rndB (tRows n.toNat l cs leads leads.length))), (Ty.bool (trueP n.toNat l cs leads)), (Ty.nat (agnL (tRows n.toNat l cs leads leads.length))), (Ty.int (befL (tRows n.toNat l cs leads leads.length)))])) (by rfl) h))
     · intro A B E G H; exact rP (y_alloc Try.inf42 rfl (alloc_vals (vs := [.int .i64 0, .bool false, .bool false, .int .i64 0, .int .i64 0]) rfl))
     intro a19 s18 D16; have ok18 := D16.ok; have F19 := F17.step0 D16.stp; have q138 := D16.kt q125 rfl; have q139 := D16.kt q126 rfl; have q140 := D16.kt q127 rfl; have q141 := D16.kt q129 rfl; have q142 := D16.kt q135 rfl; have q143 := D16.kt q136 rfl; have q144 := D16.kt q137 rfl; have o15 := OwnP.k0 o13 D16.stp; have q145 := D16.dn 3 (by decide) rfl rfl
     obtain ⟨x2, hx2⟩ : ∃ x, a19.eval (.tmp 19) = x := ⟨_, rfl⟩
     have q146 : At (Ty.val x2) s18 a19 (.tmp 19) := hx2
     have o16 : OwnP s18 8 x2 [(Ty.int (0 : Int)), (Ty.bool false), (Ty.bool false), (Ty.int (0 : Int)), (Ty.int (0 : Int))] := al2 (R := (Pr.ownp 8 [(Ty.int (0 : Int)), (Ty.bool false), (Ty.bool false), (Ty.int (0 : Int)), (Ty.int (0 : Int))])) hx2 (D16.done 4 (by decide))
     clear D16
     refine tailL0 (L := [8]) (R := (fun _ τ => OwnP τ 8 x2 [(Ty.nat (leads.length * l.length)), (Ty.bool (rndB (tRows n.toNat l cs leads leads.length))), (Ty.bool (trueP n.toNat l cs leads)), (Ty.nat (agnL (tRows n.toNat l cs leads leads.length))), (Ty.int (befL (tRows n.toNat l cs leads leads.length)))])) rfl rfl (YldM.toL (m_storeagg Try.inf42 (by decide) o16 q146 rfl q145 (by intro U hU; simp only [List.mem_cons, List.not_mem_nil, or_false] at hU; rcases hU with rfl | rfl | rfl | rfl | rfl <;> first | exact one_val rfl | exact one_sl | exact one_ref))) (fun v2 s19 hs3 r3 => ?_)
     have F20 := F19.stepL hs3 (by decide); have q147 := kpL hs3 (by decide) rfl q138; have q148 := kpL hs3 (by decide) rfl q139; have q149 := kpL hs3 (by decide) rfl q140; have q150 := kpL hs3 (by decide) rfl q141; have q151 := kpL hs3 (by decide) rfl q142; have q152 := kpL hs3 (by decide) rfl q143; have q153 := kpL hs3 (by decide) rfl q144; have q154 := kpL hs3 (by decide) rfl q146; have o18 := OwnP.keepL o15 hs3 (by decide) (by decide)
     have o17 : OwnP s19 8 x2 [(Ty.nat (leads.length * l.length)), (Ty.bool (rndB (tRows n.toNat l cs leads leads.length))), (Ty.bool (trueP n.toNat l cs leads)), (Ty.nat (agnL (tRows n.toNat l cs leads leads.length))), (Ty.int (befL (tRows n.toNat l cs leads leads.length)))] := r3
     clear r3; refine wpList_nil ?_
     have o19 : OwnP s19 7 x1 [(Ty.nat (leads.length * l.length)), (Ty.bool (rndB (tRows n.toNat l cs leads leads.length))), (Ty.bool (trueP n.toNat l cs leads)), (Ty.nat (agnL (tRows n.toNat l cs leads leads.length))), (Ty.int (befL (tRows n.toNat l cs leads leads.length)))] := (ownp_cell 4 (Ty.int (befL (tRows n.toNat l cs leads leads.length))) (ownp_cell 3 (Ty.nat (agnL (tRows n.toNat l cs leads leads.length))) (ownp_cell 2 (Ty.bool (trueP n.toNat l cs leads)) (ownp_cell 1 (Ty.bool (rndB (tRows n.toNat l cs leads leads.length))) (ownp_cell 0 (Ty.nat (leads.length * l.length)) o18 rfl (fun _ _ h => (cvi (by (simp only [if_pos h0] <;> rfl)) h))) rfl (fun _ _ h => (cvb (by (simp only [if_pos h0] <;> rfl)) h))) rfl (fun _ _ h => (cvb (by (simp only [if_pos h0] <;> rfl)) h))) rfl (fun _ _ h => (cvi (by (simp only [if_pos h0] <;> rfl)) h))) rfl (fun _ _ h => (cvi (by (simp only [if_pos h0] <;> rfl)) h)))
     refine tn ?_; refine wp_seq ?_
     refine rg a19 s19 [(Ty.agg [(Ty.val (Value.string nm)), (Ty.int n), (Ty.lst Ty.ints l)]), (Ty.lstc 2 callC cs), (Ty.lst Ty.int leads), (Ty.lst Ty.ints R), (Ty.lst Ty.ints R)] ok18 ⟨?_, ?_, ?_, ?_, ?_, trivial⟩ ?_
     · intro A B E G H; exact rP (y_loadagg Try.underlying31 Try.inf31 (kp (H 3 rfl) E q149))
     · intro A B E G H; exact rP (y_move (kp (H 1 rfl) E q147))
     · intro A B E G H; exact rP (y_move (kp (H 2 rfl) E q148))
     · intro A B E G H d0 d1 d2; exact rP ((y_call #[A.eval (.tmp 144), A.eval (.tmp 145), A.eval (.tmp 146)] Try.func29 rfl rfl (by simp only [List.map_toArray, List.map_cons, List.map_nil]) (rTouchRows_fn (nm) (n) (l) (cs) (leads) _ _ _ _ (ed d0 rfl rfl rfl) (ed d1 rfl rfl rfl) (ed d2 rfl rfl rfl) (by first | omega | assumption))).mono (fun τ _ h => cvt (σ := τ) (T := (Ty.lst Ty.ints (tRows n.toNat l cs leads leads.length))) (U := (Ty.lst Ty.ints R)) (by rw [hR]) h))
     · intro A B E G H d0 d1 d2 d3 d4 d5; exact rP (y_assign (ed d0 rfl rfl rfl))
     intro a20 s20 D17; have ok19 := D17.ok; have F21 := F20.step0 D17.stp; have q156 := D17.kt q147 rfl; have q157 := D17.kt q148 rfl; have q158 := D17.kt q149 rfl; have q159 := D17.kt q150 rfl; have q160 := D17.kt q151 rfl; have q161 := D17.kt q152 rfl; have q162 := D17.kt q153 rfl; have q163 := D17.kt q154 rfl; have o20 := OwnP.k0 o19 D17.stp; have o21 := OwnP.k0 o17 D17.stp; have q164 := D17.dn 4 rfl rfl; clear D17; refine tn ?_; refine wp_seq ?_; refine wp_seq ?_
     refine rg a20 s20 [(Ty.int (0 : Int))] ok19 ⟨?_, trivial⟩ ?_
     · intro A B E G H; exact rP (y_assign rfl)
     intro a21 s21 D18; have ok20 := D18.ok; have F22 := F21.step0 D18.stp; have q165 := D18.kt q156 rfl; have q166 := D18.kt q157 rfl; have q167 := D18.kt q158 rfl; have q168 := D18.kt q159 rfl; have q169 := D18.kt q160 rfl; have q170 := D18.kt q161 rfl; have q171 := D18.kt q162 rfl; have q172 := D18.kt q163 rfl; have q173 := D18.kt q164 rfl; have o22 := OwnP.k0 o20 D18.stp; have o23 := OwnP.k0 o21 D18.stp; have q174 := D18.dn 0 rfl rfl; clear D18; refine tn ?_; refine wp_block ?_
     refine loop (fun n1 a22 w3 => ∃ (t3 : GW) (k : Nat), t3.w = w3 ∧ FromL [] s0 t3 ∧ Ok 220 a22 ∧ At (Ty.nat k) t3 a22 (.tmp 21) ∧ At (Ty.lstc 2 callC cs) t3 a22 (.tmp 1) ∧ At (Ty.lst Ty.int leads) t3 a22 (.tmp 2) ∧ At (Ty.ref [(Ty.val (Value.string nm)), (Ty.int n), (Ty.lst Ty.ints l)]) t3 a22 (.tmp 3) ∧ At (Ty.val x1) t3 a22 (.tmp 8) ∧ At (Ty.lst Ty.ints HD) t3 a22 (.tmp 10) ∧ At (Ty.bool (oneB cs leads && trueP n.toNat l cs leads)) t3 a22 (.tmp 12) ∧ At (Ty.int (if oneB cs leads = true then 0 else 11)) t3 a22 (.tmp 13) ∧ At (Ty.val x2) t3 a22 (.tmp 19) ∧ At (Ty.lst Ty.ints R) t3 a22 (.tmp 20) ∧ OwnP t3 7 x1 [(Ty.nat (leads.length * l.length)), (Ty.bool (rndB (tRows n.toNat l cs leads leads.length))), (Ty.bool (trueP n.toNat l cs leads)), (Ty.nat (agnL (tRows n.toNat l cs leads leads.length))), (Ty.int (befL (tRows n.toNat l cs leads leads.length)))] ∧ OwnP t3 8 x2 [(Ty.nat (leads.length * l.length)), (Ty.bool (rndB (tRows n.toNat l cs leads leads.length))), (Ty.bool (trueP n.toNat l cs leads)), (Ty.nat (agnL (tRows n.toNat l cs leads leads.length))), (Ty.int (befL (tRows n.toNat l cs leads leads.length)))] ∧ (k ≤ leads.length) ∧ n1 = leads.length - k) (leads.length - (0)) ?_ ?_
     ·
      exact ⟨s21, 0, rfl, F22, ok20, (cvi (by (first | rfl | omega | (simp_all; done) | (simp_all; omega))) q174), q165, q166, q167, q168, q169, q170, q171, q172, q173, o22, o23, by omega, rfl⟩
     ·
      rintro n2 a23 w4 ⟨t4, k, rfl, F23, ok21, q175, q176, q177, q178, q179, q180, q181, q182, q183, q184, o24, o25, hk, rfl⟩
      refine wp_seq ?_; refine wp_seq ?_
      refine reg (a := a23) (σ := t4) rfl (fun i_ => List.getD [(Ty.pr (Ty.nat k)), (Ty.pr (Ty.lst Ty.int leads)), (Ty.pr (Ty.nat (List.length leads))), (Ty.pr (Ty.bool (decide (((k : Nat) : Int) < (((List.length leads) : Nat) : Int)))))] i_ Pr.any) ok21 rfl ⟨?_, ?_, ?_, ?_, trivial⟩ ?_
      · intro A B E G H; exact rP (y_move (kp (H 21 rfl) E q175))
      · intro A B E G H; exact rP (y_move (kp (H 2 rfl) E q177))
      · intro A B E G H d0; exact rP (y_len Try.underlying23 (ed d0 rfl rfl rfl))
      · intro A B E G H d0 d1; exact rP (y_lss (ed d0 rfl rfl rfl) (ed d1 rfl rfl rfl))
      intro a24 s22 D19; have ok22 := D19.ok; have F24 := F23.step0 D19.stp; have q185 := D19.kt q175 rfl; have q186 := D19.kt q176 rfl; have q187 := D19.kt q177 rfl; have q188 := D19.kt q178 rfl; have q189 := D19.kt q179 rfl; have q190 := D19.kt q180 rfl; have q191 := D19.kt q181 rfl; have q192 := D19.kt q182 rfl; have q193 := D19.kt q183 rfl; have q194 := D19.kt q184 rfl; have o26 := OwnP.k0 o24 D19.stp; have o27 := OwnP.k0 o25 D19.stp; have q195 := D19.dn 3 rfl rfl; clear D19; refine tn ?_
      refine cond_p (p := (((k : Nat) : Int) < (((List.length leads) : Nat) : Int))) q195 (fun c7 => ?_) (fun c7 => ?_)
      ·
       have hkm : k * l.length ≤ leads.length * l.length := Nat.mul_le_mul_right _ (by omega); have hkI : ((k : Nat) : Int) * ((l.length : Nat) : Int) = ((k * l.length : Nat) : Int) := (Int.natCast_mul _ _).symm; have hhr := hHR k (by omega)
       refine wp_skip ?_; refine tn ?_; refine wp_seq ?_; refine wp_block ?_; refine wp_seq ?_
       refine rg a24 s22 [(Ty.lst Ty.ints HD), (Ty.nat (List.length HD)), (Ty.lst Ty.int leads), (Ty.nat (List.length leads)), (Ty.bool (decide ((((List.length HD) : Nat) : Int) ≠ (((List.length leads) : Nat) : Int)))), (Ty.bool (decide ((((List.length HD) : Nat) : Int) ≠ (((List.length leads) : Nat) : Int)))), (Ty.grd ((decide ((((List.length HD) : Nat) : Int) ≠ (((List.length leads) : Nat) : Int))) = false) (Ty.lst Ty.ints HD)), (Ty.grd ((decide ((((List.length HD) : Nat) : Int) ≠ (((List.length leads) : Nat) : Int))) = false) (Ty.nat k)), (Ty.grd ((decide ((((List.length HD) : Nat) : Int) ≠ (((List.length leads) : Nat) : Int))) = false) (Ty.ref [(Ty.lst Ty.int (HD.getD k []))])), (Ty.grd ((decide ((((List.length HD) : Nat) : Int) ≠ (((List.length leads) : Nat) : Int))) = false) (Ty.lst Ty.int (HD.getD k []))), (Ty.grd ((decide ((((List.length HD) : Nat) : Int) ≠ (((List.length leads) : Nat) : Int))) = false) (Ty.lst Ty.ints R)), (Ty.grd ((decide ((((List.length HD) : Nat) : Int) ≠ (((List.length leads) : Nat) : Int))) = false) (Ty.nat k)), (Ty.grd ((decide ((((List.length HD) : Nat) : Int) ≠ (((List.length leads) : Nat) : Int))) = false) (Ty.ref [(Ty.lst Ty.ints l)])), (Ty.grd ((decide ((((List.length HD) : Nat) : Int) ≠ (((List.length leads) : Nat) : Int))) = false) (Ty.lst Ty.ints l)), (Ty.grd ((decide ((((List.length HD) : Nat) : Int) ≠ (((List.length leads) : Nat) : Int))) = false) (Ty.nat (List.length l))), (Ty.grd ((decide ((((List.length HD) : Nat) : Int) ≠ (((List.length leads) : Nat) : Int))) = false) (Ty.nat (k * (List.length l)))), (Ty.grd ((decide ((((List.length HD) : Nat) : Int) ≠ (((List.length leads) : Nat) : Int))) = false) (Ty.ref [(Ty.lst Ty.int (R.getD (k * (List.length l)) []))])), (Ty.grd ((decide ((((List.length HD) : Nat) : Int) ≠ (((List.length leads) : Nat) : Int))) = false) (Ty.lst Ty.int (R.getD (k * (List.length l)) []))), (Ty.grd ((decide ((((List.length HD) : Nat) : Int) ≠ (((List.length leads) : Nat) : Int))) = false) (Ty.bool (decide (((HD.getD k [])) = ((R.getD (k * (List.length l)) [])))))), (Ty.grd ((decide ((((List.length HD) : Nat) : Int) ≠ (((List.length leads) : Nat) : Int))) = false) (Ty.bool (!(decide (((HD.getD k [])) = ((R.getD (k * (List.length l)) []))))))), (Ty.bool ((decide ((((List.length HD) : Nat) : Int) ≠ (((List.length leads) : Nat) : Int))) || (!(decide (((HD.getD k [])) = ((R.getD (k * (List.length l)) [])))))))] ok22 ⟨?_, ?_, ?_, ?_, ?_, ?_, ?_, ?_, ?_, ?_, ?_, ?_, ?_, ?_, ?_, ?_, ?_, ?_, ?_, ?_, ?_, trivial⟩ ?_
       · intro A B E G H; exact rP (y_move (kp (H 10 rfl) E q190))
       · intro A B E G H d0; exact rP (y_len Try.underlying29 (ed d0 rfl rfl rfl))
       · intro A B E G H; exact rP (y_move (kp (H 2 rfl) E q187))
       · intro A B E G H d0; exact rP (y_len Try.underlying23 (ed d0 rfl rfl rfl))
       · intro A B E G H d0 d1; exact rP (y_neq (ed d0 rfl rfl rfl) (ed d1 rfl rfl rfl))
       · intro A B E G H d0; exact rP (y_move (ed d0 rfl rfl rfl))
       · intro A B E G H d0
         refine run_guard G rfl rfl (by decide) (ed d0 rfl rfl rfl) (fun hg => ?_)
         have hp := of_decide_eq_false hg
         exact y_move (kp (H 10 rfl) E q190)
       · intro A B E G H d0
         refine run_guard G rfl rfl (by decide) (ed d0 rfl rfl rfl) (fun hg => ?_)
         have hp := of_decide_eq_false hg
         exact y_move (kp (H 21 rfl) E q185)
       · intro A B E G H d0 d1 d2
         refine run_guard G rfl rfl (by decide) (ed d2 rfl rfl rfl) (fun hg => ?_)
         have hp := of_decide_eq_false hg
         exact y_index1 Try.underlying29 Try.inf23 ((ed d0 rfl rfl rfl).1 hg) ((ed d1 rfl rfl rfl).1 hg) (by omega) (lst_get Ty.ints HD [] k (by omega))
       · intro A B E G H d0 d1
         refine run_guard G rfl rfl (by decide) (ed d1 rfl rfl rfl) (fun hg => ?_)
         have hp := of_decide_eq_false hg
         exact y_load Try.underlying23 rfl ((ed d0 rfl rfl rfl).1 hg) rfl
       · intro A B E G H d0
         refine run_guard G rfl rfl (by decide) (ed d0 rfl rfl rfl) (fun hg => ?_)
         have hp := of_decide_eq_false hg
         exact y_move (kp (H 20 rfl) E q194)
       · intro A B E G H d0
         refine run_guard G rfl rfl (by decide) (ed d0 rfl rfl rfl) (fun hg => ?_)
         have hp := of_decide_eq_false hg
         exact y_move (kp (H 21 rfl) E q185)
       · intro A B E G H d0
         refine run_guard G rfl rfl (by decide) (ed d0 rfl rfl rfl) (fun hg => ?_)
         have hp := of_decide_eq_false hg
         exact y_field Try.fld31_2 Try.inf29 (by decide) (kp (H 3 rfl) E q188) rfl
       · intro A B E G H d0 d1
         refine run_guard G rfl rfl (by decide) (ed d1 rfl rfl rfl) (fun hg => ?_)
         have hp := of_decide_eq_false hg
         exact y_load Try.underlying29 rfl ((ed d0 rfl rfl rfl).1 hg) rfl
       · intro A B E G H d0 d1
         refine run_guard G rfl rfl (by decide) (ed d1 rfl rfl rfl) (fun hg => ?_)
         have hp := of_decide_eq_false hg
         exact y_len Try.underlying29 ((ed d0 rfl rfl rfl).1 hg)
       · intro A B E G H d0 d1 d2
         refine run_guard G rfl rfl (by decide) (ed d2 rfl rfl rfl) (fun hg => ?_)
         have hp := of_decide_eq_false hg
         exact (y_mul ((ed d0 rfl rfl rfl).1 hg) ((ed d1 rfl rfl rfl).1 hg) (w64 (by omega) (by omega))).mono (fun τ _ h => cvi (σ := τ) (by first | omega | exact (Int.natCast_mul _ _).symm) h)
       · intro A B E G H d0 d1 d2
         refine run_guard G rfl rfl (by decide) (ed d2 rfl rfl rfl) (fun hg => ?_)
         have hp := of_decide_eq_false hg
         exact y_index1 Try.underlying29 Try.inf23 ((ed d0 rfl rfl rfl).1 hg) ((ed d1 rfl rfl rfl).1 hg) (by omega) (lst_get Ty.ints R [] (k * (List.length l)) (by omega))
       · intro A B E G H d0 d1
         refine run_guard G rfl rfl (by decide) (ed d1 rfl rfl rfl) (fun hg => ?_)
         have hp := of_decide_eq_false hg
         exact y_load Try.underlying23 rfl ((ed d0 rfl rfl rfl).1 hg) rfl
       · intro A B E G H d0 d1 d2 d3
         refine run_guard G rfl rfl (by decide) (ed d2 rfl rfl rfl) (fun hg => ?_)
         have hp := of_decide_eq_false hg
         exact y_call #[A.eval (.tmp 163), A.eval (.tmp 171)] Try.func14 rfl rfl (by simp only [List.map_toArray, List.map_cons, List.map_nil]) (rsame_fn ((HD.getD k [])) ((R.getD (k * (List.length l)) [])) _ _ _ ((ed d0 rfl rfl rfl).1 hg) ((ed d1 rfl rfl rfl).1 hg) )
       · intro A B E G H d0 d1
         refine run_guard G rfl rfl (by decide) (ed d1 rfl rfl rfl) (fun hg => ?_)
         have hp := of_decide_eq_false hg
         exact y_not ((ed d0 rfl rfl rfl).1 hg)
       · intro A B E G H d0 d1; exact rP (y_pick_or (ed d0 rfl rfl rfl) rfl (ed d1 rfl rfl rfl))
       intro a25 s23 D20; have ok23 := D20.ok; have F25 := F24.step0 D20.stp; have q196 := D20.kt q185 rfl; have q197 := D20.kt q186 rfl; have q198 := D20.kt q187 rfl; have q199 := D20.kt q188 rfl; have q200 := D20.kt q189 rfl; have q201 := D20.kt q190 rfl; have q202 := D20.kt q191 rfl; have q203 := D20.kt q192 rfl; have q204 := D20.kt q193 rfl; have q205 := D20.kt q194 rfl; have o28 := OwnP.k0 o26 D20.stp; have o29 := OwnP.k0 o27 D20.stp; have q206 := D20.dn 20 rfl rfl; clear D20; refine tn ?_
       refine cond_t q206 (fun c8 => ?_) (fun c8 => ?_)
       ·
        exfalso
        rw [hHl, hhr] at c8; simp at c8
       ·
        obtain ⟨d71, d72⟩ := Bool.or_eq_false_iff.mp c8
        replace d71 := of_decide_eq_false d71
        refine wp_skip ?_; refine bn ?_; refine tn ?_
        refine rg a25 s23 [(Ty.nat k), (Ty.nat (k + 1)), (Ty.nat (k + 1))] ok23 ⟨?_, ?_, ?_, trivial⟩ ?_
        · intro A B E G H; exact rP (y_move (kp (H 21 rfl) E q196))
        · intro A B E G H d0; exact rP ((y_add (ed d0 rfl rfl rfl) rfl (w64 (by omega) (by omega))).mono (fun τ _ h => cvi (σ := τ) (by first | omega | exact (Int.natCast_mul _ _).symm) h))
        · intro A B E G H d0 d1 d2; exact rP (y_assign (ed d0 rfl rfl rfl))
        intro a26 s24 D21; have ok24 := D21.ok; have F26 := F25.step0 D21.stp; have q207 := D21.kt q197 rfl; have q208 := D21.kt q198 rfl; have q209 := D21.kt q199 rfl; have q210 := D21.kt q200 rfl; have q211 := D21.kt q201 rfl; have q212 := D21.kt q202 rfl; have q213 := D21.kt q203 rfl; have q214 := D21.kt q204 rfl; have q215 := D21.kt q205 rfl; have o30 := OwnP.k0 o28 D21.stp; have o31 := OwnP.k0 o29 D21.stp; have q216 := D21.dn 2 rfl rfl; clear D21
        exact tn ⟨leads.length - ((k+1)), by omega, s24, (k+1), rfl, F26, ok24, (cvi (by (first | rfl | omega | (simp_all; done) | (simp_all; omega))) q216), q207, q208, q209, q210, q211, q212, q213, q214, q215, o30, o31, by omega, rfl⟩
      ·
       refine wp_exit ?_; refine tx ?_; refine tx ?_; refine bx ?_; refine tn ?_; refine wp_seq ?_
       refine rg a24 s22 [(Ty.bool true)] ok22 ⟨?_, trivial⟩ ?_
       · intro A B E G H; exact rP (y_assign rfl)
       intro a27 s25 D22; have ok25 := D22.ok; have F27 := F24.step0 D22.stp; have q217 := D22.kt q186 rfl; have q218 := D22.kt q187 rfl; have q219 := D22.kt q189 rfl; have q220 := D22.kt q191 rfl; have q221 := D22.kt q192 rfl; have q222 := D22.kt q193 rfl; have o32 := OwnP.k0 o26 D22.stp; have o33 := OwnP.k0 o27 D22.stp; have q223 := D22.dn 0 rfl rfl; clear D22; refine tn ?_; refine wp_seq ?_; refine wp_seq ?_
       refine rg a27 s25 [(Ty.int (0 : Int))] ok25 ⟨?_, trivial⟩ ?_
       · intro A B E G H; exact rP (y_assign rfl)
       intro a28 s26 D23; have ok26 := D23.ok; have F28 := F27.step0 D23.stp; have q224 := D23.kt q217 rfl; have q225 := D23.kt q218 rfl; have q226 := D23.kt q219 rfl; have q227 := D23.kt q220 rfl; have q228 := D23.kt q221 rfl; have q229 := D23.kt q222 rfl; have q230 := D23.kt q223 rfl; have o34 := OwnP.k0 o32 D23.stp; have o35 := OwnP.k0 o33 D23.stp; have q231 := D23.dn 0 rfl rfl; clear D23; refine tn ?_; refine wp_block ?_
       refine loop (fun n3 a29 w5 => ∃ (t5 : GW) (k : Nat), t5.w = w5 ∧ FromL [] s0 t5 ∧ Ok 220 a29 ∧ At (Ty.nat k) t5 a29 (.tmp 23) ∧ At (Ty.bool (oneB cs (leads.take k))) t5 a29 (.tmp 22) ∧ At (Ty.lstc 2 callC cs) t5 a29 (.tmp 1) ∧ At (Ty.lst Ty.int leads) t5 a29 (.tmp 2) ∧ At (Ty.val x1) t5 a29 (.tmp 8) ∧ At (Ty.bool (oneB cs leads && trueP n.toNat l cs leads)) t5 a29 (.tmp 12) ∧ At (Ty.int (if oneB cs leads = true then 0 else 11)) t5 a29 (.tmp 13) ∧ At (Ty.val x2) t5 a29 (.tmp 19) ∧ OwnP t5 7 x1 [(Ty.nat (leads.length * l.length)), (Ty.bool (rndB (tRows n.toNat l cs leads leads.length))), (Ty.bool (trueP n.toNat l cs leads)), (Ty.nat (agnL (tRows n.toNat l cs leads leads.length))), (Ty.int (befL (tRows n.toNat l cs leads leads.length)))] ∧ OwnP t5 8 x2 [(Ty.nat (leads.length * l.length)), (Ty.bool (rndB (tRows n.toNat l cs leads leads.length))), (Ty.bool (trueP n.toNat l cs leads)), (Ty.nat (agnL (tRows n.toNat l cs leads leads.length))), (Ty.int (befL (tRows n.toNat l cs leads leads.length)))] ∧ (k ≤ leads.length) ∧ n3 = leads.length - k) (leads.length - (0)) ?_ ?_
       ·
        exact ⟨s26, 0, rfl, F28, ok26, (cvi (by (first | rfl | omega | (simp_all; done) | (simp_all; omega))) q231), (cvb (by (rfl)) q230), q224, q225, q226, q227, q228, q229, o34, o35, by omega, rfl⟩
       ·
        rintro n4 a30 w6 ⟨t6, k, rfl, F29, ok27, q232, q233, q234, q235, q236, q237, q238, q239, o36, o37, hk, rfl⟩
        refine wp_seq ?_; refine wp_seq ?_
        refine reg (a := a30) (σ := t6) rfl (fun i_ => List.getD [(Ty.pr (Ty.nat k)), (Ty.pr (Ty.lst Ty.int leads)), (Ty.pr (Ty.nat (List.length leads))), (Ty.pr (Ty.bool (decide (((k : Nat) : Int) < (((List.length leads) : Nat) : Int)))))] i_ Pr.any) ok27 rfl ⟨?_, ?_, ?_, ?_, trivial⟩ ?_
        · intro A B E G H; exact rP (y_move (kp (H 23 rfl) E q232))
        · intro A B E G H; exact rP (y_move (kp (H 2 rfl) E q235))
        · intro A B E G H d0; exact rP (y_len Try.underlying23 (ed d0 rfl rfl rfl))
        · intro A B E G H d0 d1; exact rP (y_lss (ed d0 rfl rfl rfl) (ed d1 rfl rfl rfl))
        intro a31 s27 D24; have ok28 := D24.ok; have F30 := F29.step0 D24.stp; have q240 := D24.kt q232 rfl; have q241 := D24.kt q233 rfl; have q242 := D24.kt q234 rfl; have q243 := D24.kt q235 rfl; have q244 := D24.kt q236 rfl; have q245 := D24.kt q237 rfl; have q246 := D24.kt q238 rfl; have q247 := D24.kt q239 rfl; have o38 := OwnP.k0 o36 D24.stp; have o39 := OwnP.k0 o37 D24.stp; have q248 := D24.dn 3 rfl rfl; clear D24; refine tn ?_
        refine cond_p (p := (((k : Nat) : Int) < (((List.length leads) : Nat) : Int))) q248 (fun c9 => ?_) (fun c9 => ?_)
        ·
         obtain ⟨hk0, hkc⟩ := hin k (by omega)
         refine wp_skip ?_; refine tn ?_; refine wp_seq ?_; refine wp_block ?_
         refine rg a31 s27 [(Ty.bool (oneB cs (leads.take k))), (Ty.bool (oneB cs (leads.take k))), (Ty.grd ((oneB cs (leads.take k)) = true) (Ty.lstc 2 callC cs)), (Ty.grd ((oneB cs (leads.take k)) = true) (Ty.lst Ty.int leads)), (Ty.grd ((oneB cs (leads.take k)) = true) (Ty.nat k)), (Ty.grd ((oneB cs (leads.take k)) = true) (Ty.ref [(Ty.int (leads.getD k 0))])), (Ty.grd ((oneB cs (leads.take k)) = true) (Ty.int (leads.getD k 0))), (Ty.grd ((oneB cs (leads.take k)) = true) (Ty.ref [(Ty.val (Value.int .i32 ((cs.getD ((leads.getD k 0)).toNat D0)).1)), (Ty.lst Ty.ints ((cs.getD ((leads.getD k 0)).toNat D0)).2)])), (Ty.grd ((oneB cs (leads.take k)) = true) (Ty.ref [(Ty.lst Ty.ints ((cs.getD ((leads.getD k 0)).toNat D0)).2)])), (Ty.grd ((oneB cs (leads.take k)) = true) (Ty.lst Ty.ints ((cs.getD ((leads.getD k 0)).toNat D0)).2)), (Ty.grd ((oneB cs (leads.take k)) = true) (Ty.nat (List.length ((cs.getD ((leads.getD k 0)).toNat D0)).2))), (Ty.grd ((oneB cs (leads.take k)) = true) (Ty.bool (decide ((((List.length ((cs.getD ((leads.getD k 0)).toNat D0)).2) : Nat) : Int) < (2 : Int))))), (Ty.bool ((oneB cs (leads.take k)) && (decide ((((List.length ((cs.getD ((leads.getD k 0)).toNat D0)).2) : Nat) : Int) < (2 : Int))))), (Ty.bool ((oneB cs (leads.take k)) && (decide ((((List.length ((cs.getD ((leads.getD k 0)).toNat D0)).2) : Nat) : Int) < (2 : Int)))))] ok28 ⟨?_, ?_, ?_, ?_, ?_, ?_, ?_, ?_, ?_, ?_, ?_, ?_, ?_, ?_, trivial⟩ ?_
         · intro A B E G H; exact rP (y_move (kp (H 22 rfl) E q241))
         · intro A B E G H d0; exact rP (y_move (ed d0 rfl rfl rfl))
         · intro A B E G H d0
           refine run_guard G rfl rfl (by decide) (ed d0 rfl rfl rfl) (fun hg => ?_)
           exact y_move (kp (H 1 rfl) E q242)
         · intro A B E G H d0
           refine run_guard G rfl rfl (by decide) (ed d0 rfl rfl rfl) (fun hg => ?_)
           exact y_move (kp (H 2 rfl) E q243)
         · intro A B E G H d0
           refine run_guard G rfl rfl (by decide) (ed d0 rfl rfl rfl) (fun hg => ?_)
           exact y_move (kp (H 23 rfl) E q240)
         · intro A B E G H d0 d1 d2
           refine run_guard G rfl rfl (by decide) (ed d2 rfl rfl rfl) (fun hg => ?_)
           exact y_index1 Try.underlying23 Try.inf3 ((ed d0 rfl rfl rfl).1 hg) ((ed d1 rfl rfl rfl).1 hg) (by omega) (lst_get Ty.int leads 0 k (by omega))
         · intro A B E G H d0 d1
           refine run_guard G rfl rfl (by decide) (ed d1 rfl rfl rfl) (fun hg => ?_)
           exact y_load Try.underlying3 rfl ((ed d0 rfl rfl rfl).1 hg) rfl
         · intro A B E G H d0 d1 d2
           refine run_guard G rfl rfl (by decide) (ed d2 rfl rfl rfl) (fun hg => ?_)
           exact y_indexc (i := (leads.getD k 0)) D0 Try.underlying22 Try.inf56 ((ed d0 rfl rfl rfl).1 hg) ((ed d1 rfl rfl rfl).1 hg) (by omega) (by omega) (by decide) (fun _ => rfl)
         · intro A B E G H d0 d1
           refine run_guard G rfl rfl (by decide) (ed d1 rfl rfl rfl) (fun hg => ?_)
           exact y_field Try.fld56_1 Try.inf29 (by decide) ((ed d0 rfl rfl rfl).1 hg) rfl
         · intro A B E G H d0 d1
           refine run_guard G rfl rfl (by decide) (ed d1 rfl rfl rfl) (fun hg => ?_)
           exact y_load Try.underlying29 rfl ((ed d0 rfl rfl rfl).1 hg) rfl
         · intro A B E G H d0 d1
           refine run_guard G rfl rfl (by decide) (ed d1 rfl rfl rfl) (fun hg => ?_)
           exact y_len Try.underlying29 ((ed d0 rfl rfl rfl).1 hg)
         · intro A B E G H d0 d1
           refine run_guard G rfl rfl (by decide) (ed d1 rfl rfl rfl) (fun hg => ?_)
           exact y_lss ((ed d0 rfl rfl rfl).1 hg) rfl
         · intro A B E G H d0 d1; exact rP (y_pick_and (ed d0 rfl rfl rfl) (ed d1 rfl rfl rfl) rfl)
         · intro A B E G H d0 d1 d2 d3 d4 d5 d6 d7 d8 d9 d10 d11 d12 d13 d14; exact rP (y_assign (ed d0 rfl rfl rfl))
         intro a32 s28 D25; have ok29 := D25.ok; have F31 := F30.step0 D25.stp; have q249 := D25.kt q240 rfl; have q250 := D25.kt q242 rfl; have q251 := D25.kt q243 rfl; have q252 := D25.kt q244 rfl; have q253 := D25.kt q245 rfl; have q254 := D25.kt q246 rfl; have q255 := D25.kt q247 rfl; have o40 := OwnP.k0 o38 D25.stp; have o41 := OwnP.k0 o39 D25.stp; have q256 := D25.dn 13 rfl rfl; clear D25; refine bn ?_; refine tn ?_
         refine rg a32 s28 [(Ty.nat k), (Ty.nat (k + 1)), (Ty.nat (k + 1))] ok29 ⟨?_, ?_, ?_, trivial⟩ ?_
         · intro A B E G H; exact rP (y_move (kp (H 23 rfl) E q249))
         · intro A B E G H d0; exact rP ((y_add (ed d0 rfl rfl rfl) rfl (w64 (by omega) (by omega))).mono (fun τ _ h => cvi (σ := τ) (by first | omega | exact (Int.natCast_mul _ _).symm) h))
         · intro A B E G H d0 d1 d2; exact rP (y_assign (ed d0 rfl rfl rfl))
         intro a33 s29 D26; have ok30 := D26.ok; have F32 := F31.step0 D26.stp; have q257 := D26.kt q250 rfl; have q258 := D26.kt q251 rfl; have q259 := D26.kt q252 rfl; have q260 := D26.kt q253 rfl; have q261 := D26.kt q254 rfl; have q262 := D26.kt q255 rfl; have q263 := D26.kt q256 rfl; have o42 := OwnP.k0 o40 D26.stp; have o43 := OwnP.k0 o41 D26.stp; have q264 := D26.dn 2 rfl rfl; clear D26
         exact tn ⟨leads.length - ((k+1)), by omega, s29, (k+1), rfl, F32, ok30, (cvi (by (first | rfl | omega | (simp_all; done) | (simp_all; omega))) q264), (cvb (by (rw [one_succ (by omega)]; congr 1; rw [decide_eq_decide]; omega)) q263), q257, q258, q259, q260, q261, q262, o42, o43, by omega, rfl⟩
        ·
         have hke : k = leads.length := (by omega)
         refine wp_exit ?_; refine tx ?_; refine tx ?_; refine bx ?_; refine tn ?_; refine wp_seq ?_; refine wp_seq ?_
         refine rg a31 s27 [(Ty.bool (oneB cs (leads.take k))), (Ty.bool (!(oneB cs (leads.take k))))] ok28 ⟨?_, ?_, trivial⟩ ?_
         · intro A B E G H; exact rP (y_move (kp (H 22 rfl) E q241))
         · intro A B E G H d0; exact rP (y_not (ed d0 rfl rfl rfl))
         intro a34 s30 D27; have ok31 := D27.ok; have F33 := F30.step0 D27.stp; have q265 := D27.kt q244 rfl; have q266 := D27.kt q245 rfl; have q267 := D27.kt q246 rfl; have q268 := D27.kt q247 rfl; have o44 := OwnP.k0 o38 D27.stp; have o45 := OwnP.k0 o39 D27.stp; have q269 := D27.dn 1 rfl rfl; clear D27; refine tn ?_
         refine cond_t q269 (fun c10 => ?_) (fun c10 => ?_)
         ·
          refine wp_seq ?_
          refine rg a34 s30 [(Ty.agg [(Ty.nat (leads.length * l.length)), (Ty.bool (rndB (tRows n.toNat l cs leads leads.length))), (Ty.bool (trueP n.toNat l cs leads)), (Ty.nat (agnL (tRows n.toNat l cs leads leads.length))), (Ty.int (befL (tRows n.toNat l cs leads leads.length)))]), (Ty.agg [(Ty.nat (leads.length * l.length)), (Ty.bool (rndB (tRows n.toNat l cs leads leads.length))), (Ty.bool (trueP n.toNat l cs leads)), (Ty.nat (agnL (tRows n.toNat l cs leads leads.length))), (Ty.int (befL (tRows n.toNat l cs leads leads.length)))]), (Ty.bool (repB ((((leads.length * l.length) : Nat) : Int), (rndB (tRows n.toNat l cs leads leads.length)), (trueP n.toNat l cs leads), (((agnL (tRows n.toNat l cs leads leads.length)) : Nat) : Int), (befL (tRows n.toNat l cs leads leads.length))) ((((leads.length * l.length) : Nat) : Int), (rndB (tRows n.toNat l cs leads leads.length)), (trueP n.toNat l cs leads), (((agnL (tRows n.toNat l cs leads leads.length)) : Nat) : Int), (befL (tRows n.toNat l cs leads leads.length))))), (Ty.bool (repB ((((leads.length * l.length) : Nat) : Int), (rndB (tRows n.toNat l cs leads leads.length)), (trueP n.toNat l cs leads), (((agnL (tRows n.toNat l cs leads leads.length)) : Nat) : Int), (befL (tRows n.toNat l cs leads leads.length))) ((((leads.length * l.length) : Nat) : Int), (rndB (tRows n.toNat l cs leads leads.length)), (trueP n.toNat l cs leads), (((agnL (tRows n.toNat l cs leads leads.length)) : Nat) : Int), (befL (tRows n.toNat l cs leads leads.length))))), (Ty.grd ((repB ((((leads.length * l.length) : Nat) : Int), (rndB (tRows n.toNat l cs leads leads.length)), (trueP n.toNat l cs leads), (((agnL (tRows n.toNat l cs leads leads.length)) : Nat) : Int), (befL (tRows n.toNat l cs leads leads.length))) ((((leads.length * l.length) : Nat) : Int), (rndB (tRows n.toNat l cs leads leads.length)), (trueP n.toNat l cs leads), (((agnL (tRows n.toNat l cs leads leads.length)) : Nat) : Int), (befL (tRows n.toNat l cs leads leads.length)))) = true) (Ty.int (if oneB cs leads = true then 0 else 11))), (Ty.grd ((repB ((((leads.length * l.length) : Nat) : Int), (rndB (tRows n.toNat l cs leads leads.length)), (trueP n.toNat l cs leads), (((agnL (tRows n.toNat l cs leads leads.length)) : Nat) : Int), (befL (tRows n.toNat l cs leads leads.length))) ((((leads.length * l.length) : Nat) : Int), (rndB (tRows n.toNat l cs leads leads.length)), (trueP n.toNat l cs leads), (((agnL (tRows n.toNat l cs leads leads.length)) : Nat) : Int), (befL (tRows n.toNat l cs leads leads.length)))) = true) (Ty.bool (decide ((if oneB cs leads = true then 0 else 11) = (11 : Int))))), (Ty.bool ((repB ((((leads.length * l.length) : Nat) : Int), (rndB (tRows n.toNat l cs leads leads.length)), (trueP n.toNat l cs leads), (((agnL (tRows n.toNat l cs leads leads.length)) : Nat) : Int), (befL (tRows n.toNat l cs leads leads.length))) ((((leads.length * l.length) : Nat) : Int), (rndB (tRows n.toNat l cs leads leads.length)), (trueP n.toNat l cs leads), (((agnL (tRows n.toNat l cs leads leads.length)) : Nat) : Int), (befL (tRows n.toNat l cs leads leads.length)))) && (decide ((if oneB cs leads = true then 0 else 11) = (11 : Int))))), (Ty.bool ((repB ((((leads.length * l.length) : Nat) : Int), (rndB (tRows n.toNat l cs leads leads.length)), (trueP n.toNat l cs leads), (((agnL (tRows n.toNat l cs leads leads.length)) : Nat) : Int), (befL (tRows n.toNat l cs leads leads.length))) ((((leads.length * l.length) : Nat) : Int), (rndB (tRows n.toNat l cs leads leads.length)), (trueP n.toNat l cs leads), (((agnL (tRows n.toNat l cs leads leads.length)) : Nat) : Int), (befL (tRows n.toNat l cs leads leads.length)))) && (decide ((if oneB cs leads = true then 0 else 11) = (11 : Int))))), (Ty.grd (((repB ((((leads.length * l.length) : Nat) : Int), (rndB (tRows n.toNat l cs leads leads.length)), (trueP n.toNat l cs leads), (((agnL (tRows n.toNat l cs leads leads.length)) : Nat) : Int), (befL (tRows n.toNat l cs leads leads.length))) ((((leads.length * l.length) : Nat) : Int), (rndB (tRows n.toNat l cs leads leads.length)), (trueP n.toNat l cs leads), (((agnL (tRows n.toNat l cs leads leads.length)) : Nat) : Int), (befL (tRows n.toNat l cs leads leads.length)))) && (decide ((if oneB cs leads = true then 0 else 11) = (11 : Int)))) = true) (Ty.bool (oneB cs leads && trueP n.toNat l cs leads))), (Ty.grd (((repB ((((leads.length * l.length) : Nat) : Int), (rndB (tRows n.toNat l cs leads leads.length)), (trueP n.toNat l cs leads), (((agnL (tRows n.toNat l cs leads leads.length)) : Nat) : Int), (befL (tRows n.toNat l cs leads leads.length))) ((((leads.length * l.length) : Nat) : Int), (rndB (tRows n.toNat l cs leads leads.length)), (trueP n.toNat l cs leads), (((agnL (tRows n.toNat l cs leads leads.length)) : Nat) : Int), (befL (tRows n.toNat l cs leads leads.length)))) && (decide ((if oneB cs leads = true then 0 else 11) = (11 : Int)))) = true) (Ty.bool (!(oneB cs leads && trueP n.toNat l cs leads)))), (Ty.bool (((repB ((((leads.length * l.length) : Nat) : Int), (rndB (tRows n.toNat l cs leads leads.length)), (trueP n.toNat l cs leads), (((agnL (tRows n.toNat l cs leads leads.length)) : Nat) : Int), (befL (tRows n.toNat l cs leads leads.length))) ((((leads.length * l.length) : Nat) : Int), (rndB (tRows n.toNat l cs leads leads.length)), (trueP n.toNat l cs leads), (((agnL (tRows n.toNat l cs leads leads.length)) : Nat) : Int), (befL (tRows n.toNat l cs leads leads.length)))) && (decide ((if oneB cs leads = true then 0 else 11) = (11 : Int)))) && (!(oneB cs leads && trueP n.toNat l cs leads)))), (Ty.bool (((repB ((((leads.length * l.length) : Nat) : Int), (rndB (tRows n.toNat l cs leads leads.length)), (trueP n.toNat l cs leads), (((agnL (tRows n.toNat l cs leads leads.length)) : Nat) : Int), (befL (tRows n.toNat l cs leads leads.length))) ((((leads.length * l.length) : Nat) : Int), (rndB (tRows n.toNat l cs leads leads.length)), (trueP n.toNat l cs leads), (((agnL (tRows n.toNat l cs leads leads.length)) : Nat) : Int), (befL (tRows n.toNat l cs leads leads.length)))) && (decide ((if oneB cs leads = true then 0 else 11) = (11 : Int)))) && (!(oneB cs leads && trueP n.toNat l cs leads))))] ok31 ⟨?_, ?_, ?_, ?_, ?_, ?_, ?_, ?_, ?_, ?_, ?_, ?_, trivial⟩ ?_
          · intro A B E G H; exact rP (ownp_loadagg Try.underlying42 Try.inf42 (OwnP.k0 o44 E) (kp (H 8 rfl) E q265))
          · intro A B E G H; exact rP (ownp_loadagg Try.underlying42 Try.inf42 (OwnP.k0 o45 E) (kp (H 19 rfl) E q268))
          · intro A B E G H d0 d1; exact rP (y_eqrep (X := ((((leads.length * l.length) : Nat) : Int), (rndB (tRows n.toNat l cs leads leads.length)), (trueP n.toNat l cs leads), (((agnL (tRows n.toNat l cs leads leads.length)) : Nat) : Int), (befL (tRows n.toNat l cs leads leads.length)))) (Y := ((((leads.length * l.length) : Nat) : Int), (rndB (tRows n.toNat l cs leads leads.length)), (trueP n.toNat l cs leads), (((agnL (tRows n.toNat l cs leads leads.length)) : Nat) : Int), (befL (tRows n.toNat l cs leads leads.length)))) (ed d0 rfl rfl rfl) (ed d1 rfl rfl rfl))
          · intro A B E G H d0; exact rP (y_move (ed d0 rfl rfl rfl))
          · intro A B E G H d0
            refine run_guard G rfl rfl (by decide) (ed d0 rfl rfl rfl) (fun hg => ?_)
            exact y_move (kp (H 13 rfl) E q267)
          · intro A B E G H d0 d1
            refine run_guard G rfl rfl (by decide) (ed d1 rfl rfl rfl) (fun hg => ?_)
            exact y_eql ((ed d0 rfl rfl rfl).1 hg) rfl
          · intro A B E G H d0 d1; exact rP (y_pick_and (ed d0 rfl rfl rfl) (ed d1 rfl rfl rfl) rfl)
          · intro A B E G H d0 d1; exact rP (y_move (ed d0 rfl rfl rfl))
          · intro A B E G H d0
            refine run_guard G rfl rfl (by decide) (ed d0 rfl rfl rfl) (fun hg => ?_)
            obtain ⟨d73, d74⟩ := Bool.and_eq_true_iff.mp hg
            have d74 := of_decide_eq_true d74
            exact y_move (kp (H 12 rfl) E q266)
          · intro A B E G H d0 d1
            refine run_guard G rfl rfl (by decide) (ed d1 rfl rfl rfl) (fun hg => ?_)
            obtain ⟨d75, d76⟩ := Bool.and_eq_true_iff.mp hg
            have d76 := of_decide_eq_true d76
            exact y_not ((ed d0 rfl rfl rfl).1 hg)
          · intro A B E G H d0 d1; exact rP (y_pick_and (ed d0 rfl rfl rfl) (ed d1 rfl rfl rfl) rfl)
          · intro A B E G H d0 d1 d2 d3 d4 d5 d6 d7 d8 d9 d10 d11 d12; exact rP (y_assign (ed d0 rfl rfl rfl))
          intro a35 s31 D28; have ok32 := D28.ok; have F34 := F33.step0 D28.stp; have o46 := OwnP.k0 o44 D28.stp; have o47 := OwnP.k0 o45 D28.stp; have q270 := D28.dn 11 rfl rfl; clear D28; refine tn ?_; refine wp_ret ?_; refine tr ?_
          exact retL1 rfl ok32 F34 (cvb (by (rw [hke, List.take_length] at *; simp_all [repB_self])) q270)
         ·
          refine wp_skip ?_; refine tn ?_; refine wp_seq ?_
          refine rg a34 s30 [(Ty.agg [(Ty.nat (leads.length * l.length)), (Ty.bool (rndB (tRows n.toNat l cs leads leads.length))), (Ty.bool (trueP n.toNat l cs leads)), (Ty.nat (agnL (tRows n.toNat l cs leads leads.length))), (Ty.int (befL (tRows n.toNat l cs leads leads.length)))]), (Ty.agg [(Ty.nat (leads.length * l.length)), (Ty.bool (rndB (tRows n.toNat l cs leads leads.length))), (Ty.bool (trueP n.toNat l cs leads)), (Ty.nat (agnL (tRows n.toNat l cs leads leads.length))), (Ty.int (befL (tRows n.toNat l cs leads leads.length)))]), (Ty.bool (repB ((((leads.length * l.length) : Nat) : Int), (rndB (tRows n.toNat l cs leads leads.length)), (trueP n.toNat l cs leads), (((agnL (tRows n.toNat l cs leads leads.length)) : Nat) : Int), (befL (tRows n.toNat l cs leads leads.length))) ((((leads.length * l.length) : Nat) : Int), (rndB (tRows n.toNat l cs leads leads.length)), (trueP n.toNat l cs leads), (((agnL (tRows n.toNat l cs leads leads.length)) : Nat) : Int), (befL (tRows n.toNat l cs leads leads.length))))), (Ty.bool (repB ((((leads.length * l.length) : Nat) : Int), (rndB (tRows n.toNat l cs leads leads.length)), (trueP n.toNat l cs leads), (((agnL (tRows n.toNat l cs leads leads.length)) : Nat) : Int), (befL (tRows n.toNat l cs leads leads.length))) ((((leads.length * l.length) : Nat) : Int), (rndB (tRows n.toNat l cs leads leads.length)), (trueP n.toNat l cs leads), (((agnL (tRows n.toNat l cs leads leads.length)) : Nat) : Int), (befL (tRows n.toNat l cs leads leads.length))))), (Ty.grd ((repB ((((leads.length * l.length) : Nat) : Int), (rndB (tRows n.toNat l cs leads leads.length)), (trueP n.toNat l cs leads), (((agnL (tRows n.toNat l cs leads leads.length)) : Nat) : Int), (befL (tRows n.toNat l cs leads leads.length))) ((((leads.length * l.length) : Nat) : Int), (rndB (tRows n.toNat l cs leads leads.length)), (trueP n.toNat l cs leads), (((agnL (tRows n.toNat l cs leads leads.length)) : Nat) : Int), (befL (tRows n.toNat l cs leads leads.length)))) = true) (Ty.int (if oneB cs leads = true then 0 else 11))), (Ty.grd ((repB ((((leads.length * l.length) : Nat) : Int), (rndB (tRows n.toNat l cs leads leads.length)), (trueP n.toNat l cs leads), (((agnL (tRows n.toNat l cs leads leads.length)) : Nat) : Int), (befL (tRows n.toNat l cs leads leads.length))) ((((leads.length * l.length) : Nat) : Int), (rndB (tRows n.toNat l cs leads leads.length)), (trueP n.toNat l cs leads), (((agnL (tRows n.toNat l cs leads leads.length)) : Nat) : Int), (befL (tRows n.toNat l cs leads leads.length)))) = true) (Ty.bool (decide ((if oneB cs leads = true then 0 else 11) = (0 : Int))))), (Ty.bool ((repB ((((leads.length * l.length) : Nat) : Int), (rndB (tRows n.toNat l cs leads leads.length)), (trueP n.toNat l cs leads), (((agnL (tRows n.toNat l cs leads leads.length)) : Nat) : Int), (befL (tRows n.toNat l cs leads leads.length))) ((((leads.length * l.length) : Nat) : Int), (rndB (tRows n.toNat l cs leads leads.length)), (trueP n.toNat l cs leads), (((agnL (tRows n.toNat l cs leads leads.length)) : Nat) : Int), (befL (tRows n.toNat l cs leads leads.length)))) && (decide ((if oneB cs leads = true then 0 else 11) = (0 : Int))))), (Ty.bool ((repB ((((leads.length * l.length) : Nat) : Int), (rndB (tRows n.toNat l cs leads leads.length)), (trueP n.toNat l cs leads), (((agnL (tRows n.toNat l cs leads leads.length)) : Nat) : Int), (befL (tRows n.toNat l cs leads leads.length))) ((((leads.length * l.length) : Nat) : Int), (rndB (tRows n.toNat l cs leads leads.length)), (trueP n.toNat l cs leads), (((agnL (tRows n.toNat l cs leads leads.length)) : Nat) : Int), (befL (tRows n.toNat l cs leads leads.length)))) && (decide ((if oneB cs leads = true then 0 else 11) = (0 : Int))))), (Ty.grd (((repB ((((leads.length * l.length) : Nat) : Int), (rndB (tRows n.toNat l cs leads leads.length)), (trueP n.toNat l cs leads), (((agnL (tRows n.toNat l cs leads leads.length)) : Nat) : Int), (befL (tRows n.toNat l cs leads leads.length))) ((((leads.length * l.length) : Nat) : Int), (rndB (tRows n.toNat l cs leads leads.length)), (trueP n.toNat l cs leads), (((agnL (tRows n.toNat l cs leads leads.length)) : Nat) : Int), (befL (tRows n.toNat l cs leads leads.length)))) && (decide ((if oneB cs leads = true then 0 else 11) = (0 : Int)))) = true) (Ty.bool (oneB cs leads && trueP n.toNat l cs leads))), (Ty.grd (((repB ((((leads.length * l.length) : Nat) : Int), (rndB (tRows n.toNat l cs leads leads.length)), (trueP n.toNat l cs leads), (((agnL (tRows n.toNat l cs leads leads.length)) : Nat) : Int), (befL (tRows n.toNat l cs leads leads.length))) ((((leads.length * l.length) : Nat) : Int), (rndB (tRows n.toNat l cs leads leads.length)), (trueP n.toNat l cs leads), (((agnL (tRows n.toNat l cs leads leads.length)) : Nat) : Int), (befL (tRows n.toNat l cs leads leads.length)))) && (decide ((if oneB cs leads = true then 0 else 11) = (0 : Int)))) = true) (Ty.val (ptrAt x2 2))), (Ty.grd (((repB ((((leads.length * l.length) : Nat) : Int), (rndB (tRows n.toNat l cs leads leads.length)), (trueP n.toNat l cs leads), (((agnL (tRows n.toNat l cs leads leads.length)) : Nat) : Int), (befL (tRows n.toNat l cs leads leads.length))) ((((leads.length * l.length) : Nat) : Int), (rndB (tRows n.toNat l cs leads leads.length)), (trueP n.toNat l cs leads), (((agnL (tRows n.toNat l cs leads leads.length)) : Nat) : Int), (befL (tRows n.toNat l cs leads leads.length)))) && (decide ((if oneB cs leads = true then 0 else 11) = (0 : Int)))) = true) (Ty.bool (trueP n.toNat l cs leads))), (Ty.grd (((repB ((((leads.length * l.length) : Nat) : Int), (rndB (tRows n.toNat l cs leads leads.length)), (trueP n.toNat l cs leads), (((agnL (tRows n.toNat l cs leads leads.length)) : Nat) : Int), (befL (tRows n.toNat l cs leads leads.length))) ((((leads.length * l.length) : Nat) : Int), (rndB (tRows n.toNat l cs leads leads.length)), (trueP n.toNat l cs leads), (((agnL (tRows n.toNat l cs leads leads.length)) : Nat) : Int), (befL (tRows n.toNat l cs leads leads.length)))) && (decide ((if oneB cs leads = true then 0 else 11) = (0 : Int)))) = true) (Ty.bool ((oneB cs leads && trueP n.toNat l cs leads) == (trueP n.toNat l cs leads)))), (Ty.bool (((repB ((((leads.length * l.length) : Nat) : Int), (rndB (tRows n.toNat l cs leads leads.length)), (trueP n.toNat l cs leads), (((agnL (tRows n.toNat l cs leads leads.length)) : Nat) : Int), (befL (tRows n.toNat l cs leads leads.length))) ((((leads.length * l.length) : Nat) : Int), (rndB (tRows n.toNat l cs leads leads.length)), (trueP n.toNat l cs leads), (((agnL (tRows n.toNat l cs leads leads.length)) : Nat) : Int), (befL (tRows n.toNat l cs leads leads.length)))) && (decide ((if oneB cs leads = true then 0 else 11) = (0 : Int)))) && ((oneB cs leads && trueP n.toNat l cs leads) == (trueP n.toNat l cs leads)))), (Ty.bool (((repB ((((leads.length * l.length) : Nat) : Int), (rndB (tRows n.toNat l cs leads leads.length)), (trueP n.toNat l cs leads), (((agnL (tRows n.toNat l cs leads leads.length)) : Nat) : Int), (befL (tRows n.toNat l cs leads leads.length))) ((((leads.length * l.length) : Nat) : Int), (rndB (tRows n.toNat l cs leads leads.length)), (trueP n.toNat l cs leads), (((agnL (tRows n.toNat l cs leads leads.length)) : Nat) : Int), (befL (tRows n.toNat l cs leads leads.length)))) && (decide ((if oneB cs leads = true then 0 else 11) = (0 : Int)))) && ((oneB cs leads && trueP n.toNat l cs leads) == (trueP n.toNat l cs leads))))] ok31 ⟨?_, ?_, ?_, ?_, ?_, ?_, ?_, ?_, ?_, ?_, ?_, ?_, ?_, ?_, trivial⟩ ?_
          · intro A B E G H; exact rP (ownp_loadagg Try.underlying42 Try.inf42 (OwnP.k0 o44 E) (kp (H 8 rfl) E q265))
          · intro A B E G H; exact rP (ownp_loadagg Try.underlying42 Try.inf42 (OwnP.k0 o45 E) (kp (H 19 rfl) E q268))
          · intro A B E G H d0 d1; exact rP (y_eqrep (X := ((((leads.length * l.length) : Nat) : Int), (rndB (tRows n.toNat l cs leads leads.length)), (trueP n.toNat l cs leads), (((agnL (tRows n.toNat l cs leads leads.length)) : Nat) : Int), (befL (tRows n.toNat l cs leads leads.length)))) (Y := ((((leads.length * l.length) : Nat) : Int), (rndB (tRows n.toNat l cs leads leads.length)), (trueP n.toNat l cs leads), (((agnL (tRows n.toNat l cs leads leads.length)) : Nat) : Int), (befL (tRows n.toNat l cs leads leads.length)))) (ed d0 rfl rfl rfl) (ed d1 rfl rfl rfl))
          · intro A B E G H d0; exact rP (y_move (ed d0 rfl rfl rfl))
          · intro A B E G H d0
            refine run_guard G rfl rfl (by decide) (ed d0 rfl rfl rfl) (fun hg => ?_)
            exact y_move (kp (H 13 rfl) E q267)
          · intro A B E G H d0 d1
            refine run_guard G rfl rfl (by decide) (ed d1 rfl rfl rfl) (fun hg => ?_)
            exact y_eql ((ed d0 rfl rfl rfl).1 hg) rfl
          · intro A B E G H d0 d1; exact rP (y_pick_and (ed d0 rfl rfl rfl) (ed d1 rfl rfl rfl) rfl)
          · intro A B E G H d0 d1; exact rP (y_move (ed d0 rfl rfl rfl))
          · intro A B E G H d0
            refine run_guard G rfl rfl (by decide) (ed d0 rfl rfl rfl) (fun hg => ?_)
            obtain ⟨d77, d78⟩ := Bool.and_eq_true_iff.mp hg
            have d78 := of_decide_eq_true d78
            exact y_move (kp (H 12 rfl) E q266)
          · intro A B E G H d0
            refine run_guard G rfl rfl (by decide) (ed d0 rfl rfl rfl) (fun hg => ?_)
            obtain ⟨d79, d80⟩ := Bool.and_eq_true_iff.mp hg
            have d80 := of_decide_eq_true d80
            exact ownp_field Try.fld42_2 Try.inf4 (by decide) (OwnP.k0 o45 E) (kp (H 19 rfl) E q268)
          · intro A B E G H d0 d1
            refine run_guard G rfl rfl (by decide) (ed d1 rfl rfl rfl) (fun hg => ?_)
            obtain ⟨d81, d82⟩ := Bool.and_eq_true_iff.mp hg
            have d82 := of_decide_eq_true d82
            exact ownp_load Try.underlying4 rfl (OwnP.k0 o45 E) ((ed d0 rfl rfl rfl).1 hg) rfl
          · intro A B E G H d0 d1 d2
            refine run_guard G rfl rfl (by decide) (ed d2 rfl rfl rfl) (fun hg => ?_)
            obtain ⟨d83, d84⟩ := Bool.and_eq_true_iff.mp hg
            have d84 := of_decide_eq_true d84
            exact y_eqlB Try.underlying4 ((ed d0 rfl rfl rfl).1 hg) ((ed d1 rfl rfl rfl).1 hg)
          · intro A B E G H d0 d1; exact rP (y_pick_and (ed d0 rfl rfl rfl) (ed d1 rfl rfl rfl) rfl)
          · intro A B E G H d0 d1 d2 d3 d4 d5 d6 d7 d8 d9 d10 d11 d12 d13 d14; exact rP (y_assign (ed d0 rfl rfl rfl))
          intro a36 s32 D29; have ok33 := D29.ok; have F35 := F33.step0 D29.stp; have o48 := OwnP.k0 o44 D29.stp; have o49 := OwnP.k0 o45 D29.stp; have q271 := D29.dn 13 rfl rfl; clear D29; refine tn ?_; refine wp_ret ?_
          exact retL1 rfl ok33 F35 (cvb (by (rw [hke, List.take_length] at *; simp_all [repB_self])) q271)


end Go.Proofs.Ytbilebfnanlgfaa
