/- The functions that the law CallMade reaches, each by its contract. Part 1. -/
import Derived.Test.YtbilebfnanlgfaaDoorCallMadeK1
import Derived.Test.YtbilebfnanlgfaaDoorCallMadeK2
import Derived.Test.YtbilebfnanlgfaaDoorProg
namespace Go.Proofs.YtbilebfnanlgfaaDoor
open Go.KL

set_option maxRecDepth 100000 in
theorem pick_fn (c : Int) (n : Nat) (σ : GW) (v0 v1 : Value) (hv0 : Ty.has (Ty.int c) σ v0) (hv1 : Ty.has (Ty.nat n) σ v1) (hc : -9223372036854775808 ≤ c ∧ c ≤ 9223372036854775807) (hn : 0 < n) :
    FnC Tryd.prog 17 #[v0, v1] σ (Ty.nat (pick c n)) := by
 refine fn_intro Tryd.func17 rfl Tryd.ntmps17 (Nat.le_of_ble_eq_true rfl) (fun s0 a0 hle F0 ok0 hargs => ?_)
 have p0 : At (Ty.int c) s0 a0 (.tmp 0) := by have e := hargs 0 _ rfl; show Ty.has _ _ _; rw [e]; exact Ty.up _ hle hv0
 have p1 : At (Ty.nat n) s0 a0 (.tmp 1) := by have e := hargs 1 _ rfl; show Ty.has _ _ _; rw [e]; exact Ty.up _ hle hv1
 clear hargs; refine wp_seq ?_
 refine rg a0 s0 [(Ty.int (0 : Int))] ok0 ⟨?_, trivial⟩ ?_
 · intro A B E G H; exact rP (y_assign rfl)
 intro a1 s1 D1; have ok1 := D1.ok; have F1 := F0.step0 D1.stp; have q1 := D1.kt p0 rfl; have q2 := D1.kt p1 rfl; clear D1; refine tn ?_; refine wp_seq ?_; refine wp_seq ?_
 refine rg a1 s1 [(Ty.int c), (Ty.bool (decide (c < (0 : Int))))] ok1 ⟨?_, ?_, trivial⟩ ?_
 · intro A B E G H; exact rP (y_move (kp (H 0 rfl) E q1))
 · intro A B E G H d0; exact rP (y_lss (ed d0 rfl rfl rfl) rfl)
 intro a2 s2 D2; have ok2 := D2.ok; have F2 := F1.step0 D2.stp; have q3 := D2.kt q1 rfl; have q4 := D2.kt q2 rfl; have q5 := D2.dn 1 rfl rfl; clear D2; refine tn ?_
 refine cond_p (p := (c < (0 : Int))) q5 (fun c1 => ?_) (fun c1 => ?_)
 ·
  refine rg a2 s2 [(Ty.int c), (Ty.int (c + (1 : Int))), (Ty.int (-(c + (1 : Int)))), (Ty.int (-(c + (1 : Int))))] ok2 ⟨?_, ?_, ?_, ?_, trivial⟩ ?_
  · intro A B E G H; exact rP (y_move (kp (H 0 rfl) E q3))
  · intro A B E G H d0; exact rP (y_add (ed d0 rfl rfl rfl) rfl (w64 (by omega) (by omega)))
  · intro A B E G H d0; exact rP (y_neg (ed d0 rfl rfl rfl) (w64 (by omega) (by omega)))
  · intro A B E G H d0 d1 d2 d3; exact rP (y_assign (ed d0 rfl rfl rfl))
  intro a3 s3 D3; have ok3 := D3.ok; have F3 := F2.step0 D3.stp; have q6 := D3.kt q4 rfl; have q7 := D3.dn 3 rfl rfl; clear D3; refine tn ?_; refine wp_seq ?_
  refine rg a3 s3 [(Ty.int (-(c + (1 : Int)))), (Ty.nat n), (Ty.nat (((-(c + (1 : Int)))).toNat % n)), (Ty.nat (((-(c + (1 : Int)))).toNat % n))] ok3 ⟨?_, ?_, ?_, ?_, trivial⟩ ?_
  · intro A B E G H; exact rP (y_move (kp (H 0 rfl) E q7))
  · intro A B E G H; exact rP (y_move (kp (H 1 rfl) E q6))
  · intro A B E G H d0 d1; exact rP (y_remN (toN (σ := B) (ed d0 rfl rfl rfl) (by omega)) (ed d1 rfl rfl rfl) (by omega))
  · intro A B E G H d0 d1 d2 d3; exact rP (y_assign (ed d0 rfl rfl rfl))
  intro a4 s4 D4; have ok4 := D4.ok; have F4 := F3.step0 D4.stp; have q8 := D4.dn 3 rfl rfl; clear D4; refine tn ?_; refine wp_ret ?_
  exact ret1 rfl ok4 F4 (cvi (by (unfold pick; rw [if_pos (by assumption)])) q8)
 ·
  refine wp_skip ?_; refine tn ?_; refine wp_seq ?_
  refine rg a2 s2 [(Ty.int c), (Ty.nat n), (Ty.nat ((c).toNat % n)), (Ty.nat ((c).toNat % n))] ok2 ⟨?_, ?_, ?_, ?_, trivial⟩ ?_
  · intro A B E G H; exact rP (y_move (kp (H 0 rfl) E q3))
  · intro A B E G H; exact rP (y_move (kp (H 1 rfl) E q4))
  · intro A B E G H d0 d1; exact rP (y_remN (toN (σ := B) (ed d0 rfl rfl rfl) (by omega)) (ed d1 rfl rfl rfl) (by omega))
  · intro A B E G H d0 d1 d2 d3; exact rP (y_assign (ed d0 rfl rfl rfl))
  intro a5 s5 D5; have ok5 := D5.ok; have F5 := F2.step0 D5.stp; have q9 := D5.dn 3 rfl rfl; clear D5; refine tn ?_; refine wp_ret ?_
  exact ret1 rfl ok5 F5 (cvi (by (unfold pick; rw [if_neg (by assumption)])) q9)

theorem Tryd.inf3 : Info Tryd.prog 3 (.int .i64 0) 1 8 := by unfold Info; kernel_rfl
set_option maxRecDepth 100000 in
theorem raw_fn (raw : List Int) (k : Nat) (σ : GW) (v0 v1 : Value) (hv0 : Ty.has (Ty.lst Ty.int raw) σ v0) (hv1 : Ty.has (Ty.nat k) σ v1)  :
    FnC Tryd.prog 41 #[v0, v1] σ (Ty.int (rawAt raw k)) := by
 refine fn_intro Tryd.func41 rfl Tryd.ntmps41 (Nat.le_of_ble_eq_true rfl) (fun s0 a0 hle F0 ok0 hargs => ?_)
 have p0 : At (Ty.lst Ty.int raw) s0 a0 (.tmp 0) := by have e := hargs 0 _ rfl; show Ty.has _ _ _; rw [e]; exact Ty.up _ hle hv0
 have b1 := sl_le p0
 have p1 : At (Ty.nat k) s0 a0 (.tmp 1) := by have e := hargs 1 _ rfl; show Ty.has _ _ _; rw [e]; exact Ty.up _ hle hv1
 clear hargs; refine wp_seq ?_
 refine rg a0 s0 [(Ty.int (0 : Int))] ok0 ⟨?_, trivial⟩ ?_
 · intro A B E G H; exact rP (y_assign rfl)
 intro a1 s1 D1; have ok1 := D1.ok; have F1 := F0.step0 D1.stp; have q1 := D1.kt p0 rfl; have q2 := D1.kt p1 rfl; clear D1; refine tn ?_; refine wp_seq ?_; refine wp_seq ?_
 refine rg a1 s1 [(Ty.lst Ty.int raw), (Ty.nat (List.length raw)), (Ty.bool (decide ((((List.length raw) : Nat) : Int) = (0 : Int))))] ok1 ⟨?_, ?_, ?_, trivial⟩ ?_
 · intro A B E G H; exact rP (y_move (kp (H 0 rfl) E q1))
 · intro A B E G H d0; exact rP (y_len Tryd.underlying26 (ed d0 rfl rfl rfl))
 · intro A B E G H d0; exact rP (y_eql (ed d0 rfl rfl rfl) rfl)
 intro a2 s2 D2; have ok2 := D2.ok; have F2 := F1.step0 D2.stp; have q3 := D2.kt q1 rfl; have q4 := D2.kt q2 rfl; have q5 := D2.dn 2 rfl rfl; clear D2; refine tn ?_
 refine cond_p (p := ((((List.length raw) : Nat) : Int) = (0 : Int))) q5 (fun c1 => ?_) (fun c1 => ?_)
 ·
  refine wp_seq ?_
  refine rg a2 s2 [(Ty.int (0 : Int))] ok2 ⟨?_, trivial⟩ ?_
  · intro A B E G H; exact rP (y_assign rfl)
  intro a3 s3 D3; have ok3 := D3.ok; have F3 := F2.step0 D3.stp; have q6 := D3.dn 0 rfl rfl; clear D3; refine tn ?_; refine wp_ret ?_; refine tr ?_
  exact ret1 rfl ok3 F3 (cvi (by (unfold rawAt; rw [if_pos (by omega)])) q6)
 ·
  have hml := Nat.mod_lt k (show 0 < raw.length by omega)
  refine wp_skip ?_; refine tn ?_; refine wp_seq ?_
  refine rg a2 s2 [(Ty.lst Ty.int raw), (Ty.nat k), (Ty.lst Ty.int raw), (Ty.nat (List.length raw)), (Ty.nat (k % (List.length raw))), (Ty.ref [(Ty.int (raw.getD (k % (List.length raw)) 0))]), (Ty.int (raw.getD (k % (List.length raw)) 0)), (Ty.int (raw.getD (k % (List.length raw)) 0))] ok2 ⟨?_, ?_, ?_, ?_, ?_, ?_, ?_, ?_, trivial⟩ ?_
  · intro A B E G H; exact rP (y_move (kp (H 0 rfl) E q3))
  · intro A B E G H; exact rP (y_move (kp (H 1 rfl) E q4))
  · intro A B E G H; exact rP (y_move (kp (H 0 rfl) E q3))
  · intro A B E G H d0; exact rP (y_len Tryd.underlying26 (ed d0 rfl rfl rfl))
  · intro A B E G H d0 d1; exact rP (y_remN (ed d0 rfl rfl rfl) (ed d1 rfl rfl rfl) (by omega))
  · intro A B E G H d0 d1; exact rP (y_index1 Tryd.underlying26 Tryd.inf3 (ed d0 rfl rfl rfl) (ed d1 rfl rfl rfl) (by omega) (lst_get Ty.int raw 0 (k % (List.length raw)) (by omega)))
  · intro A B E G H d0; exact rP (y_load Tryd.underlying3 rfl (ed d0 rfl rfl rfl) rfl)
  · intro A B E G H d0 d1 d2 d3 d4 d5 d6 d7; exact rP (y_assign (ed d0 rfl rfl rfl))
  intro a4 s4 D4; have ok4 := D4.ok; have F4 := F2.step0 D4.stp; have q7 := D4.dn 7 rfl rfl; clear D4; refine tn ?_; refine wp_ret ?_
  exact ret1 rfl ok4 F4 (cvi (by (unfold rawAt; rw [if_neg (by omega)])) q7)


set_option maxRecDepth 100000 in
theorem changeOf_fn (c : Int) (n : Nat) (σ : GW) (v0 v1 : Value) (hv0 : Ty.has (Ty.int c) σ v0) (hv1 : Ty.has (Ty.nat n) σ v1) (hc : -9223372036854775808 ≤ c ∧ c ≤ 9223372036854775807) (hn : n ≤ 100) :
    FnC Tryd.prog 56 #[v0, v1] σ (Ty.lst Ty.int (changeOf c n)) := by
 refine fn_intro Tryd.func56 rfl Tryd.ntmps56 (Nat.le_of_ble_eq_true rfl) (fun s0 a0 hle F0 ok0 hargs => ?_)
 have p0 : At (Ty.int c) s0 a0 (.tmp 0) := by have e := hargs 0 _ rfl; show Ty.has _ _ _; rw [e]; exact Ty.up _ hle hv0
 have p1 : At (Ty.nat n) s0 a0 (.tmp 1) := by have e := hargs 1 _ rfl; show Ty.has _ _ _; rw [e]; exact Ty.up _ hle hv1
 clear hargs; refine wp_seq ?_
 refine rg a0 s0 [(Ty.val (Value.slice none 0 0))] ok0 ⟨?_, trivial⟩ ?_
 · intro A B E G H; exact rP (y_assign rfl)
 intro a1 s1 D1; have ok1 := D1.ok; have F1 := F0.step0 D1.stp; have q1 := D1.kt p0 rfl; have q2 := D1.kt p1 rfl; clear D1; refine tn ?_; refine wp_seq ?_
 refine rg a1 s1 [(Ty.int c), (Ty.nat (pick c (1099511627776))), (Ty.nat (pick c (1099511627776)))] ok1 ⟨?_, ?_, ?_, trivial⟩ ?_
 · intro A B E G H; exact rP (y_move (kp (H 0 rfl) E q1))
 · intro A B E G H d0; exact rP (y_call #[A.eval (.tmp 7), A.eval ((Operand.const (Value.int IntKind.i64 1099511627776)))] Tryd.func17 rfl rfl (by simp only [List.map_toArray, List.map_cons, List.map_nil]) (pick_fn (c) (1099511627776) _ _ _ (ed d0 rfl rfl rfl) rfl (by omega) (by omega)))
 · intro A B E G H d0 d1 d2 d3; exact rP (y_assign (ed d0 rfl rfl rfl))
 intro a2 s2 D2; have ok2 := D2.ok; have F2 := F1.step0 D2.stp; have q3 := D2.kt q2 rfl; have q4 := D2.dn 2 rfl rfl; clear D2; refine tn ?_; refine wp_seq ?_
 refine rg a2 s2 [(Ty.val (Value.slice none 0 0))] ok2 ⟨?_, trivial⟩ ?_
 · intro A B E G H; exact rP (y_assign rfl)
 intro a3 s3 D3; have ok3 := D3.ok; have F3 := F2.step0 D3.stp; have q5 := D3.kt q3 rfl; have q6 := D3.kt q4 rfl; have q7 := D3.dn 0 rfl rfl; clear D3; refine tn ?_; refine wp_seq ?_
 refine rg a3 s3 [(Ty.int (1 : Int))] ok3 ⟨?_, trivial⟩ ?_
 · intro A B E G H; exact rP (y_assign rfl)
 intro a4 s4 D4; have ok4 := D4.ok; have F4 := F3.step0 D4.stp; have q8 := D4.kt q5 rfl; have q9 := D4.kt q6 rfl; have q10 := D4.kt q7 rfl; have q11 := D4.dn 0 rfl rfl; clear D4; refine tn ?_; refine wp_seq ?_; refine wp_block ?_
 refine loop (fun n1 a5 w1 => ∃ (t1 : GW) (xs : List Int) (d : Nat) (t : Nat) (f : Nat), t1.w = w1 ∧ From s0 t1 ∧ Ok 31 a5 ∧ (Pr.own 2 3 1 (List.length xs) (List.map Ty.int xs)).has t1 (a5.eval (.tmp 5)) ∧ At (Ty.nat d) t1 a5 (.tmp 0) ∧ At (Ty.nat t) t1 a5 (.tmp 6) ∧ At (Ty.nat n) t1 a5 (.tmp 1) ∧ (xs.length ≤ t) ∧ (1 ≤ t) ∧ (t ≤ n + 2) ∧ (d ≤ 1099511627776) ∧ (n + 1 ≤ f + t) ∧ (xs ++ chgF f d t n = changeOf c n) ∧ n1 = n + 3 - t) (n + 3 - (1)) ?_ ?_
 ·
  exact ⟨s4, [], (pick c 1099511627776), 1, (n+1), rfl, F4, ok4, (by have e : a4.eval (.tmp 5) = _ := q10; rw [e]; exact Own.nil _ _ _ _), (cvi (by (first | rfl | omega | (simp_all; done) | (simp_all; omega))) q9), (cvi (by (first | rfl | omega | (simp_all; done) | (simp_all; omega))) q11), q8, by simp, by omega, by omega, by have := pick_lt c (n := 1099511627776) (by omega); omega, by omega, rfl, rfl⟩
 ·
  rintro n2 a6 w2 ⟨t2, xs, d, t, f, rfl, F5, ok5, q12, q13, q14, q15, hxs, ht, ht2, hd, hf, heq, rfl⟩
  refine wp_seq ?_; refine wp_seq ?_
  refine reg (a := a6) (σ := t2) rfl (fun i_ => List.getD [(Ty.pr (Ty.nat t)), (Ty.pr (Ty.nat n)), (Ty.pr (Ty.bool (decide (((t : Nat) : Int) ≤ ((n : Nat) : Int)))))] i_ Pr.any) ok5 rfl ⟨?_, ?_, ?_, trivial⟩ ?_
  · intro A B E G H; exact rP (y_move (kp (H 6 rfl) E q14))
  · intro A B E G H; exact rP (y_move (kp (H 1 rfl) E q15))
  · intro A B E G H d0 d1; exact rP (y_leq (ed d0 rfl rfl rfl) (ed d1 rfl rfl rfl))
  intro a7 s5 D5; have ok6 := D5.ok; have F6 := F5.step0 D5.stp
  have q16 : (Pr.own 2 3 1 (List.length xs) (List.map Ty.int xs)).has s5 (a7.eval (.tmp 5)) := D5.ko q12 rfl
  have q17 := D5.kt q13 rfl; have q18 := D5.kt q14 rfl; have q19 := D5.kt q15 rfl; have q20 := D5.dn 2 rfl rfl; clear D5; refine tn ?_
  refine cond_p (p := (((t : Nat) : Int) ≤ ((n : Nat) : Int))) q20 (fun c1 => ?_) (fun c1 => ?_)
  ·
   refine wp_skip ?_; refine tn ?_; refine wp_block ?_; refine wp_seq ?_; refine wp_seq ?_
   refine rg a7 s5 [(Ty.nat d), (Ty.nat (d % 3)), (Ty.bool (decide ((((d % 3) : Nat) : Int) = (0 : Int)))), (Ty.bool (decide ((((d % 3) : Nat) : Int) = (0 : Int)))), (Ty.grd ((decide ((((d % 3) : Nat) : Int) = (0 : Int))) = false) (Ty.nat t)), (Ty.grd ((decide ((((d % 3) : Nat) : Int) = (0 : Int))) = false) (Ty.nat n)), (Ty.grd ((decide ((((d % 3) : Nat) : Int) = (0 : Int))) = false) (Ty.bool (decide (((t : Nat) : Int) = ((n : Nat) : Int))))), (Ty.bool ((decide ((((d % 3) : Nat) : Int) = (0 : Int))) || (decide (((t : Nat) : Int) = ((n : Nat) : Int)))))] ok6 ⟨?_, ?_, ?_, ?_, ?_, ?_, ?_, ?_, trivial⟩ ?_
   · intro A B E G H; exact rP (y_move (kp (H 0 rfl) E q17))
   · intro A B E G H d0; exact rP (y_remN (ed d0 rfl rfl rfl) (toN (σ := B) rfl (by omega)) (by omega))
   · intro A B E G H d0; exact rP (y_eql (ed d0 rfl rfl rfl) rfl)
   · intro A B E G H d0; exact rP (y_move (ed d0 rfl rfl rfl))
   · intro A B E G H d0
     refine run_guard G rfl rfl (by decide) (ed d0 rfl rfl rfl) (fun hg => ?_)
     have hp := of_decide_eq_false hg
     exact y_move (kp (H 6 rfl) E q18)
   · intro A B E G H d0
     refine run_guard G rfl rfl (by decide) (ed d0 rfl rfl rfl) (fun hg => ?_)
     have hp := of_decide_eq_false hg
     exact y_move (kp (H 1 rfl) E q19)
   · intro A B E G H d0 d1 d2
     refine run_guard G rfl rfl (by decide) (ed d2 rfl rfl rfl) (fun hg => ?_)
     have hp := of_decide_eq_false hg
     exact y_eql ((ed d0 rfl rfl rfl).1 hg) ((ed d1 rfl rfl rfl).1 hg)
   · intro A B E G H d0 d1; exact rP (y_pick_or (ed d0 rfl rfl rfl) rfl (ed d1 rfl rfl rfl))
   intro a8 s6 D6; have ok7 := D6.ok; have F7 := F6.step0 D6.stp
   have q21 : (Pr.own 2 3 1 (List.length xs) (List.map Ty.int xs)).has s6 (a8.eval (.tmp 5)) := D6.ko q16 rfl
   have q22 := D6.kt q17 rfl; have q23 := D6.kt q18 rfl; have q24 := D6.kt q19 rfl; have q25 := D6.dn 7 rfl rfl; clear D6; refine tn ?_
   refine cond_t q25 (fun c2 => ?_) (fun c2 => ?_)
   ·
    refine wp_seq ?_
    refine reg2 (a := a8) (σ := s6) rfl 3 (fun i_ => List.getD [(Ty.pr (Ty.val (a8.eval (.tmp 5)))), (Ty.pr (Ty.nat t)), (Ty.pr (Ty.sl 1 1 [(Ty.nat t)]))] i_ Pr.any) ok7 rfl (by decide) rfl ⟨?_, ?_, ?_, trivial⟩ ?_
    · intro A B E G H; exact rP (y_move (H 5 rfl))
    · intro A B E G H; exact rP (y_move (kp (H 6 rfl) E q23))
    · intro A B E G H d0; exact rP (y_build1o Tryd.underlying26 Tryd.inf3 rfl (one_val rfl) (ed d0 rfl rfl rfl))
    intro a9 s7 D7; have ok8 := D7.ok; have F8 := F7.step0 D7.stp; have q26 := (Pr.own 2 3 1 (List.length xs) (List.map Ty.int xs)).up D7.stp q21
    have q27 : a9.eval (.tmp 5) = a8.eval (.tmp 5) := D7.same 5 rfl
    have q28 := D7.kt q22 rfl; have q29 := D7.kt q23 rfl; have q30 := D7.kt q24 rfl; have q31 := D7.dn 0 (by decide) rfl rfl; have q32 := D7.dn 2 (by decide) rfl rfl; clear D7
    refine tail_step (m := 2) (R := (fun v τ => Own τ 2 3 1 v ((List.length xs) + 1) ((List.map Ty.int xs) ++ [(Ty.nat t)]))) rfl rfl (by decide) ok8 (m_append Tryd.underlying26 Tryd.inf3 (by decide) rfl (by decide) (al q31 q26) q32 (by intro U hU; simp at hU;  subst hU; exact one_val rfl) (by omega) (by omega)) (fun a10 s8 hs1 ok9 r1 sm1 => ?_)
    have F9 := F8.step hs1 (by decide)
    have q33 : At (Ty.nat d) s8 a10 (.tmp 0) := kpm hs1 (by decide) (sm1 0 (by decide)) q28
    have q34 : At (Ty.nat t) s8 a10 (.tmp 6) := kpm hs1 (by decide) (sm1 6 (by decide)) q29
    have q35 : At (Ty.nat n) s8 a10 (.tmp 1) := kpm hs1 (by decide) (sm1 1 (by decide)) q30
    have q36 : At (Ty.sl 1 1 [(Ty.nat t)]) s8 a10 (.tmp 22) := kpm hs1 (by decide) (sm1 22 (by decide)) q32
    have q37 : (Pr.own 2 3 1 (List.length (xs ++ [((t : Nat) : Int)])) (List.map Ty.int (xs ++ [((t : Nat) : Int)]))).has s8 (a10.eval (.tmp 23)) := (cvo (by simp) (by first | (rw [List.map_append]; rfl) | simp) r1)
    refine tail_step (m := 0) (R := (fun v τ => Pr.has (Pr.own 2 3 1 (List.length (xs ++ [((t : Nat) : Int)])) (List.map Ty.int (xs ++ [((t : Nat) : Int)]))) τ v)) rfl rfl (by decide) ok9 (Yld.toM (y_assign q37)) (fun a11 s9 hs2 ok10 r2 sm2 => ?_)
    have F10 := F9.step hs2 (by decide)
    have q38 : At (Ty.nat d) s9 a11 (.tmp 0) := kpm hs2 (by decide) (sm2 0 (by decide)) q33
    have q39 : At (Ty.nat t) s9 a11 (.tmp 6) := kpm hs2 (by decide) (sm2 6 (by decide)) q34
    have q40 : At (Ty.nat n) s9 a11 (.tmp 1) := kpm hs2 (by decide) (sm2 1 (by decide)) q35
    have q41 : At (Ty.sl 1 1 [(Ty.nat t)]) s9 a11 (.tmp 22) := kpm hs2 (by decide) (sm2 22 (by decide)) q36
    have q42 : (Pr.own 2 3 1 (List.length (xs ++ [((t : Nat) : Int)])) (List.map Ty.int (xs ++ [((t : Nat) : Int)]))).has s9 (a11.eval (.tmp 23)) := kpmo hs2 (by decide) (.inl rfl) (sm2 23 (by decide)) q37
    have q43 : (Pr.own 2 3 1 (List.length (xs ++ [((t : Nat) : Int)])) (List.map Ty.int (xs ++ [((t : Nat) : Int)]))).has s9 (a11.eval (.tmp 5)) := r2
    refine wpList_nil ?_; refine tn ?_
    refine rg a11 s9 [(Ty.nat t), (Ty.int (((t : Nat) : Int) + (1 : Int))), (Ty.int (((t : Nat) : Int) + (1 : Int)))] ok10 ⟨?_, ?_, ?_, trivial⟩ ?_
    · intro A B E G H; exact rP (y_move (kp (H 6 rfl) E q39))
    · intro A B E G H d0; exact rP (y_add (ed d0 rfl rfl rfl) rfl (w64 (by omega) (by omega)))
    · intro A B E G H d0 d1 d2; exact rP (y_assign (ed d0 rfl rfl rfl))
    intro a12 s10 D8; have ok11 := D8.ok; have F11 := F10.step0 D8.stp; have q44 := D8.kt q38 rfl; have q45 := D8.kt q40 rfl
    have q46 : (Pr.own 2 3 1 (List.length (xs ++ [((t : Nat) : Int)])) (List.map Ty.int (xs ++ [((t : Nat) : Int)]))).has s10 (a12.eval (.tmp 5)) := D8.ko q43 rfl
    have q47 := D8.dn 2 rfl rfl; clear D8; refine tn ?_
    refine rg a12 s10 [(Ty.nat d), (Ty.nat (d / 3)), (Ty.nat (d / 3))] ok11 ⟨?_, ?_, ?_, trivial⟩ ?_
    · intro A B E G H; exact rP (y_move (kp (H 0 rfl) E q44))
    · intro A B E G H d0; exact rP (y_quoN (ed d0 rfl rfl rfl) (toN (σ := B) rfl (by omega)) (by omega) (by omega))
    · intro A B E G H d0 d1 d2; exact rP (y_assign (ed d0 rfl rfl rfl))
    intro a13 s11 D9; have ok12 := D9.ok; have F12 := F11.step0 D9.stp; have q48 := D9.kt q45 rfl
    have q49 : (Pr.own 2 3 1 (List.length (xs ++ [((t : Nat) : Int)])) (List.map Ty.int (xs ++ [((t : Nat) : Int)]))).has s11 (a13.eval (.tmp 5)) := D9.ko q46 rfl
    have q50 := D9.kt q47 rfl; have q51 := D9.dn 2 rfl rfl; clear D9; refine bn ?_
    exact tn ⟨n + 3 - ((t+1)), by omega, s11, (xs ++ [((t : Nat) : Int)]), (d / 3), (t+1), (f-1), rfl, F12, ok12, (cvo (by (simp)) (by (simp)) q49), (cvi (by (first | rfl | omega | (simp_all; done) | (simp_all; omega))) q51), (cvi (by (first | rfl | omega | (simp_all; done) | (simp_all; omega))) q50), q48, by simp; omega, by omega, by omega, by omega, by omega, chgF_yes heq (by omega) (by omega) (by simp only [Bool.or_eq_true, decide_eq_true_eq] at c2; omega), rfl⟩
   ·
    obtain ⟨d1, d2⟩ := Bool.or_eq_false_iff.mp c2
    replace d1 := of_decide_eq_false d1
    replace d2 := of_decide_eq_false d2
    refine rg a8 s6 [(Ty.nat t), (Ty.int (((t : Nat) : Int) + (2 : Int))), (Ty.int (((t : Nat) : Int) + (2 : Int)))] ok7 ⟨?_, ?_, ?_, trivial⟩ ?_
    · intro A B E G H; exact rP (y_move (kp (H 6 rfl) E q23))
    · intro A B E G H d0; exact rP (y_add (ed d0 rfl rfl rfl) rfl (w64 (by omega) (by omega)))
    · intro A B E G H d0 d1 d2; exact rP (y_assign (ed d0 rfl rfl rfl))
    intro a14 s12 D10; have ok13 := D10.ok; have F13 := F7.step0 D10.stp
    have q52 : (Pr.own 2 3 1 (List.length xs) (List.map Ty.int xs)).has s12 (a14.eval (.tmp 5)) := D10.ko q21 rfl
    have q53 := D10.kt q22 rfl; have q54 := D10.kt q24 rfl; have q55 := D10.dn 2 rfl rfl; clear D10; refine tn ?_
    refine rg a14 s12 [(Ty.nat d), (Ty.nat (d / 3)), (Ty.nat (d / 3))] ok13 ⟨?_, ?_, ?_, trivial⟩ ?_
    · intro A B E G H; exact rP (y_move (kp (H 0 rfl) E q53))
    · intro A B E G H d0; exact rP (y_quoN (ed d0 rfl rfl rfl) (toN (σ := B) rfl (by omega)) (by omega) (by omega))
    · intro A B E G H d0 d1 d2; exact rP (y_assign (ed d0 rfl rfl rfl))
    intro a15 s13 D11; have ok14 := D11.ok; have F14 := F13.step0 D11.stp
    have q56 : (Pr.own 2 3 1 (List.length xs) (List.map Ty.int xs)).has s13 (a15.eval (.tmp 5)) := D11.ko q52 rfl
    have q57 := D11.kt q54 rfl; have q58 := D11.kt q55 rfl; have q59 := D11.dn 2 rfl rfl; clear D11; refine bn ?_
    exact tn ⟨n + 3 - ((t+2)), by omega, s13, xs, (d / 3), (t+2), (f-1), rfl, F14, ok14, q56, (cvi (by (first | rfl | omega | (simp_all; done) | (simp_all; omega))) q59), (cvi (by (first | rfl | omega | (simp_all; done) | (simp_all; omega))) q58), q57, by omega, by omega, by omega, by omega, by omega, chgF_no heq (by omega) (by omega) (by simp only [Bool.or_eq_false_iff, decide_eq_false_iff_not] at c2; omega), rfl⟩
  ·
   refine wp_exit ?_; refine tx ?_; refine tx ?_; refine bx ?_; refine tn ?_; refine wp_seq ?_
   refine rg a7 s5 [(Ty.val (a7.eval (.tmp 5))), (Ty.val (a7.eval (.tmp 5)))] ok6 ⟨?_, ?_, trivial⟩ ?_
   · intro A B E G H; exact rP (y_move (H 5 rfl))
   · intro A B E G H d0 d1; exact rP (y_assign (ed d0 rfl rfl rfl))
   intro a16 s14 D12; have ok15 := D12.ok; have F15 := F6.step0 D12.stp
   have q60 : (Pr.own 2 3 1 (List.length xs) (List.map Ty.int xs)).has s14 (a16.eval (.tmp 4)) := al (show _ = _ from D12.done 1) ((Pr.own 2 3 1 (List.length xs) (List.map Ty.int xs)).up D12.stp q16)
   clear D12; refine tn ?_; refine wp_ret ?_
   obtain ⟨t3, e1, h1, q61⟩ := Own.seal q60 (by decide)
   rw [← e1]
   have F16 := F15.step h1 (by decide)
   exact ret1 rfl ok15 F16 (cvt (by (rw [← heq, chgF_end (by omega), List.append_nil])) q61)

theorem Tryd.inf26 : Info Tryd.prog 26 (.slice none 0 0) 1 24 := by unfold Info; kernel_rfl
set_option maxRecDepth 100000 in
theorem changesOf_fn (raw : List Int) (b : Nat) (n : Nat) (many : Nat) (σ : GW) (v0 v1 v2 v3 : Value) (hv0 : Ty.has (Ty.lst Ty.int raw) σ v0) (hv1 : Ty.has (Ty.nat b) σ v1) (hv2 : Ty.has (Ty.nat n) σ v2) (hv3 : Ty.has (Ty.nat many) σ v3) (hn : n ≤ 100) (hm : many ≤ 1000) (hb : b ≤ 1000) (hr : ∀ k, -9223372036854775808 ≤ rawAt raw k ∧ rawAt raw k ≤ 9223372036854775807) :
    FnC Tryd.prog 40 #[v0, v1, v2, v3] σ (Ty.lst Ty.ints (changesOf raw b n many)) := by
 refine fn_intro Tryd.func40 rfl Tryd.ntmps40 (Nat.le_of_ble_eq_true rfl) (fun s0 a0 hle F0 ok0 hargs => ?_)
 have p0 : At (Ty.lst Ty.int raw) s0 a0 (.tmp 0) := by have e := hargs 0 _ rfl; show Ty.has _ _ _; rw [e]; exact Ty.up _ hle hv0
 have b1 := sl_le p0
 have p1 : At (Ty.nat b) s0 a0 (.tmp 1) := by have e := hargs 1 _ rfl; show Ty.has _ _ _; rw [e]; exact Ty.up _ hle hv1
 have p2 : At (Ty.nat n) s0 a0 (.tmp 2) := by have e := hargs 2 _ rfl; show Ty.has _ _ _; rw [e]; exact Ty.up _ hle hv2
 have p3 : At (Ty.nat many) s0 a0 (.tmp 3) := by have e := hargs 3 _ rfl; show Ty.has _ _ _; rw [e]; exact Ty.up _ hle hv3
 clear hargs; refine wp_seq ?_
 refine rg a0 s0 [(Ty.val (Value.slice none 0 0))] ok0 ⟨?_, trivial⟩ ?_
 · intro A B E G H; exact rP (y_assign rfl)
 intro a1 s1 D1; have ok1 := D1.ok; have F1 := F0.step0 D1.stp; have q1 := D1.kt p0 rfl; have q2 := D1.kt p1 rfl; have q3 := D1.kt p2 rfl; have q4 := D1.kt p3 rfl; clear D1; refine tn ?_; refine wp_seq ?_
 refine rg a1 s1 [(Ty.val (Value.slice none 0 0))] ok1 ⟨?_, trivial⟩ ?_
 · intro A B E G H; exact rP (y_assign rfl)
 intro a2 s2 D2; have ok2 := D2.ok; have F2 := F1.step0 D2.stp; have q5 := D2.kt q1 rfl; have q6 := D2.kt q2 rfl; have q7 := D2.kt q3 rfl; have q8 := D2.kt q4 rfl; have q9 := D2.dn 0 rfl rfl; clear D2; refine tn ?_; refine wp_seq ?_; refine wp_seq ?_
 refine rg a2 s2 [(Ty.int (0 : Int))] ok2 ⟨?_, trivial⟩ ?_
 · intro A B E G H; exact rP (y_assign rfl)
 intro a3 s3 D3; have ok3 := D3.ok; have F3 := F2.step0 D3.stp; have q10 := D3.kt q5 rfl; have q11 := D3.kt q6 rfl; have q12 := D3.kt q7 rfl; have q13 := D3.kt q8 rfl; have q14 := D3.kt q9 rfl; have q15 := D3.dn 0 rfl rfl; clear D3; refine tn ?_; refine wp_block ?_
 refine loop (fun n1 a4 w1 => ∃ (t1 : GW) (k : Nat), t1.w = w1 ∧ From s0 t1 ∧ Ok 29 a4 ∧ (Pr.own 2 26 1 (List.length (changesOf raw b n k)) (List.map Ty.ints (changesOf raw b n k))).has t1 (a4.eval (.tmp 9)) ∧ At (Ty.nat k) t1 a4 (.tmp 10) ∧ At (Ty.lst Ty.int raw) t1 a4 (.tmp 0) ∧ At (Ty.nat b) t1 a4 (.tmp 1) ∧ At (Ty.nat n) t1 a4 (.tmp 2) ∧ At (Ty.nat many) t1 a4 (.tmp 3) ∧ (k ≤ many) ∧ n1 = many - k) (many - (0)) ?_ ?_
 ·
  exact ⟨s3, 0, rfl, F3, ok3, (by have e : a3.eval (.tmp 9) = _ := q14; rw [e]; exact Own.nil _ _ _ _), (cvi (by (first | rfl | omega | (simp_all; done) | (simp_all; omega))) q15), q10, q11, q12, q13, by omega, rfl⟩
 ·
  rintro n2 a5 w2 ⟨t2, k, rfl, F4, ok4, q16, q17, q18, q19, q20, q21, hk, rfl⟩
  have hp := changesOf_len raw b n k
  have hrk := hr (b + k)
  refine wp_seq ?_; refine wp_seq ?_
  refine reg (a := a5) (σ := t2) rfl (fun i_ => List.getD [(Ty.pr (Ty.nat k)), (Ty.pr (Ty.nat many)), (Ty.pr (Ty.bool (decide (((k : Nat) : Int) < ((many : Nat) : Int)))))] i_ Pr.any) ok4 rfl ⟨?_, ?_, ?_, trivial⟩ ?_
  · intro A B E G H; exact rP (y_move (kp (H 10 rfl) E q17))
  · intro A B E G H; exact rP (y_move (kp (H 3 rfl) E q21))
  · intro A B E G H d0 d1; exact rP (y_lss (ed d0 rfl rfl rfl) (ed d1 rfl rfl rfl))
  intro a6 s4 D4; have ok5 := D4.ok; have F5 := F4.step0 D4.stp
  have q22 : (Pr.own 2 26 1 (List.length (changesOf raw b n k)) (List.map Ty.ints (changesOf raw b n k))).has s4 (a6.eval (.tmp 9)) := D4.ko q16 rfl
  have q23 := D4.kt q17 rfl; have q24 := D4.kt q18 rfl; have q25 := D4.kt q19 rfl; have q26 := D4.kt q20 rfl; have q27 := D4.kt q21 rfl; have q28 := D4.dn 2 rfl rfl; clear D4; refine tn ?_
  refine cond_p (p := (((k : Nat) : Int) < ((many : Nat) : Int))) q28 (fun c1 => ?_) (fun c1 => ?_)
  ·
   refine wp_skip ?_; refine tn ?_; refine wp_seq ?_; refine wp_block ?_; refine wp_seq ?_
   refine rg a6 s4 [(Ty.lst Ty.int raw), (Ty.nat b), (Ty.nat k), (Ty.nat (b + k)), (Ty.int (rawAt raw ((b + k)))), (Ty.nat n), (Ty.lst Ty.int (changeOf ((rawAt raw ((b + k)))) n)), (Ty.lst Ty.int (changeOf ((rawAt raw ((b + k)))) n))] ok5 ⟨?_, ?_, ?_, ?_, ?_, ?_, ?_, ?_, trivial⟩ ?_
   · intro A B E G H; exact rP (y_move (kp (H 0 rfl) E q24))
   · intro A B E G H; exact rP (y_move (kp (H 1 rfl) E q25))
   · intro A B E G H; exact rP (y_move (kp (H 10 rfl) E q23))
   · intro A B E G H d0 d1; exact rP ((y_add (ed d0 rfl rfl rfl) (ed d1 rfl rfl rfl) (w64 (by omega) (by omega))).mono (fun τ _ h => cvi (σ := τ) (by first | omega | exact (Int.natCast_mul _ _).symm) h))
   · intro A B E G H d0 d1; exact rP (y_call #[A.eval (.tmp 17), A.eval (.tmp 20)] Tryd.func41 rfl rfl (by simp only [List.map_toArray, List.map_cons, List.map_nil]) (raw_fn (raw) ((b + k)) _ _ _ (ed d0 rfl rfl rfl) (ed d1 rfl rfl rfl) ))
   · intro A B E G H; exact rP (y_move (kp (H 2 rfl) E q26))
   · intro A B E G H d0 d1 d2; exact rP (y_call #[A.eval (.tmp 21), A.eval (.tmp 22)] Tryd.func56 rfl rfl (by simp only [List.map_toArray, List.map_cons, List.map_nil]) (changeOf_fn ((rawAt raw ((b + k)))) (n) _ _ _ (ed d0 rfl rfl rfl) (ed d1 rfl rfl rfl) (by omega) (by omega)))
   · intro A B E G H d0 d1 d2 d3 d4 d5 d6 d7 d8; exact rP (y_assign (ed d0 rfl rfl rfl))
   intro a7 s5 D5; have ok6 := D5.ok; have F6 := F5.step0 D5.stp
   have q29 : (Pr.own 2 26 1 (List.length (changesOf raw b n k)) (List.map Ty.ints (changesOf raw b n k))).has s5 (a7.eval (.tmp 9)) := D5.ko q22 rfl
   have q30 := D5.kt q23 rfl; have q31 := D5.kt q24 rfl; have q32 := D5.kt q25 rfl; have q33 := D5.kt q26 rfl; have q34 := D5.kt q27 rfl; have q35 := D5.dn 7 rfl rfl; clear D5; refine tn ?_
   refine reg2 (a := a7) (σ := s5) rfl 3 (fun i_ => List.getD [(Ty.pr (Ty.val (a7.eval (.tmp 9)))), (Ty.pr (Ty.lst Ty.int (changeOf ((rawAt raw ((b + k)))) n))), (Ty.pr (Ty.sl 1 1 [(Ty.lst Ty.int (changeOf ((rawAt raw ((b + k)))) n))]))] i_ Pr.any) ok6 rfl (by decide) rfl ⟨?_, ?_, ?_, trivial⟩ ?_
   · intro A B E G H; exact rP (y_move (H 9 rfl))
   · intro A B E G H; exact rP (y_move (kp (H 11 rfl) E q35))
   · intro A B E G H d0; exact rP (y_build1o Tryd.underlying22 Tryd.inf26 rfl (one_sl) (ed d0 rfl rfl rfl))
   intro a8 s6 D6; have ok7 := D6.ok; have F7 := F6.step0 D6.stp; have q36 := (Pr.own 2 26 1 (List.length (changesOf raw b n k)) (List.map Ty.ints (changesOf raw b n k))).up D6.stp q29
   have q37 : a8.eval (.tmp 9) = a7.eval (.tmp 9) := D6.same 9 rfl
   have q38 := D6.kt q30 rfl; have q39 := D6.kt q31 rfl; have q40 := D6.kt q32 rfl; have q41 := D6.kt q33 rfl; have q42 := D6.kt q34 rfl; have q43 := D6.dn 0 (by decide) rfl rfl; have q44 := D6.dn 2 (by decide) rfl rfl; clear D6
   refine tail_step (m := 2) (R := (fun v τ => Own τ 2 26 1 v ((List.length (changesOf raw b n k)) + 1) ((List.map Ty.ints (changesOf raw b n k)) ++ [(Ty.lst Ty.int (changeOf ((rawAt raw ((b + k)))) n))]))) rfl rfl (by decide) ok7 (m_append Tryd.underlying22 Tryd.inf26 (by decide) rfl (by decide) (al q43 q36) q44 (by intro U hU; simp at hU;  subst hU; exact one_sl) (by omega) (by omega)) (fun a9 s7 hs1 ok8 r1 sm1 => ?_)
   have F8 := F7.step hs1 (by decide)
   have q45 : At (Ty.nat k) s7 a9 (.tmp 10) := kpm hs1 (by decide) (sm1 10 (by decide)) q38
   have q46 : At (Ty.lst Ty.int raw) s7 a9 (.tmp 0) := kpm hs1 (by decide) (sm1 0 (by decide)) q39
   have q47 : At (Ty.nat b) s7 a9 (.tmp 1) := kpm hs1 (by decide) (sm1 1 (by decide)) q40
   have q48 : At (Ty.nat n) s7 a9 (.tmp 2) := kpm hs1 (by decide) (sm1 2 (by decide)) q41
   have q49 : At (Ty.nat many) s7 a9 (.tmp 3) := kpm hs1 (by decide) (sm1 3 (by decide)) q42
   have q50 : At (Ty.sl 1 1 [(Ty.lst Ty.int (changeOf ((rawAt raw ((b + k)))) n))]) s7 a9 (.tmp 26) := kpm hs1 (by decide) (sm1 26 (by decide)) q44
   have q51 : (Pr.own 2 26 1 (List.length ((changesOf raw b n k) ++ [(changeOf ((rawAt raw ((b + k)))) n)])) (List.map Ty.ints ((changesOf raw b n k) ++ [(changeOf ((rawAt raw ((b + k)))) n)]))).has s7 (a9.eval (.tmp 27)) := (cvo (by simp) (by first | (rw [List.map_append]; rfl) | simp) r1)
   refine tail_step (m := 0) (R := (fun v τ => Pr.has (Pr.own 2 26 1 (List.length ((changesOf raw b n k) ++ [(changeOf ((rawAt raw ((b + k)))) n)])) (List.map Ty.ints ((changesOf raw b n k) ++ [(changeOf ((rawAt raw ((b + k)))) n)]))) τ v)) rfl rfl (by decide) ok8 (Yld.toM (y_assign q51)) (fun a10 s8 hs2 ok9 r2 sm2 => ?_)
   have F9 := F8.step hs2 (by decide)
   have q52 : At (Ty.nat k) s8 a10 (.tmp 10) := kpm hs2 (by decide) (sm2 10 (by decide)) q45
   have q53 : At (Ty.lst Ty.int raw) s8 a10 (.tmp 0) := kpm hs2 (by decide) (sm2 0 (by decide)) q46
   have q54 : At (Ty.nat b) s8 a10 (.tmp 1) := kpm hs2 (by decide) (sm2 1 (by decide)) q47
   have q55 : At (Ty.nat n) s8 a10 (.tmp 2) := kpm hs2 (by decide) (sm2 2 (by decide)) q48
   have q56 : At (Ty.nat many) s8 a10 (.tmp 3) := kpm hs2 (by decide) (sm2 3 (by decide)) q49
   have q57 : At (Ty.sl 1 1 [(Ty.lst Ty.int (changeOf ((rawAt raw ((b + k)))) n))]) s8 a10 (.tmp 26) := kpm hs2 (by decide) (sm2 26 (by decide)) q50
   have q58 : (Pr.own 2 26 1 (List.length ((changesOf raw b n k) ++ [(changeOf ((rawAt raw ((b + k)))) n)])) (List.map Ty.ints ((changesOf raw b n k) ++ [(changeOf ((rawAt raw ((b + k)))) n)]))).has s8 (a10.eval (.tmp 27)) := kpmo hs2 (by decide) (.inl rfl) (sm2 27 (by decide)) q51
   have q59 : (Pr.own 2 26 1 (List.length ((changesOf raw b n k) ++ [(changeOf ((rawAt raw ((b + k)))) n)])) (List.map Ty.ints ((changesOf raw b n k) ++ [(changeOf ((rawAt raw ((b + k)))) n)]))).has s8 (a10.eval (.tmp 9)) := r2
   refine wpList_nil ?_; refine bn ?_; refine tn ?_
   refine rg a10 s8 [(Ty.nat k), (Ty.nat (k + 1)), (Ty.nat (k + 1))] ok9 ⟨?_, ?_, ?_, trivial⟩ ?_
   · intro A B E G H; exact rP (y_move (kp (H 10 rfl) E q52))
   · intro A B E G H d0; exact rP ((y_add (ed d0 rfl rfl rfl) rfl (w64 (by omega) (by omega))).mono (fun τ _ h => cvi (σ := τ) (by first | omega | exact (Int.natCast_mul _ _).symm) h))
   · intro A B E G H d0 d1 d2; exact rP (y_assign (ed d0 rfl rfl rfl))
   intro a11 s9 D7; have ok10 := D7.ok; have F10 := F9.step0 D7.stp; have q60 := D7.kt q53 rfl; have q61 := D7.kt q54 rfl; have q62 := D7.kt q55 rfl; have q63 := D7.kt q56 rfl
   have q64 : (Pr.own 2 26 1 (List.length ((changesOf raw b n k) ++ [(changeOf ((rawAt raw ((b + k)))) n)])) (List.map Ty.ints ((changesOf raw b n k) ++ [(changeOf ((rawAt raw ((b + k)))) n)]))).has s9 (a11.eval (.tmp 9)) := D7.ko q59 rfl
   have q65 := D7.dn 2 rfl rfl; clear D7
   exact tn ⟨many - ((k+1)), by omega, s9, (k+1), rfl, F10, ok10, (cvo (by (rw [changesOf_succ raw b n k])) (by (rw [changesOf_succ raw b n k])) q64), (cvi (by (first | rfl | omega | (simp_all; done) | (simp_all; omega))) q65), q60, q61, q62, q63, by omega, rfl⟩
  ·
   refine wp_exit ?_; refine tx ?_; refine tx ?_; refine bx ?_; refine tn ?_; refine wp_seq ?_
   refine rg a6 s4 [(Ty.val (a6.eval (.tmp 9))), (Ty.val (a6.eval (.tmp 9)))] ok5 ⟨?_, ?_, trivial⟩ ?_
   · intro A B E G H; exact rP (y_move (H 9 rfl))
   · intro A B E G H d0 d1; exact rP (y_assign (ed d0 rfl rfl rfl))
   intro a12 s10 D8; have ok11 := D8.ok; have F11 := F5.step0 D8.stp
   have q66 : (Pr.own 2 26 1 (List.length (changesOf raw b n k)) (List.map Ty.ints (changesOf raw b n k))).has s10 (a12.eval (.tmp 8)) := al (show _ = _ from D8.done 1) ((Pr.own 2 26 1 (List.length (changesOf raw b n k)) (List.map Ty.ints (changesOf raw b n k))).up D8.stp q22)
   clear D8; refine tn ?_; refine wp_ret ?_
   obtain ⟨t3, e1, h1, q67⟩ := Own.seal q66 (by decide)
   rw [← e1]
   have F12 := F11.step h1 (by decide)
   exact ret1 rfl ok11 F12 (cvt (by (obtain rfl : k = many := (by omega); rfl)) q67)

theorem Tryd.inf24 : Info Tryd.prog 24 (.agg #[.string ByteArray.empty, .int .i64 0, .slice none 0 0]) 3 48 := by unfold Info; kernel_rfl
set_option maxRecDepth 100000 in
theorem methodOf_fn (raw : List Int) (n : Nat) (many : Nat) (σ : GW) (v0 v1 v2 : Value) (hv0 : Ty.has (Ty.lst Ty.int raw) σ v0) (hv1 : Ty.has (Ty.nat n) σ v1) (hv2 : Ty.has (Ty.nat many) σ v2) (hn : n ≤ 100) (hm : many ≤ 1000) (hr : ∀ k, -9223372036854775808 ≤ rawAt raw k ∧ rawAt raw k ≤ 9223372036854775807) :
    FnC Tryd.prog 18 #[v0, v1, v2] σ (Ty.agg [(Ty.val (Value.string (ByteArray.mk #[84, 114, 105, 101, 100]))), (Ty.nat n), (Ty.lst Ty.ints (changesOf raw 3 n many))]) := by
 refine fn_intro Tryd.func18 rfl Tryd.ntmps18 (Nat.le_of_ble_eq_true rfl) (fun s0 a0 hle F0 ok0 hargs => ?_)
 have p0 : At (Ty.lst Ty.int raw) s0 a0 (.tmp 0) := by have e := hargs 0 _ rfl; show Ty.has _ _ _; rw [e]; exact Ty.up _ hle hv0
 have b1 := sl_le p0
 have p1 : At (Ty.nat n) s0 a0 (.tmp 1) := by have e := hargs 1 _ rfl; show Ty.has _ _ _; rw [e]; exact Ty.up _ hle hv1
 have p2 : At (Ty.nat many) s0 a0 (.tmp 2) := by have e := hargs 2 _ rfl; show Ty.has _ _ _; rw [e]; exact Ty.up _ hle hv2
 clear hargs; refine wp_seq ?_
 refine reg (a := a0) (σ := s0) rfl (fun i_ => List.getD [(Pr.ownp 12 [(Ty.val (.string ByteArray.empty)), (Ty.val (.int .i64 0)), (Ty.val (.slice none 0 0))])] i_ Pr.any) ok0 rfl ⟨?_, trivial⟩ ?_
 · intro A B E G H; exact rP (y_alloc Tryd.inf24 rfl (alloc_vals (vs := [.string ByteArray.empty, .int .i64 0, .slice none 0 0]) rfl))
 intro a1 s1 D1; have ok1 := D1.ok; have F1 := F0.step0 D1.stp; have q1 := D1.kt p0 rfl; have q2 := D1.kt p1 rfl; have q3 := D1.kt p2 rfl
 have q4 : (Pr.ownp 12 [(Ty.val (.string ByteArray.empty)), (Ty.val (.int .i64 0)), (Ty.val (.slice none 0 0))]).has s1 (a1.eval (.tmp 6)) := D1.done 0
 clear D1; refine tn ?_; refine wp_seq ?_
 refine reg2 (a := a1) (σ := s1) rfl 6 (fun i_ => List.getD [(Ty.pr (Ty.nat n)), (Ty.pr (Ty.lst Ty.int raw)), (Ty.pr (Ty.nat n)), (Ty.pr (Ty.nat many)), (Ty.pr (Ty.lst Ty.ints (changesOf raw (3) n many))), (Ty.pr (Ty.agg [(Ty.val (Value.string (ByteArray.mk #[84, 114, 105, 101, 100]))), (Ty.nat n), (Ty.lst Ty.ints (changesOf raw (3) n many))]))] i_ Pr.any) ok1 rfl (by decide) rfl ⟨?_, ?_, ?_, ?_, ?_, ?_, trivial⟩ ?_
 · intro A B E G H; exact rP (y_move (kp (H 1 rfl) E q2))
 · intro A B E G H; exact rP (y_move (kp (H 0 rfl) E q1))
 · intro A B E G H; exact rP (y_move (kp (H 1 rfl) E q2))
 · intro A B E G H; exact rP (y_move (kp (H 2 rfl) E q3))
 · intro A B E G H d0 d1 d2; exact rP (y_call #[A.eval (.tmp 8), A.eval ((Operand.const (Value.int IntKind.i64 3))), A.eval (.tmp 9), A.eval (.tmp 10)] Tryd.func40 rfl rfl (by simp only [List.map_toArray, List.map_cons, List.map_nil]) (changesOf_fn (raw) (3) (n) (many) _ _ _ _ _ (ed d0 rfl rfl rfl) rfl (ed d1 rfl rfl rfl) (ed d2 rfl rfl rfl) (by first | omega | exact hr _ | assumption) (by first | omega | exact hr _ | assumption) (by first | omega | exact hr _ | assumption) (by first | omega | exact hr _ | assumption)))
 · intro A B E G H d0 d1; exact rP (y_build3s rfl Tryd.inf24 rfl (one_val rfl) (one_val rfl) (one_sl) rfl (ed d0 rfl rfl rfl) (ed d1 rfl rfl rfl))
 intro a2 s2 D2; have ok2 := D2.ok; have F2 := F1.step0 D2.stp; have q5 := (Pr.ownp 12 [(Ty.val (.string ByteArray.empty)), (Ty.val (.int .i64 0)), (Ty.val (.slice none 0 0))]).up D2.stp q4
 have q6 : a2.eval (.tmp 6) = a1.eval (.tmp 6) := D2.same 6 rfl
 have q7 := D2.dn 5 (by decide) rfl rfl; clear D2
 refine tail_step0 (m := 12) (R := (fun _ τ => OwnP τ 12 (a1.eval (.tmp 6)) [(Ty.val (Value.string (ByteArray.mk #[84, 114, 105, 101, 100]))), (Ty.nat n), (Ty.lst Ty.ints (changesOf raw (3) n many))])) rfl rfl (m_storeagg Tryd.inf24 (by decide) q5 q6 rfl q7 (by intro U hU; simp only [List.mem_cons, List.not_mem_nil, or_false] at hU; rcases hU with rfl | rfl | rfl <;> first | exact one_val rfl | exact one_sl | exact one_ref)) (fun v1 s3 hs1 r1 => ?_)
 have F3 := F2.step hs1 (by decide)
 have q8 : At (Ty.agg [(Ty.val (Value.string (ByteArray.mk #[84, 114, 105, 101, 100]))), (Ty.nat n), (Ty.lst Ty.ints (changesOf raw (3) n many))]) s3 a2 (.tmp 12) := kpm hs1 (by decide) rfl q7
 have q9 : (Pr.ownp 12 [(Ty.val (Value.string (ByteArray.mk #[84, 114, 105, 101, 100]))), (Ty.nat n), (Ty.lst Ty.ints (changesOf raw (3) n many))]).has s3 (a1.eval (.tmp 6)) := r1
 refine wpList_nil ?_
 have q10 : (Pr.ownp 12 [(Ty.val (Value.string (ByteArray.mk #[84, 114, 105, 101, 100]))), (Ty.nat n), (Ty.lst Ty.ints (changesOf raw (3) n many))]).has s3 (a2.eval (.tmp 6)) := al q6 q9
 refine tn ?_; refine wp_ret ?_
 exact ret1s (ts := [(Ty.val (Value.string (ByteArray.mk #[84, 114, 105, 101, 100]))), (Ty.nat n), (Ty.lst Ty.ints (changesOf raw 3 n many))]) rfl ok2 F3 Tryd.underlying24 Tryd.inf24 (cvop (by rfl) q10)

theorem Tryd.inf50 : Info Tryd.prog 50 (.agg #[.int .i32 0, .slice none 0 0]) 2 32 := by unfold Info; kernel_rfl
set_option maxHeartbeats 4000000 in
set_option maxRecDepth 100000 in
theorem callsOf_fn (raw : List Int) (n : Nat) (many : Nat) (σ : GW)  (v0 v1 v2 : Value) (hv0 : Ty.has (Ty.lst Ty.int raw) σ v0) (hv1 : Ty.has (Ty.nat n) σ v1) (hv2 : Ty.has (Ty.nat many) σ v2)  (hn : n ≤ 100) (hm : 1 ≤ many ∧ many ≤ 50) (hr : ∀ k, -9223372036854775808 ≤ rawAt raw k ∧ rawAt raw k ≤ 9223372036854775807) :
    FnC Tryd.prog 19 #[v0, v1, v2] σ (Ty.lstc 2 callC (cOf raw n (many - 1))) := by
 refine fn_intro0 Tryd.func19 rfl Tryd.ntmps19 (Nat.le_of_ble_eq_true rfl) (fun s0 a0 hle F0 ok0 hargs => ?_)
 have p0 : At (Ty.lst Ty.int raw) s0 a0 (.tmp 0) := by have e := hargs 0 _ rfl; show Ty.has _ _ _; rw [e]; exact Ty.up _ hle hv0
 have b1 := sl_le p0
 have p1 : At (Ty.nat n) s0 a0 (.tmp 1) := by have e := hargs 1 _ rfl; show Ty.has _ _ _; rw [e]; exact Ty.up _ hle hv1
 have p2 : At (Ty.nat many) s0 a0 (.tmp 2) := by have e := hargs 2 _ rfl; show Ty.has _ _ _; rw [e]; exact Ty.up _ hle hv2
 clear hargs; refine wp_seq ?_
 refine rg a0 s0 [(Ty.val (Value.slice none 0 0))] ok0 ⟨?_, trivial⟩ ?_
 · intro A B E G H; exact rP (y_assign rfl)
 intro a1 s1 D1; have ok1 := D1.ok; have F1 := F0.step0 D1.stp; have q1 := D1.kt p0 rfl; have q2 := D1.kt p1 rfl; have q3 := D1.kt p2 rfl; clear D1; refine tn ?_; refine wp_seq ?_
 refine reg2 (a := a1) (σ := s1) rfl 2 (fun i_ => List.getD [(Ty.pr (Ty.agg [(Ty.val (Value.int .i32 (112 : Int))), (Ty.val (Value.slice none 0 0))])), (Pr.own 5 50 2 1 (List.flatMap callC [((112 : Int), ([] : List (List Int)))]))] i_ Pr.any) ok1 rfl (by decide) rfl ⟨?_, ?_, trivial⟩ ?_
 · intro A B E G H; exact rP (y_bld [(0, ((Operand.const (Value.int IntKind.i32 112))), (Ty.val (Value.int .i32 (112 : Int))))] [(Ty.val (Value.int .i32 0)), (Ty.val (Value.slice none 0 0))] (l := [(0, 1), (1, 1)]) rfl Tryd.inf50 rfl (alloc_vals (vs := [.int .i32 0, .slice none 0 0]) rfl) rfl (by intro p hp; simp only [List.mem_cons, List.not_mem_nil, or_false] at hp; rcases hp with rfl; exact ⟨one_val rfl, rfl⟩))
 · intro A B E G H d0; exact rP ((y_lit1c (k := 5) (c := 2) Tryd.underlying25 Tryd.inf50 rfl (by decide) (by decide) rfl (agg_cell 1 (Ty.lst Ty.ints ([] : List (List Int))) (ed d0 rfl rfl rfl) rfl (fun _ _ h => nil_sl0 h))).mono (fun _ _ h => cvo (by simp) rfl h))
 intro a2 s2 D2; have ok2 := D2.ok; have F2 := F1.step0 D2.stp; have q4 := D2.kt q1 rfl; have q5 := D2.kt q2 rfl; have q6 := D2.kt q3 rfl
 obtain ⟨x1, hx1⟩ : ∃ x, a2.eval (.tmp 10) = x := ⟨_, rfl⟩
 have q7 : At (Ty.val x1) s2 a2 (.tmp 10) := hx1
 have o1 : Own s2 5 50 2 x1 1 (List.flatMap callC [((112 : Int), ([] : List (List Int)))]) := al2 (R := (Pr.own 5 50 2 1 (List.flatMap callC [((112 : Int), ([] : List (List Int)))]))) hx1 (D2.done 1 (by decide))
 clear D2
 refine tailL (L := []) (R := (fun v τ => Pr.has (Ty.pr (Ty.val x1)) τ v)) rfl rfl (by decide) ok2 (Yld.toL (y_assign q7)) (fun a3 s3 hs1 ok3 r1 sm1 => ?_)
 have F3 := F2.stepL hs1 (by decide); have q8 := kpL hs1 (by decide) (sm1 0 (by decide)) q4; have q9 := kpL hs1 (by decide) (sm1 1 (by decide)) q5; have q10 := kpL hs1 (by decide) (sm1 2 (by decide)) q6; have o2 := Own.keepL o1 hs1 (by decide) (by decide)
 have q11 : At (Ty.val x1) s3 a3 (.tmp 7) := r1
 clear r1; refine wpList_nil ?_; refine tn ?_; refine wp_seq ?_; refine wp_seq ?_
 refine rg a3 s3 [(Ty.int (1 : Int))] ok3 ⟨?_, trivial⟩ ?_
 · intro A B E G H; exact rP (y_assign rfl)
 intro a4 s4 D3; have ok4 := D3.ok; have F4 := F3.step0 D3.stp; have q12 := D3.kt q8 rfl; have q13 := D3.kt q9 rfl; have q14 := D3.kt q10 rfl; have q15 := D3.kt q11 rfl; have o3 := Own.k0 o2 D3.stp; have q16 := D3.dn 0 rfl rfl; clear D3; refine tn ?_; refine wp_block ?_
 refine loop (fun n1 a5 w1 => ∃ (t1 : GW) (k : Nat) (x7_0 : Value), t1.w = w1 ∧ FromL [] s0 t1 ∧ Ok 29 a5 ∧ At (Ty.nat (k + 1)) t1 a5 (.tmp 8) ∧ At (Ty.val x7_0) t1 a5 (.tmp 7) ∧ At (Ty.lst Ty.int raw) t1 a5 (.tmp 0) ∧ At (Ty.nat n) t1 a5 (.tmp 1) ∧ At (Ty.nat many) t1 a5 (.tmp 2) ∧ Own t1 5 50 2 x7_0 (List.length (cOf raw n k)) (List.flatMap callC (cOf raw n k)) ∧ (k + 1 ≤ many) ∧ n1 = many - k) (many - (0)) ?_ ?_
 ·
  exact ⟨s4, 0, x1, rfl, F4, ok4, (cvi (by (rfl)) q16), q15, q12, q13, q14, (cvo (by (rfl)) (by (rfl)) o3), by omega, rfl⟩
 ·
  rintro n2 a6 w2 ⟨t2, k, x7_0, rfl, F5, ok5, q17, q18, q19, q20, q21, o4, hk, rfl⟩
  have hcl := cOf_len raw n k
  refine wp_seq ?_; refine wp_seq ?_
  refine reg (a := a6) (σ := t2) rfl (fun i_ => List.getD [(Ty.pr (Ty.nat (k + 1))), (Ty.pr (Ty.nat many)), (Ty.pr (Ty.bool (decide ((((k + 1) : Nat) : Int) < ((many : Nat) : Int)))))] i_ Pr.any) ok5 rfl ⟨?_, ?_, ?_, trivial⟩ ?_
  · intro A B E G H; exact rP (y_move (kp (H 8 rfl) E q17))
  · intro A B E G H; exact rP (y_move (kp (H 2 rfl) E q21))
  · intro A B E G H d0 d1; exact rP (y_lss (ed d0 rfl rfl rfl) (ed d1 rfl rfl rfl))
  intro a7 s5 D4; have ok6 := D4.ok; have F6 := F5.step0 D4.stp; have q22 := D4.kt q17 rfl; have q23 := D4.kt q18 rfl; have q24 := D4.kt q19 rfl; have q25 := D4.kt q20 rfl; have q26 := D4.kt q21 rfl; have o5 := Own.k0 o4 D4.stp; have q27 := D4.dn 2 rfl rfl; clear D4; refine tn ?_
  refine cond_p (p := ((((k + 1) : Nat) : Int) < ((many : Nat) : Int))) q27 (fun c1 => ?_) (fun c1 => ?_)
  ·
   have hl1_ : List.length [((((97 + (k + 1) : Nat) : Int)), changesOf raw (11 * (k + 1)) n 1)] = 1 := rfl
   refine wp_skip ?_; refine tn ?_; refine wp_seq ?_; refine wp_block ?_
   refine reg2 (a := a7) (σ := s5) rfl 11 (fun i_ => List.getD [(Ty.pr (Ty.val x7_0)), (Ty.pr (Ty.nat (k + 1))), (Ty.pr (Ty.nat (97 + (k + 1)))), (Ty.pr (Ty.val (Value.int .i32 (((97 + (k + 1)) : Nat) : Int)))), (Ty.pr (Ty.lst Ty.int raw)), (Ty.pr (Ty.nat (k + 1))), (Ty.pr (Ty.nat (11 * (k + 1)))), (Ty.pr (Ty.nat n)), (Ty.pr (Ty.lst Ty.ints (changesOf raw ((11 * (k + 1))) n (1)))), (Ty.pr (Ty.agg [(Ty.val (Value.int .i32 (((97 + (k + 1)) : Nat) : Int))), (Ty.lst Ty.ints (changesOf raw ((11 * (k + 1))) n (1)))])), (Ty.pr (Ty.lstc 2 callC [((((97 + (k + 1)) : Nat) : Int), (changesOf raw ((11 * (k + 1))) n (1)))]))] i_ Pr.any) ok6 rfl (by decide) rfl ⟨?_, ?_, ?_, ?_, ?_, ?_, ?_, ?_, ?_, ?_, ?_, trivial⟩ ?_
   · intro A B E G H; exact rP (y_move (kp (H 7 rfl) E q23))
   · intro A B E G H; exact rP (y_move (kp (H 8 rfl) E q22))
   · intro A B E G H d0; exact rP ((y_add rfl (ed d0 rfl rfl rfl) (w64 (by omega) (by omega))).mono (fun τ _ h => cvi (σ := τ) (by first | omega | exact (Int.natCast_mul _ _).symm) h))
   · intro A B E G H d0; exact rP (y_conv Tryd.underlying21 (ed d0 rfl rfl rfl) (by exact wrap_i32 (by omega) (by omega)) (by rw [Tryd.underlying3]; rfl))
   · intro A B E G H; exact rP (y_move (kp (H 0 rfl) E q24))
   · intro A B E G H; exact rP (y_move (kp (H 8 rfl) E q22))
   · intro A B E G H d0; exact rP ((y_mul rfl (ed d0 rfl rfl rfl) (w64 (by omega) (by omega))).mono (fun τ _ h => cvi (σ := τ) (by first | omega | exact (Int.natCast_mul _ _).symm) h))
   · intro A B E G H; exact rP (y_move (kp (H 1 rfl) E q25))
   · intro A B E G H d0 d1 d2; exact rP (y_call #[A.eval (.tmp 20), A.eval (.tmp 22), A.eval (.tmp 23), A.eval ((Operand.const (Value.int IntKind.i64 1)))] Tryd.func40 rfl rfl (by simp only [List.map_toArray, List.map_cons, List.map_nil]) (changesOf_fn (raw) ((11 * (k + 1))) (n) (1) _ _ _ _ _ (ed d0 rfl rfl rfl) (cvi (σ := B) (by first | omega | exact hr _ | assumption) (ed d1 rfl rfl rfl)) (ed d2 rfl rfl rfl) (cvi (σ := B) (by first | omega | exact hr _ | assumption) rfl) (by first | omega | exact hr _ | assumption) (by first | omega | exact hr _ | assumption) (by first | omega | exact hr _ | assumption) (by first | omega | exact hr _ | assumption)))
   · intro A B E G H d0 d1; exact rP (y_bld [(0, (.tmp 19), (Ty.val (Value.int .i32 (((97 + (k + 1)) : Nat) : Int)))), (1, (.tmp 24), (Ty.lst Ty.ints (changesOf raw ((11 * (k + 1))) n (1))))] [(Ty.val (Value.int .i32 0)), (Ty.val (Value.slice none 0 0))] (l := [(0, 1), (1, 1)]) rfl Tryd.inf50 rfl (alloc_vals (vs := [.int .i32 0, .slice none 0 0]) rfl) rfl (by intro p hp; simp only [List.mem_cons, List.not_mem_nil, or_false] at hp; rcases hp with rfl | rfl; exact ⟨one_val rfl, (ed d0 rfl rfl rfl)⟩; exact ⟨one_sl, (ed d1 rfl rfl rfl)⟩))
   · intro A B E G H d0; exact rP (y_build1c (c := 2) Tryd.underlying25 Tryd.inf50 rfl (by decide) (by decide) rfl (ed d0 rfl rfl rfl))
   intro a8 s6 D5; have ok7 := D5.ok; have F7 := F6.step0 D5.stp; have q28 := D5.kt q22 rfl; have q29 := D5.kt q23 rfl; have q30 := D5.kt q24 rfl; have q31 := D5.kt q25 rfl; have q32 := D5.kt q26 rfl; have o6 := Own.k0 o5 D5.stp
   have q33 : At (Ty.val x7_0) s6 a8 (.tmp 16) := D5.done 0 (by decide)
   have q34 := D5.dn 10 (by decide) rfl rfl
   have b2 := sl_le q34
   clear D5
   refine tailL (L := [5]) (R := (fun v τ => Own τ 5 50 2 v ((List.length (cOf raw n k)) + (List.length [((((97 + (k + 1)) : Nat) : Int), (changesOf raw ((11 * (k + 1))) n (1)))])) ((List.flatMap callC (cOf raw n k)) ++ (List.flatMap callC [((((97 + (k + 1)) : Nat) : Int), (changesOf raw ((11 * (k + 1))) n (1)))])))) rfl rfl (by decide) ok7 (YldM.toL (m_append Tryd.underlying25 Tryd.inf50 (by decide) rfl (by decide) (al (R := (Pr.own 5 50 2 (List.length (cOf raw n k)) (List.flatMap callC (cOf raw n k)))) q33 o6) q34 (one_flat callOne) (by omega) (by omega))) (fun a9 s7 hs2 ok8 r2 sm2 => ?_)
   have F8 := F7.stepL hs2 (by decide); have q35 := kpL hs2 (by decide) (sm2 8 (by decide)) q28; have q36 := kpL hs2 (by decide) (sm2 7 (by decide)) q29; have q37 := kpL hs2 (by decide) (sm2 0 (by decide)) q30; have q38 := kpL hs2 (by decide) (sm2 1 (by decide)) q31; have q39 := kpL hs2 (by decide) (sm2 2 (by decide)) q32
   obtain ⟨x2, hx2⟩ : ∃ x, a9.eval (.tmp 27) = x := ⟨_, rfl⟩
   have q40 : At (Ty.val x2) s7 a9 (.tmp 27) := hx2
   have o7 : Own s7 5 50 2 x2 (List.length ((cOf raw n k) ++ [((((97 + (k + 1)) : Nat) : Int), (changesOf raw ((11 * (k + 1))) n (1)))])) (List.flatMap callC ((cOf raw n k) ++ [((((97 + (k + 1)) : Nat) : Int), (changesOf raw ((11 * (k + 1))) n (1)))])) := al2 (R := (Pr.own 5 50 2 (List.length ((cOf raw n k) ++ [((((97 + (k + 1)) : Nat) : Int), (changesOf raw ((11 * (k + 1))) n (1)))])) (List.flatMap callC ((cOf raw n k) ++ [((((97 + (k + 1)) : Nat) : Int), (changesOf raw ((11 * (k + 1))) n (1)))])))) hx2 (cvo (by simp) (by first | (rw [List.map_append]; rfl) | simp) r2)
   clear r2
   refine tailL (L := []) (R := (fun v τ => Pr.has (Ty.pr (Ty.val x2)) τ v)) rfl rfl (by decide) ok8 (Yld.toL (y_assign q40)) (fun a10 s8 hs3 ok9 r3 sm3 => ?_)
   have F9 := F8.stepL hs3 (by decide); have q41 := kpL hs3 (by decide) (sm3 8 (by decide)) q35; have q42 := kpL hs3 (by decide) (sm3 0 (by decide)) q37; have q43 := kpL hs3 (by decide) (sm3 1 (by decide)) q38; have q44 := kpL hs3 (by decide) (sm3 2 (by decide)) q39; have o8 := Own.keepL o7 hs3 (by decide) (by decide)
   have q45 : At (Ty.val x2) s8 a10 (.tmp 7) := r3
   clear r3; refine wpList_nil ?_; refine bn ?_; refine tn ?_
   refine rg a10 s8 [(Ty.nat (k + 1)), (Ty.nat ((k + 1) + 1)), (Ty.nat ((k + 1) + 1))] ok9 ⟨?_, ?_, ?_, trivial⟩ ?_
   · intro A B E G H; exact rP (y_move (kp (H 8 rfl) E q41))
   · intro A B E G H d0; exact rP ((y_add (ed d0 rfl rfl rfl) rfl (w64 (by omega) (by omega))).mono (fun τ _ h => cvi (σ := τ) (by first | omega | exact (Int.natCast_mul _ _).symm) h))
   · intro A B E G H d0 d1 d2; exact rP (y_assign (ed d0 rfl rfl rfl))
   intro a11 s9 D6; have ok10 := D6.ok; have F10 := F9.step0 D6.stp; have q46 := D6.kt q42 rfl; have q47 := D6.kt q43 rfl; have q48 := D6.kt q44 rfl; have q49 := D6.kt q45 rfl; have o9 := Own.k0 o8 D6.stp; have q50 := D6.dn 2 rfl rfl; clear D6
   exact tn ⟨many - ((k + 1)), by omega, s9, (k + 1), x2, rfl, F10, ok10, (cvi (by (first | rfl | omega | (simp_all; done) | (simp_all; omega))) q50), q49, q46, q47, q48, (cvo (by (rw [cOf_succ])) (by (rw [cOf_succ])) o9), by omega, rfl⟩
  ·
   refine wp_exit ?_; refine tx ?_; refine tx ?_; refine bx ?_; refine tn ?_; refine wp_seq ?_
   refine rg a7 s5 [(Ty.val x7_0), (Ty.val x7_0)] ok6 ⟨?_, ?_, trivial⟩ ?_
   · intro A B E G H; exact rP (y_move (kp (H 7 rfl) E q23))
   · intro A B E G H d0 d1; exact rP (y_assign (ed d0 rfl rfl rfl))
   intro a12 s10 D7; have ok11 := D7.ok; have F11 := F6.step0 D7.stp; have o10 := Own.k0 o5 D7.stp
   have q51 : At (Ty.val x7_0) s10 a12 (.tmp 6) := D7.done 1
   clear D7; refine tn ?_; refine wp_ret ?_
   obtain ⟨t3, e1, h1, q52⟩ := Own.seal o10 (by decide)
   rw [← e1]
   have F12 := F11.step h1 (by decide)
   have q53 : At (Ty.lstc 2 callC (cOf raw n k)) t3 a12 (.tmp 6) := by have e : a12.eval (.tmp 6) = x7_0 := q51; show Ty.has _ _ _; rw [e]; exact q52
   exact retL1 rfl ok11 F12 (cvt (by (rw [show k = many - 1 by omega])) q53)


set_option maxHeartbeats 4000000 in
set_option maxRecDepth 100000 in
theorem rLeadsOf_fn (raw : List Int) (many : Nat) (calls : Nat) (σ : GW)  (v0 v1 v2 : Value) (hv0 : Ty.has (Ty.lst Ty.int raw) σ v0) (hv1 : Ty.has (Ty.nat many) σ v1) (hv2 : Ty.has (Ty.nat calls) σ v2)  (hm : many ≤ 1000) (hc : 0 < calls) (hr : ∀ k, -9223372036854775808 ≤ rawAt raw k ∧ rawAt raw k ≤ 9223372036854775807) :
    FnC Tryd.prog 20 #[v0, v1, v2] σ (Ty.lst Ty.int (leadsOf raw many calls)) := by
 refine fn_intro0 Tryd.func20 rfl Tryd.ntmps20 (Nat.le_of_ble_eq_true rfl) (fun s0 a0 hle F0 ok0 hargs => ?_)
 have p0 : At (Ty.lst Ty.int raw) s0 a0 (.tmp 0) := by have e := hargs 0 _ rfl; show Ty.has _ _ _; rw [e]; exact Ty.up _ hle hv0
 have b1 := sl_le p0
 have p1 : At (Ty.nat many) s0 a0 (.tmp 1) := by have e := hargs 1 _ rfl; show Ty.has _ _ _; rw [e]; exact Ty.up _ hle hv1
 have p2 : At (Ty.nat calls) s0 a0 (.tmp 2) := by have e := hargs 2 _ rfl; show Ty.has _ _ _; rw [e]; exact Ty.up _ hle hv2
 clear hargs; refine wp_seq ?_
 refine rg a0 s0 [(Ty.val (Value.slice none 0 0))] ok0 ⟨?_, trivial⟩ ?_
 · intro A B E G H; exact rP (y_assign rfl)
 intro a1 s1 D1; have ok1 := D1.ok; have F1 := F0.step0 D1.stp; have q1 := D1.kt p0 rfl; have q2 := D1.kt p1 rfl; have q3 := D1.kt p2 rfl; clear D1; refine tn ?_; refine wp_seq ?_
 refine rg a1 s1 [(Ty.val (Value.slice none 0 0))] ok1 ⟨?_, trivial⟩ ?_
 · intro A B E G H; exact rP (y_assign rfl)
 intro a2 s2 D2; have ok2 := D2.ok; have F2 := F1.step0 D2.stp; have q4 := D2.kt q1 rfl; have q5 := D2.kt q2 rfl; have q6 := D2.kt q3 rfl; have q7 := D2.dn 0 rfl rfl; clear D2; refine tn ?_; refine wp_seq ?_; refine wp_seq ?_
 refine rg a2 s2 [(Ty.int (0 : Int))] ok2 ⟨?_, trivial⟩ ?_
 · intro A B E G H; exact rP (y_assign rfl)
 intro a3 s3 D3; have ok3 := D3.ok; have F3 := F2.step0 D3.stp; have q8 := D3.kt q4 rfl; have q9 := D3.kt q5 rfl; have q10 := D3.kt q6 rfl; have q11 := D3.kt q7 rfl; have q12 := D3.dn 0 rfl rfl; clear D3; refine tn ?_; refine wp_block ?_
 have o1 : Own s3 2 3 1 (Value.slice none 0 0) 0 (List.map Ty.int ([] : List Int)) := Own.nil _ _ _ _
 refine loop (fun n1 a4 w1 => ∃ (t1 : GW) (k : Nat) (x7_0 : Value), t1.w = w1 ∧ FromL [] s0 t1 ∧ Ok 23 a4 ∧ At (Ty.nat k) t1 a4 (.tmp 8) ∧ At (Ty.val x7_0) t1 a4 (.tmp 7) ∧ At (Ty.lst Ty.int raw) t1 a4 (.tmp 0) ∧ At (Ty.nat many) t1 a4 (.tmp 1) ∧ At (Ty.nat calls) t1 a4 (.tmp 2) ∧ Own t1 2 3 1 x7_0 (List.length (leadsOf raw k calls)) (List.map Ty.int (leadsOf raw k calls)) ∧ (k ≤ many) ∧ n1 = many - k) (many - (0)) ?_ ?_
 ·
  exact ⟨s3, 0, (Value.slice none 0 0), rfl, F3, ok3, (cvi (by (first | rfl | omega | (simp_all; done) | (simp_all; omega))) q12), q11, q8, q9, q10, (cvo (by (rfl)) (by (rfl)) o1), by omega, rfl⟩
 ·
  rintro n2 a5 w2 ⟨t2, k, x7_0, rfl, F4, ok4, q13, q14, q15, q16, q17, o2, hk, rfl⟩
  have hll := leadsOf_len raw k calls
  have hrk := hr k
  refine wp_seq ?_; refine wp_seq ?_
  refine reg (a := a5) (σ := t2) rfl (fun i_ => List.getD [(Ty.pr (Ty.nat k)), (Ty.pr (Ty.nat many)), (Ty.pr (Ty.bool (decide (((k : Nat) : Int) < ((many : Nat) : Int)))))] i_ Pr.any) ok4 rfl ⟨?_, ?_, ?_, trivial⟩ ?_
  · intro A B E G H; exact rP (y_move (kp (H 8 rfl) E q13))
  · intro A B E G H; exact rP (y_move (kp (H 1 rfl) E q16))
  · intro A B E G H d0 d1; exact rP (y_lss (ed d0 rfl rfl rfl) (ed d1 rfl rfl rfl))
  intro a6 s4 D4; have ok5 := D4.ok; have F5 := F4.step0 D4.stp; have q18 := D4.kt q13 rfl; have q19 := D4.kt q14 rfl; have q20 := D4.kt q15 rfl; have q21 := D4.kt q16 rfl; have q22 := D4.kt q17 rfl; have o3 := Own.k0 o2 D4.stp; have q23 := D4.dn 2 rfl rfl; clear D4; refine tn ?_
  refine cond_p (p := (((k : Nat) : Int) < ((many : Nat) : Int))) q23 (fun c1 => ?_) (fun c1 => ?_)
  ·
   refine wp_skip ?_; refine tn ?_; refine wp_seq ?_; refine wp_block ?_
   refine reg2 (a := a6) (σ := s4) rfl 7 (fun i_ => List.getD [(Ty.pr (Ty.val x7_0)), (Ty.pr (Ty.lst Ty.int raw)), (Ty.pr (Ty.nat k)), (Ty.pr (Ty.int (rawAt raw k))), (Ty.pr (Ty.nat calls)), (Ty.pr (Ty.nat (pick ((rawAt raw k)) (calls)))), (Ty.pr (Ty.sl 1 1 [(Ty.nat (pick ((rawAt raw k)) (calls)))]))] i_ Pr.any) ok5 rfl (by decide) rfl ⟨?_, ?_, ?_, ?_, ?_, ?_, ?_, trivial⟩ ?_
   · intro A B E G H; exact rP (y_move (kp (H 7 rfl) E q19))
   · intro A B E G H; exact rP (y_move (kp (H 0 rfl) E q20))
   · intro A B E G H; exact rP (y_move (kp (H 8 rfl) E q18))
   · intro A B E G H d0 d1; exact rP (y_call #[A.eval (.tmp 15), A.eval (.tmp 16)] Tryd.func41 rfl rfl (by simp only [List.map_toArray, List.map_cons, List.map_nil]) (raw_fn (raw) (k) _ _ _ (ed d0 rfl rfl rfl) (ed d1 rfl rfl rfl) ))
   · intro A B E G H; exact rP (y_move (kp (H 2 rfl) E q22))
   · intro A B E G H d0 d1 d2; exact rP (y_call #[A.eval (.tmp 17), A.eval (.tmp 18)] Tryd.func17 rfl rfl (by simp only [List.map_toArray, List.map_cons, List.map_nil]) (pick_fn ((rawAt raw k)) (calls) _ _ _ (cvi (σ := B) (by omega) (ed d0 rfl rfl rfl)) (cvi (σ := B) (by omega) (ed d1 rfl rfl rfl)) (by omega) (by omega)))
   · intro A B E G H d0; exact rP (y_build1o Tryd.underlying26 Tryd.inf3 rfl (one_val rfl) (ed d0 rfl rfl rfl))
   intro a7 s5 D5; have ok6 := D5.ok; have F6 := F5.step0 D5.stp; have q24 := D5.kt q18 rfl; have q25 := D5.kt q19 rfl; have q26 := D5.kt q20 rfl; have q27 := D5.kt q21 rfl; have q28 := D5.kt q22 rfl; have o4 := Own.k0 o3 D5.stp
   have q29 : At (Ty.val x7_0) s5 a7 (.tmp 14) := D5.done 0 (by decide)
   have q30 := D5.dn 6 (by decide) rfl rfl
   have b2 := sl_le q30
   clear D5
   refine tailL (L := [2]) (R := (fun v τ => Own τ 2 3 1 v ((List.length (leadsOf raw k calls)) + 1) ((List.map Ty.int (leadsOf raw k calls)) ++ [(Ty.nat (pick ((rawAt raw k)) (calls)))]))) rfl rfl (by decide) ok6 (YldM.toL (m_append Tryd.underlying26 Tryd.inf3 (by decide) rfl (by decide) (al (R := (Pr.own 2 3 1 (List.length (leadsOf raw k calls)) (List.map Ty.int (leadsOf raw k calls)))) q29 o4) q30 (by intro U hU; simp at hU; subst hU; exact one_val rfl) (by omega) (by omega))) (fun a8 s6 hs1 ok7 r1 sm1 => ?_)
   have F7 := F6.stepL hs1 (by decide); have q31 := kpL hs1 (by decide) (sm1 8 (by decide)) q24; have q32 := kpL hs1 (by decide) (sm1 7 (by decide)) q25; have q33 := kpL hs1 (by decide) (sm1 0 (by decide)) q26; have q34 := kpL hs1 (by decide) (sm1 1 (by decide)) q27; have q35 := kpL hs1 (by decide) (sm1 2 (by decide)) q28
   obtain ⟨x1, hx1⟩ : ∃ x, a8.eval (.tmp 21) = x := ⟨_, rfl⟩
   have q36 : At (Ty.val x1) s6 a8 (.tmp 21) := hx1
   have o5 : Own s6 2 3 1 x1 (List.length ((leadsOf raw k calls) ++ [(((pick ((rawAt raw k)) (calls)) : Nat) : Int)])) (List.map Ty.int ((leadsOf raw k calls) ++ [(((pick ((rawAt raw k)) (calls)) : Nat) : Int)])) := al2 (R := (Pr.own 2 3 1 (List.length ((leadsOf raw k calls) ++ [(((pick ((rawAt raw k)) (calls)) : Nat) : Int)])) (List.map Ty.int ((leadsOf raw k calls) ++ [(((pick ((rawAt raw k)) (calls)) : Nat) : Int)])))) hx1 (cvo (by simp) (by first | (rw [List.map_append]; rfl) | simp) r1)
   clear r1
   refine tailL (L := []) (R := (fun v τ => Pr.has (Ty.pr (Ty.val x1)) τ v)) rfl rfl (by decide) ok7 (Yld.toL (y_assign q36)) (fun a9 s7 hs2 ok8 r2 sm2 => ?_)
   have F8 := F7.stepL hs2 (by decide); have q37 := kpL hs2 (by decide) (sm2 8 (by decide)) q31; have q38 := kpL hs2 (by decide) (sm2 0 (by decide)) q33; have q39 := kpL hs2 (by decide) (sm2 1 (by decide)) q34; have q40 := kpL hs2 (by decide) (sm2 2 (by decide)) q35; have o6 := Own.keepL o5 hs2 (by decide) (by decide)
   have q41 : At (Ty.val x1) s7 a9 (.tmp 7) := r2
   clear r2; refine wpList_nil ?_; refine bn ?_; refine tn ?_
   refine rg a9 s7 [(Ty.nat k), (Ty.int (((k : Nat) : Int) + (1 : Int))), (Ty.int (((k : Nat) : Int) + (1 : Int)))] ok8 ⟨?_, ?_, ?_, trivial⟩ ?_
   · intro A B E G H; exact rP (y_move (kp (H 8 rfl) E q37))
   · intro A B E G H d0; exact rP (y_add (ed d0 rfl rfl rfl) rfl (w64 (by omega) (by omega)))
   · intro A B E G H d0 d1 d2; exact rP (y_assign (ed d0 rfl rfl rfl))
   intro a10 s8 D6; have ok9 := D6.ok; have F9 := F8.step0 D6.stp; have q42 := D6.kt q38 rfl; have q43 := D6.kt q39 rfl; have q44 := D6.kt q40 rfl; have q45 := D6.kt q41 rfl; have o7 := Own.k0 o6 D6.stp; have q46 := D6.dn 2 rfl rfl; clear D6
   exact tn ⟨many - ((k+1)), by omega, s8, (k+1), x1, rfl, F9, ok9, (cvi (by (first | rfl | omega | (simp_all; done) | (simp_all; omega))) q46), q45, q42, q43, q44, (cvo (by (rw [leadsOf_succ])) (by (rw [leadsOf_succ])) o7), by omega, rfl⟩
  ·
   refine wp_exit ?_; refine tx ?_; refine tx ?_; refine bx ?_; refine tn ?_; refine wp_seq ?_
   refine rg a6 s4 [(Ty.val x7_0), (Ty.val x7_0)] ok5 ⟨?_, ?_, trivial⟩ ?_
   · intro A B E G H; exact rP (y_move (kp (H 7 rfl) E q19))
   · intro A B E G H d0 d1; exact rP (y_assign (ed d0 rfl rfl rfl))
   intro a11 s9 D7; have ok10 := D7.ok; have F10 := F5.step0 D7.stp; have o8 := Own.k0 o3 D7.stp
   have q47 : At (Ty.val x7_0) s9 a11 (.tmp 6) := D7.done 1
   clear D7; refine tn ?_; refine wp_ret ?_
   obtain ⟨t3, e1, h1, q48⟩ := Own.seal o8 (by decide)
   rw [← e1]
   have F11 := F10.step h1 (by decide)
   have q49 : At (Ty.lst Ty.int (leadsOf raw k calls)) t3 a11 (.tmp 6) := by have e : a11.eval (.tmp 6) = x7_0 := q47; show Ty.has _ _ _; rw [e]; exact q48
   exact retL1 rfl ok10 F11 (cvt (by (obtain rfl : many = k := (by omega); rfl)) q49)


set_option maxHeartbeats 4000000 in
set_option maxRecDepth 100000 in
theorem callSign_fn (c : Int) (σ : GW)  (v0 : Value) (hv0 : Ty.has (Ty.val (Value.int .i32 c)) σ v0)   :
    FnC Tryd.prog 6 #[v0] σ (Ty.bool (signMay c)) := by
 refine fn_intro0 Tryd.func6 rfl Tryd.ntmps6 (Nat.le_of_ble_eq_true rfl) (fun s0 a0 hle F0 ok0 hargs => ?_)
 have p0 : At (Ty.val (Value.int .i32 c)) s0 a0 (.tmp 0) := by have e := hargs 0 _ rfl; show Ty.has _ _ _; rw [e]; exact Ty.up _ hle hv0
 clear hargs; refine wp_seq ?_
 refine rg a0 s0 [(Ty.bool false)] ok0 ⟨?_, trivial⟩ ?_
 · intro A B E G H; exact rP (y_assign rfl)
 intro a1 s1 D1; have ok1 := D1.ok; have F1 := F0.step0 D1.stp; have q1 := D1.kt p0 rfl; clear D1; refine tn ?_; refine wp_seq ?_
 refine rg a1 s1 [(Ty.val (Value.int .i32 c)), (Ty.bool (decide ((32 : Int) < c))), (Ty.bool (decide ((32 : Int) < c))), (Ty.grd ((decide ((32 : Int) < c)) = true) (Ty.val (Value.int .i32 c))), (Ty.grd ((decide ((32 : Int) < c)) = true) (Ty.bool (decide (c < (12288 : Int))))), (Ty.bool ((decide ((32 : Int) < c)) && (decide (c < (12288 : Int))))), (Ty.bool ((decide ((32 : Int) < c)) && (decide (c < (12288 : Int))))), (Ty.grd (((decide ((32 : Int) < c)) && (decide (c < (12288 : Int)))) = true) (Ty.val (Value.int .i32 c))), (Ty.grd (((decide ((32 : Int) < c)) && (decide (c < (12288 : Int)))) = true) (Ty.bool (decide (c ≠ (40 : Int))))), (Ty.bool (((decide ((32 : Int) < c)) && (decide (c < (12288 : Int)))) && (decide (c ≠ (40 : Int))))), (Ty.bool (((decide ((32 : Int) < c)) && (decide (c < (12288 : Int)))) && (decide (c ≠ (40 : Int))))), (Ty.grd ((((decide ((32 : Int) < c)) && (decide (c < (12288 : Int)))) && (decide (c ≠ (40 : Int)))) = true) (Ty.val (Value.int .i32 c))), (Ty.grd ((((decide ((32 : Int) < c)) && (decide (c < (12288 : Int)))) && (decide (c ≠ (40 : Int)))) = true) (Ty.bool (decide (c ≠ (41 : Int))))), (Ty.bool ((((decide ((32 : Int) < c)) && (decide (c < (12288 : Int)))) && (decide (c ≠ (40 : Int)))) && (decide (c ≠ (41 : Int))))), (Ty.bool ((((decide ((32 : Int) < c)) && (decide (c < (12288 : Int)))) && (decide (c ≠ (40 : Int)))) && (decide (c ≠ (41 : Int))))), (Ty.grd (((((decide ((32 : Int) < c)) && (decide (c < (12288 : Int)))) && (decide (c ≠ (40 : Int)))) && (decide (c ≠ (41 : Int)))) = true) (Ty.val (Value.int .i32 c))), (Ty.grd (((((decide ((32 : Int) < c)) && (decide (c < (12288 : Int)))) && (decide (c ≠ (40 : Int)))) && (decide (c ≠ (41 : Int)))) = true) (Ty.bool (decide (c < (48 : Int))))), (Ty.grd (((((decide ((32 : Int) < c)) && (decide (c < (12288 : Int)))) && (decide (c ≠ (40 : Int)))) && (decide (c ≠ (41 : Int)))) = true) (Ty.bool (decide (c < (48 : Int))))), (Ty.grd ((((((decide ((32 : Int) < c)) && (decide (c < (12288 : Int)))) && (decide (c ≠ (40 : Int)))) && (decide (c ≠ (41 : Int)))) = true) ∧ (decide (c < (48 : Int))) = false) (Ty.val (Value.int .i32 c))), (Ty.grd ((((((decide ((32 : Int) < c)) && (decide (c < (12288 : Int)))) && (decide (c ≠ (40 : Int)))) && (decide (c ≠ (41 : Int)))) = true) ∧ (decide (c < (48 : Int))) = false) (Ty.bool (decide ((57 : Int) < c)))), (Ty.grd (((((decide ((32 : Int) < c)) && (decide (c < (12288 : Int)))) && (decide (c ≠ (40 : Int)))) && (decide (c ≠ (41 : Int)))) = true) (Ty.bool ((decide (c < (48 : Int))) || (decide ((57 : Int) < c))))), (Ty.bool (((((decide ((32 : Int) < c)) && (decide (c < (12288 : Int)))) && (decide (c ≠ (40 : Int)))) && (decide (c ≠ (41 : Int)))) && ((decide (c < (48 : Int))) || (decide ((57 : Int) < c))))), (Ty.bool (((((decide ((32 : Int) < c)) && (decide (c < (12288 : Int)))) && (decide (c ≠ (40 : Int)))) && (decide (c ≠ (41 : Int)))) && ((decide (c < (48 : Int))) || (decide ((57 : Int) < c))))), (Ty.grd ((((((decide ((32 : Int) < c)) && (decide (c < (12288 : Int)))) && (decide (c ≠ (40 : Int)))) && (decide (c ≠ (41 : Int)))) && ((decide (c < (48 : Int))) || (decide ((57 : Int) < c)))) = true) (Ty.val (Value.int .i32 c))), (Ty.grd ((((((decide ((32 : Int) < c)) && (decide (c < (12288 : Int)))) && (decide (c ≠ (40 : Int)))) && (decide (c ≠ (41 : Int)))) && ((decide (c < (48 : Int))) || (decide ((57 : Int) < c)))) = true) (Ty.bool (decide (c < (127 : Int))))), (Ty.grd ((((((decide ((32 : Int) < c)) && (decide (c < (12288 : Int)))) && (decide (c ≠ (40 : Int)))) && (decide (c ≠ (41 : Int)))) && ((decide (c < (48 : Int))) || (decide ((57 : Int) < c)))) = true) (Ty.bool (decide (c < (127 : Int))))), (Ty.grd (((((((decide ((32 : Int) < c)) && (decide (c < (12288 : Int)))) && (decide (c ≠ (40 : Int)))) && (decide (c ≠ (41 : Int)))) && ((decide (c < (48 : Int))) || (decide ((57 : Int) < c)))) = true) ∧ (decide (c < (127 : Int))) = false) (Ty.val (Value.int .i32 c))), (Ty.grd (((((((decide ((32 : Int) < c)) && (decide (c < (12288 : Int)))) && (decide (c ≠ (40 : Int)))) && (decide (c ≠ (41 : Int)))) && ((decide (c < (48 : Int))) || (decide ((57 : Int) < c)))) = true) ∧ (decide (c < (127 : Int))) = false) (Ty.bool (decide ((161 : Int) ≤ c)))), (Ty.grd ((((((decide ((32 : Int) < c)) && (decide (c < (12288 : Int)))) && (decide (c ≠ (40 : Int)))) && (decide (c ≠ (41 : Int)))) && ((decide (c < (48 : Int))) || (decide ((57 : Int) < c)))) = true) (Ty.bool ((decide (c < (127 : Int))) || (decide ((161 : Int) ≤ c))))), (Ty.bool ((((((decide ((32 : Int) < c)) && (decide (c < (12288 : Int)))) && (decide (c ≠ (40 : Int)))) && (decide (c ≠ (41 : Int)))) && ((decide (c < (48 : Int))) || (decide ((57 : Int) < c)))) && ((decide (c < (127 : Int))) || (decide ((161 : Int) ≤ c))))), (Ty.bool ((((((decide ((32 : Int) < c)) && (decide (c < (12288 : Int)))) && (decide (c ≠ (40 : Int)))) && (decide (c ≠ (41 : Int)))) && ((decide (c < (48 : Int))) || (decide ((57 : Int) < c)))) && ((decide (c < (127 : Int))) || (decide ((161 : Int) ≤ c)))))] ok1 ⟨?_, ?_, ?_, ?_, ?_, ?_, ?_, ?_, ?_, ?_, ?_, ?_, ?_, ?_, ?_, ?_, ?_, ?_, ?_, ?_, ?_, ?_, ?_, ?_, ?_, ?_, ?_, ?_, ?_, ?_, ?_, trivial⟩ ?_
 · intro A B E G H; exact rP (y_move (kp (H 0 rfl) E q1))
 · intro A B E G H d0; exact rP (y_gtr (ed d0 rfl rfl rfl) rfl)
 · intro A B E G H d0; exact rP (y_move (ed d0 rfl rfl rfl))
 · intro A B E G H d0
   refine run_guard G rfl rfl (by decide) (ed d0 rfl rfl rfl) (fun hg => ?_)
   have hp := of_decide_eq_true hg
   exact y_move (kp (H 0 rfl) E q1)
 · intro A B E G H d0 d1
   refine run_guard G rfl rfl (by decide) (ed d1 rfl rfl rfl) (fun hg => ?_)
   have hp := of_decide_eq_true hg
   exact y_lss ((ed d0 rfl rfl rfl).1 hg) rfl
 · intro A B E G H d0 d1; exact rP (y_pick_and (ed d0 rfl rfl rfl) (ed d1 rfl rfl rfl) rfl)
 · intro A B E G H d0 d1; exact rP (y_move (ed d0 rfl rfl rfl))
 · intro A B E G H d0
   refine run_guard G rfl rfl (by decide) (ed d0 rfl rfl rfl) (fun hg => ?_)
   obtain ⟨d1, d2⟩ := Bool.and_eq_true_iff.mp hg
   have d1 := of_decide_eq_true d1
   have d2 := of_decide_eq_true d2
   exact y_move (kp (H 0 rfl) E q1)
 · intro A B E G H d0 d1
   refine run_guard G rfl rfl (by decide) (ed d1 rfl rfl rfl) (fun hg => ?_)
   obtain ⟨d3, d4⟩ := Bool.and_eq_true_iff.mp hg
   have d3 := of_decide_eq_true d3
   have d4 := of_decide_eq_true d4
   exact y_neq ((ed d0 rfl rfl rfl).1 hg) rfl
 · intro A B E G H d0 d1; exact rP (y_pick_and (ed d0 rfl rfl rfl) (ed d1 rfl rfl rfl) rfl)
 · intro A B E G H d0 d1; exact rP (y_move (ed d0 rfl rfl rfl))
 · intro A B E G H d0
   refine run_guard G rfl rfl (by decide) (ed d0 rfl rfl rfl) (fun hg => ?_)
   obtain ⟨d5, d6⟩ := Bool.and_eq_true_iff.mp hg
   obtain ⟨d7, d8⟩ := Bool.and_eq_true_iff.mp d5
   have d7 := of_decide_eq_true d7
   have d8 := of_decide_eq_true d8
   have d6 := of_decide_eq_true d6
   exact y_move (kp (H 0 rfl) E q1)
 · intro A B E G H d0 d1
   refine run_guard G rfl rfl (by decide) (ed d1 rfl rfl rfl) (fun hg => ?_)
   obtain ⟨d9, d10⟩ := Bool.and_eq_true_iff.mp hg
   obtain ⟨d11, d12⟩ := Bool.and_eq_true_iff.mp d9
   have d11 := of_decide_eq_true d11
   have d12 := of_decide_eq_true d12
   have d10 := of_decide_eq_true d10
   exact y_neq ((ed d0 rfl rfl rfl).1 hg) rfl
 · intro A B E G H d0 d1; exact rP (y_pick_and (ed d0 rfl rfl rfl) (ed d1 rfl rfl rfl) rfl)
 · intro A B E G H d0 d1; exact rP (y_move (ed d0 rfl rfl rfl))
 · intro A B E G H d0
   refine run_guard G rfl rfl (by decide) (ed d0 rfl rfl rfl) (fun hg => ?_)
   obtain ⟨d13, d14⟩ := Bool.and_eq_true_iff.mp hg
   obtain ⟨d15, d16⟩ := Bool.and_eq_true_iff.mp d13
   obtain ⟨d17, d18⟩ := Bool.and_eq_true_iff.mp d15
   have d17 := of_decide_eq_true d17
   have d18 := of_decide_eq_true d18
   have d16 := of_decide_eq_true d16
   have d14 := of_decide_eq_true d14
   exact y_move (kp (H 0 rfl) E q1)
 · intro A B E G H d0 d1
   refine run_guard G rfl rfl (by decide) (ed d1 rfl rfl rfl) (fun hg => ?_)
   obtain ⟨d19, d20⟩ := Bool.and_eq_true_iff.mp hg
   obtain ⟨d21, d22⟩ := Bool.and_eq_true_iff.mp d19
   obtain ⟨d23, d24⟩ := Bool.and_eq_true_iff.mp d21
   have d23 := of_decide_eq_true d23
   have d24 := of_decide_eq_true d24
   have d22 := of_decide_eq_true d22
   have d20 := of_decide_eq_true d20
   exact y_lss ((ed d0 rfl rfl rfl).1 hg) rfl
 · intro A B E G H d0 d1 d2
   refine run_guard G rfl rfl (by decide) (ed d1 rfl rfl rfl) (fun hg => ?_)
   obtain ⟨d25, d26⟩ := Bool.and_eq_true_iff.mp hg
   obtain ⟨d27, d28⟩ := Bool.and_eq_true_iff.mp d25
   obtain ⟨d29, d30⟩ := Bool.and_eq_true_iff.mp d27
   have d29 := of_decide_eq_true d29
   have d30 := of_decide_eq_true d30
   have d28 := of_decide_eq_true d28
   have d26 := of_decide_eq_true d26
   exact y_move ((ed d0 rfl rfl rfl).1 hg)
 · intro A B E G H d0
   refine run_guard2 G rfl rfl (by decide) (ed d0 rfl rfl rfl) (fun hg => ?_)
   have hp := of_decide_eq_false hg.2
   exact y_move (kp (H 0 rfl) E q1)
 · intro A B E G H d0 d1
   refine run_guard2 G rfl rfl (by decide) (ed d1 rfl rfl rfl) (fun hg => ?_)
   have hp := of_decide_eq_false hg.2
   exact y_gtr ((ed d0 rfl rfl rfl).1 hg) rfl
 · intro A B E G H d0 d1 d2
   refine run_guard G rfl rfl (by decide) (ed d2 rfl rfl rfl) (fun hg => ?_)
   obtain ⟨d31, d32⟩ := Bool.and_eq_true_iff.mp hg
   obtain ⟨d33, d34⟩ := Bool.and_eq_true_iff.mp d31
   obtain ⟨d35, d36⟩ := Bool.and_eq_true_iff.mp d33
   have d35 := of_decide_eq_true d35
   have d36 := of_decide_eq_true d36
   have d34 := of_decide_eq_true d34
   have d32 := of_decide_eq_true d32
   exact y_pick_or ((ed d0 rfl rfl rfl).1 hg) rfl (grd_part hg (ed d1 rfl rfl rfl))
 · intro A B E G H d0 d1; exact rP (y_pick_and (ed d0 rfl rfl rfl) (ed d1 rfl rfl rfl) rfl)
 · intro A B E G H d0 d1; exact rP (y_move (ed d0 rfl rfl rfl))
 · intro A B E G H d0
   refine run_guard G rfl rfl (by decide) (ed d0 rfl rfl rfl) (fun hg => ?_)
   obtain ⟨d37, d38⟩ := Bool.and_eq_true_iff.mp hg
   obtain ⟨d39, d40⟩ := Bool.and_eq_true_iff.mp d37
   obtain ⟨d41, d42⟩ := Bool.and_eq_true_iff.mp d39
   obtain ⟨d43, d44⟩ := Bool.and_eq_true_iff.mp d41
   have d43 := of_decide_eq_true d43
   have d44 := of_decide_eq_true d44
   have d42 := of_decide_eq_true d42
   have d40 := of_decide_eq_true d40
   exact y_move (kp (H 0 rfl) E q1)
 · intro A B E G H d0 d1
   refine run_guard G rfl rfl (by decide) (ed d1 rfl rfl rfl) (fun hg => ?_)
   obtain ⟨d45, d46⟩ := Bool.and_eq_true_iff.mp hg
   obtain ⟨d47, d48⟩ := Bool.and_eq_true_iff.mp d45
   obtain ⟨d49, d50⟩ := Bool.and_eq_true_iff.mp d47
   obtain ⟨d51, d52⟩ := Bool.and_eq_true_iff.mp d49
   have d51 := of_decide_eq_true d51
   have d52 := of_decide_eq_true d52
   have d50 := of_decide_eq_true d50
   have d48 := of_decide_eq_true d48
   exact y_lss ((ed d0 rfl rfl rfl).1 hg) rfl
 · intro A B E G H d0 d1 d2
   refine run_guard G rfl rfl (by decide) (ed d1 rfl rfl rfl) (fun hg => ?_)
   obtain ⟨d53, d54⟩ := Bool.and_eq_true_iff.mp hg
   obtain ⟨d55, d56⟩ := Bool.and_eq_true_iff.mp d53
   obtain ⟨d57, d58⟩ := Bool.and_eq_true_iff.mp d55
   obtain ⟨d59, d60⟩ := Bool.and_eq_true_iff.mp d57
   have d59 := of_decide_eq_true d59
   have d60 := of_decide_eq_true d60
   have d58 := of_decide_eq_true d58
   have d56 := of_decide_eq_true d56
   exact y_move ((ed d0 rfl rfl rfl).1 hg)
 · intro A B E G H d0
   refine run_guard2 G rfl rfl (by decide) (ed d0 rfl rfl rfl) (fun hg => ?_)
   have hp := of_decide_eq_false hg.2
   exact y_move (kp (H 0 rfl) E q1)
 · intro A B E G H d0 d1
   refine run_guard2 G rfl rfl (by decide) (ed d1 rfl rfl rfl) (fun hg => ?_)
   have hp := of_decide_eq_false hg.2
   exact y_geq ((ed d0 rfl rfl rfl).1 hg) rfl
 · intro A B E G H d0 d1 d2
   refine run_guard G rfl rfl (by decide) (ed d2 rfl rfl rfl) (fun hg => ?_)
   obtain ⟨d61, d62⟩ := Bool.and_eq_true_iff.mp hg
   obtain ⟨d63, d64⟩ := Bool.and_eq_true_iff.mp d61
   obtain ⟨d65, d66⟩ := Bool.and_eq_true_iff.mp d63
   obtain ⟨d67, d68⟩ := Bool.and_eq_true_iff.mp d65
   have d67 := of_decide_eq_true d67
   have d68 := of_decide_eq_true d68
   have d66 := of_decide_eq_true d66
   have d64 := of_decide_eq_true d64
   exact y_pick_or ((ed d0 rfl rfl rfl).1 hg) rfl (grd_part hg (ed d1 rfl rfl rfl))
 · intro A B E G H d0 d1; exact rP (y_pick_and (ed d0 rfl rfl rfl) (ed d1 rfl rfl rfl) rfl)
 · intro A B E G H d0 d1 d2 d3 d4 d5 d6 d7 d8 d9 d10 d11 d12 d13 d14 d15 d16 d17 d18 d19 d20 d21 d22 d23 d24 d25 d26 d27 d28 d29 d30 d31; exact rP (y_assign (ed d0 rfl rfl rfl))
 intro a2 s2 D2; have ok2 := D2.ok; have F2 := F1.step0 D2.stp; have q2 := D2.dn 30 rfl rfl; clear D2; refine tn ?_; refine wp_ret ?_
 exact retL1 rfl ok2 F2 (cvb (by (rw [Bool.eq_iff_iff]; simp only [signMay, Bool.and_eq_true, Bool.or_eq_true, decide_eq_true_eq]; omega)) q2)


set_option maxHeartbeats 4000000 in
set_option maxRecDepth 100000 in
theorem rSignMay_fn (c : Int) (σ : GW)  (v0 : Value) (hv0 : Ty.has (Ty.val (Value.int .i32 c)) σ v0)   :
    FnC Tryd.prog 7 #[v0] σ (Ty.bool (signMay c)) := by
 refine fn_intro0 Tryd.func7 rfl Tryd.ntmps7 (Nat.le_of_ble_eq_true rfl) (fun s0 a0 hle F0 ok0 hargs => ?_)
 have p0 : At (Ty.val (Value.int .i32 c)) s0 a0 (.tmp 0) := by have e := hargs 0 _ rfl; show Ty.has _ _ _; rw [e]; exact Ty.up _ hle hv0
 clear hargs; refine wp_seq ?_
 refine rg a0 s0 [(Ty.bool false)] ok0 ⟨?_, trivial⟩ ?_
 · intro A B E G H; exact rP (y_assign rfl)
 intro a1 s1 D1; have ok1 := D1.ok; have F1 := F0.step0 D1.stp; have q1 := D1.kt p0 rfl; clear D1; refine tn ?_; refine wp_seq ?_
 refine rg a1 s1 [(Ty.val (Value.int .i32 c)), (Ty.bool (decide ((48 : Int) ≤ c))), (Ty.bool (decide ((48 : Int) ≤ c))), (Ty.grd ((decide ((48 : Int) ≤ c)) = true) (Ty.val (Value.int .i32 c))), (Ty.grd ((decide ((48 : Int) ≤ c)) = true) (Ty.bool (decide (c ≤ (57 : Int))))), (Ty.bool ((decide ((48 : Int) ≤ c)) && (decide (c ≤ (57 : Int))))), (Ty.bool ((decide ((48 : Int) ≤ c)) && (decide (c ≤ (57 : Int)))))] ok1 ⟨?_, ?_, ?_, ?_, ?_, ?_, ?_, trivial⟩ ?_
 · intro A B E G H; exact rP (y_move (kp (H 0 rfl) E q1))
 · intro A B E G H d0; exact rP (y_geq (ed d0 rfl rfl rfl) rfl)
 · intro A B E G H d0; exact rP (y_move (ed d0 rfl rfl rfl))
 · intro A B E G H d0
   refine run_guard G rfl rfl (by decide) (ed d0 rfl rfl rfl) (fun hg => ?_)
   have hp := of_decide_eq_true hg
   exact y_move (kp (H 0 rfl) E q1)
 · intro A B E G H d0 d1
   refine run_guard G rfl rfl (by decide) (ed d1 rfl rfl rfl) (fun hg => ?_)
   have hp := of_decide_eq_true hg
   exact y_leq ((ed d0 rfl rfl rfl).1 hg) rfl
 · intro A B E G H d0 d1; exact rP (y_pick_and (ed d0 rfl rfl rfl) (ed d1 rfl rfl rfl) rfl)
 · intro A B E G H d0 d1 d2 d3 d4 d5 d6 d7; exact rP (y_assign (ed d0 rfl rfl rfl))
 intro a2 s2 D2; have ok2 := D2.ok; have F2 := F1.step0 D2.stp; have q2 := D2.kt q1 rfl; have q3 := D2.dn 6 rfl rfl; clear D2; refine tn ?_; refine wp_seq ?_
 refine rg a2 s2 [(Ty.val (Value.int .i32 c)), (Ty.bool (decide ((33 : Int) ≤ c))), (Ty.bool (decide ((33 : Int) ≤ c))), (Ty.grd ((decide ((33 : Int) ≤ c)) = true) (Ty.val (Value.int .i32 c))), (Ty.grd ((decide ((33 : Int) ≤ c)) = true) (Ty.bool (decide (c ≤ (12287 : Int))))), (Ty.bool ((decide ((33 : Int) ≤ c)) && (decide (c ≤ (12287 : Int))))), (Ty.bool ((decide ((33 : Int) ≤ c)) && (decide (c ≤ (12287 : Int))))), (Ty.grd (((decide ((33 : Int) ≤ c)) && (decide (c ≤ (12287 : Int)))) = true) (Ty.bool ((decide ((48 : Int) ≤ c)) && (decide (c ≤ (57 : Int)))))), (Ty.grd (((decide ((33 : Int) ≤ c)) && (decide (c ≤ (12287 : Int)))) = true) (Ty.bool (!((decide ((48 : Int) ≤ c)) && (decide (c ≤ (57 : Int))))))), (Ty.bool (((decide ((33 : Int) ≤ c)) && (decide (c ≤ (12287 : Int)))) && (!((decide ((48 : Int) ≤ c)) && (decide (c ≤ (57 : Int))))))), (Ty.bool (((decide ((33 : Int) ≤ c)) && (decide (c ≤ (12287 : Int)))) && (!((decide ((48 : Int) ≤ c)) && (decide (c ≤ (57 : Int))))))), (Ty.grd ((((decide ((33 : Int) ≤ c)) && (decide (c ≤ (12287 : Int)))) && (!((decide ((48 : Int) ≤ c)) && (decide (c ≤ (57 : Int)))))) = true) (Ty.val (Value.int .i32 c))), (Ty.grd ((((decide ((33 : Int) ≤ c)) && (decide (c ≤ (12287 : Int)))) && (!((decide ((48 : Int) ≤ c)) && (decide (c ≤ (57 : Int)))))) = true) (Ty.bool (decide (c ≠ (40 : Int))))), (Ty.bool ((((decide ((33 : Int) ≤ c)) && (decide (c ≤ (12287 : Int)))) && (!((decide ((48 : Int) ≤ c)) && (decide (c ≤ (57 : Int)))))) && (decide (c ≠ (40 : Int))))), (Ty.bool ((((decide ((33 : Int) ≤ c)) && (decide (c ≤ (12287 : Int)))) && (!((decide ((48 : Int) ≤ c)) && (decide (c ≤ (57 : Int)))))) && (decide (c ≠ (40 : Int))))), (Ty.grd (((((decide ((33 : Int) ≤ c)) && (decide (c ≤ (12287 : Int)))) && (!((decide ((48 : Int) ≤ c)) && (decide (c ≤ (57 : Int)))))) && (decide (c ≠ (40 : Int)))) = true) (Ty.val (Value.int .i32 c))), (Ty.grd (((((decide ((33 : Int) ≤ c)) && (decide (c ≤ (12287 : Int)))) && (!((decide ((48 : Int) ≤ c)) && (decide (c ≤ (57 : Int)))))) && (decide (c ≠ (40 : Int)))) = true) (Ty.bool (decide (c ≠ (41 : Int))))), (Ty.bool (((((decide ((33 : Int) ≤ c)) && (decide (c ≤ (12287 : Int)))) && (!((decide ((48 : Int) ≤ c)) && (decide (c ≤ (57 : Int)))))) && (decide (c ≠ (40 : Int)))) && (decide (c ≠ (41 : Int))))), (Ty.bool (((((decide ((33 : Int) ≤ c)) && (decide (c ≤ (12287 : Int)))) && (!((decide ((48 : Int) ≤ c)) && (decide (c ≤ (57 : Int)))))) && (decide (c ≠ (40 : Int)))) && (decide (c ≠ (41 : Int))))), (Ty.grd ((((((decide ((33 : Int) ≤ c)) && (decide (c ≤ (12287 : Int)))) && (!((decide ((48 : Int) ≤ c)) && (decide (c ≤ (57 : Int)))))) && (decide (c ≠ (40 : Int)))) && (decide (c ≠ (41 : Int)))) = true) (Ty.val (Value.int .i32 c))), (Ty.grd ((((((decide ((33 : Int) ≤ c)) && (decide (c ≤ (12287 : Int)))) && (!((decide ((48 : Int) ≤ c)) && (decide (c ≤ (57 : Int)))))) && (decide (c ≠ (40 : Int)))) && (decide (c ≠ (41 : Int)))) = true) (Ty.bool (decide (c < (127 : Int))))), (Ty.grd ((((((decide ((33 : Int) ≤ c)) && (decide (c ≤ (12287 : Int)))) && (!((decide ((48 : Int) ≤ c)) && (decide (c ≤ (57 : Int)))))) && (decide (c ≠ (40 : Int)))) && (decide (c ≠ (41 : Int)))) = true) (Ty.bool (decide (c < (127 : Int))))), (Ty.grd (((((((decide ((33 : Int) ≤ c)) && (decide (c ≤ (12287 : Int)))) && (!((decide ((48 : Int) ≤ c)) && (decide (c ≤ (57 : Int)))))) && (decide (c ≠ (40 : Int)))) && (decide (c ≠ (41 : Int)))) = true) ∧ (decide (c < (127 : Int))) = false) (Ty.val (Value.int .i32 c))), (Ty.grd (((((((decide ((33 : Int) ≤ c)) && (decide (c ≤ (12287 : Int)))) && (!((decide ((48 : Int) ≤ c)) && (decide (c ≤ (57 : Int)))))) && (decide (c ≠ (40 : Int)))) && (decide (c ≠ (41 : Int)))) = true) ∧ (decide (c < (127 : Int))) = false) (Ty.bool (decide ((160 : Int) < c)))), (Ty.grd ((((((decide ((33 : Int) ≤ c)) && (decide (c ≤ (12287 : Int)))) && (!((decide ((48 : Int) ≤ c)) && (decide (c ≤ (57 : Int)))))) && (decide (c ≠ (40 : Int)))) && (decide (c ≠ (41 : Int)))) = true) (Ty.bool ((decide (c < (127 : Int))) || (decide ((160 : Int) < c))))), (Ty.bool ((((((decide ((33 : Int) ≤ c)) && (decide (c ≤ (12287 : Int)))) && (!((decide ((48 : Int) ≤ c)) && (decide (c ≤ (57 : Int)))))) && (decide (c ≠ (40 : Int)))) && (decide (c ≠ (41 : Int)))) && ((decide (c < (127 : Int))) || (decide ((160 : Int) < c))))), (Ty.bool ((((((decide ((33 : Int) ≤ c)) && (decide (c ≤ (12287 : Int)))) && (!((decide ((48 : Int) ≤ c)) && (decide (c ≤ (57 : Int)))))) && (decide (c ≠ (40 : Int)))) && (decide (c ≠ (41 : Int)))) && ((decide (c < (127 : Int))) || (decide ((160 : Int) < c)))))] ok2 ⟨?_, ?_, ?_, ?_, ?_, ?_, ?_, ?_, ?_, ?_, ?_, ?_, ?_, ?_, ?_, ?_, ?_, ?_, ?_, ?_, ?_, ?_, ?_, ?_, ?_, ?_, ?_, trivial⟩ ?_
 · intro A B E G H; exact rP (y_move (kp (H 0 rfl) E q2))
 · intro A B E G H d0; exact rP (y_geq (ed d0 rfl rfl rfl) rfl)
 · intro A B E G H d0; exact rP (y_move (ed d0 rfl rfl rfl))
 · intro A B E G H d0
   refine run_guard G rfl rfl (by decide) (ed d0 rfl rfl rfl) (fun hg => ?_)
   have hp := of_decide_eq_true hg
   exact y_move (kp (H 0 rfl) E q2)
 · intro A B E G H d0 d1
   refine run_guard G rfl rfl (by decide) (ed d1 rfl rfl rfl) (fun hg => ?_)
   have hp := of_decide_eq_true hg
   exact y_leq ((ed d0 rfl rfl rfl).1 hg) rfl
 · intro A B E G H d0 d1; exact rP (y_pick_and (ed d0 rfl rfl rfl) (ed d1 rfl rfl rfl) rfl)
 · intro A B E G H d0 d1; exact rP (y_move (ed d0 rfl rfl rfl))
 · intro A B E G H d0
   refine run_guard G rfl rfl (by decide) (ed d0 rfl rfl rfl) (fun hg => ?_)
   obtain ⟨d1, d2⟩ := Bool.and_eq_true_iff.mp hg
   have d1 := of_decide_eq_true d1
   have d2 := of_decide_eq_true d2
   exact y_move (kp (H 3 rfl) E q3)
 · intro A B E G H d0 d1
   refine run_guard G rfl rfl (by decide) (ed d1 rfl rfl rfl) (fun hg => ?_)
   obtain ⟨d3, d4⟩ := Bool.and_eq_true_iff.mp hg
   have d3 := of_decide_eq_true d3
   have d4 := of_decide_eq_true d4
   exact y_not ((ed d0 rfl rfl rfl).1 hg)
 · intro A B E G H d0 d1; exact rP (y_pick_and (ed d0 rfl rfl rfl) (ed d1 rfl rfl rfl) rfl)
 · intro A B E G H d0 d1; exact rP (y_move (ed d0 rfl rfl rfl))
 · intro A B E G H d0
   refine run_guard G rfl rfl (by decide) (ed d0 rfl rfl rfl) (fun hg => ?_)
   obtain ⟨d5, d6⟩ := Bool.and_eq_true_iff.mp hg
   obtain ⟨d7, d8⟩ := Bool.and_eq_true_iff.mp d5
   have d7 := of_decide_eq_true d7
   have d8 := of_decide_eq_true d8
   exact y_move (kp (H 0 rfl) E q2)
 · intro A B E G H d0 d1
   refine run_guard G rfl rfl (by decide) (ed d1 rfl rfl rfl) (fun hg => ?_)
   obtain ⟨d9, d10⟩ := Bool.and_eq_true_iff.mp hg
   obtain ⟨d11, d12⟩ := Bool.and_eq_true_iff.mp d9
   have d11 := of_decide_eq_true d11
   have d12 := of_decide_eq_true d12
   exact y_neq ((ed d0 rfl rfl rfl).1 hg) rfl
 · intro A B E G H d0 d1; exact rP (y_pick_and (ed d0 rfl rfl rfl) (ed d1 rfl rfl rfl) rfl)
 · intro A B E G H d0 d1; exact rP (y_move (ed d0 rfl rfl rfl))
 · intro A B E G H d0
   refine run_guard G rfl rfl (by decide) (ed d0 rfl rfl rfl) (fun hg => ?_)
   obtain ⟨d13, d14⟩ := Bool.and_eq_true_iff.mp hg
   obtain ⟨d15, d16⟩ := Bool.and_eq_true_iff.mp d13
   obtain ⟨d17, d18⟩ := Bool.and_eq_true_iff.mp d15
   have d17 := of_decide_eq_true d17
   have d18 := of_decide_eq_true d18
   have d14 := of_decide_eq_true d14
   exact y_move (kp (H 0 rfl) E q2)
 · intro A B E G H d0 d1
   refine run_guard G rfl rfl (by decide) (ed d1 rfl rfl rfl) (fun hg => ?_)
   obtain ⟨d19, d20⟩ := Bool.and_eq_true_iff.mp hg
   obtain ⟨d21, d22⟩ := Bool.and_eq_true_iff.mp d19
   obtain ⟨d23, d24⟩ := Bool.and_eq_true_iff.mp d21
   have d23 := of_decide_eq_true d23
   have d24 := of_decide_eq_true d24
   have d20 := of_decide_eq_true d20
   exact y_neq ((ed d0 rfl rfl rfl).1 hg) rfl
 · intro A B E G H d0 d1; exact rP (y_pick_and (ed d0 rfl rfl rfl) (ed d1 rfl rfl rfl) rfl)
 · intro A B E G H d0 d1; exact rP (y_move (ed d0 rfl rfl rfl))
 · intro A B E G H d0
   refine run_guard G rfl rfl (by decide) (ed d0 rfl rfl rfl) (fun hg => ?_)
   obtain ⟨d25, d26⟩ := Bool.and_eq_true_iff.mp hg
   obtain ⟨d27, d28⟩ := Bool.and_eq_true_iff.mp d25
   obtain ⟨d29, d30⟩ := Bool.and_eq_true_iff.mp d27
   obtain ⟨d31, d32⟩ := Bool.and_eq_true_iff.mp d29
   have d31 := of_decide_eq_true d31
   have d32 := of_decide_eq_true d32
   have d28 := of_decide_eq_true d28
   have d26 := of_decide_eq_true d26
   exact y_move (kp (H 0 rfl) E q2)
 · intro A B E G H d0 d1
   refine run_guard G rfl rfl (by decide) (ed d1 rfl rfl rfl) (fun hg => ?_)
   obtain ⟨d33, d34⟩ := Bool.and_eq_true_iff.mp hg
   obtain ⟨d35, d36⟩ := Bool.and_eq_true_iff.mp d33
   obtain ⟨d37, d38⟩ := Bool.and_eq_true_iff.mp d35
   obtain ⟨d39, d40⟩ := Bool.and_eq_true_iff.mp d37
   have d39 := of_decide_eq_true d39
   have d40 := of_decide_eq_true d40
   have d36 := of_decide_eq_true d36
   have d34 := of_decide_eq_true d34
   exact y_lss ((ed d0 rfl rfl rfl).1 hg) rfl
 · intro A B E G H d0 d1 d2
   refine run_guard G rfl rfl (by decide) (ed d1 rfl rfl rfl) (fun hg => ?_)
   obtain ⟨d41, d42⟩ := Bool.and_eq_true_iff.mp hg
   obtain ⟨d43, d44⟩ := Bool.and_eq_true_iff.mp d41
   obtain ⟨d45, d46⟩ := Bool.and_eq_true_iff.mp d43
   obtain ⟨d47, d48⟩ := Bool.and_eq_true_iff.mp d45
   have d47 := of_decide_eq_true d47
   have d48 := of_decide_eq_true d48
   have d44 := of_decide_eq_true d44
   have d42 := of_decide_eq_true d42
   exact y_move ((ed d0 rfl rfl rfl).1 hg)
 · intro A B E G H d0
   refine run_guard2 G rfl rfl (by decide) (ed d0 rfl rfl rfl) (fun hg => ?_)
   have hp := of_decide_eq_false hg.2
   exact y_move (kp (H 0 rfl) E q2)
 · intro A B E G H d0 d1
   refine run_guard2 G rfl rfl (by decide) (ed d1 rfl rfl rfl) (fun hg => ?_)
   have hp := of_decide_eq_false hg.2
   exact y_gtr ((ed d0 rfl rfl rfl).1 hg) rfl
 · intro A B E G H d0 d1 d2
   refine run_guard G rfl rfl (by decide) (ed d2 rfl rfl rfl) (fun hg => ?_)
   obtain ⟨d49, d50⟩ := Bool.and_eq_true_iff.mp hg
   obtain ⟨d51, d52⟩ := Bool.and_eq_true_iff.mp d49
   obtain ⟨d53, d54⟩ := Bool.and_eq_true_iff.mp d51
   obtain ⟨d55, d56⟩ := Bool.and_eq_true_iff.mp d53
   have d55 := of_decide_eq_true d55
   have d56 := of_decide_eq_true d56
   have d52 := of_decide_eq_true d52
   have d50 := of_decide_eq_true d50
   exact y_pick_or ((ed d0 rfl rfl rfl).1 hg) rfl (grd_part hg (ed d1 rfl rfl rfl))
 · intro A B E G H d0 d1; exact rP (y_pick_and (ed d0 rfl rfl rfl) (ed d1 rfl rfl rfl) rfl)
 · intro A B E G H d0 d1 d2 d3 d4 d5 d6 d7 d8 d9 d10 d11 d12 d13 d14 d15 d16 d17 d18 d19 d20 d21 d22 d23 d24 d25 d26 d27; exact rP (y_assign (ed d0 rfl rfl rfl))
 intro a3 s3 D3; have ok3 := D3.ok; have F3 := F2.step0 D3.stp; have q4 := D3.dn 26 rfl rfl; clear D3; refine tn ?_; refine wp_ret ?_
 exact retL1 rfl ok3 F3 (cvb (by (rw [Bool.eq_iff_iff]; simp only [signMay, Bool.and_eq_true, Bool.or_eq_true, decide_eq_true_eq, Bool.not_eq_true', Bool.and_eq_false_iff, decide_eq_false_iff_not]; omega)) q4)


set_option maxRecDepth 100000 in
theorem letter_fn (c : Int) (σ : GW) (v0 : Value) (hv0 : Ty.has (Ty.val (Value.int .i32 c)) σ v0)  :
    FnC Tryd.prog 59 #[v0] σ (Ty.bool (letterB c)) := by
 refine fn_intro Tryd.func59 rfl Tryd.ntmps59 (Nat.le_of_ble_eq_true rfl) (fun s0 a0 hle F0 ok0 hargs => ?_)
 have p0 : At (Ty.val (Value.int .i32 c)) s0 a0 (.tmp 0) := by have e := hargs 0 _ rfl; show Ty.has _ _ _; rw [e]; exact Ty.up _ hle hv0
 clear hargs; refine wp_seq ?_
 refine rg a0 s0 [(Ty.bool false)] ok0 ⟨?_, trivial⟩ ?_
 · intro A B E G H; exact rP (y_assign rfl)
 intro a1 s1 D1; have ok1 := D1.ok; have F1 := F0.step0 D1.stp; have q1 := D1.kt p0 rfl; clear D1; refine tn ?_; refine wp_seq ?_
 refine rg a1 s1 [(Ty.val (Value.int .i32 c)), (Ty.bool (decide ((65 : Int) ≤ c))), (Ty.bool (decide ((65 : Int) ≤ c))), (Ty.grd ((decide ((65 : Int) ≤ c)) = true) (Ty.val (Value.int .i32 c))), (Ty.grd ((decide ((65 : Int) ≤ c)) = true) (Ty.bool (decide (c ≤ (90 : Int))))), (Ty.bool ((decide ((65 : Int) ≤ c)) && (decide (c ≤ (90 : Int))))), (Ty.bool ((decide ((65 : Int) ≤ c)) && (decide (c ≤ (90 : Int))))), (Ty.grd (((decide ((65 : Int) ≤ c)) && (decide (c ≤ (90 : Int)))) = false) (Ty.val (Value.int .i32 c))), (Ty.grd (((decide ((65 : Int) ≤ c)) && (decide (c ≤ (90 : Int)))) = false) (Ty.bool (decide ((97 : Int) ≤ c)))), (Ty.grd (((decide ((65 : Int) ≤ c)) && (decide (c ≤ (90 : Int)))) = false) (Ty.bool (decide ((97 : Int) ≤ c)))), (Ty.grd ((((decide ((65 : Int) ≤ c)) && (decide (c ≤ (90 : Int)))) = false) ∧ (decide ((97 : Int) ≤ c)) = true) (Ty.val (Value.int .i32 c))), (Ty.grd ((((decide ((65 : Int) ≤ c)) && (decide (c ≤ (90 : Int)))) = false) ∧ (decide ((97 : Int) ≤ c)) = true) (Ty.bool (decide (c ≤ (122 : Int))))), (Ty.grd (((decide ((65 : Int) ≤ c)) && (decide (c ≤ (90 : Int)))) = false) (Ty.bool ((decide ((97 : Int) ≤ c)) && (decide (c ≤ (122 : Int)))))), (Ty.bool (((decide ((65 : Int) ≤ c)) && (decide (c ≤ (90 : Int)))) || ((decide ((97 : Int) ≤ c)) && (decide (c ≤ (122 : Int)))))), (Ty.bool (((decide ((65 : Int) ≤ c)) && (decide (c ≤ (90 : Int)))) || ((decide ((97 : Int) ≤ c)) && (decide (c ≤ (122 : Int)))))), (Ty.grd ((((decide ((65 : Int) ≤ c)) && (decide (c ≤ (90 : Int)))) || ((decide ((97 : Int) ≤ c)) && (decide (c ≤ (122 : Int))))) = false) (Ty.val (Value.int .i32 c))), (Ty.grd ((((decide ((65 : Int) ≤ c)) && (decide (c ≤ (90 : Int)))) || ((decide ((97 : Int) ≤ c)) && (decide (c ≤ (122 : Int))))) = false) (Ty.bool (decide ((48 : Int) ≤ c)))), (Ty.grd ((((decide ((65 : Int) ≤ c)) && (decide (c ≤ (90 : Int)))) || ((decide ((97 : Int) ≤ c)) && (decide (c ≤ (122 : Int))))) = false) (Ty.bool (decide ((48 : Int) ≤ c)))), (Ty.grd (((((decide ((65 : Int) ≤ c)) && (decide (c ≤ (90 : Int)))) || ((decide ((97 : Int) ≤ c)) && (decide (c ≤ (122 : Int))))) = false) ∧ (decide ((48 : Int) ≤ c)) = true) (Ty.val (Value.int .i32 c))), (Ty.grd (((((decide ((65 : Int) ≤ c)) && (decide (c ≤ (90 : Int)))) || ((decide ((97 : Int) ≤ c)) && (decide (c ≤ (122 : Int))))) = false) ∧ (decide ((48 : Int) ≤ c)) = true) (Ty.bool (decide (c ≤ (57 : Int))))), (Ty.grd ((((decide ((65 : Int) ≤ c)) && (decide (c ≤ (90 : Int)))) || ((decide ((97 : Int) ≤ c)) && (decide (c ≤ (122 : Int))))) = false) (Ty.bool ((decide ((48 : Int) ≤ c)) && (decide (c ≤ (57 : Int)))))), (Ty.bool ((((decide ((65 : Int) ≤ c)) && (decide (c ≤ (90 : Int)))) || ((decide ((97 : Int) ≤ c)) && (decide (c ≤ (122 : Int))))) || ((decide ((48 : Int) ≤ c)) && (decide (c ≤ (57 : Int)))))), (Ty.bool ((((decide ((65 : Int) ≤ c)) && (decide (c ≤ (90 : Int)))) || ((decide ((97 : Int) ≤ c)) && (decide (c ≤ (122 : Int))))) || ((decide ((48 : Int) ≤ c)) && (decide (c ≤ (57 : Int)))))), (Ty.grd (((((decide ((65 : Int) ≤ c)) && (decide (c ≤ (90 : Int)))) || ((decide ((97 : Int) ≤ c)) && (decide (c ≤ (122 : Int))))) || ((decide ((48 : Int) ≤ c)) && (decide (c ≤ (57 : Int))))) = false) (Ty.val (Value.int .i32 c))), (Ty.grd (((((decide ((65 : Int) ≤ c)) && (decide (c ≤ (90 : Int)))) || ((decide ((97 : Int) ≤ c)) && (decide (c ≤ (122 : Int))))) || ((decide ((48 : Int) ≤ c)) && (decide (c ≤ (57 : Int))))) = false) (Ty.bool (decide (c = (32 : Int))))), (Ty.bool (((((decide ((65 : Int) ≤ c)) && (decide (c ≤ (90 : Int)))) || ((decide ((97 : Int) ≤ c)) && (decide (c ≤ (122 : Int))))) || ((decide ((48 : Int) ≤ c)) && (decide (c ≤ (57 : Int))))) || (decide (c = (32 : Int))))), (Ty.bool (((((decide ((65 : Int) ≤ c)) && (decide (c ≤ (90 : Int)))) || ((decide ((97 : Int) ≤ c)) && (decide (c ≤ (122 : Int))))) || ((decide ((48 : Int) ≤ c)) && (decide (c ≤ (57 : Int))))) || (decide (c = (32 : Int))))), (Ty.grd ((((((decide ((65 : Int) ≤ c)) && (decide (c ≤ (90 : Int)))) || ((decide ((97 : Int) ≤ c)) && (decide (c ≤ (122 : Int))))) || ((decide ((48 : Int) ≤ c)) && (decide (c ≤ (57 : Int))))) || (decide (c = (32 : Int)))) = false) (Ty.val (Value.int .i32 c))), (Ty.grd ((((((decide ((65 : Int) ≤ c)) && (decide (c ≤ (90 : Int)))) || ((decide ((97 : Int) ≤ c)) && (decide (c ≤ (122 : Int))))) || ((decide ((48 : Int) ≤ c)) && (decide (c ≤ (57 : Int))))) || (decide (c = (32 : Int)))) = false) (Ty.bool (decide ((192 : Int) ≤ c)))), (Ty.grd ((((((decide ((65 : Int) ≤ c)) && (decide (c ≤ (90 : Int)))) || ((decide ((97 : Int) ≤ c)) && (decide (c ≤ (122 : Int))))) || ((decide ((48 : Int) ≤ c)) && (decide (c ≤ (57 : Int))))) || (decide (c = (32 : Int)))) = false) (Ty.bool (decide ((192 : Int) ≤ c)))), (Ty.grd (((((((decide ((65 : Int) ≤ c)) && (decide (c ≤ (90 : Int)))) || ((decide ((97 : Int) ≤ c)) && (decide (c ≤ (122 : Int))))) || ((decide ((48 : Int) ≤ c)) && (decide (c ≤ (57 : Int))))) || (decide (c = (32 : Int)))) = false) ∧ (decide ((192 : Int) ≤ c)) = true) (Ty.val (Value.int .i32 c))), (Ty.grd (((((((decide ((65 : Int) ≤ c)) && (decide (c ≤ (90 : Int)))) || ((decide ((97 : Int) ≤ c)) && (decide (c ≤ (122 : Int))))) || ((decide ((48 : Int) ≤ c)) && (decide (c ≤ (57 : Int))))) || (decide (c = (32 : Int)))) = false) ∧ (decide ((192 : Int) ≤ c)) = true) (Ty.bool (decide (c ≤ (382 : Int))))), (Ty.grd ((((((decide ((65 : Int) ≤ c)) && (decide (c ≤ (90 : Int)))) || ((decide ((97 : Int) ≤ c)) && (decide (c ≤ (122 : Int))))) || ((decide ((48 : Int) ≤ c)) && (decide (c ≤ (57 : Int))))) || (decide (c = (32 : Int)))) = false) (Ty.bool ((decide ((192 : Int) ≤ c)) && (decide (c ≤ (382 : Int)))))), (Ty.grd ((((((decide ((65 : Int) ≤ c)) && (decide (c ≤ (90 : Int)))) || ((decide ((97 : Int) ≤ c)) && (decide (c ≤ (122 : Int))))) || ((decide ((48 : Int) ≤ c)) && (decide (c ≤ (57 : Int))))) || (decide (c = (32 : Int)))) = false) (Ty.bool ((decide ((192 : Int) ≤ c)) && (decide (c ≤ (382 : Int)))))), (Ty.grd (((((((decide ((65 : Int) ≤ c)) && (decide (c ≤ (90 : Int)))) || ((decide ((97 : Int) ≤ c)) && (decide (c ≤ (122 : Int))))) || ((decide ((48 : Int) ≤ c)) && (decide (c ≤ (57 : Int))))) || (decide (c = (32 : Int)))) = false) ∧ ((decide ((192 : Int) ≤ c)) && (decide (c ≤ (382 : Int)))) = true) (Ty.val (Value.int .i32 c))), (Ty.grd (((((((decide ((65 : Int) ≤ c)) && (decide (c ≤ (90 : Int)))) || ((decide ((97 : Int) ≤ c)) && (decide (c ≤ (122 : Int))))) || ((decide ((48 : Int) ≤ c)) && (decide (c ≤ (57 : Int))))) || (decide (c = (32 : Int)))) = false) ∧ ((decide ((192 : Int) ≤ c)) && (decide (c ≤ (382 : Int)))) = true) (Ty.bool (decide (c ≠ (215 : Int))))), (Ty.grd ((((((decide ((65 : Int) ≤ c)) && (decide (c ≤ (90 : Int)))) || ((decide ((97 : Int) ≤ c)) && (decide (c ≤ (122 : Int))))) || ((decide ((48 : Int) ≤ c)) && (decide (c ≤ (57 : Int))))) || (decide (c = (32 : Int)))) = false) (Ty.bool (((decide ((192 : Int) ≤ c)) && (decide (c ≤ (382 : Int)))) && (decide (c ≠ (215 : Int)))))), (Ty.grd ((((((decide ((65 : Int) ≤ c)) && (decide (c ≤ (90 : Int)))) || ((decide ((97 : Int) ≤ c)) && (decide (c ≤ (122 : Int))))) || ((decide ((48 : Int) ≤ c)) && (decide (c ≤ (57 : Int))))) || (decide (c = (32 : Int)))) = false) (Ty.bool (((decide ((192 : Int) ≤ c)) && (decide (c ≤ (382 : Int)))) && (decide (c ≠ (215 : Int)))))), (Ty.grd (((((((decide ((65 : Int) ≤ c)) && (decide (c ≤ (90 : Int)))) || ((decide ((97 : Int) ≤ c)) && (decide (c ≤ (122 : Int))))) || ((decide ((48 : Int) ≤ c)) && (decide (c ≤ (57 : Int))))) || (decide (c = (32 : Int)))) = false) ∧ (((decide ((192 : Int) ≤ c)) && (decide (c ≤ (382 : Int)))) && (decide (c ≠ (215 : Int)))) = true) (Ty.val (Value.int .i32 c))), (Ty.grd (((((((decide ((65 : Int) ≤ c)) && (decide (c ≤ (90 : Int)))) || ((decide ((97 : Int) ≤ c)) && (decide (c ≤ (122 : Int))))) || ((decide ((48 : Int) ≤ c)) && (decide (c ≤ (57 : Int))))) || (decide (c = (32 : Int)))) = false) ∧ (((decide ((192 : Int) ≤ c)) && (decide (c ≤ (382 : Int)))) && (decide (c ≠ (215 : Int)))) = true) (Ty.bool (decide (c ≠ (247 : Int))))), (Ty.grd ((((((decide ((65 : Int) ≤ c)) && (decide (c ≤ (90 : Int)))) || ((decide ((97 : Int) ≤ c)) && (decide (c ≤ (122 : Int))))) || ((decide ((48 : Int) ≤ c)) && (decide (c ≤ (57 : Int))))) || (decide (c = (32 : Int)))) = false) (Ty.bool ((((decide ((192 : Int) ≤ c)) && (decide (c ≤ (382 : Int)))) && (decide (c ≠ (215 : Int)))) && (decide (c ≠ (247 : Int)))))), (Ty.bool ((((((decide ((65 : Int) ≤ c)) && (decide (c ≤ (90 : Int)))) || ((decide ((97 : Int) ≤ c)) && (decide (c ≤ (122 : Int))))) || ((decide ((48 : Int) ≤ c)) && (decide (c ≤ (57 : Int))))) || (decide (c = (32 : Int)))) || ((((decide ((192 : Int) ≤ c)) && (decide (c ≤ (382 : Int)))) && (decide (c ≠ (215 : Int)))) && (decide (c ≠ (247 : Int)))))), (Ty.bool ((((((decide ((65 : Int) ≤ c)) && (decide (c ≤ (90 : Int)))) || ((decide ((97 : Int) ≤ c)) && (decide (c ≤ (122 : Int))))) || ((decide ((48 : Int) ≤ c)) && (decide (c ≤ (57 : Int))))) || (decide (c = (32 : Int)))) || ((((decide ((192 : Int) ≤ c)) && (decide (c ≤ (382 : Int)))) && (decide (c ≠ (215 : Int)))) && (decide (c ≠ (247 : Int))))))] ok1 ⟨?_, ?_, ?_, ?_, ?_, ?_, ?_, ?_, ?_, ?_, ?_, ?_, ?_, ?_, ?_, ?_, ?_, ?_, ?_, ?_, ?_, ?_, ?_, ?_, ?_, ?_, ?_, ?_, ?_, ?_, ?_, ?_, ?_, ?_, ?_, ?_, ?_, ?_, ?_, ?_, ?_, ?_, ?_, trivial⟩ ?_
 · intro A B E G H; exact rP (y_move (kp (H 0 rfl) E q1))
 · intro A B E G H d0; exact rP (y_geq (ed d0 rfl rfl rfl) rfl)
 · intro A B E G H d0; exact rP (y_move (ed d0 rfl rfl rfl))
 · intro A B E G H d0
   refine run_guard G rfl rfl (by decide) (ed d0 rfl rfl rfl) (fun hg => ?_)
   have hp := of_decide_eq_true hg
   exact y_move (kp (H 0 rfl) E q1)
 · intro A B E G H d0 d1
   refine run_guard G rfl rfl (by decide) (ed d1 rfl rfl rfl) (fun hg => ?_)
   have hp := of_decide_eq_true hg
   exact y_leq ((ed d0 rfl rfl rfl).1 hg) rfl
 · intro A B E G H d0 d1; exact rP (y_pick_and (ed d0 rfl rfl rfl) (ed d1 rfl rfl rfl) rfl)
 · intro A B E G H d0 d1; exact rP (y_move (ed d0 rfl rfl rfl))
 · intro A B E G H d0
   refine run_guard G rfl rfl (by decide) (ed d0 rfl rfl rfl) (fun hg => ?_)
   exact y_move (kp (H 0 rfl) E q1)
 · intro A B E G H d0 d1
   refine run_guard G rfl rfl (by decide) (ed d1 rfl rfl rfl) (fun hg => ?_)
   exact y_geq ((ed d0 rfl rfl rfl).1 hg) rfl
 · intro A B E G H d0 d1 d2
   refine run_guard G rfl rfl (by decide) (ed d1 rfl rfl rfl) (fun hg => ?_)
   exact y_move ((ed d0 rfl rfl rfl).1 hg)
 · intro A B E G H d0
   refine run_guard2 G rfl rfl (by decide) (ed d0 rfl rfl rfl) (fun hg => ?_)
   have hp := of_decide_eq_true hg.2
   exact y_move (kp (H 0 rfl) E q1)
 · intro A B E G H d0 d1
   refine run_guard2 G rfl rfl (by decide) (ed d1 rfl rfl rfl) (fun hg => ?_)
   have hp := of_decide_eq_true hg.2
   exact y_leq ((ed d0 rfl rfl rfl).1 hg) rfl
 · intro A B E G H d0 d1 d2
   refine run_guard G rfl rfl (by decide) (ed d2 rfl rfl rfl) (fun hg => ?_)
   exact y_pick_and ((ed d0 rfl rfl rfl).1 hg) (grd_part hg (ed d1 rfl rfl rfl)) rfl
 · intro A B E G H d0 d1; exact rP (y_pick_or (ed d0 rfl rfl rfl) rfl (ed d1 rfl rfl rfl))
 · intro A B E G H d0 d1; exact rP (y_move (ed d0 rfl rfl rfl))
 · intro A B E G H d0
   refine run_guard G rfl rfl (by decide) (ed d0 rfl rfl rfl) (fun hg => ?_)
   obtain ⟨d1, d2⟩ := Bool.or_eq_false_iff.mp hg
   exact y_move (kp (H 0 rfl) E q1)
 · intro A B E G H d0 d1
   refine run_guard G rfl rfl (by decide) (ed d1 rfl rfl rfl) (fun hg => ?_)
   obtain ⟨d3, d4⟩ := Bool.or_eq_false_iff.mp hg
   exact y_geq ((ed d0 rfl rfl rfl).1 hg) rfl
 · intro A B E G H d0 d1 d2
   refine run_guard G rfl rfl (by decide) (ed d1 rfl rfl rfl) (fun hg => ?_)
   obtain ⟨d5, d6⟩ := Bool.or_eq_false_iff.mp hg
   exact y_move ((ed d0 rfl rfl rfl).1 hg)
 · intro A B E G H d0
   refine run_guard2 G rfl rfl (by decide) (ed d0 rfl rfl rfl) (fun hg => ?_)
   have hp := of_decide_eq_true hg.2
   exact y_move (kp (H 0 rfl) E q1)
 · intro A B E G H d0 d1
   refine run_guard2 G rfl rfl (by decide) (ed d1 rfl rfl rfl) (fun hg => ?_)
   have hp := of_decide_eq_true hg.2
   exact y_leq ((ed d0 rfl rfl rfl).1 hg) rfl
 · intro A B E G H d0 d1 d2
   refine run_guard G rfl rfl (by decide) (ed d2 rfl rfl rfl) (fun hg => ?_)
   obtain ⟨d7, d8⟩ := Bool.or_eq_false_iff.mp hg
   exact y_pick_and ((ed d0 rfl rfl rfl).1 hg) (grd_part hg (ed d1 rfl rfl rfl)) rfl
 · intro A B E G H d0 d1; exact rP (y_pick_or (ed d0 rfl rfl rfl) rfl (ed d1 rfl rfl rfl))
 · intro A B E G H d0 d1; exact rP (y_move (ed d0 rfl rfl rfl))
 · intro A B E G H d0
   refine run_guard G rfl rfl (by decide) (ed d0 rfl rfl rfl) (fun hg => ?_)
   obtain ⟨d9, d10⟩ := Bool.or_eq_false_iff.mp hg
   obtain ⟨d11, d12⟩ := Bool.or_eq_false_iff.mp d9
   exact y_move (kp (H 0 rfl) E q1)
 · intro A B E G H d0 d1
   refine run_guard G rfl rfl (by decide) (ed d1 rfl rfl rfl) (fun hg => ?_)
   obtain ⟨d13, d14⟩ := Bool.or_eq_false_iff.mp hg
   obtain ⟨d15, d16⟩ := Bool.or_eq_false_iff.mp d13
   exact y_eql ((ed d0 rfl rfl rfl).1 hg) rfl
 · intro A B E G H d0 d1; exact rP (y_pick_or (ed d0 rfl rfl rfl) rfl (ed d1 rfl rfl rfl))
 · intro A B E G H d0 d1; exact rP (y_move (ed d0 rfl rfl rfl))
 · intro A B E G H d0
   refine run_guard G rfl rfl (by decide) (ed d0 rfl rfl rfl) (fun hg => ?_)
   obtain ⟨d17, d18⟩ := Bool.or_eq_false_iff.mp hg
   obtain ⟨d19, d20⟩ := Bool.or_eq_false_iff.mp d17
   obtain ⟨d21, d22⟩ := Bool.or_eq_false_iff.mp d19
   have d18 := of_decide_eq_false d18
   exact y_move (kp (H 0 rfl) E q1)
 · intro A B E G H d0 d1
   refine run_guard G rfl rfl (by decide) (ed d1 rfl rfl rfl) (fun hg => ?_)
   obtain ⟨d23, d24⟩ := Bool.or_eq_false_iff.mp hg
   obtain ⟨d25, d26⟩ := Bool.or_eq_false_iff.mp d23
   obtain ⟨d27, d28⟩ := Bool.or_eq_false_iff.mp d25
   have d24 := of_decide_eq_false d24
   exact y_geq ((ed d0 rfl rfl rfl).1 hg) rfl
 · intro A B E G H d0 d1 d2
   refine run_guard G rfl rfl (by decide) (ed d1 rfl rfl rfl) (fun hg => ?_)
   obtain ⟨d29, d30⟩ := Bool.or_eq_false_iff.mp hg
   obtain ⟨d31, d32⟩ := Bool.or_eq_false_iff.mp d29
   obtain ⟨d33, d34⟩ := Bool.or_eq_false_iff.mp d31
   have d30 := of_decide_eq_false d30
   exact y_move ((ed d0 rfl rfl rfl).1 hg)
 · intro A B E G H d0
   refine run_guard2 G rfl rfl (by decide) (ed d0 rfl rfl rfl) (fun hg => ?_)
   have hp := of_decide_eq_true hg.2
   exact y_move (kp (H 0 rfl) E q1)
 · intro A B E G H d0 d1
   refine run_guard2 G rfl rfl (by decide) (ed d1 rfl rfl rfl) (fun hg => ?_)
   have hp := of_decide_eq_true hg.2
   exact y_leq ((ed d0 rfl rfl rfl).1 hg) rfl
 · intro A B E G H d0 d1 d2
   refine run_guard G rfl rfl (by decide) (ed d2 rfl rfl rfl) (fun hg => ?_)
   obtain ⟨d35, d36⟩ := Bool.or_eq_false_iff.mp hg
   obtain ⟨d37, d38⟩ := Bool.or_eq_false_iff.mp d35
   obtain ⟨d39, d40⟩ := Bool.or_eq_false_iff.mp d37
   have d36 := of_decide_eq_false d36
   exact y_pick_and ((ed d0 rfl rfl rfl).1 hg) (grd_part hg (ed d1 rfl rfl rfl)) rfl
 · intro A B E G H d0 d1 d2
   refine run_guard G rfl rfl (by decide) (ed d2 rfl rfl rfl) (fun hg => ?_)
   obtain ⟨d41, d42⟩ := Bool.or_eq_false_iff.mp hg
   obtain ⟨d43, d44⟩ := Bool.or_eq_false_iff.mp d41
   obtain ⟨d45, d46⟩ := Bool.or_eq_false_iff.mp d43
   have d42 := of_decide_eq_false d42
   exact y_move ((ed d0 rfl rfl rfl).1 hg)
 · intro A B E G H d0
   refine run_guard2 G rfl rfl (by decide) (ed d0 rfl rfl rfl) (fun hg => ?_)
   obtain ⟨d47, d48⟩ := Bool.and_eq_true_iff.mp hg.2
   have d47 := of_decide_eq_true d47
   have d48 := of_decide_eq_true d48
   exact y_move (kp (H 0 rfl) E q1)
 · intro A B E G H d0 d1
   refine run_guard2 G rfl rfl (by decide) (ed d1 rfl rfl rfl) (fun hg => ?_)
   obtain ⟨d49, d50⟩ := Bool.and_eq_true_iff.mp hg.2
   have d49 := of_decide_eq_true d49
   have d50 := of_decide_eq_true d50
   exact y_neq ((ed d0 rfl rfl rfl).1 hg) rfl
 · intro A B E G H d0 d1 d2
   refine run_guard G rfl rfl (by decide) (ed d2 rfl rfl rfl) (fun hg => ?_)
   obtain ⟨d51, d52⟩ := Bool.or_eq_false_iff.mp hg
   obtain ⟨d53, d54⟩ := Bool.or_eq_false_iff.mp d51
   obtain ⟨d55, d56⟩ := Bool.or_eq_false_iff.mp d53
   have d52 := of_decide_eq_false d52
   exact y_pick_and ((ed d0 rfl rfl rfl).1 hg) (grd_part hg (ed d1 rfl rfl rfl)) rfl
 · intro A B E G H d0 d1 d2
   refine run_guard G rfl rfl (by decide) (ed d2 rfl rfl rfl) (fun hg => ?_)
   obtain ⟨d57, d58⟩ := Bool.or_eq_false_iff.mp hg
   obtain ⟨d59, d60⟩ := Bool.or_eq_false_iff.mp d57
   obtain ⟨d61, d62⟩ := Bool.or_eq_false_iff.mp d59
   have d58 := of_decide_eq_false d58
   exact y_move ((ed d0 rfl rfl rfl).1 hg)
 · intro A B E G H d0
   refine run_guard2 G rfl rfl (by decide) (ed d0 rfl rfl rfl) (fun hg => ?_)
   obtain ⟨d63, d64⟩ := Bool.and_eq_true_iff.mp hg.2
   obtain ⟨d65, d66⟩ := Bool.and_eq_true_iff.mp d63
   have d65 := of_decide_eq_true d65
   have d66 := of_decide_eq_true d66
   have d64 := of_decide_eq_true d64
   exact y_move (kp (H 0 rfl) E q1)
 · intro A B E G H d0 d1
   refine run_guard2 G rfl rfl (by decide) (ed d1 rfl rfl rfl) (fun hg => ?_)
   obtain ⟨d67, d68⟩ := Bool.and_eq_true_iff.mp hg.2
   obtain ⟨d69, d70⟩ := Bool.and_eq_true_iff.mp d67
   have d69 := of_decide_eq_true d69
   have d70 := of_decide_eq_true d70
   have d68 := of_decide_eq_true d68
   exact y_neq ((ed d0 rfl rfl rfl).1 hg) rfl
 · intro A B E G H d0 d1 d2
   refine run_guard G rfl rfl (by decide) (ed d2 rfl rfl rfl) (fun hg => ?_)
   obtain ⟨d71, d72⟩ := Bool.or_eq_false_iff.mp hg
   obtain ⟨d73, d74⟩ := Bool.or_eq_false_iff.mp d71
   obtain ⟨d75, d76⟩ := Bool.or_eq_false_iff.mp d73
   have d72 := of_decide_eq_false d72
   exact y_pick_and ((ed d0 rfl rfl rfl).1 hg) (grd_part hg (ed d1 rfl rfl rfl)) rfl
 · intro A B E G H d0 d1; exact rP (y_pick_or (ed d0 rfl rfl rfl) rfl (ed d1 rfl rfl rfl))
 · intro A B E G H d0 d1 d2 d3 d4 d5 d6 d7 d8 d9 d10 d11 d12 d13 d14 d15 d16 d17 d18 d19 d20 d21 d22 d23 d24 d25 d26 d27 d28 d29 d30 d31 d32 d33 d34 d35 d36 d37 d38 d39 d40 d41 d42 d43; exact rP (y_assign (ed d0 rfl rfl rfl))
 intro a2 s2 D2; have ok2 := D2.ok; have F2 := F1.step0 D2.stp; have q2 := D2.dn 42 rfl rfl; clear D2; refine tn ?_; refine wp_ret ?_
 exact ret1 rfl ok2 F2 (cvb (by (rfl)) q2)


end Go.Proofs.YtbilebfnanlgfaaDoor
