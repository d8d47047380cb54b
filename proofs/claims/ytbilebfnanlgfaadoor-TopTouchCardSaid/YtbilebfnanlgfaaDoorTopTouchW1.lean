/- The functions that the law TopTouch reaches, each by its contract. Part 1. -/
import Derived.Test.YtbilebfnanlgfaaDoorTopTouchK1
import Derived.Test.YtbilebfnanlgfaaDoorTopTouchK2
import Derived.Test.YtbilebfnanlgfaaDoorProg
namespace Go.Proofs.YtbilebfnanlgfaaDoor
open Go.KL

set_option maxRecDepth 100000 in
theorem pick_fn (c : Int) (n : Nat) (σ : GW) (v0 v1 : Value) (hv0 : Ty.has (Ty.int c) σ v0) (hv1 : Ty.has (Ty.nat n) σ v1) (hc : -9223372036854775808 ≤ c ∧ c ≤ 9223372036854775807) (hn : 0 < n) :
    FnC Tryd.prog 17 #[v0, v1] σ (Ty.nat (pick c n)) := by
 refine fn_intro Tryd.func17 rfl Tryd.ntmps17 (Nat.le_of_ble_eq_true rfl) (fun s0 a0 hle F0 ok0 hargs => ?_)
 have p0 : At (Ty.int c) s0 a0 (.tmp 0) := by have e := hargs 0 _ rfl; show Ty.has _ _ _; rw [e]; exact Ty.up _ hle hv0
 have p1 : At (Ty.nat n) s0 a0 (.tmp 1) := by have e := hargs 1 _ rfl; show Ty.has _ _ _; rw [e]; exact Ty.up _ hle hv1
 clear hargs; refine wp_seq ?_
 refine rg a0 s0 [(Ty.int (0 : Int))] ok0 ⟨?_, trivial⟩ ?_
 · intro A B E G H; exact rP (y_assign rfl)
 intro a1 s1 D1; have ok1 := D1.ok; have F1 := F0.step0 D1.stp; have q1 := D1.kt p0 rfl; have q2 := D1.kt p1 rfl; clear D1; refine tn ?_; refine wp_seq ?_; refine wp_seq ?_
 refine rg a1 s1 [(Ty.int c), (Ty.bool (decide (c < (0 : Int))))] ok1 ⟨?_, ?_, trivial⟩ ?_
 · intro A B E G H; exact rP (y_move (kp (H 0 rfl) E q1))
 · intro A B E G H d0; exact rP (y_lss (ed d0 rfl rfl rfl) rfl)
 intro a2 s2 D2; have ok2 := D2.ok; have F2 := F1.step0 D2.stp; have q3 := D2.kt q1 rfl; have q4 := D2.kt q2 rfl; have q5 := D2.dn 1 rfl rfl; clear D2; refine tn ?_
 refine cond_p (p := (c < (0 : Int))) q5 (fun c1 => ?_) (fun c1 => ?_)
 ·
  refine rg a2 s2 [(Ty.int c), (Ty.int (c + (1 : Int))), (Ty.int (-(c + (1 : Int)))), (Ty.int (-(c + (1 : Int))))] ok2 ⟨?_, ?_, ?_, ?_, trivial⟩ ?_
  · intro A B E G H; exact rP (y_move (kp (H 0 rfl) E q3))
  · intro A B E G H d0; exact rP (y_add (ed d0 rfl rfl rfl) rfl (w64 (by omega) (by omega)))
  · intro A B E G H d0; exact rP (y_neg (ed d0 rfl rfl rfl) (w64 (by omega) (by omega)))
  · intro A B E G H d0 d1 d2 d3; exact rP (y_assign (ed d0 rfl rfl rfl))
  intro a3 s3 D3; have ok3 := D3.ok; have F3 := F2.step0 D3.stp; have q6 := D3.kt q4 rfl; have q7 := D3.dn 3 rfl rfl; clear D3; refine tn ?_; refine wp_seq ?_
  refine rg a3 s3 [(Ty.int (-(c + (1 : Int)))), (Ty.nat n), (Ty.nat (((-(c + (1 : Int)))).toNat % n)), (Ty.nat (((-(c + (1 : Int)))).toNat % n))] ok3 ⟨?_, ?_, ?_, ?_, trivial⟩ ?_
  · intro A B E G H; exact rP (y_move (kp (H 0 rfl) E q7))
  · intro A B E G H; exact rP (y_move (kp (H 1 rfl) E q6))
  · intro A B E G H d0 d1; exact rP (y_remN (toN (σ := B) (ed d0 rfl rfl rfl) (by omega)) (ed d1 rfl rfl rfl) (by omega))
  · intro A B E G H d0 d1 d2 d3; exact rP (y_assign (ed d0 rfl rfl rfl))
  intro a4 s4 D4; have ok4 := D4.ok; have F4 := F3.step0 D4.stp; have q8 := D4.dn 3 rfl rfl; clear D4; refine tn ?_; refine wp_ret ?_
  exact ret1 rfl ok4 F4 (cvi (by (unfold pick; rw [if_pos (by assumption)])) q8)
 ·
  refine wp_skip ?_; refine tn ?_; refine wp_seq ?_
  refine rg a2 s2 [(Ty.int c), (Ty.nat n), (Ty.nat ((c).toNat % n)), (Ty.nat ((c).toNat % n))] ok2 ⟨?_, ?_, ?_, ?_, trivial⟩ ?_
  · intro A B E G H; exact rP (y_move (kp (H 0 rfl) E q3))
  · intro A B E G H; exact rP (y_move (kp (H 1 rfl) E q4))
  · intro A B E G H d0 d1; exact rP (y_remN (toN (σ := B) (ed d0 rfl rfl rfl) (by omega)) (ed d1 rfl rfl rfl) (by omega))
  · intro A B E G H d0 d1 d2 d3; exact rP (y_assign (ed d0 rfl rfl rfl))
  intro a5 s5 D5; have ok5 := D5.ok; have F5 := F2.step0 D5.stp; have q9 := D5.dn 3 rfl rfl; clear D5; refine tn ?_; refine wp_ret ?_
  exact ret1 rfl ok5 F5 (cvi (by (unfold pick; rw [if_neg (by assumption)])) q9)

theorem Tryd.inf3 : Info Tryd.prog 3 (.int .i64 0) 1 8 := by unfold Info; kernel_rfl
set_option maxRecDepth 100000 in
theorem raw_fn (raw : List Int) (k : Nat) (σ : GW) (v0 v1 : Value) (hv0 : Ty.has (Ty.lst Ty.int raw) σ v0) (hv1 : Ty.has (Ty.nat k) σ v1)  :
    FnC Tryd.prog 41 #[v0, v1] σ (Ty.int (rawAt raw k)) := by
 refine fn_intro Tryd.func41 rfl Tryd.ntmps41 (Nat.le_of_ble_eq_true rfl) (fun s0 a0 hle F0 ok0 hargs => ?_)
 have p0 : At (Ty.lst Ty.int raw) s0 a0 (.tmp 0) := by have e := hargs 0 _ rfl; show Ty.has _ _ _; rw [e]; exact Ty.up _ hle hv0
 have b1 := sl_le p0
 have p1 : At (Ty.nat k) s0 a0 (.tmp 1) := by have e := hargs 1 _ rfl; show Ty.has _ _ _; rw [e]; exact Ty.up _ hle hv1
 clear hargs; refine wp_seq ?_
 refine rg a0 s0 [(Ty.int (0 : Int))] ok0 ⟨?_, trivial⟩ ?_
 · intro A B E G H; exact rP (y_assign rfl)
 intro a1 s1 D1; have ok1 := D1.ok; have F1 := F0.step0 D1.stp; have q1 := D1.kt p0 rfl; have q2 := D1.kt p1 rfl; clear D1; refine tn ?_; refine wp_seq ?_; refine wp_seq ?_
 refine rg a1 s1 [(Ty.lst Ty.int raw), (Ty.nat (List.length raw)), (Ty.bool (decide ((((List.length raw) : Nat) : Int) = (0 : Int))))] ok1 ⟨?_, ?_, ?_, trivial⟩ ?_
 · intro A B E G H; exact rP (y_move (kp (H 0 rfl) E q1))
 · intro A B E G H d0; exact rP (y_len Tryd.underlying26 (ed d0 rfl rfl rfl))
 · intro A B E G H d0; exact rP (y_eql (ed d0 rfl rfl rfl) rfl)
 intro a2 s2 D2; have ok2 := D2.ok; have F2 := F1.step0 D2.stp; have q3 := D2.kt q1 rfl; have q4 := D2.kt q2 rfl; have q5 := D2.dn 2 rfl rfl; clear D2; refine tn ?_
 refine cond_p (p := ((((List.length raw) : Nat) : Int) = (0 : Int))) q5 (fun c1 => ?_) (fun c1 => ?_)
 ·
  refine wp_seq ?_
  refine rg a2 s2 [(Ty.int (0 : Int))] ok2 ⟨?_, trivial⟩ ?_
  · intro A B E G H; exact rP (y_assign rfl)
  intro a3 s3 D3; have ok3 := D3.ok; have F3 := F2.step0 D3.stp; have q6 := D3.dn 0 rfl rfl; clear D3; refine tn ?_; refine wp_ret ?_; refine tr ?_
  exact ret1 rfl ok3 F3 (cvi (by (unfold rawAt; rw [if_pos (by omega)])) q6)
 ·
  have hml := Nat.mod_lt k (show 0 < raw.length by omega)
  refine wp_skip ?_; refine tn ?_; refine wp_seq ?_
  refine rg a2 s2 [(Ty.lst Ty.int raw), (Ty.nat k), (Ty.lst Ty.int raw), (Ty.nat (List.length raw)), (Ty.nat (k % (List.length raw))), (Ty.ref [(Ty.int (raw.getD (k % (List.length raw)) 0))]), (Ty.int (raw.getD (k % (List.length raw)) 0)), (Ty.int (raw.getD (k % (List.length raw)) 0))] ok2 ⟨?_, ?_, ?_, ?_, ?_, ?_, ?_, ?_, trivial⟩ ?_
  · intro A B E G H; exact rP (y_move (kp (H 0 rfl) E q3))
  · intro A B E G H; exact rP (y_move (kp (H 1 rfl) E q4))
  · intro A B E G H; exact rP (y_move (kp (H 0 rfl) E q3))
  · intro A B E G H d0; exact rP (y_len Tryd.underlying26 (ed d0 rfl rfl rfl))
  · intro A B E G H d0 d1; exact rP (y_remN (ed d0 rfl rfl rfl) (ed d1 rfl rfl rfl) (by omega))
  · intro A B E G H d0 d1; exact rP (y_index1 Tryd.underlying26 Tryd.inf3 (ed d0 rfl rfl rfl) (ed d1 rfl rfl rfl) (by omega) (lst_get Ty.int raw 0 (k % (List.length raw)) (by omega)))
  · intro A B E G H d0; exact rP (y_load Tryd.underlying3 rfl (ed d0 rfl rfl rfl) rfl)
  · intro A B E G H d0 d1 d2 d3 d4 d5 d6 d7; exact rP (y_assign (ed d0 rfl rfl rfl))
  intro a4 s4 D4; have ok4 := D4.ok; have F4 := F2.step0 D4.stp; have q7 := D4.dn 7 rfl rfl; clear D4; refine tn ?_; refine wp_ret ?_
  exact ret1 rfl ok4 F4 (cvi (by (unfold rawAt; rw [if_neg (by omega)])) q7)


set_option maxRecDepth 100000 in
theorem changeOf_fn (c : Int) (n : Nat) (σ : GW) (v0 v1 : Value) (hv0 : Ty.has (Ty.int c) σ v0) (hv1 : Ty.has (Ty.nat n) σ v1) (hc : -9223372036854775808 ≤ c ∧ c ≤ 9223372036854775807) (hn : n ≤ 100) :
    FnC Tryd.prog 56 #[v0, v1] σ (Ty.lst Ty.int (changeOf c n)) := by
 refine fn_intro Tryd.func56 rfl Tryd.ntmps56 (Nat.le_of_ble_eq_true rfl) (fun s0 a0 hle F0 ok0 hargs => ?_)
 have p0 : At (Ty.int c) s0 a0 (.tmp 0) := by have e := hargs 0 _ rfl; show Ty.has _ _ _; rw [e]; exact Ty.up _ hle hv0
 have p1 : At (Ty.nat n) s0 a0 (.tmp 1) := by have e := hargs 1 _ rfl; show Ty.has _ _ _; rw [e]; exact Ty.up _ hle hv1
 clear hargs; refine wp_seq ?_
 refine rg a0 s0 [(Ty.val (Value.slice none 0 0))] ok0 ⟨?_, trivial⟩ ?_
 · intro A B E G H; exact rP (y_assign rfl)
 intro a1 s1 D1; have ok1 := D1.ok; have F1 := F0.step0 D1.stp; have q1 := D1.kt p0 rfl; have q2 := D1.kt p1 rfl; clear D1; refine tn ?_; refine wp_seq ?_
 refine rg a1 s1 [(Ty.int c), (Ty.nat (pick c (1099511627776))), (Ty.nat (pick c (1099511627776)))] ok1 ⟨?_, ?_, ?_, trivial⟩ ?_
 · intro A B E G H; exact rP (y_move (kp (H 0 rfl) E q1))
 · intro A B E G H d0; exact rP (y_call #[A.eval (.tmp 7), A.eval ((Operand.const (Value.int IntKind.i64 1099511627776)))] Tryd.func17 rfl rfl (by simp only [List.map_toArray, List.map_cons, List.map_nil]) (pick_fn (c) (1099511627776) _ _ _ (ed d0 rfl rfl rfl) rfl (by omega) (by omega)))
 · intro A B E G H d0 d1 d2 d3; exact rP (y_assign (ed d0 rfl rfl rfl))
 intro a2 s2 D2; have ok2 := D2.ok; have F2 := F1.step0 D2.stp; have q3 := D2.kt q2 rfl; have q4 := D2.dn 2 rfl rfl; clear D2; refine tn ?_; refine wp_seq ?_
 refine rg a2 s2 [(Ty.val (Value.slice none 0 0))] ok2 ⟨?_, trivial⟩ ?_
 · intro A B E G H; exact rP (y_assign rfl)
 intro a3 s3 D3; have ok3 := D3.ok; have F3 := F2.step0 D3.stp; have q5 := D3.kt q3 rfl; have q6 := D3.kt q4 rfl; have q7 := D3.dn 0 rfl rfl; clear D3; refine tn ?_; refine wp_seq ?_
 refine rg a3 s3 [(Ty.int (1 : Int))] ok3 ⟨?_, trivial⟩ ?_
 · intro A B E G H; exact rP (y_assign rfl)
 intro a4 s4 D4; have ok4 := D4.ok; have F4 := F3.step0 D4.stp; have q8 := D4.kt q5 rfl; have q9 := D4.kt q6 rfl; have q10 := D4.kt q7 rfl; have q11 := D4.dn 0 rfl rfl; clear D4; refine tn ?_; refine wp_seq ?_; refine wp_block ?_
 refine loop (fun n1 a5 w1 => ∃ (t1 : GW) (xs : List Int) (d : Nat) (t : Nat) (f : Nat), t1.w = w1 ∧ From s0 t1 ∧ Ok 31 a5 ∧ (Pr.own 2 3 1 (List.length xs) (List.map Ty.int xs)).has t1 (a5.eval (.tmp 5)) ∧ At (Ty.nat d) t1 a5 (.tmp 0) ∧ At (Ty.nat t) t1 a5 (.tmp 6) ∧ At (Ty.nat n) t1 a5 (.tmp 1) ∧ (xs.length ≤ t) ∧ (1 ≤ t) ∧ (t ≤ n + 2) ∧ (d ≤ 1099511627776) ∧ (n + 1 ≤ f + t) ∧ (xs ++ chgF f d t n = changeOf c n) ∧ n1 = n + 3 - t) (n + 3 - (1)) ?_ ?_
 ·
  exact ⟨s4, [], (pick c 1099511627776), 1, (n+1), rfl, F4, ok4, (by have e : a4.eval (.tmp 5) = _ := q10; rw [e]; exact Own.nil _ _ _ _), (cvi (by (first | rfl | omega | (simp_all; done) | (simp_all; omega))) q9), (cvi (by (first | rfl | omega | (simp_all; done) | (simp_all; omega))) q11), q8, by simp, by omega, by omega, by have := pick_lt c (n := 1099511627776) (by omega); omega, by omega, rfl, rfl⟩
 ·
  rintro n2 a6 w2 ⟨t2, xs, d, t, f, rfl, F5, ok5, q12, q13, q14, q15, hxs, ht, ht2, hd, hf, heq, rfl⟩
  refine wp_seq ?_; refine wp_seq ?_
  refine reg (a := a6) (σ := t2) rfl (fun i_ => List.getD [(Ty.pr (Ty.nat t)), (Ty.pr (Ty.nat n)), (Ty.pr (Ty.bool (decide (((t : Nat) : Int) ≤ ((n : Nat) : Int)))))] i_ Pr.any) ok5 rfl ⟨?_, ?_, ?_, trivial⟩ ?_
  · intro A B E G H; exact rP (y_move (kp (H 6 rfl) E q14))
  · intro A B E G H; exact rP (y_move (kp (H 1 rfl) E q15))
  · intro A B E G H d0 d1; exact rP (y_leq (ed d0 rfl rfl rfl) (ed d1 rfl rfl rfl))
  intro a7 s5 D5; have ok6 := D5.ok; have F6 := F5.step0 D5.stp
  have q16 : (Pr.own 2 3 1 (List.length xs) (List.map Ty.int xs)).has s5 (a7.eval (.tmp 5)) := D5.ko q12 rfl
  have q17 := D5.kt q13 rfl; have q18 := D5.kt q14 rfl; have q19 := D5.kt q15 rfl; have q20 := D5.dn 2 rfl rfl; clear D5; refine tn ?_
  refine cond_p (p := (((t : Nat) : Int) ≤ ((n : Nat) : Int))) q20 (fun c1 => ?_) (fun c1 => ?_)
  ·
   refine wp_skip ?_; refine tn ?_; refine wp_block ?_; refine wp_seq ?_; refine wp_seq ?_
   refine rg a7 s5 [(Ty.nat d), (Ty.nat (d % 3)), (Ty.bool (decide ((((d % 3) : Nat) : Int) = (0 : Int)))), (Ty.bool (decide ((((d % 3) : Nat) : Int) = (0 : Int)))), (Ty.grd ((decide ((((d % 3) : Nat) : Int) = (0 : Int))) = false) (Ty.nat t)), (Ty.grd ((decide ((((d % 3) : Nat) : Int) = (0 : Int))) = false) (Ty.nat n)), (Ty.grd ((decide ((((d % 3) : Nat) : Int) = (0 : Int))) = false) (Ty.bool (decide (((t : Nat) : Int) = ((n : Nat) : Int))))), (Ty.bool ((decide ((((d % 3) : Nat) : Int) = (0 : Int))) || (decide (((t : Nat) : Int) = ((n : Nat) : Int)))))] ok6 ⟨?_, ?_, ?_, ?_, ?_, ?_, ?_, ?_, trivial⟩ ?_
   · intro A B E G H; exact rP (y_move (kp (H 0 rfl) E q17))
   · intro A B E G H d0; exact rP (y_remN (ed d0 rfl rfl rfl) (toN (σ := B) rfl (by omega)) (by omega))
   · intro A B E G H d0; exact rP (y_eql (ed d0 rfl rfl rfl) rfl)
   · intro A B E G H d0; exact rP (y_move (ed d0 rfl rfl rfl))
   · intro A B E G H d0
     refine run_guard G rfl rfl (by decide) (ed d0 rfl rfl rfl) (fun hg => ?_)
     have hp := of_decide_eq_false hg
     exact y_move (kp (H 6 rfl) E q18)
   · intro A B E G H d0
     refine run_guard G rfl rfl (by decide) (ed d0 rfl rfl rfl) (fun hg => ?_)
     have hp := of_decide_eq_false hg
     exact y_move (kp (H 1 rfl) E q19)
   · intro A B E G H d0 d1 d2
     refine run_guard G rfl rfl (by decide) (ed d2 rfl rfl rfl) (fun hg => ?_)
     have hp := of_decide_eq_false hg
     exact y_eql ((ed d0 rfl rfl rfl).1 hg) ((ed d1 rfl rfl rfl).1 hg)
   · intro A B E G H d0 d1; exact rP (y_pick_or (ed d0 rfl rfl rfl) rfl (ed d1 rfl rfl rfl))
   intro a8 s6 D6; have ok7 := D6.ok; have F7 := F6.step0 D6.stp
   have q21 : (Pr.own 2 3 1 (List.length xs) (List.map Ty.int xs)).has s6 (a8.eval (.tmp 5)) := D6.ko q16 rfl
   have q22 := D6.kt q17 rfl; have q23 := D6.kt q18 rfl; have q24 := D6.kt q19 rfl; have q25 := D6.dn 7 rfl rfl; clear D6; refine tn ?_
   refine cond_t q25 (fun c2 => ?_) (fun c2 => ?_)
   ·
    refine wp_seq ?_
    refine reg2 (a := a8) (σ := s6) rfl 3 (fun i_ => List.getD [(Ty.pr (Ty.val (a8.eval (.tmp 5)))), (Ty.pr (Ty.nat t)), (Ty.pr (Ty.sl 1 1 [(Ty.nat t)]))] i_ Pr.any) ok7 rfl (by decide) rfl ⟨?_, ?_, ?_, trivial⟩ ?_
    · intro A B E G H; exact rP (y_move (H 5 rfl))
    · intro A B E G H; exact rP (y_move (kp (H 6 rfl) E q23))
    · intro A B E G H d0; exact rP (y_build1o Tryd.underlying26 Tryd.inf3 rfl (one_val rfl) (ed d0 rfl rfl rfl))
    intro a9 s7 D7; have ok8 := D7.ok; have F8 := F7.step0 D7.stp; have q26 := (Pr.own 2 3 1 (List.length xs) (List.map Ty.int xs)).up D7.stp q21
    have q27 : a9.eval (.tmp 5) = a8.eval (.tmp 5) := D7.same 5 rfl
    have q28 := D7.kt q22 rfl; have q29 := D7.kt q23 rfl; have q30 := D7.kt q24 rfl; have q31 := D7.dn 0 (by decide) rfl rfl; have q32 := D7.dn 2 (by decide) rfl rfl; clear D7
    refine tail_step (m := 2) (R := (fun v τ => Own τ 2 3 1 v ((List.length xs) + 1) ((List.map Ty.int xs) ++ [(Ty.nat t)]))) rfl rfl (by decide) ok8 (m_append Tryd.underlying26 Tryd.inf3 (by decide) rfl (by decide) (al q31 q26) q32 (by intro U hU; simp at hU;  subst hU; exact one_val rfl) (by omega) (by omega)) (fun a10 s8 hs1 ok9 r1 sm1 => ?_)
    have F9 := F8.step hs1 (by decide)
    have q33 : At (Ty.nat d) s8 a10 (.tmp 0) := kpm hs1 (by decide) (sm1 0 (by decide)) q28
    have q34 : At (Ty.nat t) s8 a10 (.tmp 6) := kpm hs1 (by decide) (sm1 6 (by decide)) q29
    have q35 : At (Ty.nat n) s8 a10 (.tmp 1) := kpm hs1 (by decide) (sm1 1 (by decide)) q30
    have q36 : At (Ty.sl 1 1 [(Ty.nat t)]) s8 a10 (.tmp 22) := kpm hs1 (by decide) (sm1 22 (by decide)) q32
    have q37 : (Pr.own 2 3 1 (List.length (xs ++ [((t : Nat) : Int)])) (List.map Ty.int (xs ++ [((t : Nat) : Int)]))).has s8 (a10.eval (.tmp 23)) := (cvo (by simp) (by first | (rw [List.map_append]; rfl) | simp) r1)
    refine tail_step (m := 0) (R := (fun v τ => Pr.has (Pr.own 2 3 1 (List.length (xs ++ [((t : Nat) : Int)])) (List.map Ty.int (xs ++ [((t : Nat) : Int)]))) τ v)) rfl rfl (by decide) ok9 (Yld.toM (y_assign q37)) (fun a11 s9 hs2 ok10 r2 sm2 => ?_)
    have F10 := F9.step hs2 (by decide)
    have q38 : At (Ty.nat d) s9 a11 (.tmp 0) := kpm hs2 (by decide) (sm2 0 (by decide)) q33
    have q39 : At (Ty.nat t) s9 a11 (.tmp 6) := kpm hs2 (by decide) (sm2 6 (by decide)) q34
    have q40 : At (Ty.nat n) s9 a11 (.tmp 1) := kpm hs2 (by decide) (sm2 1 (by decide)) q35
    have q41 : At (Ty.sl 1 1 [(Ty.nat t)]) s9 a11 (.tmp 22) := kpm hs2 (by decide) (sm2 22 (by decide)) q36
    have q42 : (Pr.own 2 3 1 (List.length (xs ++ [((t : Nat) : Int)])) (List.map Ty.int (xs ++ [((t : Nat) : Int)]))).has s9 (a11.eval (.tmp 23)) := kpmo hs2 (by decide) (.inl rfl) (sm2 23 (by decide)) q37
    have q43 : (Pr.own 2 3 1 (List.length (xs ++ [((t : Nat) : Int)])) (List.map Ty.int (xs ++ [((t : Nat) : Int)]))).has s9 (a11.eval (.tmp 5)) := r2
    refine wpList_nil ?_; refine tn ?_
    refine rg a11 s9 [(Ty.nat t), (Ty.int (((t : Nat) : Int) + (1 : Int))), (Ty.int (((t : Nat) : Int) + (1 : Int)))] ok10 ⟨?_, ?_, ?_, trivial⟩ ?_
    · intro A B E G H; exact rP (y_move (kp (H 6 rfl) E q39))
    · intro A B E G H d0; exact rP (y_add (ed d0 rfl rfl rfl) rfl (w64 (by omega) (by omega)))
    · intro A B E G H d0 d1 d2; exact rP (y_assign (ed d0 rfl rfl rfl))
    intro a12 s10 D8; have ok11 := D8.ok; have F11 := F10.step0 D8.stp; have q44 := D8.kt q38 rfl; have q45 := D8.kt q40 rfl
    have q46 : (Pr.own 2 3 1 (List.length (xs ++ [((t : Nat) : Int)])) (List.map Ty.int (xs ++ [((t : Nat) : Int)]))).has s10 (a12.eval (.tmp 5)) := D8.ko q43 rfl
    have q47 := D8.dn 2 rfl rfl; clear D8; refine tn ?_
    refine rg a12 s10 [(Ty.nat d), (Ty.nat (d / 3)), (Ty.nat (d / 3))] ok11 ⟨?_, ?_, ?_, trivial⟩ ?_
    · intro A B E G H; exact rP (y_move (kp (H 0 rfl) E q44))
    · intro A B E G H d0; exact rP (y_quoN (ed d0 rfl rfl rfl) (toN (σ := B) rfl (by omega)) (by omega) (by omega))
    · intro A B E G H d0 d1 d2; exact rP (y_assign (ed d0 rfl rfl rfl))
    intro a13 s11 D9; have ok12 := D9.ok; have F12 := F11.step0 D9.stp; have q48 := D9.kt q45 rfl
    have q49 : (Pr.own 2 3 1 (List.length (xs ++ [((t : Nat) : Int)])) (List.map Ty.int (xs ++ [((t : Nat) : Int)]))).has s11 (a13.eval (.tmp 5)) := D9.ko q46 rfl
    have q50 := D9.kt q47 rfl; have q51 := D9.dn 2 rfl rfl; clear D9; refine bn ?_
    exact tn ⟨n + 3 - ((t+1)), by omega, s11, (xs ++ [((t : Nat) : Int)]), (d / 3), (t+1), (f-1), rfl, F12, ok12, (cvo (by (simp)) (by (simp)) q49), (cvi (by (first | rfl | omega | (simp_all; done) | (simp_all; omega))) q51), (cvi (by (first | rfl | omega | (simp_all; done) | (simp_all; omega))) q50), q48, by simp; omega, by omega, by omega, by omega, by omega, chgF_yes heq (by omega) (by omega) (by simp only [Bool.or_eq_true, decide_eq_true_eq] at c2; omega), rfl⟩
   ·
    obtain ⟨d1, d2⟩ := Bool.or_eq_false_iff.mp c2
    replace d1 := of_decide_eq_false d1
    replace d2 := of_decide_eq_false d2
    refine rg a8 s6 [(Ty.nat t), (Ty.int (((t : Nat) : Int) + (2 : Int))), (Ty.int (((t : Nat) : Int) + (2 : Int)))] ok7 ⟨?_, ?_, ?_, trivial⟩ ?_
    · intro A B E G H; exact rP (y_move (kp (H 6 rfl) E q23))
    · intro A B E G H d0; exact rP (y_add (ed d0 rfl rfl rfl) rfl (w64 (by omega) (by omega)))
    · intro A B E G H d0 d1 d2; exact rP (y_assign (ed d0 rfl rfl rfl))
    intro a14 s12 D10; have ok13 := D10.ok; have F13 := F7.step0 D10.stp
    have q52 : (Pr.own 2 3 1 (List.length xs) (List.map Ty.int xs)).has s12 (a14.eval (.tmp 5)) := D10.ko q21 rfl
    have q53 := D10.kt q22 rfl; have q54 := D10.kt q24 rfl; have q55 := D10.dn 2 rfl rfl; clear D10; refine tn ?_
    refine rg a14 s12 [(Ty.nat d), (Ty.nat (d / 3)), (Ty.nat (d / 3))] ok13 ⟨?_, ?_, ?_, trivial⟩ ?_
    · intro A B E G H; exact rP (y_move (kp (H 0 rfl) E q53))
    · intro A B E G H d0; exact rP (y_quoN (ed d0 rfl rfl rfl) (toN (σ := B) rfl (by omega)) (by omega) (by omega))
    · intro A B E G H d0 d1 d2; exact rP (y_assign (ed d0 rfl rfl rfl))
    intro a15 s13 D11; have ok14 := D11.ok; have F14 := F13.step0 D11.stp
    have q56 : (Pr.own 2 3 1 (List.length xs) (List.map Ty.int xs)).has s13 (a15.eval (.tmp 5)) := D11.ko q52 rfl
    have q57 := D11.kt q54 rfl; have q58 := D11.kt q55 rfl; have q59 := D11.dn 2 rfl rfl; clear D11; refine bn ?_
    exact tn ⟨n + 3 - ((t+2)), by omega, s13, xs, (d / 3), (t+2), (f-1), rfl, F14, ok14, q56, (cvi (by (first | rfl | omega | (simp_all; done) | (simp_all; omega))) q59), (cvi (by (first | rfl | omega | (simp_all; done) | (simp_all; omega))) q58), q57, by omega, by omega, by omega, by omega, by omega, chgF_no heq (by omega) (by omega) (by simp only [Bool.or_eq_false_iff, decide_eq_false_iff_not] at c2; omega), rfl⟩
  ·
   refine wp_exit ?_; refine tx ?_; refine tx ?_; refine bx ?_; refine tn ?_; refine wp_seq ?_
   refine rg a7 s5 [(Ty.val (a7.eval (.tmp 5))), (Ty.val (a7.eval (.tmp 5)))] ok6 ⟨?_, ?_, trivial⟩ ?_
   · intro A B E G H; exact rP (y_move (H 5 rfl))
   · intro A B E G H d0 d1; exact rP (y_assign (ed d0 rfl rfl rfl))
   intro a16 s14 D12; have ok15 := D12.ok; have F15 := F6.step0 D12.stp
   have q60 : (Pr.own 2 3 1 (List.length xs) (List.map Ty.int xs)).has s14 (a16.eval (.tmp 4)) := al (show _ = _ from D12.done 1) ((Pr.own 2 3 1 (List.length xs) (List.map Ty.int xs)).up D12.stp q16)
   clear D12; refine tn ?_; refine wp_ret ?_
   obtain ⟨t3, e1, h1, q61⟩ := Own.seal q60 (by decide)
   rw [← e1]
   have F16 := F15.step h1 (by decide)
   exact ret1 rfl ok15 F16 (cvt (by (rw [← heq, chgF_end (by omega), List.append_nil])) q61)

theorem Tryd.inf26 : Info Tryd.prog 26 (.slice none 0 0) 1 24 := by unfold Info; kernel_rfl
set_option maxRecDepth 100000 in
theorem changesOf_fn (raw : List Int) (b : Nat) (n : Nat) (many : Nat) (σ : GW) (v0 v1 v2 v3 : Value) (hv0 : Ty.has (Ty.lst Ty.int raw) σ v0) (hv1 : Ty.has (Ty.nat b) σ v1) (hv2 : Ty.has (Ty.nat n) σ v2) (hv3 : Ty.has (Ty.nat many) σ v3) (hn : n ≤ 100) (hm : many ≤ 1000) (hb : b ≤ 1000) (hr : ∀ k, -9223372036854775808 ≤ rawAt raw k ∧ rawAt raw k ≤ 9223372036854775807) :
    FnC Tryd.prog 40 #[v0, v1, v2, v3] σ (Ty.lst Ty.ints (changesOf raw b n many)) := by
 refine fn_intro Tryd.func40 rfl Tryd.ntmps40 (Nat.le_of_ble_eq_true rfl) (fun s0 a0 hle F0 ok0 hargs => ?_)
 have p0 : At (Ty.lst Ty.int raw) s0 a0 (.tmp 0) := by have e := hargs 0 _ rfl; show Ty.has _ _ _; rw [e]; exact Ty.up _ hle hv0
 have b1 := sl_le p0
 have p1 : At (Ty.nat b) s0 a0 (.tmp 1) := by have e := hargs 1 _ rfl; show Ty.has _ _ _; rw [e]; exact Ty.up _ hle hv1
 have p2 : At (Ty.nat n) s0 a0 (.tmp 2) := by have e := hargs 2 _ rfl; show Ty.has _ _ _; rw [e]; exact Ty.up _ hle hv2
 have p3 : At (Ty.nat many) s0 a0 (.tmp 3) := by have e := hargs 3 _ rfl; show Ty.has _ _ _; rw [e]; exact Ty.up _ hle hv3
 clear hargs; refine wp_seq ?_
 refine rg a0 s0 [(Ty.val (Value.slice none 0 0))] ok0 ⟨?_, trivial⟩ ?_
 · intro A B E G H; exact rP (y_assign rfl)
 intro a1 s1 D1; have ok1 := D1.ok; have F1 := F0.step0 D1.stp; have q1 := D1.kt p0 rfl; have q2 := D1.kt p1 rfl; have q3 := D1.kt p2 rfl; have q4 := D1.kt p3 rfl; clear D1; refine tn ?_; refine wp_seq ?_
 refine rg a1 s1 [(Ty.val (Value.slice none 0 0))] ok1 ⟨?_, trivial⟩ ?_
 · intro A B E G H; exact rP (y_assign rfl)
 intro a2 s2 D2; have ok2 := D2.ok; have F2 := F1.step0 D2.stp; have q5 := D2.kt q1 rfl; have q6 := D2.kt q2 rfl; have q7 := D2.kt q3 rfl; have q8 := D2.kt q4 rfl; have q9 := D2.dn 0 rfl rfl; clear D2; refine tn ?_; refine wp_seq ?_; refine wp_seq ?_
 refine rg a2 s2 [(Ty.int (0 : Int))] ok2 ⟨?_, trivial⟩ ?_
 · intro A B E G H; exact rP (y_assign rfl)
 intro a3 s3 D3; have ok3 := D3.ok; have F3 := F2.step0 D3.stp; have q10 := D3.kt q5 rfl; have q11 := D3.kt q6 rfl; have q12 := D3.kt q7 rfl; have q13 := D3.kt q8 rfl; have q14 := D3.kt q9 rfl; have q15 := D3.dn 0 rfl rfl; clear D3; refine tn ?_; refine wp_block ?_
 refine loop (fun n1 a4 w1 => ∃ (t1 : GW) (k : Nat), t1.w = w1 ∧ From s0 t1 ∧ Ok 29 a4 ∧ (Pr.own 2 26 1 (List.length (changesOf raw b n k)) (List.map Ty.ints (changesOf raw b n k))).has t1 (a4.eval (.tmp 9)) ∧ At (Ty.nat k) t1 a4 (.tmp 10) ∧ At (Ty.lst Ty.int raw) t1 a4 (.tmp 0) ∧ At (Ty.nat b) t1 a4 (.tmp 1) ∧ At (Ty.nat n) t1 a4 (.tmp 2) ∧ At (Ty.nat many) t1 a4 (.tmp 3) ∧ (k ≤ many) ∧ n1 = many - k) (many - (0)) ?_ ?_
 ·
  exact ⟨s3, 0, rfl, F3, ok3, (by have e : a3.eval (.tmp 9) = _ := q14; rw [e]; exact Own.nil _ _ _ _), (cvi (by (first | rfl | omega | (simp_all; done) | (simp_all; omega))) q15), q10, q11, q12, q13, by omega, rfl⟩
 ·
  rintro n2 a5 w2 ⟨t2, k, rfl, F4, ok4, q16, q17, q18, q19, q20, q21, hk, rfl⟩
  have hp := changesOf_len raw b n k
  have hrk := hr (b + k)
  refine wp_seq ?_; refine wp_seq ?_
  refine reg (a := a5) (σ := t2) rfl (fun i_ => List.getD [(Ty.pr (Ty.nat k)), (Ty.pr (Ty.nat many)), (Ty.pr (Ty.bool (decide (((k : Nat) : Int) < ((many : Nat) : Int)))))] i_ Pr.any) ok4 rfl ⟨?_, ?_, ?_, trivial⟩ ?_
  · intro A B E G H; exact rP (y_move (kp (H 10 rfl) E q17))
  · intro A B E G H; exact rP (y_move (kp (H 3 rfl) E q21))
  · intro A B E G H d0 d1; exact rP (y_lss (ed d0 rfl rfl rfl) (ed d1 rfl rfl rfl))
  intro a6 s4 D4; have ok5 := D4.ok; have F5 := F4.step0 D4.stp
  have q22 : (Pr.own 2 26 1 (List.length (changesOf raw b n k)) (List.map Ty.ints (changesOf raw b n k))).has s4 (a6.eval (.tmp 9)) := D4.ko q16 rfl
  have q23 := D4.kt q17 rfl; have q24 := D4.kt q18 rfl; have q25 := D4.kt q19 rfl; have q26 := D4.kt q20 rfl; have q27 := D4.kt q21 rfl; have q28 := D4.dn 2 rfl rfl; clear D4; refine tn ?_
  refine cond_p (p := (((k : Nat) : Int) < ((many : Nat) : Int))) q28 (fun c1 => ?_) (fun c1 => ?_)
  ·
   refine wp_skip ?_; refine tn ?_; refine wp_seq ?_; refine wp_block ?_; refine wp_seq ?_
   refine rg a6 s4 [(Ty.lst Ty.int raw), (Ty.nat b), (Ty.nat k), (Ty.nat (b + k)), (Ty.int (rawAt raw ((b + k)))), (Ty.nat n), (Ty.lst Ty.int (changeOf ((rawAt raw ((b + k)))) n)), (Ty.lst Ty.int (changeOf ((rawAt raw ((b + k)))) n))] ok5 ⟨?_, ?_, ?_, ?_, ?_, ?_, ?_, ?_, trivial⟩ ?_
   · intro A B E G H; exact rP (y_move (kp (H 0 rfl) E q24))
   · intro A B E G H; exact rP (y_move (kp (H 1 rfl) E q25))
   · intro A B E G H; exact rP (y_move (kp (H 10 rfl) E q23))
   · intro A B E G H d0 d1; exact rP ((y_add (ed d0 rfl rfl rfl) (ed d1 rfl rfl rfl) (w64 (by omega) (by omega))).mono (fun τ _ h => cvi (σ := τ) (by first | omega | exact (Int.natCast_mul _ _).symm) h))
   · intro A B E G H d0 d1; exact rP (y_call #[A.eval (.tmp 17), A.eval (.tmp 20)] Tryd.func41 rfl rfl (by simp only [List.map_toArray, List.map_cons, List.map_nil]) (raw_fn (raw) ((b + k)) _ _ _ (ed d0 rfl rfl rfl) (ed d1 rfl rfl rfl) ))
   · intro A B E G H; exact rP (y_move (kp (H 2 rfl) E q26))
   · intro A B E G H d0 d1 d2; exact rP (y_call #[A.eval (.tmp 21), A.eval (.tmp 22)] Tryd.func56 rfl rfl (by simp only [List.map_toArray, List.map_cons, List.map_nil]) (changeOf_fn ((rawAt raw ((b + k)))) (n) _ _ _ (ed d0 rfl rfl rfl) (ed d1 rfl rfl rfl) (by omega) (by omega)))
   · intro A B E G H d0 d1 d2 d3 d4 d5 d6 d7 d8; exact rP (y_assign (ed d0 rfl rfl rfl))
   intro a7 s5 D5; have ok6 := D5.ok; have F6 := F5.step0 D5.stp
   have q29 : (Pr.own 2 26 1 (List.length (changesOf raw b n k)) (List.map Ty.ints (changesOf raw b n k))).has s5 (a7.eval (.tmp 9)) := D5.ko q22 rfl
   have q30 := D5.kt q23 rfl; have q31 := D5.kt q24 rfl; have q32 := D5.kt q25 rfl; have q33 := D5.kt q26 rfl; have q34 := D5.kt q27 rfl; have q35 := D5.dn 7 rfl rfl; clear D5; refine tn ?_
   refine reg2 (a := a7) (σ := s5) rfl 3 (fun i_ => List.getD [(Ty.pr (Ty.val (a7.eval (.tmp 9)))), (Ty.pr (Ty.lst Ty.int (changeOf ((rawAt raw ((b + k)))) n))), (Ty.pr (Ty.sl 1 1 [(Ty.lst Ty.int (changeOf ((rawAt raw ((b + k)))) n))]))] i_ Pr.any) ok6 rfl (by decide) rfl ⟨?_, ?_, ?_, trivial⟩ ?_
   · intro A B E G H; exact rP (y_move (H 9 rfl))
   · intro A B E G H; exact rP (y_move (kp (H 11 rfl) E q35))
   · intro A B E G H d0; exact rP (y_build1o Tryd.underlying22 Tryd.inf26 rfl (one_sl) (ed d0 rfl rfl rfl))
   intro a8 s6 D6; have ok7 := D6.ok; have F7 := F6.step0 D6.stp; have q36 := (Pr.own 2 26 1 (List.length (changesOf raw b n k)) (List.map Ty.ints (changesOf raw b n k))).up D6.stp q29
   have q37 : a8.eval (.tmp 9) = a7.eval (.tmp 9) := D6.same 9 rfl
   have q38 := D6.kt q30 rfl; have q39 := D6.kt q31 rfl; have q40 := D6.kt q32 rfl; have q41 := D6.kt q33 rfl; have q42 := D6.kt q34 rfl; have q43 := D6.dn 0 (by decide) rfl rfl; have q44 := D6.dn 2 (by decide) rfl rfl; clear D6
   refine tail_step (m := 2) (R := (fun v τ => Own τ 2 26 1 v ((List.length (changesOf raw b n k)) + 1) ((List.map Ty.ints (changesOf raw b n k)) ++ [(Ty.lst Ty.int (changeOf ((rawAt raw ((b + k)))) n))]))) rfl rfl (by decide) ok7 (m_append Tryd.underlying22 Tryd.inf26 (by decide) rfl (by decide) (al q43 q36) q44 (by intro U hU; simp at hU;  subst hU; exact one_sl) (by omega) (by omega)) (fun a9 s7 hs1 ok8 r1 sm1 => ?_)
   have F8 := F7.step hs1 (by decide)
   have q45 : At (Ty.nat k) s7 a9 (.tmp 10) := kpm hs1 (by decide) (sm1 10 (by decide)) q38
   have q46 : At (Ty.lst Ty.int raw) s7 a9 (.tmp 0) := kpm hs1 (by decide) (sm1 0 (by decide)) q39
   have q47 : At (Ty.nat b) s7 a9 (.tmp 1) := kpm hs1 (by decide) (sm1 1 (by decide)) q40
   have q48 : At (Ty.nat n) s7 a9 (.tmp 2) := kpm hs1 (by decide) (sm1 2 (by decide)) q41
   have q49 : At (Ty.nat many) s7 a9 (.tmp 3) := kpm hs1 (by decide) (sm1 3 (by decide)) q42
   have q50 : At (Ty.sl 1 1 [(Ty.lst Ty.int (changeOf ((rawAt raw ((b + k)))) n))]) s7 a9 (.tmp 26) := kpm hs1 (by decide) (sm1 26 (by decide)) q44
   have q51 : (Pr.own 2 26 1 (List.length ((changesOf raw b n k) ++ [(changeOf ((rawAt raw ((b + k)))) n)])) (List.map Ty.ints ((changesOf raw b n k) ++ [(changeOf ((rawAt raw ((b + k)))) n)]))).has s7 (a9.eval (.tmp 27)) := (cvo (by simp) (by first | (rw [List.map_append]; rfl) | simp) r1)
   refine tail_step (m := 0) (R := (fun v τ => Pr.has (Pr.own 2 26 1 (List.length ((changesOf raw b n k) ++ [(changeOf ((rawAt raw ((b + k)))) n)])) (List.map Ty.ints ((changesOf raw b n k) ++ [(changeOf ((rawAt raw ((b + k)))) n)]))) τ v)) rfl rfl (by decide) ok8 (Yld.toM (y_assign q51)) (fun a10 s8 hs2 ok9 r2 sm2 => ?_)
   have F9 := F8.step hs2 (by decide)
   have q52 : At (Ty.nat k) s8 a10 (.tmp 10) := kpm hs2 (by decide) (sm2 10 (by decide)) q45
   have q53 : At (Ty.lst Ty.int raw) s8 a10 (.tmp 0) := kpm hs2 (by decide) (sm2 0 (by decide)) q46
   have q54 : At (Ty.nat b) s8 a10 (.tmp 1) := kpm hs2 (by decide) (sm2 1 (by decide)) q47
   have q55 : At (Ty.nat n) s8 a10 (.tmp 2) := kpm hs2 (by decide) (sm2 2 (by decide)) q48
   have q56 : At (Ty.nat many) s8 a10 (.tmp 3) := kpm hs2 (by decide) (sm2 3 (by decide)) q49
   have q57 : At (Ty.sl 1 1 [(Ty.lst Ty.int (changeOf ((rawAt raw ((b + k)))) n))]) s8 a10 (.tmp 26) := kpm hs2 (by decide) (sm2 26 (by decide)) q50
   have q58 : (Pr.own 2 26 1 (List.length ((changesOf raw b n k) ++ [(changeOf ((rawAt raw ((b + k)))) n)])) (List.map Ty.ints ((changesOf raw b n k) ++ [(changeOf ((rawAt raw ((b + k)))) n)]))).has s8 (a10.eval (.tmp 27)) := kpmo hs2 (by decide) (.inl rfl) (sm2 27 (by decide)) q51
   have q59 : (Pr.own 2 26 1 (List.length ((changesOf raw b n k) ++ [(changeOf ((rawAt raw ((b + k)))) n)])) (List.map Ty.ints ((changesOf raw b n k) ++ [(changeOf ((rawAt raw ((b + k)))) n)]))).has s8 (a10.eval (.tmp 9)) := r2
   refine wpList_nil ?_; refine bn ?_; refine tn ?_
   refine rg a10 s8 [(Ty.nat k), (Ty.nat (k + 1)), (Ty.nat (k + 1))] ok9 ⟨?_, ?_, ?_, trivial⟩ ?_
   · intro A B E G H; exact rP (y_move (kp (H 10 rfl) E q52))
   · intro A B E G H d0; exact rP ((y_add (ed d0 rfl rfl rfl) rfl (w64 (by omega) (by omega))).mono (fun τ _ h => cvi (σ := τ) (by first | omega | exact (Int.natCast_mul _ _).symm) h))
   · intro A B E G H d0 d1 d2; exact rP (y_assign (ed d0 rfl rfl rfl))
   intro a11 s9 D7; have ok10 := D7.ok; have F10 := F9.step0 D7.stp; have q60 := D7.kt q53 rfl; have q61 := D7.kt q54 rfl; have q62 := D7.kt q55 rfl; have q63 := D7.kt q56 rfl
   have q64 : (Pr.own 2 26 1 (List.length ((changesOf raw b n k) ++ [(changeOf ((rawAt raw ((b + k)))) n)])) (List.map Ty.ints ((changesOf raw b n k) ++ [(changeOf ((rawAt raw ((b + k)))) n)]))).has s9 (a11.eval (.tmp 9)) := D7.ko q59 rfl
   have q65 := D7.dn 2 rfl rfl; clear D7
   exact tn ⟨many - ((k+1)), by omega, s9, (k+1), rfl, F10, ok10, (cvo (by (rw [changesOf_succ raw b n k])) (by (rw [changesOf_succ raw b n k])) q64), (cvi (by (first | rfl | omega | (simp_all; done) | (simp_all; omega))) q65), q60, q61, q62, q63, by omega, rfl⟩
  ·
   refine wp_exit ?_; refine tx ?_; refine tx ?_; refine bx ?_; refine tn ?_; refine wp_seq ?_
   refine rg a6 s4 [(Ty.val (a6.eval (.tmp 9))), (Ty.val (a6.eval (.tmp 9)))] ok5 ⟨?_, ?_, trivial⟩ ?_
   · intro A B E G H; exact rP (y_move (H 9 rfl))
   · intro A B E G H d0 d1; exact rP (y_assign (ed d0 rfl rfl rfl))
   intro a12 s10 D8; have ok11 := D8.ok; have F11 := F5.step0 D8.stp
   have q66 : (Pr.own 2 26 1 (List.length (changesOf raw b n k)) (List.map Ty.ints (changesOf raw b n k))).has s10 (a12.eval (.tmp 8)) := al (show _ = _ from D8.done 1) ((Pr.own 2 26 1 (List.length (changesOf raw b n k)) (List.map Ty.ints (changesOf raw b n k))).up D8.stp q22)
   clear D8; refine tn ?_; refine wp_ret ?_
   obtain ⟨t3, e1, h1, q67⟩ := Own.seal q66 (by decide)
   rw [← e1]
   have F12 := F11.step h1 (by decide)
   exact ret1 rfl ok11 F12 (cvt (by (obtain rfl : k = many := (by omega); rfl)) q67)

theorem Tryd.inf50 : Info Tryd.prog 50 (.agg #[.int .i32 0, .slice none 0 0]) 2 32 := by unfold Info; kernel_rfl
set_option maxHeartbeats 4000000 in
set_option maxRecDepth 100000 in
theorem callsOf_fn (raw : List Int) (n : Nat) (many : Nat) (σ : GW)  (v0 v1 v2 : Value) (hv0 : Ty.has (Ty.lst Ty.int raw) σ v0) (hv1 : Ty.has (Ty.nat n) σ v1) (hv2 : Ty.has (Ty.nat many) σ v2)  (hn : n ≤ 100) (hm : 1 ≤ many ∧ many ≤ 50) (hr : ∀ k, -9223372036854775808 ≤ rawAt raw k ∧ rawAt raw k ≤ 9223372036854775807) :
    FnC Tryd.prog 19 #[v0, v1, v2] σ (Ty.lstc 2 callC (cOf raw n (many - 1))) := by
 refine fn_intro0 Tryd.func19 rfl Tryd.ntmps19 (Nat.le_of_ble_eq_true rfl) (fun s0 a0 hle F0 ok0 hargs => ?_)
 have p0 : At (Ty.lst Ty.int raw) s0 a0 (.tmp 0) := by have e := hargs 0 _ rfl; show Ty.has _ _ _; rw [e]; exact Ty.up _ hle hv0
 have b1 := sl_le p0
 have p1 : At (Ty.nat n) s0 a0 (.tmp 1) := by have e := hargs 1 _ rfl; show Ty.has _ _ _; rw [e]; exact Ty.up _ hle hv1
 have p2 : At (Ty.nat many) s0 a0 (.tmp 2) := by have e := hargs 2 _ rfl; show Ty.has _ _ _; rw [e]; exact Ty.up _ hle hv2
 clear hargs; refine wp_seq ?_
 refine rg a0 s0 [(Ty.val (Value.slice none 0 0))] ok0 ⟨?_, trivial⟩ ?_
 · intro A B E G H; exact rP (y_assign rfl)
 intro a1 s1 D1; have ok1 := D1.ok; have F1 := F0.step0 D1.stp; have q1 := D1.kt p0 rfl; have q2 := D1.kt p1 rfl; have q3 := D1.kt p2 rfl; clear D1; refine tn ?_; refine wp_seq ?_
 refine reg2 (a := a1) (σ := s1) rfl 2 (fun i_ => List.getD [(Ty.pr (Ty.agg [(Ty.val (Value.int .i32 (112 : Int))), (Ty.val (Value.slice none 0 0))])), (Pr.own 5 50 2 1 (List.flatMap callC [((112 : Int), ([] : List (List Int)))]))] i_ Pr.any) ok1 rfl (by decide) rfl ⟨?_, ?_, trivial⟩ ?_
 · intro A B E G H; exact rP (y_bld [(0, ((Operand.const (Value.int IntKind.i32 112))), (Ty.val (Value.int .i32 (112 : Int))))] [(Ty.val (Value.int .i32 0)), (Ty.val (Value.slice none 0 0))] (l := [(0, 1), (1, 1)]) rfl Tryd.inf50 rfl (alloc_vals (vs := [.int .i32 0, .slice none 0 0]) rfl) rfl (by intro p hp; simp only [List.mem_cons, List.not_mem_nil, or_false] at hp; rcases hp with rfl; exact ⟨one_val rfl, rfl⟩))
 · intro A B E G H d0; exact rP ((y_lit1c (k := 5) (c := 2) Tryd.underlying25 Tryd.inf50 rfl (by decide) (by decide) rfl (agg_cell 1 (Ty.lst Ty.ints ([] : List (List Int))) (ed d0 rfl rfl rfl) rfl (fun _ _ h => nil_sl0 h))).mono (fun _ _ h => cvo (by simp) rfl h))
 intro a2 s2 D2; have ok2 := D2.ok; have F2 := F1.step0 D2.stp; have q4 := D2.kt q1 rfl; have q5 := D2.kt q2 rfl; have q6 := D2.kt q3 rfl
 obtain ⟨x1, hx1⟩ : ∃ x, a2.eval (.tmp 10) = x := ⟨_, rfl⟩
 have q7 : At (Ty.val x1) s2 a2 (.tmp 10) := hx1
 have o1 : Own s2 5 50 2 x1 1 (List.flatMap callC [((112 : Int), ([] : List (List Int)))]) := al2 (R := (Pr.own 5 50 2 1 (List.flatMap callC [((112 : Int), ([] : List (List Int)))]))) hx1 (D2.done 1 (by decide))
 clear D2
 refine tailL (L := []) (R := (fun v τ => Pr.has (Ty.pr (Ty.val x1)) τ v)) rfl rfl (by decide) ok2 (Yld.toL (y_assign q7)) (fun a3 s3 hs1 ok3 r1 sm1 => ?_)
 have F3 := F2.stepL hs1 (by decide); have q8 := kpL hs1 (by decide) (sm1 0 (by decide)) q4; have q9 := kpL hs1 (by decide) (sm1 1 (by decide)) q5; have q10 := kpL hs1 (by decide) (sm1 2 (by decide)) q6; have o2 := Own.keepL o1 hs1 (by decide) (by decide)
 have q11 : At (Ty.val x1) s3 a3 (.tmp 7) := r1
 clear r1; refine wpList_nil ?_; refine tn ?_; refine wp_seq ?_; refine wp_seq ?_
 refine rg a3 s3 [(Ty.int (1 : Int))] ok3 ⟨?_, trivial⟩ ?_
 · intro A B E G H; exact rP (y_assign rfl)
 intro a4 s4 D3; have ok4 := D3.ok; have F4 := F3.step0 D3.stp; have q12 := D3.kt q8 rfl; have q13 := D3.kt q9 rfl; have q14 := D3.kt q10 rfl; have q15 := D3.kt q11 rfl; have o3 := Own.k0 o2 D3.stp; have q16 := D3.dn 0 rfl rfl; clear D3; refine tn ?_; refine wp_block ?_
 refine loop (fun n1 a5 w1 => ∃ (t1 : GW) (k : Nat) (x7_0 : Value), t1.w = w1 ∧ FromL [] s0 t1 ∧ Ok 29 a5 ∧ At (Ty.nat (k + 1)) t1 a5 (.tmp 8) ∧ At (Ty.val x7_0) t1 a5 (.tmp 7) ∧ At (Ty.lst Ty.int raw) t1 a5 (.tmp 0) ∧ At (Ty.nat n) t1 a5 (.tmp 1) ∧ At (Ty.nat many) t1 a5 (.tmp 2) ∧ Own t1 5 50 2 x7_0 (List.length (cOf raw n k)) (List.flatMap callC (cOf raw n k)) ∧ (k + 1 ≤ many) ∧ n1 = many - k) (many - (0)) ?_ ?_
 ·
  exact ⟨s4, 0, x1, rfl, F4, ok4, (cvi (by (rfl)) q16), q15, q12, q13, q14, (cvo (by (rfl)) (by (rfl)) o3), by omega, rfl⟩
 ·
  rintro n2 a6 w2 ⟨t2, k, x7_0, rfl, F5, ok5, q17, q18, q19, q20, q21, o4, hk, rfl⟩
  have hcl := cOf_len raw n k
  refine wp_seq ?_; refine wp_seq ?_
  refine reg (a := a6) (σ := t2) rfl (fun i_ => List.getD [(Ty.pr (Ty.nat (k + 1))), (Ty.pr (Ty.nat many)), (Ty.pr (Ty.bool (decide ((((k + 1) : Nat) : Int) < ((many : Nat) : Int)))))] i_ Pr.any) ok5 rfl ⟨?_, ?_, ?_, trivial⟩ ?_
  · intro A B E G H; exact rP (y_move (kp (H 8 rfl) E q17))
  · intro A B E G H; exact rP (y_move (kp (H 2 rfl) E q21))
  · intro A B E G H d0 d1; exact rP (y_lss (ed d0 rfl rfl rfl) (ed d1 rfl rfl rfl))
  intro a7 s5 D4; have ok6 := D4.ok; have F6 := F5.step0 D4.stp; have q22 := D4.kt q17 rfl; have q23 := D4.kt q18 rfl; have q24 := D4.kt q19 rfl; have q25 := D4.kt q20 rfl; have q26 := D4.kt q21 rfl; have o5 := Own.k0 o4 D4.stp; have q27 := D4.dn 2 rfl rfl; clear D4; refine tn ?_
  refine cond_p (p := ((((k + 1) : Nat) : Int) < ((many : Nat) : Int))) q27 (fun c1 => ?_) (fun c1 => ?_)
  ·
   have hl1_ : List.length [((((97 + (k + 1) : Nat) : Int)), changesOf raw (11 * (k + 1)) n 1)] = 1 := rfl
   refine wp_skip ?_; refine tn ?_; refine wp_seq ?_; refine wp_block ?_
   refine reg2 (a := a7) (σ := s5) rfl 11 (fun i_ => List.getD [(Ty.pr (Ty.val x7_0)), (Ty.pr (Ty.nat (k + 1))), (Ty.pr (Ty.nat (97 + (k + 1)))), (Ty.pr (Ty.val (Value.int .i32 (((97 + (k + 1)) : Nat) : Int)))), (Ty.pr (Ty.lst Ty.int raw)), (Ty.pr (Ty.nat (k + 1))), (Ty.pr (Ty.nat (11 * (k + 1)))), (Ty.pr (Ty.nat n)), (Ty.pr (Ty.lst Ty.ints (changesOf raw ((11 * (k + 1))) n (1)))), (Ty.pr (Ty.agg [(Ty.val (Value.int .i32 (((97 + (k + 1)) : Nat) : Int))), (Ty.lst Ty.ints (changesOf raw ((11 * (k + 1))) n (1)))])), (Ty.pr (Ty.lstc 2 callC [((((97 + (k + 1)) : Nat) : Int), (changesOf raw ((11 * (k + 1))) n (1)))]))] i_ Pr.any) ok6 rfl (by decide) rfl ⟨?_, ?_, ?_, ?_, ?_, ?_, ?_, ?_, ?_, ?_, ?_, trivial⟩ ?_
   · intro A B E G H; exact rP (y_move (kp (H 7 rfl) E q23))
   · intro A B E G H; exact rP (y_move (kp (H 8 rfl) E q22))
   · intro A B E G H d0; exact rP ((y_add rfl (ed d0 rfl rfl rfl) (w64 (by omega) (by omega))).mono (fun τ _ h => cvi (σ := τ) (by first | omega | exact (Int.natCast_mul _ _).symm) h))
   · intro A B E G H d0; exact rP (y_conv Tryd.underlying21 (ed d0 rfl rfl rfl) (by exact wrap_i32 (by omega) (by omega)) (by rw [Tryd.underlying3]; rfl))
   · intro A B E G H; exact rP (y_move (kp (H 0 rfl) E q24))
   · intro A B E G H; exact rP (y_move (kp (H 8 rfl) E q22))
   · intro A B E G H d0; exact rP ((y_mul rfl (ed d0 rfl rfl rfl) (w64 (by omega) (by omega))).mono (fun τ _ h => cvi (σ := τ) (by first | omega | exact (Int.natCast_mul _ _).symm) h))
   · intro A B E G H; exact rP (y_move (kp (H 1 rfl) E q25))
   · intro A B E G H d0 d1 d2; exact rP (y_call #[A.eval (.tmp 20), A.eval (.tmp 22), A.eval (.tmp 23), A.eval ((Operand.const (Value.int IntKind.i64 1)))] Tryd.func40 rfl rfl (by simp only [List.map_toArray, List.map_cons, List.map_nil]) (changesOf_fn (raw) ((11 * (k + 1))) (n) (1) _ _ _ _ _ (ed d0 rfl rfl rfl) (cvi (σ := B) (by first | omega | exact hr _ | assumption) (ed d1 rfl rfl rfl)) (ed d2 rfl rfl rfl) (cvi (σ := B) (by first | omega | exact hr _ | assumption) rfl) (by first | omega | exact hr _ | assumption) (by first | omega | exact hr _ | assumption) (by first | omega | exact hr _ | assumption) (by first | omega | exact hr _ | assumption)))
   · intro A B E G H d0 d1; exact rP (y_bld [(0, (.tmp 19), (Ty.val (Value.int .i32 (((97 + (k + 1)) : Nat) : Int)))), (1, (.tmp 24), (Ty.lst Ty.ints (changesOf raw ((11 * (k + 1))) n (1))))] [(Ty.val (Value.int .i32 0)), (Ty.val (Value.slice none 0 0))] (l := [(0, 1), (1, 1)]) rfl Tryd.inf50 rfl (alloc_vals (vs := [.int .i32 0, .slice none 0 0]) rfl) rfl (by intro p hp; simp only [List.mem_cons, List.not_mem_nil, or_false] at hp; rcases hp with rfl | rfl; exact ⟨one_val rfl, (ed d0 rfl rfl rfl)⟩; exact ⟨one_sl, (ed d1 rfl rfl rfl)⟩))
   · intro A B E G H d0; exact rP (y_build1c (c := 2) Tryd.underlying25 Tryd.inf50 rfl (by decide) (by decide) rfl (ed d0 rfl rfl rfl))
   intro a8 s6 D5; have ok7 := D5.ok; have F7 := F6.step0 D5.stp; have q28 := D5.kt q22 rfl; have q29 := D5.kt q23 rfl; have q30 := D5.kt q24 rfl; have q31 := D5.kt q25 rfl; have q32 := D5.kt q26 rfl; have o6 := Own.k0 o5 D5.stp
   have q33 : At (Ty.val x7_0) s6 a8 (.tmp 16) := D5.done 0 (by decide)
   have q34 := D5.dn 10 (by decide) rfl rfl
   have b2 := sl_le q34
   clear D5
   refine tailL (L := [5]) (R := (fun v τ => Own τ 5 50 2 v ((List.length (cOf raw n k)) + (List.length [((((97 + (k + 1)) : Nat) : Int), (changesOf raw ((11 * (k + 1))) n (1)))])) ((List.flatMap callC (cOf raw n k)) ++ (List.flatMap callC [((((97 + (k + 1)) : Nat) : Int), (changesOf raw ((11 * (k + 1))) n (1)))])))) rfl rfl (by decide) ok7 (YldM.toL (m_append Tryd.underlying25 Tryd.inf50 (by decide) rfl (by decide) (al (R := (Pr.own 5 50 2 (List.length (cOf raw n k)) (List.flatMap callC (cOf raw n k)))) q33 o6) q34 (one_flat callOne) (by omega) (by omega))) (fun a9 s7 hs2 ok8 r2 sm2 => ?_)
   have F8 := F7.stepL hs2 (by decide); have q35 := kpL hs2 (by decide) (sm2 8 (by decide)) q28; have q36 := kpL hs2 (by decide) (sm2 7 (by decide)) q29; have q37 := kpL hs2 (by decide) (sm2 0 (by decide)) q30; have q38 := kpL hs2 (by decide) (sm2 1 (by decide)) q31; have q39 := kpL hs2 (by decide) (sm2 2 (by decide)) q32
   obtain ⟨x2, hx2⟩ : ∃ x, a9.eval (.tmp 27) = x := ⟨_, rfl⟩
   have q40 : At (Ty.val x2) s7 a9 (.tmp 27) := hx2
   have o7 : Own s7 5 50 2 x2 (List.length ((cOf raw n k) ++ [((((97 + (k + 1)) : Nat) : Int), (changesOf raw ((11 * (k + 1))) n (1)))])) (List.flatMap callC ((cOf raw n k) ++ [((((97 + (k + 1)) : Nat) : Int), (changesOf raw ((11 * (k + 1))) n (1)))])) := al2 (R := (Pr.own 5 50 2 (List.length ((cOf raw n k) ++ [((((97 + (k + 1)) : Nat) : Int), (changesOf raw ((11 * (k + 1))) n (1)))])) (List.flatMap callC ((cOf raw n k) ++ [((((97 + (k + 1)) : Nat) : Int), (changesOf raw ((11 * (k + 1))) n (1)))])))) hx2 (cvo (by simp) (by first | (rw [List.map_append]; rfl) | simp) r2)
   clear r2
   refine tailL (L := []) (R := (fun v τ => Pr.has (Ty.pr (Ty.val x2)) τ v)) rfl rfl (by decide) ok8 (Yld.toL (y_assign q40)) (fun a10 s8 hs3 ok9 r3 sm3 => ?_)
   have F9 := F8.stepL hs3 (by decide); have q41 := kpL hs3 (by decide) (sm3 8 (by decide)) q35; have q42 := kpL hs3 (by decide) (sm3 0 (by decide)) q37; have q43 := kpL hs3 (by decide) (sm3 1 (by decide)) q38; have q44 := kpL hs3 (by decide) (sm3 2 (by decide)) q39; have o8 := Own.keepL o7 hs3 (by decide) (by decide)
   have q45 : At (Ty.val x2) s8 a10 (.tmp 7) := r3
   clear r3; refine wpList_nil ?_; refine bn ?_; refine tn ?_
   refine rg a10 s8 [(Ty.nat (k + 1)), (Ty.nat ((k + 1) + 1)), (Ty.nat ((k + 1) + 1))] ok9 ⟨?_, ?_, ?_, trivial⟩ ?_
   · intro A B E G H; exact rP (y_move (kp (H 8 rfl) E q41))
   · intro A B E G H d0; exact rP ((y_add (ed d0 rfl rfl rfl) rfl (w64 (by omega) (by omega))).mono (fun τ _ h => cvi (σ := τ) (by first | omega | exact (Int.natCast_mul _ _).symm) h))
   · intro A B E G H d0 d1 d2; exact rP (y_assign (ed d0 rfl rfl rfl))
   intro a11 s9 D6; have ok10 := D6.ok; have F10 := F9.step0 D6.stp; have q46 := D6.kt q42 rfl; have q47 := D6.kt q43 rfl; have q48 := D6.kt q44 rfl; have q49 := D6.kt q45 rfl; have o9 := Own.k0 o8 D6.stp; have q50 := D6.dn 2 rfl rfl; clear D6
   exact tn ⟨many - ((k + 1)), by omega, s9, (k + 1), x2, rfl, F10, ok10, (cvi (by (first | rfl | omega | (simp_all; done) | (simp_all; omega))) q50), q49, q46, q47, q48, (cvo (by (rw [cOf_succ])) (by (rw [cOf_succ])) o9), by omega, rfl⟩
  ·
   refine wp_exit ?_; refine tx ?_; refine tx ?_; refine bx ?_; refine tn ?_; refine wp_seq ?_
   refine rg a7 s5 [(Ty.val x7_0), (Ty.val x7_0)] ok6 ⟨?_, ?_, trivial⟩ ?_
   · intro A B E G H; exact rP (y_move (kp (H 7 rfl) E q23))
   · intro A B E G H d0 d1; exact rP (y_assign (ed d0 rfl rfl rfl))
   intro a12 s10 D7; have ok11 := D7.ok; have F11 := F6.step0 D7.stp; have o10 := Own.k0 o5 D7.stp
   have q51 : At (Ty.val x7_0) s10 a12 (.tmp 6) := D7.done 1
   clear D7; refine tn ?_; refine wp_ret ?_
   obtain ⟨t3, e1, h1, q52⟩ := Own.seal o10 (by decide)
   rw [← e1]
   have F12 := F11.step h1 (by decide)
   have q53 : At (Ty.lstc 2 callC (cOf raw n k)) t3 a12 (.tmp 6) := by have e : a12.eval (.tmp 6) = x7_0 := q51; show Ty.has _ _ _; rw [e]; exact q52
   exact retL1 rfl ok11 F12 (cvt (by (rw [show k = many - 1 by omega])) q53)


set_option maxHeartbeats 4000000 in
set_option maxRecDepth 100000 in
theorem rLeadsOf_fn (raw : List Int) (many : Nat) (calls : Nat) (σ : GW)  (v0 v1 v2 : Value) (hv0 : Ty.has (Ty.lst Ty.int raw) σ v0) (hv1 : Ty.has (Ty.nat many) σ v1) (hv2 : Ty.has (Ty.nat calls) σ v2)  (hm : many ≤ 1000) (hc : 0 < calls) (hr : ∀ k, -9223372036854775808 ≤ rawAt raw k ∧ rawAt raw k ≤ 9223372036854775807) :
    FnC Tryd.prog 20 #[v0, v1, v2] σ (Ty.lst Ty.int (leadsOf raw many calls)) := by
 refine fn_intro0 Tryd.func20 rfl Tryd.ntmps20 (Nat.le_of_ble_eq_true rfl) (fun s0 a0 hle F0 ok0 hargs => ?_)
 have p0 : At (Ty.lst Ty.int raw) s0 a0 (.tmp 0) := by have e := hargs 0 _ rfl; show Ty.has _ _ _; rw [e]; exact Ty.up _ hle hv0
 have b1 := sl_le p0
 have p1 : At (Ty.nat many) s0 a0 (.tmp 1) := by have e := hargs 1 _ rfl; show Ty.has _ _ _; rw [e]; exact Ty.up _ hle hv1
 have p2 : At (Ty.nat calls) s0 a0 (.tmp 2) := by have e := hargs 2 _ rfl; show Ty.has _ _ _; rw [e]; exact Ty.up _ hle hv2
 clear hargs; refine wp_seq ?_
 refine rg a0 s0 [(Ty.val (Value.slice none 0 0))] ok0 ⟨?_, trivial⟩ ?_
 · intro A B E G H; exact rP (y_assign rfl)
 intro a1 s1 D1; have ok1 := D1.ok; have F1 := F0.step0 D1.stp; have q1 := D1.kt p0 rfl; have q2 := D1.kt p1 rfl; have q3 := D1.kt p2 rfl; clear D1; refine tn ?_; refine wp_seq ?_
 refine rg a1 s1 [(Ty.val (Value.slice none 0 0))] ok1 ⟨?_, trivial⟩ ?_
 · intro A B E G H; exact rP (y_assign rfl)
 intro a2 s2 D2; have ok2 := D2.ok; have F2 := F1.step0 D2.stp; have q4 := D2.kt q1 rfl; have q5 := D2.kt q2 rfl; have q6 := D2.kt q3 rfl; have q7 := D2.dn 0 rfl rfl; clear D2; refine tn ?_; refine wp_seq ?_; refine wp_seq ?_
 refine rg a2 s2 [(Ty.int (0 : Int))] ok2 ⟨?_, trivial⟩ ?_
 · intro A B E G H; exact rP (y_assign rfl)
 intro a3 s3 D3; have ok3 := D3.ok; have F3 := F2.step0 D3.stp; have q8 := D3.kt q4 rfl; have q9 := D3.kt q5 rfl; have q10 := D3.kt q6 rfl; have q11 := D3.kt q7 rfl; have q12 := D3.dn 0 rfl rfl; clear D3; refine tn ?_; refine wp_block ?_
 have o1 : Own s3 2 3 1 (Value.slice none 0 0) 0 (List.map Ty.int ([] : List Int)) := Own.nil _ _ _ _
 refine loop (fun n1 a4 w1 => ∃ (t1 : GW) (k : Nat) (x7_0 : Value), t1.w = w1 ∧ FromL [] s0 t1 ∧ Ok 23 a4 ∧ At (Ty.nat k) t1 a4 (.tmp 8) ∧ At (Ty.val x7_0) t1 a4 (.tmp 7) ∧ At (Ty.lst Ty.int raw) t1 a4 (.tmp 0) ∧ At (Ty.nat many) t1 a4 (.tmp 1) ∧ At (Ty.nat calls) t1 a4 (.tmp 2) ∧ Own t1 2 3 1 x7_0 (List.length (leadsOf raw k calls)) (List.map Ty.int (leadsOf raw k calls)) ∧ (k ≤ many) ∧ n1 = many - k) (many - (0)) ?_ ?_
 ·
  exact ⟨s3, 0, (Value.slice none 0 0), rfl, F3, ok3, (cvi (by (first | rfl | omega | (simp_all; done) | (simp_all; omega))) q12), q11, q8, q9, q10, (cvo (by (rfl)) (by (rfl)) o1), by omega, rfl⟩
 ·
  rintro n2 a5 w2 ⟨t2, k, x7_0, rfl, F4, ok4, q13, q14, q15, q16, q17, o2, hk, rfl⟩
  have hll := leadsOf_len raw k calls
  have hrk := hr k
  refine wp_seq ?_; refine wp_seq ?_
  refine reg (a := a5) (σ := t2) rfl (fun i_ => List.getD [(Ty.pr (Ty.nat k)), (Ty.pr (Ty.nat many)), (Ty.pr (Ty.bool (decide (((k : Nat) : Int) < ((many : Nat) : Int)))))] i_ Pr.any) ok4 rfl ⟨?_, ?_, ?_, trivial⟩ ?_
  · intro A B E G H; exact rP (y_move (kp (H 8 rfl) E q13))
  · intro A B E G H; exact rP (y_move (kp (H 1 rfl) E q16))
  · intro A B E G H d0 d1; exact rP (y_lss (ed d0 rfl rfl rfl) (ed d1 rfl rfl rfl))
  intro a6 s4 D4; have ok5 := D4.ok; have F5 := F4.step0 D4.stp; have q18 := D4.kt q13 rfl; have q19 := D4.kt q14 rfl; have q20 := D4.kt q15 rfl; have q21 := D4.kt q16 rfl; have q22 := D4.kt q17 rfl; have o3 := Own.k0 o2 D4.stp; have q23 := D4.dn 2 rfl rfl; clear D4; refine tn ?_
  refine cond_p (p := (((k : Nat) : Int) < ((many : Nat) : Int))) q23 (fun c1 => ?_) (fun c1 => ?_)
  ·
   refine wp_skip ?_; refine tn ?_; refine wp_seq ?_; refine wp_block ?_
   refine reg2 (a := a6) (σ := s4) rfl 7 (fun i_ => List.getD [(Ty.pr (Ty.val x7_0)), (Ty.pr (Ty.lst Ty.int raw)), (Ty.pr (Ty.nat k)), (Ty.pr (Ty.int (rawAt raw k))), (Ty.pr (Ty.nat calls)), (Ty.pr (Ty.nat (pick ((rawAt raw k)) (calls)))), (Ty.pr (Ty.sl 1 1 [(Ty.nat (pick ((rawAt raw k)) (calls)))]))] i_ Pr.any) ok5 rfl (by decide) rfl ⟨?_, ?_, ?_, ?_, ?_, ?_, ?_, trivial⟩ ?_
   · intro A B E G H; exact rP (y_move (kp (H 7 rfl) E q19))
   · intro A B E G H; exact rP (y_move (kp (H 0 rfl) E q20))
   · intro A B E G H; exact rP (y_move (kp (H 8 rfl) E q18))
   · intro A B E G H d0 d1; exact rP (y_call #[A.eval (.tmp 15), A.eval (.tmp 16)] Tryd.func41 rfl rfl (by simp only [List.map_toArray, List.map_cons, List.map_nil]) (raw_fn (raw) (k) _ _ _ (ed d0 rfl rfl rfl) (ed d1 rfl rfl rfl) ))
   · intro A B E G H; exact rP (y_move (kp (H 2 rfl) E q22))
   · intro A B E G H d0 d1 d2; exact rP (y_call #[A.eval (.tmp 17), A.eval (.tmp 18)] Tryd.func17 rfl rfl (by simp only [List.map_toArray, List.map_cons, List.map_nil]) (pick_fn ((rawAt raw k)) (calls) _ _ _ (cvi (σ := B) (by omega) (ed d0 rfl rfl rfl)) (cvi (σ := B) (by omega) (ed d1 rfl rfl rfl)) (by omega) (by omega)))
   · intro A B E G H d0; exact rP (y_build1o Tryd.underlying26 Tryd.inf3 rfl (one_val rfl) (ed d0 rfl rfl rfl))
   intro a7 s5 D5; have ok6 := D5.ok; have F6 := F5.step0 D5.stp; have q24 := D5.kt q18 rfl; have q25 := D5.kt q19 rfl; have q26 := D5.kt q20 rfl; have q27 := D5.kt q21 rfl; have q28 := D5.kt q22 rfl; have o4 := Own.k0 o3 D5.stp
   have q29 : At (Ty.val x7_0) s5 a7 (.tmp 14) := D5.done 0 (by decide)
   have q30 := D5.dn 6 (by decide) rfl rfl
   have b2 := sl_le q30
   clear D5
   refine tailL (L := [2]) (R := (fun v τ => Own τ 2 3 1 v ((List.length (leadsOf raw k calls)) + 1) ((List.map Ty.int (leadsOf raw k calls)) ++ [(Ty.nat (pick ((rawAt raw k)) (calls)))]))) rfl rfl (by decide) ok6 (YldM.toL (m_append Tryd.underlying26 Tryd.inf3 (by decide) rfl (by decide) (al (R := (Pr.own 2 3 1 (List.length (leadsOf raw k calls)) (List.map Ty.int (leadsOf raw k calls)))) q29 o4) q30 (by intro U hU; simp at hU; subst hU; exact one_val rfl) (by omega) (by omega))) (fun a8 s6 hs1 ok7 r1 sm1 => ?_)
   have F7 := F6.stepL hs1 (by decide); have q31 := kpL hs1 (by decide) (sm1 8 (by decide)) q24; have q32 := kpL hs1 (by decide) (sm1 7 (by decide)) q25; have q33 := kpL hs1 (by decide) (sm1 0 (by decide)) q26; have q34 := kpL hs1 (by decide) (sm1 1 (by decide)) q27; have q35 := kpL hs1 (by decide) (sm1 2 (by decide)) q28
   obtain ⟨x1, hx1⟩ : ∃ x, a8.eval (.tmp 21) = x := ⟨_, rfl⟩
   have q36 : At (Ty.val x1) s6 a8 (.tmp 21) := hx1
   have o5 : Own s6 2 3 1 x1 (List.length ((leadsOf raw k calls) ++ [(((pick ((rawAt raw k)) (calls)) : Nat) : Int)])) (List.map Ty.int ((leadsOf raw k calls) ++ [(((pick ((rawAt raw k)) (calls)) : Nat) : Int)])) := al2 (R := (Pr.own 2 3 1 (List.length ((leadsOf raw k calls) ++ [(((pick ((rawAt raw k)) (calls)) : Nat) : Int)])) (List.map Ty.int ((leadsOf raw k calls) ++ [(((pick ((rawAt raw k)) (calls)) : Nat) : Int)])))) hx1 (cvo (by simp) (by first | (rw [List.map_append]; rfl) | simp) r1)
   clear r1
   refine tailL (L := []) (R := (fun v τ => Pr.has (Ty.pr (Ty.val x1)) τ v)) rfl rfl (by decide) ok7 (Yld.toL (y_assign q36)) (fun a9 s7 hs2 ok8 r2 sm2 => ?_)
   have F8 := F7.stepL hs2 (by decide); have q37 := kpL hs2 (by decide) (sm2 8 (by decide)) q31; have q38 := kpL hs2 (by decide) (sm2 0 (by decide)) q33; have q39 := kpL hs2 (by decide) (sm2 1 (by decide)) q34; have q40 := kpL hs2 (by decide) (sm2 2 (by decide)) q35; have o6 := Own.keepL o5 hs2 (by decide) (by decide)
   have q41 : At (Ty.val x1) s7 a9 (.tmp 7) := r2
   clear r2; refine wpList_nil ?_; refine bn ?_; refine tn ?_
   refine rg a9 s7 [(Ty.nat k), (Ty.int (((k : Nat) : Int) + (1 : Int))), (Ty.int (((k : Nat) : Int) + (1 : Int)))] ok8 ⟨?_, ?_, ?_, trivial⟩ ?_
   · intro A B E G H; exact rP (y_move (kp (H 8 rfl) E q37))
   · intro A B E G H d0; exact rP (y_add (ed d0 rfl rfl rfl) rfl (w64 (by omega) (by omega)))
   · intro A B E G H d0 d1 d2; exact rP (y_assign (ed d0 rfl rfl rfl))
   intro a10 s8 D6; have ok9 := D6.ok; have F9 := F8.step0 D6.stp; have q42 := D6.kt q38 rfl; have q43 := D6.kt q39 rfl; have q44 := D6.kt q40 rfl; have q45 := D6.kt q41 rfl; have o7 := Own.k0 o6 D6.stp; have q46 := D6.dn 2 rfl rfl; clear D6
   exact tn ⟨many - ((k+1)), by omega, s8, (k+1), x1, rfl, F9, ok9, (cvi (by (first | rfl | omega | (simp_all; done) | (simp_all; omega))) q46), q45, q42, q43, q44, (cvo (by (rw [leadsOf_succ])) (by (rw [leadsOf_succ])) o7), by omega, rfl⟩
  ·
   refine wp_exit ?_; refine tx ?_; refine tx ?_; refine bx ?_; refine tn ?_; refine wp_seq ?_
   refine rg a6 s4 [(Ty.val x7_0), (Ty.val x7_0)] ok5 ⟨?_, ?_, trivial⟩ ?_
   · intro A B E G H; exact rP (y_move (kp (H 7 rfl) E q19))
   · intro A B E G H d0 d1; exact rP (y_assign (ed d0 rfl rfl rfl))
   intro a11 s9 D7; have ok10 := D7.ok; have F10 := F5.step0 D7.stp; have o8 := Own.k0 o3 D7.stp
   have q47 : At (Ty.val x7_0) s9 a11 (.tmp 6) := D7.done 1
   clear D7; refine tn ?_; refine wp_ret ?_
   obtain ⟨t3, e1, h1, q48⟩ := Own.seal o8 (by decide)
   rw [← e1]
   have F11 := F10.step h1 (by decide)
   have q49 : At (Ty.lst Ty.int (leadsOf raw k calls)) t3 a11 (.tmp 6) := by have e : a11.eval (.tmp 6) = x7_0 := q47; show Ty.has _ _ _; rw [e]; exact q48
   exact retL1 rfl ok10 F11 (cvt (by (obtain rfl : many = k := (by omega); rfl)) q49)


set_option maxHeartbeats 4000000 in
set_option maxRecDepth 100000 in
theorem small_fn (n : Nat) (σ : GW)  (v0 : Value) (hv0 : Ty.has (Ty.nat n) σ v0)  (hn : n < 100) :
    FnC Tryd.prog 72 #[v0] σ (Ty.val (Value.string (decB n))) := by
 have hz1 := digits_size
 have hz2 := smalls_size
 refine fn_intro0 Tryd.func72 rfl Tryd.ntmps72 (Nat.le_of_ble_eq_true rfl) (fun s0 a0 hle F0 ok0 hargs => ?_)
 have p0 : At (Ty.nat n) s0 a0 (.tmp 0) := by have e := hargs 0 _ rfl; show Ty.has _ _ _; rw [e]; exact Ty.up _ hle hv0
 clear hargs; refine wp_seq ?_
 refine rg a0 s0 [(Ty.val (Value.string (ByteArray.mk #[])))] ok0 ⟨?_, trivial⟩ ?_
 · intro A B E G H; exact rP (y_assign rfl)
 intro a1 s1 D1; have ok1 := D1.ok; have F1 := F0.step0 D1.stp; have q1 := D1.kt p0 rfl; clear D1; refine tn ?_; refine wp_seq ?_; refine wp_seq ?_
 refine rg a1 s1 [(Ty.nat n), (Ty.bool (decide (((n : Nat) : Int) < (10 : Int))))] ok1 ⟨?_, ?_, trivial⟩ ?_
 · intro A B E G H; exact rP (y_move (kp (H 0 rfl) E q1))
 · intro A B E G H d0; exact rP (y_lss (ed d0 rfl rfl rfl) rfl)
 intro a2 s2 D2; have ok2 := D2.ok; have F2 := F1.step0 D2.stp; have q2 := D2.kt q1 rfl; have q3 := D2.dn 1 rfl rfl; clear D2; refine tn ?_
 refine cond_p (p := (((n : Nat) : Int) < (10 : Int))) q3 (fun c1 => ?_) (fun c1 => ?_)
 ·
  refine wp_seq ?_
  refine rg a2 s2 [(Ty.nat n), (Ty.nat n), (Ty.nat (n + 1)), (Ty.val (Value.string (ByteArray.extract digitsB n (n + 1)))), (Ty.val (Value.string (ByteArray.extract digitsB n (n + 1))))] ok2 ⟨?_, ?_, ?_, ?_, ?_, trivial⟩ ?_
  · intro A B E G H; exact rP (y_move (kp (H 0 rfl) E q2))
  · intro A B E G H; exact rP (y_move (kp (H 0 rfl) E q2))
  · intro A B E G H d0; exact rP ((y_add (ed d0 rfl rfl rfl) rfl (w64 (by omega) (by omega))).mono (fun τ _ h => cvi (σ := τ) (by first | omega | exact (Int.natCast_mul _ _).symm) h))
  · intro A B E G H d0 d1; exact rP (y_sft (l := n) (h := (n + 1)) Tryd.underlying9 rfl (ed d0 rfl rfl rfl) (ed d1 rfl rfl rfl) (by omega) (by omega))
  · intro A B E G H d0 d1 d2 d3 d4; exact rP (y_assign (ed d0 rfl rfl rfl))
  intro a3 s3 D3; have ok3 := D3.ok; have F3 := F2.step0 D3.stp; have q4 := D3.dn 4 rfl rfl; clear D3; refine tn ?_; refine wp_ret ?_; refine tr ?_
  exact retL1 rfl ok3 F3 (cvt (by (rw [small_lo (by omega)])) q4)
 ·
  refine wp_skip ?_; refine tn ?_; refine wp_seq ?_
  refine rg a2 s2 [(Ty.nat n), (Ty.nat (n * 2)), (Ty.nat n), (Ty.nat (n * 2)), (Ty.nat ((n * 2) + 2)), (Ty.val (Value.string (ByteArray.extract smallsB (n * 2) ((n * 2) + 2)))), (Ty.val (Value.string (ByteArray.extract smallsB (n * 2) ((n * 2) + 2))))] ok2 ⟨?_, ?_, ?_, ?_, ?_, ?_, ?_, trivial⟩ ?_
  · intro A B E G H; exact rP (y_move (kp (H 0 rfl) E q2))
  · intro A B E G H d0; exact rP ((y_mul (ed d0 rfl rfl rfl) rfl (w64 (by omega) (by omega))).mono (fun τ _ h => cvi (σ := τ) (by first | omega | exact (Int.natCast_mul _ _).symm) h))
  · intro A B E G H; exact rP (y_move (kp (H 0 rfl) E q2))
  · intro A B E G H d0; exact rP ((y_mul (ed d0 rfl rfl rfl) rfl (w64 (by omega) (by omega))).mono (fun τ _ h => cvi (σ := τ) (by first | omega | exact (Int.natCast_mul _ _).symm) h))
  · intro A B E G H d0; exact rP ((y_add (ed d0 rfl rfl rfl) rfl (w64 (by omega) (by omega))).mono (fun τ _ h => cvi (σ := τ) (by first | omega | exact (Int.natCast_mul _ _).symm) h))
  · intro A B E G H d0 d1; exact rP (y_sft (l := (n * 2)) (h := ((n * 2) + 2)) Tryd.underlying9 rfl (ed d0 rfl rfl rfl) (ed d1 rfl rfl rfl) (by omega) (by omega))
  · intro A B E G H d0 d1 d2 d3 d4 d5 d6; exact rP (y_assign (ed d0 rfl rfl rfl))
  intro a4 s4 D4; have ok4 := D4.ok; have F4 := F2.step0 D4.stp; have q5 := D4.dn 6 rfl rfl; clear D4; refine tn ?_; refine wp_ret ?_
  exact retL1 rfl ok4 F4 (cvt (by (rw [small_hi (by omega) (by omega)])) q5)


set_option maxHeartbeats 4000000 in
set_option maxRecDepth 100000 in
theorem formatInt_fn (n : Nat) (b : Int) (σ : GW)  (v0 v1 : Value) (hv0 : Ty.has (Ty.nat n) σ v0) (hv1 : Ty.has (Ty.int b) σ v1)  (hn : n < 100) (hb : b = 10) :
    FnC Tryd.prog 62 #[v0, v1] σ (Ty.val (Value.string (decB n))) := by
 refine fn_intro0 Tryd.func62 rfl Tryd.ntmps62 (Nat.le_of_ble_eq_true rfl) (fun s0 a0 hle F0 ok0 hargs => ?_)
 have p0 : At (Ty.nat n) s0 a0 (.tmp 0) := by have e := hargs 0 _ rfl; show Ty.has _ _ _; rw [e]; exact Ty.up _ hle hv0
 have p1 : At (Ty.int b) s0 a0 (.tmp 1) := by have e := hargs 1 _ rfl; show Ty.has _ _ _; rw [e]; exact Ty.up _ hle hv1
 clear hargs; refine wp_seq ?_
 refine rg a0 s0 [(Ty.val (Value.string (ByteArray.mk #[])))] ok0 ⟨?_, trivial⟩ ?_
 · intro A B E G H; exact rP (y_assign rfl)
 intro a1 s1 D1; have ok1 := D1.ok; have F1 := F0.step0 D1.stp; have q1 := D1.kt p0 rfl; have q2 := D1.kt p1 rfl; clear D1; refine tn ?_; refine wp_seq ?_; refine wp_seq ?_
 refine rg a1 s1 [(Ty.int b), (Ty.bool (decide (b = (10 : Int))))] ok1 ⟨?_, ?_, trivial⟩ ?_
 · intro A B E G H; exact rP (y_move (kp (H 1 rfl) E q2))
 · intro A B E G H d0; exact rP (y_eql (ed d0 rfl rfl rfl) rfl)
 intro a2 s2 D2; have ok2 := D2.ok; have F2 := F1.step0 D2.stp; have q3 := D2.kt q1 rfl; have q4 := D2.kt q2 rfl; have q5 := D2.dn 1 rfl rfl; clear D2; refine tn ?_
 refine cond_p (p := (b = (10 : Int))) q5 (fun c1 => ?_) (fun c1 => ?_)
 ·
  refine wp_seq ?_; refine wp_seq ?_
  refine rg a2 s2 [(Ty.nat n), (Ty.bool (decide ((0 : Int) ≤ ((n : Nat) : Int)))), (Ty.bool (decide ((0 : Int) ≤ ((n : Nat) : Int)))), (Ty.grd ((decide ((0 : Int) ≤ ((n : Nat) : Int))) = true) (Ty.nat n)), (Ty.grd ((decide ((0 : Int) ≤ ((n : Nat) : Int))) = true) (Ty.bool (decide (((n : Nat) : Int) < (100 : Int))))), (Ty.bool ((decide ((0 : Int) ≤ ((n : Nat) : Int))) && (decide (((n : Nat) : Int) < (100 : Int)))))] ok2 ⟨?_, ?_, ?_, ?_, ?_, ?_, trivial⟩ ?_
  · intro A B E G H; exact rP (y_move (kp (H 0 rfl) E q3))
  · intro A B E G H d0; exact rP (y_leq rfl (ed d0 rfl rfl rfl))
  · intro A B E G H d0; exact rP (y_move (ed d0 rfl rfl rfl))
  · intro A B E G H d0
    refine run_guard G rfl rfl (by decide) (ed d0 rfl rfl rfl) (fun hg => ?_)
    have hp := of_decide_eq_true hg
    exact y_move (kp (H 0 rfl) E q3)
  · intro A B E G H d0 d1
    refine run_guard G rfl rfl (by decide) (ed d1 rfl rfl rfl) (fun hg => ?_)
    have hp := of_decide_eq_true hg
    exact y_lss ((ed d0 rfl rfl rfl).1 hg) rfl
  · intro A B E G H d0 d1; exact rP (y_pick_and (ed d0 rfl rfl rfl) (ed d1 rfl rfl rfl) rfl)
  intro a3 s3 D3; have ok3 := D3.ok; have F3 := F2.step0 D3.stp; have q6 := D3.kt q3 rfl; have q7 := D3.dn 5 rfl rfl; clear D3; refine tn ?_
  refine cond_t q7 (fun c2 => ?_) (fun c2 => ?_)
  ·
   obtain ⟨d1, d2⟩ := Bool.and_eq_true_iff.mp c2
   replace d1 := of_decide_eq_true d1
   replace d2 := of_decide_eq_true d2
   refine wp_seq ?_
   refine rg a3 s3 [(Ty.nat n), (Ty.val (Value.string (decB n))), (Ty.val (Value.string (decB n)))] ok3 ⟨?_, ?_, ?_, trivial⟩ ?_
   · intro A B E G H; exact rP (y_move (kp (H 0 rfl) E q6))
   · intro A B E G H d0; exact rP (y_call #[A.eval (.tmp 18)] Tryd.func72 rfl rfl (by simp only [List.map_toArray, List.map_cons, List.map_nil]) (small_fn (n) _ _ (ed d0 rfl rfl rfl) (by omega)))
   · intro A B E G H d0 d1 d2 d3; exact rP (y_assign (ed d0 rfl rfl rfl))
   intro a4 s4 D4; have ok4 := D4.ok; have F4 := F3.step0 D4.stp; have q8 := D4.dn 2 rfl rfl; clear D4; refine tn ?_; refine wp_ret ?_; refine tr ?_; refine tr ?_
   exact retL1 rfl ok4 F4 q8
  ·
   exfalso
   simp at c2; omega
 ·
  exfalso
  omega


set_option maxHeartbeats 4000000 in
set_option maxRecDepth 100000 in
theorem itoa0_fn (n : Nat) (σ : GW)  (v0 : Value) (hv0 : Ty.has (Ty.nat n) σ v0)  (hn : n < 100) :
    FnC Tryd.prog 48 #[v0] σ (Ty.val (Value.string (decB n))) := by
 refine fn_intro0 Tryd.func48 rfl Tryd.ntmps48 (Nat.le_of_ble_eq_true rfl) (fun s0 a0 hle F0 ok0 hargs => ?_)
 have p0 : At (Ty.nat n) s0 a0 (.tmp 0) := by have e := hargs 0 _ rfl; show Ty.has _ _ _; rw [e]; exact Ty.up _ hle hv0
 clear hargs; refine wp_seq ?_
 refine rg a0 s0 [(Ty.val (Value.string (ByteArray.mk #[])))] ok0 ⟨?_, trivial⟩ ?_
 · intro A B E G H; exact rP (y_assign rfl)
 intro a1 s1 D1; have ok1 := D1.ok; have F1 := F0.step0 D1.stp; have q1 := D1.kt p0 rfl; clear D1; refine tn ?_; refine wp_seq ?_
 refine rg a1 s1 [(Ty.nat n), (Ty.val (Value.string (decB n))), (Ty.val (Value.string (decB n)))] ok1 ⟨?_, ?_, ?_, trivial⟩ ?_
 · intro A B E G H; exact rP (y_move (kp (H 0 rfl) E q1))
 · intro A B E G H d0; exact rP (y_call #[A.eval (.tmp 3), A.eval ((Operand.const (Value.int IntKind.i64 10)))] Tryd.func62 rfl rfl (by simp only [List.map_toArray, List.map_cons, List.map_nil]) (formatInt_fn (n) ((10 : Int)) _ _ _ (ed d0 rfl rfl rfl) (cvi (σ := B) (by first | omega | rfl) rfl) (by first | omega | rfl) (by first | omega | rfl)))
 · intro A B E G H d0 d1 d2 d3; exact rP (y_assign (ed d0 rfl rfl rfl))
 intro a2 s2 D2; have ok2 := D2.ok; have F2 := F1.step0 D2.stp; have q2 := D2.dn 2 rfl rfl; clear D2; refine tn ?_; refine wp_ret ?_
 exact retL1 rfl ok2 F2 q2


set_option maxHeartbeats 4000000 in
set_option maxRecDepth 100000 in
theorem itoa_fn (n : Nat) (σ : GW)  (v0 : Value) (hv0 : Ty.has (Ty.nat n) σ v0)  (hn : n < 100) :
    FnC Tryd.prog 31 #[v0] σ (Ty.val (Value.string (decB n))) := by
 refine fn_intro0 Tryd.func31 rfl Tryd.ntmps31 (Nat.le_of_ble_eq_true rfl) (fun s0 a0 hle F0 ok0 hargs => ?_)
 have p0 : At (Ty.nat n) s0 a0 (.tmp 0) := by have e := hargs 0 _ rfl; show Ty.has _ _ _; rw [e]; exact Ty.up _ hle hv0
 clear hargs; refine wp_seq ?_
 refine rg a0 s0 [(Ty.val (Value.string (ByteArray.mk #[])))] ok0 ⟨?_, trivial⟩ ?_
 · intro A B E G H; exact rP (y_assign rfl)
 intro a1 s1 D1; have ok1 := D1.ok; have F1 := F0.step0 D1.stp; have q1 := D1.kt p0 rfl; clear D1; refine tn ?_; refine wp_seq ?_
 refine rg a1 s1 [(Ty.nat n), (Ty.val (Value.string (decB n))), (Ty.val (Value.string (decB n)))] ok1 ⟨?_, ?_, ?_, trivial⟩ ?_
 · intro A B E G H; exact rP (y_move (kp (H 0 rfl) E q1))
 · intro A B E G H d0; exact rP (y_call #[A.eval (.tmp 3)] Tryd.func48 rfl rfl (by simp only [List.map_toArray, List.map_cons, List.map_nil]) (itoa0_fn (n) _ _ (ed d0 rfl rfl rfl) (by omega)))
 · intro A B E G H d0 d1 d2 d3; exact rP (y_assign (ed d0 rfl rfl rfl))
 intro a2 s2 D2; have ok2 := D2.ok; have F2 := F1.step0 D2.stp; have q2 := D2.dn 2 rfl rfl; clear D2; refine tn ?_; refine wp_ret ?_
 exact retL1 rfl ok2 F2 q2

theorem Tryd.inf54 : Info Tryd.prog 54 (.pointer none) 1 8 := by unfold Info; kernel_rfl
theorem Tryd.inf57 : Info Tryd.prog 57 (.agg #[.pointer none, .slice none 0 0]) 2 32 := by unfold Info; kernel_rfl
theorem Tryd.fld57_0 : fieldOf Tryd.prog 57 0 = some (54, 0) := by kernel_rfl
set_option maxHeartbeats 4000000 in
set_option maxRecDepth 100000 in
theorem copyCheck_fn (b buf : Value) (nb : Bool) (σ : GW) (hlow : Low [40] σ) (v0 : Value) (hv0 : Ty.has (Ty.val b) σ v0) (ho_b : OwnPT 57 σ 40 b [(Ty.val (bAddr nb b)), (Ty.val buf)])  :
    FnL Tryd.prog 47 #[v0] σ [40] (fun v τ => True ∧ (OwnPT 57 τ 40 b [(Ty.val (bAddr false b)), (Ty.val buf)])) := by
 refine fn_introL hlow Tryd.func47 rfl Tryd.ntmps47 (Nat.le_of_ble_eq_true rfl) (fun a0 F0 ok0 hargs => ?_)
 have p0 : At (Ty.val b) σ a0 (.tmp 0) := by have e := hargs 0 _ rfl; show Ty.has _ _ _; rw [e]; exact hv0
 clear hargs; refine wp_seq ?_
 refine reg (a := a0) (σ := σ) rfl (fun i_ => List.getD [(Ty.pr (Ty.val b)), (Ty.pr (Ty.val b)), (Ty.pr (Ty.val (ptrAt b 0))), (Ty.pr (Ty.val (bAddr nb b))), (Ty.pr (Ty.bool nb))] i_ Pr.any) ok0 rfl ⟨?_, ?_, ?_, ?_, ?_, trivial⟩ ?_
 · intro A B E G H; exact rP (y_move (kp (H 0 rfl) E p0))
 · intro A B E G H d0; exact rP (y_nilp (OwnPT.toP (OwnPT.k0 ho_b E)) (ed d0 rfl rfl rfl))
 · intro A B E G H d0; exact rP (ownp_field Tryd.fld57_0 Tryd.inf54 (by decide) (OwnPT.toP (OwnPT.k0 ho_b E)) (ed d0 rfl rfl rfl))
 · intro A B E G H d0; exact rP (ownp_load Tryd.underlying54 rfl (OwnPT.toP (OwnPT.k0 ho_b E)) (ed d0 rfl rfl rfl) rfl)
 · intro A B E G H d0; exact rP (y_bnil Tryd.underlying54 Tryd.inf57 (OwnPT.k0 ho_b E) (ed d0 rfl rfl rfl) rfl)
 intro a1 s1 D1; have ok1 := D1.ok; have F1 := F0.step0 D1.stp; have q1 := D1.kt p0 rfl; have o1 := OwnPT.k0 ho_b D1.stp; have q2 := D1.dn 4 rfl rfl; clear D1; refine tn ?_
 refine cond_t q2 (fun c1 => ?_) (fun c1 => ?_)
 ·
  refine reg2 (a := a1) (σ := s1) rfl 7 (fun i_ => List.getD [(Ty.pr (Ty.val b)), (Ty.pr (Ty.val b)), (Ty.pr (Ty.val b)), (Ty.pr (Ty.val b)), (Ty.pr (Ty.val b)), (Ty.pr (Ty.val b)), (Ty.pr (Ty.val (ptrAt b 0)))] i_ Pr.any) ok1 rfl (by decide) rfl ⟨?_, ?_, ?_, ?_, ?_, ?_, ?_, trivial⟩ ?_
  · intro A B E G H; exact rP (y_move (kp (H 0 rfl) E q1))
  · intro A B E G H; exact rP (y_move (kp (H 0 rfl) E q1))
  · intro A B E G H d0; exact rP (y_tounsafe Tryd.underlying54 Tryd.underlying85 Tryd.inf57 (by decide) (OwnPT.k0 o1 E) (Nat.le_of_ble_eq_true rfl) (ed d0 rfl rfl rfl))
  · intro A B E G H d0; exact rP (y_extern (R := (Ty.val b)) #[b] (by simp only [List.map_toArray, List.map_cons, List.map_nil, (show A.eval (.tmp 9) = _ from (ed d0 rfl rfl rfl))]) (by rw [run_callFunc_extern Tryd.func61 (by kernel_rfl) (by kernel_rfl) (by kernel_rfl) (e := Extern.AbiNoEscape.same) (by kernel_rfl), Lib.run_noEscape]; rfl) rfl)
  · intro A B E G H d0; exact rP (y_fromunsafe Tryd.underlying85 Tryd.underlying54 Tryd.inf57 (OwnPT.k0 o1 E) (ed d0 rfl rfl rfl) (by kernel_rfl))
  · intro A B E G H d0 d1 d2 d3 d4 d5; exact rP (y_nilp (OwnPT.toP (OwnPT.k0 o1 E)) (ed d0 rfl rfl rfl))
  · intro A B E G H d0 d1 d2 d3 d4 d5; exact rP (ownp_field Tryd.fld57_0 Tryd.inf54 (by decide) (OwnPT.toP (OwnPT.k0 o1 E)) (ed d0 rfl rfl rfl))
  intro a2 s2 D2; have ok2 := D2.ok; have F2 := F1.step0 D2.stp; have o2 := OwnPT.k0 o1 D2.stp; have q3 := D2.dn 4 (by decide) rfl rfl; have q4 := D2.dn 6 (by decide) rfl rfl; clear D2
  refine tailL0 (L := [40]) (R := (fun _ τ => OwnPT 57 τ 40 b ([(Ty.val (bAddr nb b)), (Ty.val buf)].set 0 (Ty.val b)))) rfl rfl (YldM.toL (m_storept Tryd.inf54 (by decide) o2 q4 (Nat.le_of_ble_eq_true rfl) q3 (one_val (OwnPT.one o2)))) (fun v1 s3 hs1 r1 => ?_)
  have F3 := F2.stepL hs1 (by decide)
  have o3 : OwnPT 57 s3 40 b [(Ty.val b), (Ty.val buf)] := r1
  clear r1; refine wpList_nil ?_
  exact nL0 rfl ok2 F3 ⟨trivial, (ownpt_cell 0 (Ty.val (bAddr false b)) o3 rfl (fun _ _ h => (cvt (by (first | rfl | omega | (simp_all; done) | (simp_all; omega))) h)))⟩
 ·
  refine wp_seq ?_
  refine rg a1 s1 [(Ty.val b), (Ty.val b), (Ty.val (ptrAt b 0)), (Ty.val (bAddr nb b)), (Ty.val b), (Ty.bool false)] ok1 ⟨?_, ?_, ?_, ?_, ?_, ?_, trivial⟩ ?_
  · intro A B E G H; exact rP (y_move (kp (H 0 rfl) E q1))
  · intro A B E G H d0; exact rP (y_nilp (OwnPT.toP (OwnPT.k0 o1 E)) (ed d0 rfl rfl rfl))
  · intro A B E G H d0; exact rP (ownp_field Tryd.fld57_0 Tryd.inf54 (by decide) (OwnPT.toP (OwnPT.k0 o1 E)) (ed d0 rfl rfl rfl))
  · intro A B E G H d0; exact rP (ownp_load Tryd.underlying54 rfl (OwnPT.toP (OwnPT.k0 o1 E)) (ed d0 rfl rfl rfl) rfl)
  · intro A B E G H; exact rP (y_move (kp (H 0 rfl) E q1))
  · intro A B E G H d0 d1; exact rP (y_bself Tryd.underlying54 Tryd.inf57 (OwnPT.k0 o1 E) (bAddr_f (by assumption) (ed d0 rfl rfl rfl)) (ed d1 rfl rfl rfl))
  intro a3 s4 D3; have ok3 := D3.ok; have F4 := F1.step0 D3.stp; have o4 := OwnPT.k0 o1 D3.stp; have q6 := D3.dn 5 rfl rfl; clear D3; refine tn ?_
  refine cond_t q6 (fun c2 => (by cases c2)) (fun _ => ?_)
  refine wp_skip ?_
  exact nL0 rfl ok3 F4 ⟨trivial, (ownpt_cell 0 (Ty.val (bAddr false b)) o4 rfl (fun _ _ h => (cvt (by (rw [c1])) h)))⟩

theorem Tryd.inf5 : Info Tryd.prog 5 (.int .u8 0) 1 1 := by unfold Info; kernel_rfl
theorem Tryd.inf55 : Info Tryd.prog 55 (.slice none 0 0) 1 24 := by unfold Info; kernel_rfl
theorem Tryd.fld57_1 : fieldOf Tryd.prog 57 1 = some (55, 1) := by kernel_rfl
set_option maxHeartbeats 4000000 in
set_option maxRecDepth 100000 in
theorem writeString_fn (b buf : Value) (nb : Bool) (l : List UInt8) (s : ByteArray) (σ : GW) (hlow : Low [40, 41] σ) (v0 v1 : Value) (hv0 : Ty.has (Ty.val b) σ v0) (hv1 : Ty.has (Ty.val (Value.string s)) σ v1) (ho_b : OwnPT 57 σ 40 b [(Ty.val (bAddr nb b)), (Ty.val buf)]) (ho_buf : Own σ 41 5 1 buf (List.length l) (List.map Ty.byte l)) (hl : l.length ≤ 1000000000) (E : s.size ≤ 1000000000) :
    FnL Tryd.prog 30 #[v0, v1] σ [40, 41] (fun v τ => ∃ (bz : Value), (Ty.has (Ty.tup2 (Ty.nat (ByteArray.size s)) (Ty.val Value.nilIface)) τ v) ∧ (OwnPT 57 τ 40 b [(Ty.val (bAddr false b)), (Ty.val bz)]) ∧ (Own τ 41 5 1 bz (List.length (l ++ (ByteArray.data s).toList)) (List.map Ty.byte (l ++ (ByteArray.data s).toList)))) := by
 refine fn_introL hlow Tryd.func30 rfl Tryd.ntmps30 (Nat.le_of_ble_eq_true rfl) (fun a0 F0 ok0 hargs => ?_)
 have p0 : At (Ty.val b) σ a0 (.tmp 0) := by have e := hargs 0 _ rfl; show Ty.has _ _ _; rw [e]; exact hv0
 have p1 : At (Ty.val (Value.string s)) σ a0 (.tmp 1) := by have e := hargs 1 _ rfl; show Ty.has _ _ _; rw [e]; exact hv1
 clear hargs; refine wp_seq ?_
 refine reg (a := a0) (σ := σ) rfl (fun i_ => List.getD [(Ty.pr (Ty.int (0 : Int))), (Ty.pr (Ty.val Value.nilIface))] i_ Pr.any) ok0 rfl ⟨?_, ?_, trivial⟩ ?_
 · intro A B E G H; exact rP (y_assign rfl)
 · intro A B E G H d0; exact rP (y_assign rfl)
 intro a1 s1 D1; have ok1 := D1.ok; have F1 := F0.step0 D1.stp; have q1 := D1.kt p0 rfl; have q2 := D1.kt p1 rfl; have o1 := OwnPT.k0 ho_b D1.stp; have o2 := Own.k0 ho_buf D1.stp; clear D1; refine tn ?_; refine wp_seq ?_
 refine reg2 (a := a1) (σ := s1) rfl 1 (fun i_ => List.getD [(Ty.pr (Ty.val b))] i_ Pr.any) ok1 rfl (by decide) rfl ⟨?_, trivial⟩ ?_
 · intro A B E G H; exact rP (y_move (kp (H 0 rfl) E q1))
 intro a2 s2 D2; have ok2 := D2.ok; have F2 := F1.step0 D2.stp; have q3 := D2.kt q1 rfl; have q4 := D2.kt q2 rfl; have o3 := OwnPT.k0 o1 D2.stp; have o4 := Own.k0 o2 D2.stp; have q5 := D2.dn 0 (by decide) rfl rfl; clear D2
 refine tailL (L := [40]) (R := (fun v τ' => ∃ τ, (fun v τ => True ∧ (OwnPT 57 τ 40 b [(Ty.val (bAddr false b)), (Ty.val buf)])) v τ ∧ Back [(40, 40)] τ τ')) rfl rfl (by decide) ok2 (y_callL (L := [40]) [(40, 40)] [(40, 40)] #[a2.eval (.tmp 6)] rfl (by decide) Tryd.func47 rfl rfl (by simp only [List.map_toArray, List.map_cons, List.map_nil]) (copyCheck_fn (b) (buf) (nb) _ (GW.low_lend _ (by decide)) _ (Ty.up _ (GW.le_lend _ _) q5) (OwnPT.ren o3 (GW.ren_lend _ _ (by decide) rfl)) )) (fun a3 s3 hs1 ok3 r1 sm1 => ?_)
 have F3 := F2.stepL hs1 (by decide); have q6 := kpL hs1 (by decide) (sm1 0 (by decide)) q3; have q7 := kpL hs1 (by decide) (sm1 1 (by decide)) q4; have o7 := Own.keepL o4 hs1 (by decide) (by decide)
 obtain ⟨t1, ⟨hT1, o5⟩, B1⟩ := r1
 have o6 : OwnPT 57 s3 40 b [(Ty.val (bAddr false b)), (Ty.val buf)] := OwnPT.ren o5 (B1.ren (by decide) rfl)
 refine wpList_nil ?_; refine tn ?_; refine wp_seq ?_
 refine reg2 (a := a3) (σ := s3) rfl 6 (fun i_ => List.getD [(Ty.pr (Ty.val b)), (Ty.pr (Ty.val b)), (Ty.pr (Ty.val b)), (Ty.pr (Ty.val (ptrAt b 1))), (Ty.pr (Ty.val buf)), (Ty.pr (Ty.val (Value.string s)))] i_ Pr.any) ok3 rfl (by decide) rfl ⟨?_, ?_, ?_, ?_, ?_, ?_, trivial⟩ ?_
 · intro A B E G H; exact rP (y_move (kp (H 0 rfl) E q6))
 · intro A B E G H; exact rP (y_move (kp (H 0 rfl) E q6))
 · intro A B E G H d0; exact rP (y_nilp (OwnPT.toP (OwnPT.k0 o6 E)) (ed d0 rfl rfl rfl))
 · intro A B E G H d0; exact rP (ownp_field Tryd.fld57_1 Tryd.inf55 (by decide) (OwnPT.toP (OwnPT.k0 o6 E)) (ed d0 rfl rfl rfl))
 · intro A B E G H d0; exact rP (ownp_load Tryd.underlying55 rfl (OwnPT.toP (OwnPT.k0 o6 E)) (ed d0 rfl rfl rfl) rfl)
 · intro A B E G H; exact rP (y_move (kp (H 1 rfl) E q7))
 intro a4 s4 D3; have ok4 := D3.ok; have F4 := F3.step0 D3.stp; have q9 := D3.kt q7 rfl; have o8 := Own.k0 o7 D3.stp; have o9 := OwnPT.k0 o6 D3.stp; have q10 := D3.dn 0 (by decide) rfl rfl; have q11 := D3.dn 4 (by decide) rfl rfl; have q12 := D3.dn 5 (by decide) rfl rfl; clear D3
 refine tailL (L := [41]) (R := (fun v τ => Own τ 41 5 1 v ((List.length l) + ByteArray.size s) ((List.map Ty.byte l) ++ (ByteArray.data s).toList.map Ty.byte))) rfl rfl (by decide) ok4 (YldM.toL (m_appendS Tryd.underlying55 Tryd.underlying9 Tryd.inf5 (by decide) (al (R := (Pr.own 41 5 1 (List.length l) (List.map Ty.byte l))) q11 o8) q12 (by omega))) (fun a5 s5 hs2 ok5 r2 sm2 => ?_)
 have F5 := F4.stepL hs2 (by decide); have q13 := kpL hs2 (by decide) (sm2 1 (by decide)) q9; have q14 := kpL hs2 (by decide) (sm2 8 (by decide)) q10; have o11 := OwnPT.keepL o9 hs2 (by decide) (by decide)
 obtain ⟨x1, hx1⟩ : ∃ x, a5.eval (.tmp 14) = x := ⟨_, rfl⟩
 have q15 : At (Ty.val x1) s5 a5 (.tmp 14) := hx1
 have o10 : Own s5 41 5 1 x1 (List.length (l ++ (ByteArray.data s).toList)) (List.map Ty.byte (l ++ (ByteArray.data s).toList)) := al2 (R := (Pr.own 41 5 1 (List.length (l ++ (ByteArray.data s).toList)) (List.map Ty.byte (l ++ (ByteArray.data s).toList)))) hx1 (cvo (by simp) (by rw [List.map_append]) r2)
 clear r2
 refine tailL (L := []) (R := (fun v τ => Pr.has (Ty.pr (Ty.val b)) τ v)) rfl rfl (by decide) ok5 (Yld.toL (y_nilp (OwnPT.toP o11) q14)) (fun a6 s6 hs3 ok6 r3 sm3 => ?_)
 have F6 := F5.stepL hs3 (by decide); have q16 := kpL hs3 (by decide) (sm3 1 (by decide)) q13; have q17 := kpL hs3 (by decide) (sm3 14 (by decide)) q15; have o12 := OwnPT.keepL o11 hs3 (by decide) (by decide); have o13 := Own.keepL o10 hs3 (by decide) (by decide)
 have q18 : At (Ty.val b) s6 a6 (.tmp 15) := r3
 clear r3
 refine tailL (L := []) (R := (fun v τ => Pr.has (Ty.pr (Ty.val (ptrAt b 1))) τ v)) rfl rfl (by decide) ok6 (Yld.toL (ownp_field Tryd.fld57_1 Tryd.inf55 (by decide) (OwnPT.toP o12) q18)) (fun a7 s7 hs4 ok7 r4 sm4 => ?_)
 have F7 := F6.stepL hs4 (by decide); have q19 := kpL hs4 (by decide) (sm4 1 (by decide)) q16; have q20 := kpL hs4 (by decide) (sm4 14 (by decide)) q17; have o14 := OwnPT.keepL o12 hs4 (by decide) (by decide); have o15 := Own.keepL o13 hs4 (by decide) (by decide)
 have q21 : At (Ty.val (ptrAt b 1)) s7 a7 (.tmp 16) := r4
 clear r4
 refine tailL0 (L := [40]) (R := (fun _ τ => OwnPT 57 τ 40 b ([(Ty.val (bAddr false b)), (Ty.val buf)].set 1 (Ty.val x1)))) rfl rfl (YldM.toL (m_storept Tryd.inf55 (by decide) o14 q21 (Nat.le_of_ble_eq_true rfl) q20 (one_val (Own.one o15)))) (fun v1 s8 hs5 r5 => ?_)
 have F8 := F7.stepL hs5 (by decide); have q22 := kpL hs5 (by decide) rfl q19; have o17 := Own.keepL o15 hs5 (by decide) (by decide)
 have o16 : OwnPT 57 s8 40 b [(Ty.val (bAddr false b)), (Ty.val x1)] := r5
 clear r5; refine wpList_nil ?_; refine tn ?_; refine wp_seq ?_
 refine rg a7 s8 [(Ty.val (Value.string s)), (Ty.nat (ByteArray.size s)), (Ty.nat (ByteArray.size s)), (Ty.val Value.nilIface)] ok7 ⟨?_, ?_, ?_, ?_, trivial⟩ ?_
 · intro A B E G H; exact rP (y_move (kp (H 1 rfl) E q22))
 · intro A B E G H d0; exact rP (y_len_str Tryd.underlying9 (ed d0 rfl rfl rfl))
 · intro A B E G H d0 d1 d2; exact rP (y_assign (ed d0 rfl rfl rfl))
 · intro A B E G H d0 d1 d2 d3; exact rP (y_assign rfl)
 intro a8 s9 D4; have ok8 := D4.ok; have F9 := F8.step0 D4.stp; have o18 := Own.k0 o17 D4.stp; have o19 := OwnPT.k0 o16 D4.stp; have q24 := D4.dn 2 rfl rfl; have q25 := D4.dn 3 rfl rfl; clear D4; refine tn ?_; refine wp_ret ?_
 exact retL2 rfl ok8 F9 ⟨x1, (hasT2 q24 q25), o19, o18⟩


set_option maxHeartbeats 4000000 in
set_option maxRecDepth 100000 in
theorem appendRuneNA_fn (buf : Value) (l : List UInt8) (c : Int) (σ : GW) (hlow : Low [41] σ) (v0 v1 : Value) (hv0 : Ty.has (Ty.val buf) σ v0) (hv1 : Ty.has (Ty.val (Value.int .i32 c)) σ v1) (ho_buf : Own σ 41 5 1 buf (List.length l) (List.map Ty.byte l)) (hl : l.length ≤ 1000000000) (hc : -2147483648 ≤ c ∧ c ≤ 2147483647) (h1 : 127 < c % 4294967296) :
    FnL Tryd.prog 63 #[v0, v1] σ [41] (fun v τ => ∃ (bz : Value), (Ty.has (Ty.val bz) τ v) ∧ (Own τ 41 5 1 bz (List.length (l ++ (ByteArray.data (Utf8.encode c)).toList)) (List.map Ty.byte (l ++ (ByteArray.data (Utf8.encode c)).toList)))) := by
 have e1_ : c % 256 % 64 = c % 64 := by omega
 have e2_ : c / 64 % 256 % 64 = c / 64 % 64 := by omega
 have e3_ : c / 4096 % 256 % 64 = c / 4096 % 64 := by omega
 refine fn_introL hlow Tryd.func63 rfl Tryd.ntmps63 (Nat.le_of_ble_eq_true rfl) (fun a0 F0 ok0 hargs => ?_)
 have p0 : At (Ty.val buf) σ a0 (.tmp 0) := by have e := hargs 0 _ rfl; show Ty.has _ _ _; rw [e]; exact hv0
 have p1 : At (Ty.val (Value.int .i32 c)) σ a0 (.tmp 1) := by have e := hargs 1 _ rfl; show Ty.has _ _ _; rw [e]; exact hv1
 clear hargs; refine wp_seq ?_
 refine reg (a := a0) (σ := σ) rfl (fun i_ => List.getD [(Ty.pr (Ty.val (Value.slice none 0 0)))] i_ Pr.any) ok0 rfl ⟨?_, trivial⟩ ?_
 · intro A B E G H; exact rP (y_assign rfl)
 intro a1 s1 D1; have ok1 := D1.ok; have F1 := F0.step0 D1.stp; have q1 := D1.kt p0 rfl; have q2 := D1.kt p1 rfl; have o1 := Own.k0 ho_buf D1.stp; clear D1; refine tn ?_; refine wp_seq ?_
 refine rg a1 s1 [(Ty.val (Value.int .i32 c)), (Ty.val (Value.int .u32 (c % 4294967296))), (Ty.val (Value.int .u32 (c % 4294967296)))] ok1 ⟨?_, ?_, ?_, trivial⟩ ?_
 · intro A B E G H; exact rP (y_move (kp (H 1 rfl) E q2))
 · intro A B E G H d0; exact rP (y_conv (m := (c % 4294967296)) Tryd.underlying88 (ed d0 rfl rfl rfl) (by exact wrap_u32m c) (by rw [Tryd.underlying21]; rfl))
 · intro A B E G H d0 d1 d2; exact rP (y_assign (ed d0 rfl rfl rfl))
 intro a2 s2 D2; have ok2 := D2.ok; have F2 := F1.step0 D2.stp; have q3 := D2.kt q1 rfl; have q4 := D2.kt q2 rfl; have o2 := Own.k0 o1 D2.stp; have q5 := D2.dn 2 rfl rfl; clear D2; refine tn ?_; refine wp_block ?_; refine wp_seq ?_
 refine rg a2 s2 [(Ty.val (Value.int .u32 (c % 4294967296))), (Ty.bool (decide ((c % 4294967296) ≤ (2047 : Int)))), (Ty.bool (decide ((c % 4294967296) ≤ (2047 : Int))))] ok2 ⟨?_, ?_, ?_, trivial⟩ ?_
 · intro A B E G H; exact rP (y_move (kp (H 5 rfl) E q5))
 · intro A B E G H d0; exact rP (y_leq (ed d0 rfl rfl rfl) rfl)
 · intro A B E G H d0; exact rP (y_assign (ed d0 rfl rfl rfl))
 intro a3 s3 D3; have ok3 := D3.ok; have F3 := F2.step0 D3.stp; have q6 := D3.kt q3 rfl; have q7 := D3.kt q4 rfl; have q8 := D3.kt q5 rfl; have o3 := Own.k0 o2 D3.stp; have q9 := D3.dn 2 rfl rfl; clear D3; refine tn ?_
 refine cond_p (p := ((c % 4294967296) ≤ (2047 : Int))) q9 (fun c1 => ?_) (fun c1 => ?_)
 ·
  refine wp_seq ?_
  refine reg2 (a := a3) (σ := s3) rfl 10 (fun i_ => List.getD [(Ty.pr (Ty.val buf)), (Ty.pr (Ty.val (Value.int .i32 c))), (Ty.pr (Ty.val (Value.int .i32 (c / 64)))), (Ty.pr (Ty.val (Value.int .u8 (c / 64)))), (Ty.pr (Ty.val (Value.int .u8 (192 + (c / 64))))), (Ty.pr (Ty.val (Value.int .i32 c))), (Ty.pr (Ty.val (Value.int .u8 (c % 256)))), (Ty.pr (Ty.val (Value.int .u8 ((c % 256) % 64)))), (Ty.pr (Ty.val (Value.int .u8 (128 + ((c % 256) % 64))))), (Ty.pr (Ty.sl 1 2 [(Ty.byte (bt (192 + (c / 64)))), (Ty.byte (bt (128 + ((c % 256) % 64))))]))] i_ Pr.any) ok3 rfl (by decide) rfl ⟨?_, ?_, ?_, ?_, ?_, ?_, ?_, ?_, ?_, ?_, trivial⟩ ?_
  · intro A B E G H; exact rP (y_move (kp (H 0 rfl) E q6))
  · intro A B E G H; exact rP (y_move (kp (H 1 rfl) E q7))
  · intro A B E G H d0; exact rP (y_shr6 (ed d0 rfl rfl rfl) rfl)
  · intro A B E G H d0; exact rP (y_conv Tryd.underlying5 (ed d0 rfl rfl rfl) (by exact wrap_u8 (by omega) (by omega)) (by rw [Tryd.underlying21]; rfl))
  · intro A B E G H d0; exact rP (y_or8 (i := 5) (m := 6) rfl (ed d0 rfl rfl rfl) (by omega) (by omega) (by decide) (by omega))
  · intro A B E G H; exact rP (y_move (kp (H 1 rfl) E q7))
  · intro A B E G H d0; exact rP (y_conv (m := (c % 256)) Tryd.underlying5 (ed d0 rfl rfl rfl) (by exact wrap_u8m c) (by rw [Tryd.underlying21]; rfl))
  · intro A B E G H d0; exact rP (y_and8 (ed d0 rfl rfl rfl) rfl (by omega) (by omega))
  · intro A B E G H d0; exact rP (y_or8 (i := 6) (m := 2) rfl (ed d0 rfl rfl rfl) (by omega) (by omega) (by decide) (by omega))
  · intro A B E G H d0 d1; exact rP (y_build2 Tryd.underlying55 Tryd.inf5 rfl (one_val rfl) (one_val rfl) (cvByte (by omega) (by omega) (ed d0 rfl rfl rfl)) (cvByte (by omega) (by omega) (ed d1 rfl rfl rfl)))
  intro a4 s4 D4; have ok4 := D4.ok; have F4 := F3.step0 D4.stp; have o4 := Own.k0 o3 D4.stp; have q10 := D4.dn 0 (by decide) rfl rfl; have q11 := D4.dn 9 (by decide) rfl rfl
  have b1 := sl_le q11
  clear D4
  refine tailL (L := [41]) (R := (fun v τ => Own τ 41 5 1 v ((List.length l) + 2) ((List.map Ty.byte l) ++ [(Ty.byte (bt (192 + (c / 64)))), (Ty.byte (bt (128 + ((c % 256) % 64))))]))) rfl rfl (by decide) ok4 (YldM.toL (m_append Tryd.underlying55 Tryd.inf5 (by decide) rfl (by decide) (al (R := (Pr.own 41 5 1 (List.length l) (List.map Ty.byte l))) q10 o4) q11 (by intro U hU; simp at hU; rcases hU with rfl | rfl <;> exact one_val rfl) (by omega) (by omega))) (fun a5 s5 hs1 ok5 r1 sm1 => ?_)
  have F5 := F4.stepL hs1 (by decide)
  obtain ⟨x1, hx1⟩ : ∃ x, a5.eval (.tmp 24) = x := ⟨_, rfl⟩
  have q12 : At (Ty.val x1) s5 a5 (.tmp 24) := hx1
  have o5 : Own s5 41 5 1 x1 (List.length (l ++ [(bt (192 + (c / 64))), (bt (128 + ((c % 256) % 64)))])) (List.map Ty.byte (l ++ [(bt (192 + (c / 64))), (bt (128 + ((c % 256) % 64)))])) := al2 (R := (Pr.own 41 5 1 (List.length (l ++ [(bt (192 + (c / 64))), (bt (128 + ((c % 256) % 64)))])) (List.map Ty.byte (l ++ [(bt (192 + (c / 64))), (bt (128 + ((c % 256) % 64)))])))) hx1 (cvo (by simp) (by first | (rw [List.map_append]; rfl) | simp) r1)
  clear r1
  refine tailL (L := []) (R := (fun v τ => Pr.has (Ty.pr (Ty.val x1)) τ v)) rfl rfl (by decide) ok5 (Yld.toL (y_assign q12)) (fun a6 s6 hs2 ok6 r2 sm2 => ?_)
  have F6 := F5.stepL hs2 (by decide); have o6 := Own.keepL o5 hs2 (by decide) (by decide)
  have q13 : At (Ty.val x1) s6 a6 (.tmp 4) := r2
  clear r2; refine wpList_nil ?_; refine tn ?_; refine wp_ret ?_; refine br ?_
  exact retL1 rfl ok6 F6 ⟨x1, q13, (cvo (by (rw [enc_2 (by omega) (by omega), e1_])) (by (rw [enc_2 (by omega) (by omega), e1_])) o6)⟩
 ·
  refine wp_seq ?_; refine wp_seq ?_
  refine rg a3 s3 [(Ty.val (Value.int .u32 (c % 4294967296))), (Ty.bool (decide ((c % 4294967296) < (55296 : Int)))), (Ty.bool (decide ((c % 4294967296) < (55296 : Int))))] ok3 ⟨?_, ?_, ?_, trivial⟩ ?_
  · intro A B E G H; exact rP (y_move (kp (H 5 rfl) E q8))
  · intro A B E G H d0; exact rP (y_lss (ed d0 rfl rfl rfl) rfl)
  · intro A B E G H d0; exact rP (y_assign (ed d0 rfl rfl rfl))
  intro a7 s7 D5; have ok7 := D5.ok; have F7 := F3.step0 D5.stp; have q14 := D5.kt q6 rfl; have q15 := D5.kt q7 rfl; have q16 := D5.kt q8 rfl; have o7 := Own.k0 o3 D5.stp; have q17 := D5.dn 2 rfl rfl; clear D5; refine tn ?_
  refine cond_p (p := ((c % 4294967296) < (55296 : Int))) q17 (fun c2 => ?_) (fun c2 => ?_)
  ·
   refine wp_skip ?_; refine tn ?_
   refine cond_p (p := ((c % 4294967296) < (55296 : Int))) q17 (fun c3 => ?_) (fun c3 => ?_)
   ·
    refine wp_seq ?_
    refine reg2 (a := a7) (σ := s7) rfl 15 (fun i_ => List.getD [(Ty.pr (Ty.val buf)), (Ty.pr (Ty.val (Value.int .i32 c))), (Ty.pr (Ty.val (Value.int .i32 (c / 4096)))), (Ty.pr (Ty.val (Value.int .u8 (c / 4096)))), (Ty.pr (Ty.val (Value.int .u8 (224 + (c / 4096))))), (Ty.pr (Ty.val (Value.int .i32 c))), (Ty.pr (Ty.val (Value.int .i32 (c / 64)))), (Ty.pr (Ty.val (Value.int .u8 (c / 64 % 256)))), (Ty.pr (Ty.val (Value.int .u8 ((c / 64 % 256) % 64)))), (Ty.pr (Ty.val (Value.int .u8 (128 + ((c / 64 % 256) % 64))))), (Ty.pr (Ty.val (Value.int .i32 c))), (Ty.pr (Ty.val (Value.int .u8 (c % 256)))), (Ty.pr (Ty.val (Value.int .u8 ((c % 256) % 64)))), (Ty.pr (Ty.val (Value.int .u8 (128 + ((c % 256) % 64))))), (Ty.pr (Ty.sl 1 3 [(Ty.byte (bt (224 + (c / 4096)))), (Ty.byte (bt (128 + ((c / 64 % 256) % 64)))), (Ty.byte (bt (128 + ((c % 256) % 64))))]))] i_ Pr.any) ok7 rfl (by decide) rfl ⟨?_, ?_, ?_, ?_, ?_, ?_, ?_, ?_, ?_, ?_, ?_, ?_, ?_, ?_, ?_, trivial⟩ ?_
    · intro A B E G H; exact rP (y_move (kp (H 0 rfl) E q14))
    · intro A B E G H; exact rP (y_move (kp (H 1 rfl) E q15))
    · intro A B E G H d0; exact rP (y_shr12 (ed d0 rfl rfl rfl) rfl)
    · intro A B E G H d0; exact rP (y_conv Tryd.underlying5 (ed d0 rfl rfl rfl) (by exact wrap_u8 (by omega) (by omega)) (by rw [Tryd.underlying21]; rfl))
    · intro A B E G H d0; exact rP (y_or8 (i := 4) (m := 14) rfl (ed d0 rfl rfl rfl) (by omega) (by omega) (by decide) (by omega))
    · intro A B E G H; exact rP (y_move (kp (H 1 rfl) E q15))
    · intro A B E G H d0; exact rP (y_shr6 (ed d0 rfl rfl rfl) rfl)
    · intro A B E G H d0; exact rP (y_conv (m := (c / 64 % 256)) Tryd.underlying5 (ed d0 rfl rfl rfl) (by exact wrap_u8m _) (by rw [Tryd.underlying21]; rfl))
    · intro A B E G H d0; exact rP (y_and8 (ed d0 rfl rfl rfl) rfl (by omega) (by omega))
    · intro A B E G H d0; exact rP (y_or8 (i := 6) (m := 2) rfl (ed d0 rfl rfl rfl) (by omega) (by omega) (by decide) (by omega))
    · intro A B E G H; exact rP (y_move (kp (H 1 rfl) E q15))
    · intro A B E G H d0; exact rP (y_conv (m := (c % 256)) Tryd.underlying5 (ed d0 rfl rfl rfl) (by exact wrap_u8m c) (by rw [Tryd.underlying21]; rfl))
    · intro A B E G H d0; exact rP (y_and8 (ed d0 rfl rfl rfl) rfl (by omega) (by omega))
    · intro A B E G H d0; exact rP (y_or8 (i := 6) (m := 2) rfl (ed d0 rfl rfl rfl) (by omega) (by omega) (by decide) (by omega))
    · intro A B E G H d0 d1 d2; exact rP (y_build3 Tryd.underlying55 Tryd.inf5 rfl (one_val rfl) (one_val rfl) (one_val rfl) (cvByte (by omega) (by omega) (ed d0 rfl rfl rfl)) (cvByte (by omega) (by omega) (ed d1 rfl rfl rfl)) (cvByte (by omega) (by omega) (ed d2 rfl rfl rfl)))
    intro a8 s8 D6; have ok8 := D6.ok; have F8 := F7.step0 D6.stp; have o8 := Own.k0 o7 D6.stp; have q18 := D6.dn 0 (by decide) rfl rfl; have q19 := D6.dn 14 (by decide) rfl rfl
    have b2 := sl_le q19
    clear D6
    refine tailL (L := [41]) (R := (fun v τ => Own τ 41 5 1 v ((List.length l) + 3) ((List.map Ty.byte l) ++ [(Ty.byte (bt (224 + (c / 4096)))), (Ty.byte (bt (128 + ((c / 64 % 256) % 64)))), (Ty.byte (bt (128 + ((c % 256) % 64))))]))) rfl rfl (by decide) ok8 (YldM.toL (m_append Tryd.underlying55 Tryd.inf5 (by decide) rfl (by decide) (al (R := (Pr.own 41 5 1 (List.length l) (List.map Ty.byte l))) q18 o8) q19 (by intro U hU; simp at hU; rcases hU with rfl | rfl | rfl <;> exact one_val rfl) (by omega) (by omega))) (fun a9 s9 hs3 ok9 r3 sm3 => ?_)
    have F9 := F8.stepL hs3 (by decide)
    obtain ⟨x2, hx2⟩ : ∃ x, a9.eval (.tmp 49) = x := ⟨_, rfl⟩
    have q20 : At (Ty.val x2) s9 a9 (.tmp 49) := hx2
    have o9 : Own s9 41 5 1 x2 (List.length (l ++ [(bt (224 + (c / 4096))), (bt (128 + ((c / 64 % 256) % 64))), (bt (128 + ((c % 256) % 64)))])) (List.map Ty.byte (l ++ [(bt (224 + (c / 4096))), (bt (128 + ((c / 64 % 256) % 64))), (bt (128 + ((c % 256) % 64)))])) := al2 (R := (Pr.own 41 5 1 (List.length (l ++ [(bt (224 + (c / 4096))), (bt (128 + ((c / 64 % 256) % 64))), (bt (128 + ((c % 256) % 64)))])) (List.map Ty.byte (l ++ [(bt (224 + (c / 4096))), (bt (128 + ((c / 64 % 256) % 64))), (bt (128 + ((c % 256) % 64)))])))) hx2 (cvo (by simp) (by first | (rw [List.map_append]; rfl) | simp) r3)
    clear r3
    refine tailL (L := []) (R := (fun v τ => Pr.has (Ty.pr (Ty.val x2)) τ v)) rfl rfl (by decide) ok9 (Yld.toL (y_assign q20)) (fun a10 s10 hs4 ok10 r4 sm4 => ?_)
    have F10 := F9.stepL hs4 (by decide); have o10 := Own.keepL o9 hs4 (by decide) (by decide)
    have q21 : At (Ty.val x2) s10 a10 (.tmp 4) := r4
    clear r4; refine wpList_nil ?_; refine tn ?_; refine wp_ret ?_; refine br ?_
    exact retL1 rfl ok10 F10 ⟨x2, q21, (cvo (by (rw [enc_3 (by omega) (by omega) (by omega), e1_, e2_])) (by (rw [enc_3 (by omega) (by omega) (by omega), e1_, e2_])) o10)⟩
   ·
    exfalso
    omega
  ·
   refine rg a7 s7 [(Ty.val (Value.int .u32 (c % 4294967296))), (Ty.bool (decide ((57343 : Int) < (c % 4294967296)))), (Ty.bool (decide ((57343 : Int) < (c % 4294967296)))), (Ty.grd ((decide ((57343 : Int) < (c % 4294967296))) = true) (Ty.val (Value.int .u32 (c % 4294967296)))), (Ty.grd ((decide ((57343 : Int) < (c % 4294967296))) = true) (Ty.bool (decide ((c % 4294967296) ≤ (65535 : Int))))), (Ty.bool ((decide ((57343 : Int) < (c % 4294967296))) && (decide ((c % 4294967296) ≤ (65535 : Int))))), (Ty.bool ((decide ((57343 : Int) < (c % 4294967296))) && (decide ((c % 4294967296) ≤ (65535 : Int)))))] ok7 ⟨?_, ?_, ?_, ?_, ?_, ?_, ?_, trivial⟩ ?_
   · intro A B E G H; exact rP (y_move (kp (H 5 rfl) E q16))
   · intro A B E G H d0; exact rP (y_lss rfl (ed d0 rfl rfl rfl))
   · intro A B E G H d0; exact rP (y_move (ed d0 rfl rfl rfl))
   · intro A B E G H d0
     refine run_guard G rfl rfl (by decide) (ed d0 rfl rfl rfl) (fun hg => ?_)
     have hp := of_decide_eq_true hg
     exact y_move (kp (H 5 rfl) E q16)
   · intro A B E G H d0 d1
     refine run_guard G rfl rfl (by decide) (ed d1 rfl rfl rfl) (fun hg => ?_)
     have hp := of_decide_eq_true hg
     exact y_leq ((ed d0 rfl rfl rfl).1 hg) rfl
   · intro A B E G H d0 d1; exact rP (y_pick_and (ed d0 rfl rfl rfl) (ed d1 rfl rfl rfl) rfl)
   · intro A B E G H d0 d1; exact rP (y_assign (ed d0 rfl rfl rfl))
   intro a11 s11 D7; have ok11 := D7.ok; have F11 := F7.step0 D7.stp; have q22 := D7.kt q14 rfl; have q23 := D7.kt q15 rfl; have q24 := D7.kt q16 rfl; have o11 := Own.k0 o7 D7.stp; have q25 := D7.dn 6 rfl rfl; clear D7; refine tn ?_
   refine cond_t q25 (fun c4 => ?_) (fun c4 => ?_)
   ·
    obtain ⟨d1, d2⟩ := Bool.and_eq_true_iff.mp c4
    replace d1 := of_decide_eq_true d1
    replace d2 := of_decide_eq_true d2
    simp only [Bool.and_eq_true, decide_eq_true_eq] at c4
    refine wp_seq ?_
    refine reg2 (a := a11) (σ := s11) rfl 15 (fun i_ => List.getD [(Ty.pr (Ty.val buf)), (Ty.pr (Ty.val (Value.int .i32 c))), (Ty.pr (Ty.val (Value.int .i32 (c / 4096)))), (Ty.pr (Ty.val (Value.int .u8 (c / 4096)))), (Ty.pr (Ty.val (Value.int .u8 (224 + (c / 4096))))), (Ty.pr (Ty.val (Value.int .i32 c))), (Ty.pr (Ty.val (Value.int .i32 (c / 64)))), (Ty.pr (Ty.val (Value.int .u8 (c / 64 % 256)))), (Ty.pr (Ty.val (Value.int .u8 ((c / 64 % 256) % 64)))), (Ty.pr (Ty.val (Value.int .u8 (128 + ((c / 64 % 256) % 64))))), (Ty.pr (Ty.val (Value.int .i32 c))), (Ty.pr (Ty.val (Value.int .u8 (c % 256)))), (Ty.pr (Ty.val (Value.int .u8 ((c % 256) % 64)))), (Ty.pr (Ty.val (Value.int .u8 (128 + ((c % 256) % 64))))), (Ty.pr (Ty.sl 1 3 [(Ty.byte (bt (224 + (c / 4096)))), (Ty.byte (bt (128 + ((c / 64 % 256) % 64)))), (Ty.byte (bt (128 + ((c % 256) % 64))))]))] i_ Pr.any) ok11 rfl (by decide) rfl ⟨?_, ?_, ?_, ?_, ?_, ?_, ?_, ?_, ?_, ?_, ?_, ?_, ?_, ?_, ?_, trivial⟩ ?_
    · intro A B E G H; exact rP (y_move (kp (H 0 rfl) E q22))
    · intro A B E G H; exact rP (y_move (kp (H 1 rfl) E q23))
    · intro A B E G H d0; exact rP (y_shr12 (ed d0 rfl rfl rfl) rfl)
    · intro A B E G H d0; exact rP (y_conv Tryd.underlying5 (ed d0 rfl rfl rfl) (by exact wrap_u8 (by omega) (by omega)) (by rw [Tryd.underlying21]; rfl))
    · intro A B E G H d0; exact rP (y_or8 (i := 4) (m := 14) rfl (ed d0 rfl rfl rfl) (by omega) (by omega) (by decide) (by omega))
    · intro A B E G H; exact rP (y_move (kp (H 1 rfl) E q23))
    · intro A B E G H d0; exact rP (y_shr6 (ed d0 rfl rfl rfl) rfl)
    · intro A B E G H d0; exact rP (y_conv (m := (c / 64 % 256)) Tryd.underlying5 (ed d0 rfl rfl rfl) (by exact wrap_u8m _) (by rw [Tryd.underlying21]; rfl))
    · intro A B E G H d0; exact rP (y_and8 (ed d0 rfl rfl rfl) rfl (by omega) (by omega))
    · intro A B E G H d0; exact rP (y_or8 (i := 6) (m := 2) rfl (ed d0 rfl rfl rfl) (by omega) (by omega) (by decide) (by omega))
    · intro A B E G H; exact rP (y_move (kp (H 1 rfl) E q23))
    · intro A B E G H d0; exact rP (y_conv (m := (c % 256)) Tryd.underlying5 (ed d0 rfl rfl rfl) (by exact wrap_u8m c) (by rw [Tryd.underlying21]; rfl))
    · intro A B E G H d0; exact rP (y_and8 (ed d0 rfl rfl rfl) rfl (by omega) (by omega))
    · intro A B E G H d0; exact rP (y_or8 (i := 6) (m := 2) rfl (ed d0 rfl rfl rfl) (by omega) (by omega) (by decide) (by omega))
    · intro A B E G H d0 d1 d2; exact rP (y_build3 Tryd.underlying55 Tryd.inf5 rfl (one_val rfl) (one_val rfl) (one_val rfl) (cvByte (by omega) (by omega) (ed d0 rfl rfl rfl)) (cvByte (by omega) (by omega) (ed d1 rfl rfl rfl)) (cvByte (by omega) (by omega) (ed d2 rfl rfl rfl)))
    intro a12 s12 D8; have ok12 := D8.ok; have F12 := F11.step0 D8.stp; have o12 := Own.k0 o11 D8.stp; have q26 := D8.dn 0 (by decide) rfl rfl; have q27 := D8.dn 14 (by decide) rfl rfl
    have b3 := sl_le q27
    clear D8
    refine tailL (L := [41]) (R := (fun v τ => Own τ 41 5 1 v ((List.length l) + 3) ((List.map Ty.byte l) ++ [(Ty.byte (bt (224 + (c / 4096)))), (Ty.byte (bt (128 + ((c / 64 % 256) % 64)))), (Ty.byte (bt (128 + ((c % 256) % 64))))]))) rfl rfl (by decide) ok12 (YldM.toL (m_append Tryd.underlying55 Tryd.inf5 (by decide) rfl (by decide) (al (R := (Pr.own 41 5 1 (List.length l) (List.map Ty.byte l))) q26 o12) q27 (by intro U hU; simp at hU; rcases hU with rfl | rfl | rfl <;> exact one_val rfl) (by omega) (by omega))) (fun a13 s13 hs5 ok13 r5 sm5 => ?_)
    have F13 := F12.stepL hs5 (by decide)
    obtain ⟨x3, hx3⟩ : ∃ x, a13.eval (.tmp 49) = x := ⟨_, rfl⟩
    have q28 : At (Ty.val x3) s13 a13 (.tmp 49) := hx3
    have o13 : Own s13 41 5 1 x3 (List.length (l ++ [(bt (224 + (c / 4096))), (bt (128 + ((c / 64 % 256) % 64))), (bt (128 + ((c % 256) % 64)))])) (List.map Ty.byte (l ++ [(bt (224 + (c / 4096))), (bt (128 + ((c / 64 % 256) % 64))), (bt (128 + ((c % 256) % 64)))])) := al2 (R := (Pr.own 41 5 1 (List.length (l ++ [(bt (224 + (c / 4096))), (bt (128 + ((c / 64 % 256) % 64))), (bt (128 + ((c % 256) % 64)))])) (List.map Ty.byte (l ++ [(bt (224 + (c / 4096))), (bt (128 + ((c / 64 % 256) % 64))), (bt (128 + ((c % 256) % 64)))])))) hx3 (cvo (by simp) (by first | (rw [List.map_append]; rfl) | simp) r5)
    clear r5
    refine tailL (L := []) (R := (fun v τ => Pr.has (Ty.pr (Ty.val x3)) τ v)) rfl rfl (by decide) ok13 (Yld.toL (y_assign q28)) (fun a14 s14 hs6 ok14 r6 sm6 => ?_)
    have F14 := F13.stepL hs6 (by decide); have o14 := Own.keepL o13 hs6 (by decide) (by decide)
    have q29 : At (Ty.val x3) s14 a14 (.tmp 4) := r6
    clear r6; refine wpList_nil ?_; refine tn ?_; refine wp_ret ?_; refine br ?_
    exact retL1 rfl ok14 F14 ⟨x3, q29, (cvo (by (rw [enc_3 (by omega) (by omega) (by omega), e1_, e2_])) (by (rw [enc_3 (by omega) (by omega) (by omega), e1_, e2_])) o14)⟩
   ·
    have hn4 := c4; simp only [Bool.and_eq_false_iff, decide_eq_false_iff_not] at hn4
    refine wp_seq ?_
    refine rg a11 s11 [(Ty.val (Value.int .u32 (c % 4294967296))), (Ty.bool (decide ((65535 : Int) < (c % 4294967296)))), (Ty.bool (decide ((65535 : Int) < (c % 4294967296)))), (Ty.grd ((decide ((65535 : Int) < (c % 4294967296))) = true) (Ty.val (Value.int .u32 (c % 4294967296)))), (Ty.grd ((decide ((65535 : Int) < (c % 4294967296))) = true) (Ty.bool (decide ((c % 4294967296) ≤ (1114111 : Int))))), (Ty.bool ((decide ((65535 : Int) < (c % 4294967296))) && (decide ((c % 4294967296) ≤ (1114111 : Int))))), (Ty.bool ((decide ((65535 : Int) < (c % 4294967296))) && (decide ((c % 4294967296) ≤ (1114111 : Int)))))] ok11 ⟨?_, ?_, ?_, ?_, ?_, ?_, ?_, trivial⟩ ?_
    · intro A B E G H; exact rP (y_move (kp (H 5 rfl) E q24))
    · intro A B E G H d0; exact rP (y_gtr (ed d0 rfl rfl rfl) rfl)
    · intro A B E G H d0; exact rP (y_move (ed d0 rfl rfl rfl))
    · intro A B E G H d0
      refine run_guard G rfl rfl (by decide) (ed d0 rfl rfl rfl) (fun hg => ?_)
      have hp := of_decide_eq_true hg
      exact y_move (kp (H 5 rfl) E q24)
    · intro A B E G H d0 d1
      refine run_guard G rfl rfl (by decide) (ed d1 rfl rfl rfl) (fun hg => ?_)
      have hp := of_decide_eq_true hg
      exact y_leq ((ed d0 rfl rfl rfl).1 hg) rfl
    · intro A B E G H d0 d1; exact rP (y_pick_and (ed d0 rfl rfl rfl) (ed d1 rfl rfl rfl) rfl)
    · intro A B E G H d0 d1; exact rP (y_assign (ed d0 rfl rfl rfl))
    intro a15 s15 D9; have ok15 := D9.ok; have F15 := F11.step0 D9.stp; have q30 := D9.kt q22 rfl; have q31 := D9.kt q23 rfl; have o15 := Own.k0 o11 D9.stp; have q32 := D9.dn 6 rfl rfl; clear D9; refine tn ?_
    refine cond_t q32 (fun c5 => ?_) (fun c5 => ?_)
    ·
     obtain ⟨d3, d4⟩ := Bool.and_eq_true_iff.mp c5
     replace d3 := of_decide_eq_true d3
     replace d4 := of_decide_eq_true d4
     simp only [Bool.and_eq_true, decide_eq_true_eq] at c5
     refine wp_seq ?_
     refine reg2 (a := a15) (σ := s15) rfl 20 (fun i_ => List.getD [(Ty.pr (Ty.val buf)), (Ty.pr (Ty.val (Value.int .i32 c))), (Ty.pr (Ty.val (Value.int .i32 (c / 262144)))), (Ty.pr (Ty.val (Value.int .u8 (c / 262144)))), (Ty.pr (Ty.val (Value.int .u8 (240 + (c / 262144))))), (Ty.pr (Ty.val (Value.int .i32 c))), (Ty.pr (Ty.val (Value.int .i32 (c / 4096)))), (Ty.pr (Ty.val (Value.int .u8 (c / 4096 % 256)))), (Ty.pr (Ty.val (Value.int .u8 ((c / 4096 % 256) % 64)))), (Ty.pr (Ty.val (Value.int .u8 (128 + ((c / 4096 % 256) % 64))))), (Ty.pr (Ty.val (Value.int .i32 c))), (Ty.pr (Ty.val (Value.int .i32 (c / 64)))), (Ty.pr (Ty.val (Value.int .u8 (c / 64 % 256)))), (Ty.pr (Ty.val (Value.int .u8 ((c / 64 % 256) % 64)))), (Ty.pr (Ty.val (Value.int .u8 (128 + ((c / 64 % 256) % 64))))), (Ty.pr (Ty.val (Value.int .i32 c))), (Ty.pr (Ty.val (Value.int .u8 (c % 256)))), (Ty.pr (Ty.val (Value.int .u8 ((c % 256) % 64)))), (Ty.pr (Ty.val (Value.int .u8 (128 + ((c % 256) % 64))))), (Ty.pr (Ty.sl 1 4 [(Ty.byte (bt (240 + (c / 262144)))), (Ty.byte (bt (128 + ((c / 4096 % 256) % 64)))), (Ty.byte (bt (128 + ((c / 64 % 256) % 64)))), (Ty.byte (bt (128 + ((c % 256) % 64))))]))] i_ Pr.any) ok15 rfl (by decide) rfl ⟨?_, ?_, ?_, ?_, ?_, ?_, ?_, ?_, ?_, ?_, ?_, ?_, ?_, ?_, ?_, ?_, ?_, ?_, ?_, ?_, trivial⟩ ?_
     · intro A B E G H; exact rP (y_move (kp (H 0 rfl) E q30))
     · intro A B E G H; exact rP (y_move (kp (H 1 rfl) E q31))
     · intro A B E G H d0; exact rP (y_shr18 (ed d0 rfl rfl rfl) rfl)
     · intro A B E G H d0; exact rP (y_conv Tryd.underlying5 (ed d0 rfl rfl rfl) (by exact wrap_u8 (by omega) (by omega)) (by rw [Tryd.underlying21]; rfl))
     · intro A B E G H d0; exact rP (y_or8 (i := 3) (m := 30) rfl (ed d0 rfl rfl rfl) (by omega) (by omega) (by decide) (by omega))
     · intro A B E G H; exact rP (y_move (kp (H 1 rfl) E q31))
     · intro A B E G H d0; exact rP (y_shr12 (ed d0 rfl rfl rfl) rfl)
     · intro A B E G H d0; exact rP (y_conv (m := (c / 4096 % 256)) Tryd.underlying5 (ed d0 rfl rfl rfl) (by exact wrap_u8m _) (by rw [Tryd.underlying21]; rfl))
     · intro A B E G H d0; exact rP (y_and8 (ed d0 rfl rfl rfl) rfl (by omega) (by omega))
     · intro A B E G H d0; exact rP (y_or8 (i := 6) (m := 2) rfl (ed d0 rfl rfl rfl) (by omega) (by omega) (by decide) (by omega))
     · intro A B E G H; exact rP (y_move (kp (H 1 rfl) E q31))
     · intro A B E G H d0; exact rP (y_shr6 (ed d0 rfl rfl rfl) rfl)
     · intro A B E G H d0; exact rP (y_conv (m := (c / 64 % 256)) Tryd.underlying5 (ed d0 rfl rfl rfl) (by exact wrap_u8m _) (by rw [Tryd.underlying21]; rfl))
     · intro A B E G H d0; exact rP (y_and8 (ed d0 rfl rfl rfl) rfl (by omega) (by omega))
     · intro A B E G H d0; exact rP (y_or8 (i := 6) (m := 2) rfl (ed d0 rfl rfl rfl) (by omega) (by omega) (by decide) (by omega))
     · intro A B E G H; exact rP (y_move (kp (H 1 rfl) E q31))
     · intro A B E G H d0; exact rP (y_conv (m := (c % 256)) Tryd.underlying5 (ed d0 rfl rfl rfl) (by exact wrap_u8m c) (by rw [Tryd.underlying21]; rfl))
     · intro A B E G H d0; exact rP (y_and8 (ed d0 rfl rfl rfl) rfl (by omega) (by omega))
     · intro A B E G H d0; exact rP (y_or8 (i := 6) (m := 2) rfl (ed d0 rfl rfl rfl) (by omega) (by omega) (by decide) (by omega))
     · intro A B E G H d0 d1 d2 d3; exact rP (y_build4 Tryd.underlying55 Tryd.inf5 rfl (one_val rfl) (one_val rfl) (one_val rfl) (one_val rfl) (cvByte (by omega) (by omega) (ed d0 rfl rfl rfl)) (cvByte (by omega) (by omega) (ed d1 rfl rfl rfl)) (cvByte (by omega) (by omega) (ed d2 rfl rfl rfl)) (cvByte (by omega) (by omega) (ed d3 rfl rfl rfl)))
     intro a16 s16 D10; have ok16 := D10.ok; have F16 := F15.step0 D10.stp; have o16 := Own.k0 o15 D10.stp; have q33 := D10.dn 0 (by decide) rfl rfl; have q34 := D10.dn 19 (by decide) rfl rfl
     have b4 := sl_le q34
     clear D10
     refine tailL (L := [41]) (R := (fun v τ => Own τ 41 5 1 v ((List.length l) + 4) ((List.map Ty.byte l) ++ [(Ty.byte (bt (240 + (c / 262144)))), (Ty.byte (bt (128 + ((c / 4096 % 256) % 64)))), (Ty.byte (bt (128 + ((c / 64 % 256) % 64)))), (Ty.byte (bt (128 + ((c % 256) % 64))))]))) rfl rfl (by decide) ok16 (YldM.toL (m_append Tryd.underlying55 Tryd.inf5 (by decide) rfl (by decide) (al (R := (Pr.own 41 5 1 (List.length l) (List.map Ty.byte l))) q33 o16) q34 (by intro U hU; simp at hU; rcases hU with rfl | rfl | rfl | rfl <;> exact one_val rfl) (by omega) (by omega))) (fun a17 s17 hs7 ok17 r7 sm7 => ?_)
     have F17 := F16.stepL hs7 (by decide)
     obtain ⟨x4, hx4⟩ : ∃ x, a17.eval (.tmp 77) = x := ⟨_, rfl⟩
     have q35 : At (Ty.val x4) s17 a17 (.tmp 77) := hx4
     have o17 : Own s17 41 5 1 x4 (List.length (l ++ [(bt (240 + (c / 262144))), (bt (128 + ((c / 4096 % 256) % 64))), (bt (128 + ((c / 64 % 256) % 64))), (bt (128 + ((c % 256) % 64)))])) (List.map Ty.byte (l ++ [(bt (240 + (c / 262144))), (bt (128 + ((c / 4096 % 256) % 64))), (bt (128 + ((c / 64 % 256) % 64))), (bt (128 + ((c % 256) % 64)))])) := al2 (R := (Pr.own 41 5 1 (List.length (l ++ [(bt (240 + (c / 262144))), (bt (128 + ((c / 4096 % 256) % 64))), (bt (128 + ((c / 64 % 256) % 64))), (bt (128 + ((c % 256) % 64)))])) (List.map Ty.byte (l ++ [(bt (240 + (c / 262144))), (bt (128 + ((c / 4096 % 256) % 64))), (bt (128 + ((c / 64 % 256) % 64))), (bt (128 + ((c % 256) % 64)))])))) hx4 (cvo (by simp) (by first | (rw [List.map_append]; rfl) | simp) r7)
     clear r7
     refine tailL (L := []) (R := (fun v τ => Pr.has (Ty.pr (Ty.val x4)) τ v)) rfl rfl (by decide) ok17 (Yld.toL (y_assign q35)) (fun a18 s18 hs8 ok18 r8 sm8 => ?_)
     have F18 := F17.stepL hs8 (by decide); have o18 := Own.keepL o17 hs8 (by decide) (by decide)
     have q36 : At (Ty.val x4) s18 a18 (.tmp 4) := r8
     clear r8; refine wpList_nil ?_; refine tn ?_; refine wp_ret ?_; refine br ?_
     exact retL1 rfl ok18 F18 ⟨x4, q36, (cvo (by (rw [enc_4 (by omega) (by omega), e1_, e2_, e3_])) (by (rw [enc_4 (by omega) (by omega), e1_, e2_, e3_])) o18)⟩
    ·
     simp only [Bool.and_eq_false_iff, decide_eq_false_iff_not] at c5
     refine wp_seq ?_
     refine reg2 (a := a15) (σ := s15) rfl 2 (fun i_ => List.getD [(Ty.pr (Ty.val buf)), (Ty.pr (Ty.sl 1 3 [(Ty.byte (bt (239 : Int))), (Ty.byte (bt (191 : Int))), (Ty.byte (bt (189 : Int)))]))] i_ Pr.any) ok15 rfl (by decide) rfl ⟨?_, ?_, trivial⟩ ?_
     · intro A B E G H; exact rP (y_move (kp (H 0 rfl) E q30))
     · intro A B E G H; exact rP (y_build3 Tryd.underlying55 Tryd.inf5 rfl (one_val rfl) (one_val rfl) (one_val rfl) (cvByte (by omega) (by omega) rfl) (cvByte (by omega) (by omega) rfl) (cvByte (by omega) (by omega) rfl))
     intro a19 s19 D11; have ok19 := D11.ok; have F19 := F15.step0 D11.stp; have o19 := Own.k0 o15 D11.stp; have q37 := D11.dn 0 (by decide) rfl rfl; have q38 := D11.dn 1 (by decide) rfl rfl
     have b5 := sl_le q38
     clear D11
     refine tailL (L := [41]) (R := (fun v τ => Own τ 41 5 1 v ((List.length l) + 3) ((List.map Ty.byte l) ++ [(Ty.byte (bt (239 : Int))), (Ty.byte (bt (191 : Int))), (Ty.byte (bt (189 : Int)))]))) rfl rfl (by decide) ok19 (YldM.toL (m_append Tryd.underlying55 Tryd.inf5 (by decide) rfl (by decide) (al (R := (Pr.own 41 5 1 (List.length l) (List.map Ty.byte l))) q37 o19) q38 (by intro U hU; simp at hU; rcases hU with rfl | rfl | rfl <;> exact one_val rfl) (by omega) (by omega))) (fun a20 s20 hs9 ok20 r9 sm9 => ?_)
     have F20 := F19.stepL hs9 (by decide)
     obtain ⟨x5, hx5⟩ : ∃ x, a20.eval (.tmp 10) = x := ⟨_, rfl⟩
     have q39 : At (Ty.val x5) s20 a20 (.tmp 10) := hx5
     have o20 : Own s20 41 5 1 x5 (List.length (l ++ [(bt (239 : Int)), (bt (191 : Int)), (bt (189 : Int))])) (List.map Ty.byte (l ++ [(bt (239 : Int)), (bt (191 : Int)), (bt (189 : Int))])) := al2 (R := (Pr.own 41 5 1 (List.length (l ++ [(bt (239 : Int)), (bt (191 : Int)), (bt (189 : Int))])) (List.map Ty.byte (l ++ [(bt (239 : Int)), (bt (191 : Int)), (bt (189 : Int))])))) hx5 (cvo (by simp) (by first | (rw [List.map_append]; rfl) | simp) r9)
     clear r9
     refine tailL (L := []) (R := (fun v τ => Pr.has (Ty.pr (Ty.val x5)) τ v)) rfl rfl (by decide) ok20 (Yld.toL (y_assign q39)) (fun a21 s21 hs10 ok21 r10 sm10 => ?_)
     have F21 := F20.stepL hs10 (by decide); have o21 := Own.keepL o20 hs10 (by decide) (by decide)
     have q40 : At (Ty.val x5) s21 a21 (.tmp 4) := r10
     clear r10; refine wpList_nil ?_; refine tn ?_; refine wp_ret ?_; refine br ?_
     exact retL1 rfl ok21 F21 ⟨x5, q40, (cvo (by (rw [enc_bad (by omega)])) (by (rw [enc_bad (by omega)])) o21)⟩


set_option maxHeartbeats 4000000 in
set_option maxRecDepth 100000 in
theorem appendRune_fn (buf : Value) (l : List UInt8) (c : Int) (σ : GW) (hlow : Low [41] σ) (v0 v1 : Value) (hv0 : Ty.has (Ty.val buf) σ v0) (hv1 : Ty.has (Ty.val (Value.int .i32 c)) σ v1) (ho_buf : Own σ 41 5 1 buf (List.length l) (List.map Ty.byte l)) (hl : l.length ≤ 1000000000) (hc : -2147483648 ≤ c ∧ c ≤ 2147483647) :
    FnL Tryd.prog 49 #[v0, v1] σ [41] (fun v τ => ∃ (bz : Value), (Ty.has (Ty.val bz) τ v) ∧ (Own τ 41 5 1 bz (List.length (l ++ (ByteArray.data (Utf8.encode c)).toList)) (List.map Ty.byte (l ++ (ByteArray.data (Utf8.encode c)).toList)))) := by
 refine fn_introL hlow Tryd.func49 rfl Tryd.ntmps49 (Nat.le_of_ble_eq_true rfl) (fun a0 F0 ok0 hargs => ?_)
 have p0 : At (Ty.val buf) σ a0 (.tmp 0) := by have e := hargs 0 _ rfl; show Ty.has _ _ _; rw [e]; exact hv0
 have p1 : At (Ty.val (Value.int .i32 c)) σ a0 (.tmp 1) := by have e := hargs 1 _ rfl; show Ty.has _ _ _; rw [e]; exact hv1
 clear hargs; refine wp_seq ?_
 refine reg (a := a0) (σ := σ) rfl (fun i_ => List.getD [(Ty.pr (Ty.val (Value.slice none 0 0)))] i_ Pr.any) ok0 rfl ⟨?_, trivial⟩ ?_
 · intro A B E G H; exact rP (y_assign rfl)
 intro a1 s1 D1; have ok1 := D1.ok; have F1 := F0.step0 D1.stp; have q1 := D1.kt p0 rfl; have q2 := D1.kt p1 rfl; have o1 := Own.k0 ho_buf D1.stp; clear D1; refine tn ?_; refine wp_seq ?_; refine wp_seq ?_
 refine rg a1 s1 [(Ty.val (Value.int .i32 c)), (Ty.val (Value.int .u32 (c % 4294967296))), (Ty.bool (decide ((c % 4294967296) ≤ (127 : Int))))] ok1 ⟨?_, ?_, ?_, trivial⟩ ?_
 · intro A B E G H; exact rP (y_move (kp (H 1 rfl) E q2))
 · intro A B E G H d0; exact rP (y_conv (m := (c % 4294967296)) Tryd.underlying88 (ed d0 rfl rfl rfl) (by exact wrap_u32m c) (by rw [Tryd.underlying21]; rfl))
 · intro A B E G H d0; exact rP (y_leq (ed d0 rfl rfl rfl) rfl)
 intro a2 s2 D2; have ok2 := D2.ok; have F2 := F1.step0 D2.stp; have q3 := D2.kt q1 rfl; have q4 := D2.kt q2 rfl; have o2 := Own.k0 o1 D2.stp; have q5 := D2.dn 2 rfl rfl; clear D2; refine tn ?_
 refine cond_p (p := ((c % 4294967296) ≤ (127 : Int))) q5 (fun c1 => ?_) (fun c1 => ?_)
 ·
  refine wp_seq ?_
  refine reg2 (a := a2) (σ := s2) rfl 4 (fun i_ => List.getD [(Ty.pr (Ty.val buf)), (Ty.pr (Ty.val (Value.int .i32 c))), (Ty.pr (Ty.val (Value.int .u8 c))), (Ty.pr (Ty.sl 1 1 [(Ty.byte (Nat.toUInt8 (Int.toNat c)))]))] i_ Pr.any) ok2 rfl (by decide) rfl ⟨?_, ?_, ?_, ?_, trivial⟩ ?_
  · intro A B E G H; exact rP (y_move (kp (H 0 rfl) E q3))
  · intro A B E G H; exact rP (y_move (kp (H 1 rfl) E q4))
  · intro A B E G H d0; exact rP (y_conv Tryd.underlying5 (ed d0 rfl rfl rfl) (by exact wrap_u8 (by omega) (by omega)) (by rw [Tryd.underlying21]; rfl))
  · intro A B E G H d0; exact rP (y_build1o Tryd.underlying55 Tryd.inf5 rfl (one_val rfl) (cvByte (by omega) (by omega) (ed d0 rfl rfl rfl)))
  intro a3 s3 D3; have ok3 := D3.ok; have F3 := F2.step0 D3.stp; have o3 := Own.k0 o2 D3.stp; have q6 := D3.dn 0 (by decide) rfl rfl; have q7 := D3.dn 3 (by decide) rfl rfl
  have b1 := sl_le q7
  clear D3
  refine tailL (L := [41]) (R := (fun v τ => Own τ 41 5 1 v ((List.length l) + 1) ((List.map Ty.byte l) ++ [(Ty.byte (Nat.toUInt8 (Int.toNat c)))]))) rfl rfl (by decide) ok3 (YldM.toL (m_append Tryd.underlying55 Tryd.inf5 (by decide) rfl (by decide) (al (R := (Pr.own 41 5 1 (List.length l) (List.map Ty.byte l))) q6 o3) q7 (by intro U hU; simp at hU; subst hU; exact one_val rfl) (by omega) (by omega))) (fun a4 s4 hs1 ok4 r1 sm1 => ?_)
  have F4 := F3.stepL hs1 (by decide)
  obtain ⟨x1, hx1⟩ : ∃ x, a4.eval (.tmp 12) = x := ⟨_, rfl⟩
  have q8 : At (Ty.val x1) s4 a4 (.tmp 12) := hx1
  have o4 : Own s4 41 5 1 x1 (List.length (l ++ [(Nat.toUInt8 (Int.toNat c))])) (List.map Ty.byte (l ++ [(Nat.toUInt8 (Int.toNat c))])) := al2 (R := (Pr.own 41 5 1 (List.length (l ++ [(Nat.toUInt8 (Int.toNat c))])) (List.map Ty.byte (l ++ [(Nat.toUInt8 (Int.toNat c))])))) hx1 (cvo (by simp) (by first | (rw [List.map_append]; rfl) | simp) r1)
  clear r1
  refine tailL (L := []) (R := (fun v τ => Pr.has (Ty.pr (Ty.val x1)) τ v)) rfl rfl (by decide) ok4 (Yld.toL (y_assign q8)) (fun a5 s5 hs2 ok5 r2 sm2 => ?_)
  have F5 := F4.stepL hs2 (by decide); have o5 := Own.keepL o4 hs2 (by decide) (by decide)
  have q9 : At (Ty.val x1) s5 a5 (.tmp 4) := r2
  clear r2; refine wpList_nil ?_; refine tn ?_; refine wp_ret ?_; refine tr ?_
  exact retL1 rfl ok5 F5 ⟨x1, q9, (cvo (by (rw [enc_1 (by omega) (by omega)]; rfl)) (by (rw [enc_1 (by omega) (by omega)]; rfl)) o5)⟩
 ·
  refine wp_skip ?_; refine tn ?_; refine wp_seq ?_
  refine reg2 (a := a2) (σ := s2) rfl 2 (fun i_ => List.getD [(Ty.pr (Ty.val buf)), (Ty.pr (Ty.val (Value.int .i32 c)))] i_ Pr.any) ok2 rfl (by decide) rfl ⟨?_, ?_, trivial⟩ ?_
  · intro A B E G H; exact rP (y_move (kp (H 0 rfl) E q3))
  · intro A B E G H; exact rP (y_move (kp (H 1 rfl) E q4))
  intro a6 s6 D4; have ok6 := D4.ok; have F6 := F2.step0 D4.stp; have o6 := Own.k0 o2 D4.stp; have q10 := D4.dn 0 (by decide) rfl rfl; have q11 := D4.dn 1 (by decide) rfl rfl; clear D4
  refine tailL (L := [41]) (R := (fun v τ' => ∃ τ, (fun v τ => ∃ (bz : Value), (Ty.has (Ty.val bz) τ v) ∧ (Own τ 41 5 1 bz (List.length (l ++ (ByteArray.data (Utf8.encode c)).toList)) (List.map Ty.byte (l ++ (ByteArray.data (Utf8.encode c)).toList)))) v τ ∧ Back [(41, 41)] τ τ')) rfl rfl (by decide) ok6 (y_callL (L := [41]) [(41, 41)] [(41, 41)] #[a6.eval (.tmp 13), a6.eval (.tmp 14)] rfl (by decide) Tryd.func63 rfl rfl (by simp only [List.map_toArray, List.map_cons, List.map_nil]) (appendRuneNA_fn (buf) (l) (c) _ (GW.low_lend _ (by decide)) _ _ (Ty.up _ (GW.le_lend _ _) q10) (Ty.up _ (GW.le_lend _ _) q11) (Own.ren o6 (GW.ren_lend _ _ (by decide) rfl)) (by omega) (by omega) (by omega))) (fun a7 s7 hs3 ok7 r3 sm3 => ?_)
  have F7 := F6.stepL hs3 (by decide)
  obtain ⟨t1, ⟨x2, hT1, o7⟩, B1⟩ := r3
  have q12 : At (Ty.val x2) s7 a7 (.tmp 15) := Ty.up _ B1.le hT1
  have o8 : Own s7 41 5 1 x2 (List.length (l ++ (ByteArray.data (Utf8.encode c)).toList)) (List.map Ty.byte (l ++ (ByteArray.data (Utf8.encode c)).toList)) := Own.ren o7 (B1.ren (by decide) rfl)
  refine tailL (L := []) (R := (fun v τ => Pr.has (Ty.pr (Ty.val x2)) τ v)) rfl rfl (by decide) ok7 (Yld.toL (y_assign q12)) (fun a8 s8 hs4 ok8 r4 sm4 => ?_)
  have F8 := F7.stepL hs4 (by decide); have o9 := Own.keepL o8 hs4 (by decide) (by decide)
  have q13 : At (Ty.val x2) s8 a8 (.tmp 4) := r4
  clear r4; refine wpList_nil ?_; refine tn ?_; refine wp_ret ?_
  exact retL1 rfl ok8 F8 ⟨x2, q13, o9⟩


set_option maxHeartbeats 4000000 in
set_option maxRecDepth 100000 in
theorem writeRune_fn (b buf : Value) (nb : Bool) (l : List UInt8) (c : Int) (σ : GW) (hlow : Low [40, 41] σ) (v0 v1 : Value) (hv0 : Ty.has (Ty.val b) σ v0) (hv1 : Ty.has (Ty.val (Value.int .i32 c)) σ v1) (ho_b : OwnPT 57 σ 40 b [(Ty.val (bAddr nb b)), (Ty.val buf)]) (ho_buf : Own σ 41 5 1 buf (List.length l) (List.map Ty.byte l)) (hl : l.length ≤ 1000000000) (hc : -2147483648 ≤ c ∧ c ≤ 2147483647) :
    FnL Tryd.prog 32 #[v0, v1] σ [40, 41] (fun v τ => ∃ (bz : Value), (Ty.has (Ty.tup2 (Ty.nat (ByteArray.size (Utf8.encode c))) (Ty.val Value.nilIface)) τ v) ∧ (OwnPT 57 τ 40 b [(Ty.val (bAddr false b)), (Ty.val bz)]) ∧ (Own τ 41 5 1 bz (List.length (l ++ (ByteArray.data (Utf8.encode c)).toList)) (List.map Ty.byte (l ++ (ByteArray.data (Utf8.encode c)).toList)))) := by
 refine fn_introL hlow Tryd.func32 rfl Tryd.ntmps32 (Nat.le_of_ble_eq_true rfl) (fun a0 F0 ok0 hargs => ?_)
 have p0 : At (Ty.val b) σ a0 (.tmp 0) := by have e := hargs 0 _ rfl; show Ty.has _ _ _; rw [e]; exact hv0
 have p1 : At (Ty.val (Value.int .i32 c)) σ a0 (.tmp 1) := by have e := hargs 1 _ rfl; show Ty.has _ _ _; rw [e]; exact hv1
 clear hargs; refine wp_seq ?_
 refine reg (a := a0) (σ := σ) rfl (fun i_ => List.getD [(Ty.pr (Ty.int (0 : Int))), (Ty.pr (Ty.val Value.nilIface))] i_ Pr.any) ok0 rfl ⟨?_, ?_, trivial⟩ ?_
 · intro A B E G H; exact rP (y_assign rfl)
 · intro A B E G H d0; exact rP (y_assign rfl)
 intro a1 s1 D1; have ok1 := D1.ok; have F1 := F0.step0 D1.stp; have q1 := D1.kt p0 rfl; have q2 := D1.kt p1 rfl; have o1 := OwnPT.k0 ho_b D1.stp; have o2 := Own.k0 ho_buf D1.stp; clear D1; refine tn ?_; refine wp_seq ?_
 refine reg2 (a := a1) (σ := s1) rfl 1 (fun i_ => List.getD [(Ty.pr (Ty.val b))] i_ Pr.any) ok1 rfl (by decide) rfl ⟨?_, trivial⟩ ?_
 · intro A B E G H; exact rP (y_move (kp (H 0 rfl) E q1))
 intro a2 s2 D2; have ok2 := D2.ok; have F2 := F1.step0 D2.stp; have q3 := D2.kt q1 rfl; have q4 := D2.kt q2 rfl; have o3 := OwnPT.k0 o1 D2.stp; have o4 := Own.k0 o2 D2.stp; have q5 := D2.dn 0 (by decide) rfl rfl; clear D2
 refine tailL (L := [40]) (R := (fun v τ' => ∃ τ, (fun v τ => True ∧ (OwnPT 57 τ 40 b [(Ty.val (bAddr false b)), (Ty.val buf)])) v τ ∧ Back [(40, 40)] τ τ')) rfl rfl (by decide) ok2 (y_callL (L := [40]) [(40, 40)] [(40, 40)] #[a2.eval (.tmp 7)] rfl (by decide) Tryd.func47 rfl rfl (by simp only [List.map_toArray, List.map_cons, List.map_nil]) (copyCheck_fn (b) (buf) (nb) _ (GW.low_lend _ (by decide)) _ (Ty.up _ (GW.le_lend _ _) q5) (OwnPT.ren o3 (GW.ren_lend _ _ (by decide) rfl)) )) (fun a3 s3 hs1 ok3 r1 sm1 => ?_)
 have F3 := F2.stepL hs1 (by decide); have q6 := kpL hs1 (by decide) (sm1 0 (by decide)) q3; have q7 := kpL hs1 (by decide) (sm1 1 (by decide)) q4; have o7 := Own.keepL o4 hs1 (by decide) (by decide)
 obtain ⟨t1, ⟨hT1, o5⟩, B1⟩ := r1
 have o6 : OwnPT 57 s3 40 b [(Ty.val (bAddr false b)), (Ty.val buf)] := OwnPT.ren o5 (B1.ren (by decide) rfl)
 refine wpList_nil ?_; refine tn ?_; refine wp_seq ?_
 refine rg a3 s3 [(Ty.val b), (Ty.val b), (Ty.val (ptrAt b 1)), (Ty.val buf), (Ty.nat (List.length l)), (Ty.nat (List.length l))] ok3 ⟨?_, ?_, ?_, ?_, ?_, ?_, trivial⟩ ?_
 · intro A B E G H; exact rP (y_move (kp (H 0 rfl) E q6))
 · intro A B E G H d0; exact rP (y_nilp (OwnPT.toP (OwnPT.k0 o6 E)) (ed d0 rfl rfl rfl))
 · intro A B E G H d0; exact rP (ownp_field Tryd.fld57_1 Tryd.inf55 (by decide) (OwnPT.toP (OwnPT.k0 o6 E)) (ed d0 rfl rfl rfl))
 · intro A B E G H d0; exact rP (ownp_load Tryd.underlying55 rfl (OwnPT.toP (OwnPT.k0 o6 E)) (ed d0 rfl rfl rfl) rfl)
 · intro A B E G H d0; exact rP (own_len Tryd.underlying55 (al (R := (Pr.own 41 5 1 (List.length l) (List.map Ty.byte l))) (ed d0 rfl rfl rfl) (Own.k0 o7 E)))
 · intro A B E G H d0 d1 d2 d3 d4 d5; exact rP (y_assign (ed d0 rfl rfl rfl))
 intro a4 s4 D3; have ok4 := D3.ok; have F4 := F3.step0 D3.stp; have q9 := D3.kt q6 rfl; have q10 := D3.kt q7 rfl; have o8 := Own.k0 o7 D3.stp; have o9 := OwnPT.k0 o6 D3.stp; have q11 := D3.dn 5 rfl rfl; clear D3; refine tn ?_; refine wp_seq ?_
 refine reg2 (a := a4) (σ := s4) rfl 6 (fun i_ => List.getD [(Ty.pr (Ty.val b)), (Ty.pr (Ty.val b)), (Ty.pr (Ty.val b)), (Ty.pr (Ty.val (ptrAt b 1))), (Ty.pr (Ty.val buf)), (Ty.pr (Ty.val (Value.int .i32 c)))] i_ Pr.any) ok4 rfl (by decide) rfl ⟨?_, ?_, ?_, ?_, ?_, ?_, trivial⟩ ?_
 · intro A B E G H; exact rP (y_move (kp (H 0 rfl) E q9))
 · intro A B E G H; exact rP (y_move (kp (H 0 rfl) E q9))
 · intro A B E G H d0; exact rP (y_nilp (OwnPT.toP (OwnPT.k0 o9 E)) (ed d0 rfl rfl rfl))
 · intro A B E G H d0; exact rP (ownp_field Tryd.fld57_1 Tryd.inf55 (by decide) (OwnPT.toP (OwnPT.k0 o9 E)) (ed d0 rfl rfl rfl))
 · intro A B E G H d0; exact rP (ownp_load Tryd.underlying55 rfl (OwnPT.toP (OwnPT.k0 o9 E)) (ed d0 rfl rfl rfl) rfl)
 · intro A B E G H; exact rP (y_move (kp (H 1 rfl) E q10))
 intro a5 s5 D4; have ok5 := D4.ok; have F5 := F4.step0 D4.stp; have q12 := D4.kt q9 rfl; have q13 := D4.kt q11 rfl; have o10 := Own.k0 o8 D4.stp; have o11 := OwnPT.k0 o9 D4.stp; have q14 := D4.dn 0 (by decide) rfl rfl; have q15 := D4.dn 4 (by decide) rfl rfl; have q16 := D4.dn 5 (by decide) rfl rfl; clear D4
 refine tailL (L := [41]) (R := (fun v τ' => ∃ τ, (fun v τ => ∃ (bz : Value), (Ty.has (Ty.val bz) τ v) ∧ (Own τ 41 5 1 bz (List.length (l ++ (ByteArray.data (Utf8.encode c)).toList)) (List.map Ty.byte (l ++ (ByteArray.data (Utf8.encode c)).toList)))) v τ ∧ Back [(41, 41)] τ τ')) rfl rfl (by decide) ok5 (y_callL (L := [41]) [(41, 41)] [(41, 41)] #[a5.eval (.tmp 18), a5.eval (.tmp 19)] rfl (by decide) Tryd.func49 rfl rfl (by simp only [List.map_toArray, List.map_cons, List.map_nil]) (appendRune_fn (buf) (l) (c) _ (GW.low_lend _ (by decide)) _ _ (Ty.up _ (GW.le_lend _ _) q15) (Ty.up _ (GW.le_lend _ _) q16) (Own.ren o10 (GW.ren_lend _ _ (by decide) rfl)) (by omega) (by omega))) (fun a6 s6 hs2 ok6 r2 sm2 => ?_)
 have F6 := F5.stepL hs2 (by decide); have q17 := kpL hs2 (by decide) (sm2 0 (by decide)) q12; have q18 := kpL hs2 (by decide) (sm2 6 (by decide)) q13; have q19 := kpL hs2 (by decide) (sm2 14 (by decide)) q14; have o14 := OwnPT.keepL o11 hs2 (by decide) (by decide)
 obtain ⟨t2, ⟨x1, hT2, o12⟩, B2⟩ := r2
 have q20 : At (Ty.val x1) s6 a6 (.tmp 20) := Ty.up _ B2.le hT2
 have o13 : Own s6 41 5 1 x1 (List.length (l ++ (ByteArray.data (Utf8.encode c)).toList)) (List.map Ty.byte (l ++ (ByteArray.data (Utf8.encode c)).toList)) := Own.ren o12 (B2.ren (by decide) rfl)
 refine tailL (L := []) (R := (fun v τ => Pr.has (Ty.pr (Ty.val b)) τ v)) rfl rfl (by decide) ok6 (Yld.toL (y_nilp (OwnPT.toP o14) q19)) (fun a7 s7 hs3 ok7 r3 sm3 => ?_)
 have F7 := F6.stepL hs3 (by decide); have q21 := kpL hs3 (by decide) (sm3 0 (by decide)) q17; have q22 := kpL hs3 (by decide) (sm3 6 (by decide)) q18; have q23 := kpL hs3 (by decide) (sm3 20 (by decide)) q20; have o15 := OwnPT.keepL o14 hs3 (by decide) (by decide); have o16 := Own.keepL o13 hs3 (by decide) (by decide)
 have q24 : At (Ty.val b) s7 a7 (.tmp 21) := r3
 clear r3
 refine tailL (L := []) (R := (fun v τ => Pr.has (Ty.pr (Ty.val (ptrAt b 1))) τ v)) rfl rfl (by decide) ok7 (Yld.toL (ownp_field Tryd.fld57_1 Tryd.inf55 (by decide) (OwnPT.toP o15) q24)) (fun a8 s8 hs4 ok8 r4 sm4 => ?_)
 have F8 := F7.stepL hs4 (by decide); have q25 := kpL hs4 (by decide) (sm4 0 (by decide)) q21; have q26 := kpL hs4 (by decide) (sm4 6 (by decide)) q22; have q27 := kpL hs4 (by decide) (sm4 20 (by decide)) q23; have o17 := OwnPT.keepL o15 hs4 (by decide) (by decide); have o18 := Own.keepL o16 hs4 (by decide) (by decide)
 have q28 : At (Ty.val (ptrAt b 1)) s8 a8 (.tmp 22) := r4
 clear r4
 refine tailL0 (L := [40]) (R := (fun _ τ => OwnPT 57 τ 40 b ([(Ty.val (bAddr false b)), (Ty.val buf)].set 1 (Ty.val x1)))) rfl rfl (YldM.toL (m_storept Tryd.inf55 (by decide) o17 q28 (Nat.le_of_ble_eq_true rfl) q27 (one_val (Own.one o18)))) (fun v1 s9 hs5 r5 => ?_)
 have F9 := F8.stepL hs5 (by decide); have q29 := kpL hs5 (by decide) rfl q25; have q30 := kpL hs5 (by decide) rfl q26; have o20 := Own.keepL o18 hs5 (by decide) (by decide)
 have o19 : OwnPT 57 s9 40 b [(Ty.val (bAddr false b)), (Ty.val x1)] := r5
 clear r5; refine wpList_nil ?_; refine tn ?_; refine wp_seq ?_
 have hal : (l ++ (ByteArray.data (Utf8.encode c)).toList).length = l.length + (Utf8.encode c).size := List.length_append
 have hes := (enc_size c).2
 refine rg a8 s9 [(Ty.val b), (Ty.val b), (Ty.val (ptrAt b 1)), (Ty.val x1), (Ty.nat (List.length (l ++ (ByteArray.data (Utf8.encode c)).toList))), (Ty.nat (List.length l)), (Ty.nat ((List.length (l ++ (ByteArray.data (Utf8.encode c)).toList)) - (List.length l))), (Ty.nat ((List.length (l ++ (ByteArray.data (Utf8.encode c)).toList)) - (List.length l))), (Ty.val Value.nilIface)] ok8 ⟨?_, ?_, ?_, ?_, ?_, ?_, ?_, ?_, ?_, trivial⟩ ?_
 · intro A B E G H; exact rP (y_move (kp (H 0 rfl) E q29))
 · intro A B E G H d0; exact rP (y_nilp (OwnPT.toP (OwnPT.k0 o19 E)) (ed d0 rfl rfl rfl))
 · intro A B E G H d0; exact rP (ownp_field Tryd.fld57_1 Tryd.inf55 (by decide) (OwnPT.toP (OwnPT.k0 o19 E)) (ed d0 rfl rfl rfl))
 · intro A B E G H d0; exact rP (ownp_load Tryd.underlying55 rfl (OwnPT.toP (OwnPT.k0 o19 E)) (ed d0 rfl rfl rfl) rfl)
 · intro A B E G H d0; exact rP (own_len Tryd.underlying55 (al (R := (Pr.own 41 5 1 (List.length (l ++ (ByteArray.data (Utf8.encode c)).toList)) (List.map Ty.byte (l ++ (ByteArray.data (Utf8.encode c)).toList)))) (ed d0 rfl rfl rfl) (Own.k0 o20 E)))
 · intro A B E G H; exact rP (y_move (kp (H 6 rfl) E q30))
 · intro A B E G H d0 d1; exact rP ((y_sub (ed d0 rfl rfl rfl) (ed d1 rfl rfl rfl) (w64 (by omega) (by omega))).mono (fun τ _ h => cvi (σ := τ) (by omega) h))
 · intro A B E G H d0 d1 d2 d3 d4 d5 d6 d7; exact rP (y_assign (ed d0 rfl rfl rfl))
 · intro A B E G H d0 d1 d2 d3 d4 d5 d6 d7 d8; exact rP (y_assign rfl)
 intro a9 s10 D5; have ok9 := D5.ok; have F10 := F9.step0 D5.stp; have o21 := Own.k0 o20 D5.stp; have o22 := OwnPT.k0 o19 D5.stp; have q32 := D5.dn 7 rfl rfl; have q33 := D5.dn 8 rfl rfl; clear D5; refine tn ?_; refine wp_ret ?_
 exact retL2 rfl ok9 F10 ⟨x1, (hasT2 (cvi (by (rw [hal]; omega)) q32) q33), o22, o21⟩


set_option maxHeartbeats 4000000 in
set_option maxRecDepth 100000 in
theorem bString_fn (b buf : Value) (nb : Bool) (l : List UInt8) (σ : GW) (hlow : Low [40, 41] σ) (v0 : Value) (hv0 : Ty.has (Ty.val b) σ v0) (ho_b : OwnPT 57 σ 40 b [(Ty.val (bAddr nb b)), (Ty.val buf)]) (ho_buf : Own σ 41 5 1 buf (List.length l) (List.map Ty.byte l))  :
    FnL Tryd.prog 33 #[v0] σ [40, 41] (fun v τ => (Ty.has (Ty.val (Value.string (bsL l))) τ v)) := by
 refine fn_introL hlow Tryd.func33 rfl Tryd.ntmps33 (Nat.le_of_ble_eq_true rfl) (fun a0 F0 ok0 hargs => ?_)
 have p0 : At (Ty.val b) σ a0 (.tmp 0) := by have e := hargs 0 _ rfl; show Ty.has _ _ _; rw [e]; exact hv0
 clear hargs; refine wp_seq ?_
 refine reg (a := a0) (σ := σ) rfl (fun i_ => List.getD [(Ty.pr (Ty.val (Value.string (ByteArray.mk #[]))))] i_ Pr.any) ok0 rfl ⟨?_, trivial⟩ ?_
 · intro A B E G H; exact rP (y_assign rfl)
 intro a1 s1 D1; have ok1 := D1.ok; have F1 := F0.step0 D1.stp; have q1 := D1.kt p0 rfl; have o1 := OwnPT.k0 ho_b D1.stp; have o2 := Own.k0 ho_buf D1.stp; clear D1; refine tn ?_; refine wp_seq ?_
 refine reg2 (a := a1) (σ := s1) rfl 10 (fun i_ => List.getD [(Ty.pr (Ty.val b)), (Ty.pr (Ty.val b)), (Ty.pr (Ty.val (ptrAt b 1))), (Ty.pr (Ty.val buf)), (Ty.pr (Ty.dptr buf (List.length l))), (Ty.pr (Ty.val b)), (Ty.pr (Ty.val b)), (Ty.pr (Ty.val (ptrAt b 1))), (Ty.pr (Ty.val buf)), (Ty.pr (Ty.nat (List.length l)))] i_ Pr.any) ok1 rfl (by decide) rfl ⟨?_, ?_, ?_, ?_, ?_, ?_, ?_, ?_, ?_, ?_, trivial⟩ ?_
 · intro A B E G H; exact rP (y_move (kp (H 0 rfl) E q1))
 · intro A B E G H d0; exact rP (y_nilp (OwnPT.toP (OwnPT.k0 o1 E)) (ed d0 rfl rfl rfl))
 · intro A B E G H d0; exact rP (ownp_field Tryd.fld57_1 Tryd.inf55 (by decide) (OwnPT.toP (OwnPT.k0 o1 E)) (ed d0 rfl rfl rfl))
 · intro A B E G H d0; exact rP (ownp_load Tryd.underlying55 rfl (OwnPT.toP (OwnPT.k0 o1 E)) (ed d0 rfl rfl rfl) rfl)
 · intro A B E G H d0; exact rP (y_sdata Tryd.underlying78 (Own.k0 o2 E) (ed d0 rfl rfl rfl))
 · intro A B E G H; exact rP (y_move (kp (H 0 rfl) E q1))
 · intro A B E G H d0; exact rP (y_nilp (OwnPT.toP (OwnPT.k0 o1 E)) (ed d0 rfl rfl rfl))
 · intro A B E G H d0; exact rP (ownp_field Tryd.fld57_1 Tryd.inf55 (by decide) (OwnPT.toP (OwnPT.k0 o1 E)) (ed d0 rfl rfl rfl))
 · intro A B E G H d0; exact rP (ownp_load Tryd.underlying55 rfl (OwnPT.toP (OwnPT.k0 o1 E)) (ed d0 rfl rfl rfl) rfl)
 · intro A B E G H d0; exact rP (own_len Tryd.underlying55 (al (R := (Pr.own 41 5 1 (List.length l) (List.map Ty.byte l))) (ed d0 rfl rfl rfl) (Own.k0 o2 E)))
 intro a2 s2 D2; have ok2 := D2.ok; have F2 := F1.step0 D2.stp; have o3 := OwnPT.k0 o1 D2.stp; have o4 := Own.k0 o2 D2.stp; have q2 := D2.dn 4 (by decide) rfl rfl; have q3 := D2.dn 9 (by decide) rfl rfl; clear D2
 refine tailL (L := [41]) (R := (fun v τ => (Ty.val (Value.string (bsL l))).has τ v)) rfl rfl (by decide) ok2 (YldM.toL (m_sstr (by decide) Tryd.underlying78 (by kernel_rfl) o4 q2 q3)) (fun a3 s3 hs1 ok3 r1 sm1 => ?_)
 have F3 := F2.stepL hs1 (by decide); have o5 := OwnPT.keepL o3 hs1 (by decide) (by decide)
 have q4 : At (Ty.val (Value.string (bsL l))) s3 a3 (.tmp 13) := r1
 clear r1
 refine tailL (L := []) (R := (fun v τ => Pr.has (Ty.pr (Ty.val (Value.string (bsL l)))) τ v)) rfl rfl (by decide) ok3 (Yld.toL (y_assign q4)) (fun a4 s4 hs2 ok4 r2 sm2 => ?_)
 have F4 := F3.stepL hs2 (by decide); have o6 := OwnPT.keepL o5 hs2 (by decide) (by decide)
 have q5 : At (Ty.val (Value.string (bsL l))) s4 a4 (.tmp 2) := r2
 clear r2; refine wpList_nil ?_; refine tn ?_; refine wp_ret ?_
 exact retL1 rfl ok4 F4 q5


end Go.Proofs.YtbilebfnanlgfaaDoor
