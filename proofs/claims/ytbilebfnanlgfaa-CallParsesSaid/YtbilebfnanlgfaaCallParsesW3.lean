/- The functions that the law CallParses reaches, each by its contract. Part 3. -/
import Derived.Test.YtbilebfnanlgfaaCallParsesW2
namespace Go.Proofs.Ytbilebfnanlgfaa
open Go.KL

set_option maxHeartbeats 4000000 in
set_option maxRecDepth 100000 in
theorem rTouch_fn : ∀ (d : Nat) (cs : List BCall) (l : List Int) (at_ : Nat) (deep : Nat) (σ : GW)  (v0 v1 v2 v3 : Value) (hv0 : Ty.has (Ty.lstc 2 callC cs) σ v0) (hv1 : Ty.has (Ty.lst Ty.int l) σ v1) (hv2 : Ty.has (Ty.nat at_) σ v2) (hv3 : Ty.has (Ty.nat deep) σ v3)  (hd : l.length - at_ ≤ d) (ha : at_ ≤ l.length) (hdp : deep ≤ 6) (hsg : ∀ c ∈ cs, -2147483648 ≤ c.1 ∧ c.1 ≤ 2147483647) (hcl : cs.length ≤ 1000), FnC Try.prog 46 #[v0, v1, v2, v3] σ (Ty.tup3 (Ty.lst Ty.int ((parM (sgOf cs) deep ([] : List Int) (List.drop at_ l))).out) (Ty.int (if ((parM (sgOf cs) deep ([] : List Int) (List.drop at_ l))).err = 0 then ((l.length - ((parM (sgOf cs) deep ([] : List Int) (List.drop at_ l))).rest.length : Nat) : Int) else 0)) (Ty.int ((parM (sgOf cs) deep ([] : List Int) (List.drop at_ l))).err)) := by
 intro d
 induction d using Nat.strongRecOn with
 | _ d ih =>
 intro cs l at_ deep σ v0 v1 v2 v3 hv0 hv1 hv2 hv3 hd ha hdp hsg hcl
 obtain ⟨X, hX⟩ : ∃ X, X = (parM (sgOf cs) deep ([] : List Int) (List.drop at_ l)) := ⟨_, rfl⟩
 refine fn_intro0 Try.func46 rfl Try.ntmps46 (Nat.le_of_ble_eq_true rfl) (fun s0 a0 hle F0 ok0 hargs => ?_)
 have p0 : At (Ty.lstc 2 callC cs) s0 a0 (.tmp 0) := by have e := hargs 0 _ rfl; show Ty.has _ _ _; rw [e]; exact Ty.up _ hle hv0
 have b1 := sl_le p0
 have p1 : At (Ty.lst Ty.int l) s0 a0 (.tmp 1) := by have e := hargs 1 _ rfl; show Ty.has _ _ _; rw [e]; exact Ty.up _ hle hv1
 have b2 := sl_le p1
 have p2 : At (Ty.nat at_) s0 a0 (.tmp 2) := by have e := hargs 2 _ rfl; show Ty.has _ _ _; rw [e]; exact Ty.up _ hle hv2
 have p3 : At (Ty.nat deep) s0 a0 (.tmp 3) := by have e := hargs 3 _ rfl; show Ty.has _ _ _; rw [e]; exact Ty.up _ hle hv3
 clear hargs; refine wp_seq ?_
 refine rg a0 s0 [(Ty.val (Value.slice none 0 0)), (Ty.int (0 : Int)), (Ty.int (0 : Int))] ok0 ⟨?_, ?_, ?_, trivial⟩ ?_
 · intro A B E G H; exact rP (y_assign rfl)
 · intro A B E G H d0; exact rP (y_assign rfl)
 · intro A B E G H d0; exact rP (y_assign rfl)
 intro a1 s1 D1; have ok1 := D1.ok; have F1 := F0.step0 D1.stp; have q1 := D1.kt p0 rfl; have q2 := D1.kt p1 rfl; have q3 := D1.kt p2 rfl; have q4 := D1.kt p3 rfl; clear D1; refine tn ?_; refine wp_seq ?_
 refine rg a1 s1 [(Ty.val (Value.slice none 0 0))] ok1 ⟨?_, trivial⟩ ?_
 · intro A B E G H; exact rP (y_assign rfl)
 intro a2 s2 D2; have ok2 := D2.ok; have F2 := F1.step0 D2.stp; have q5 := D2.kt q1 rfl; have q6 := D2.kt q2 rfl; have q7 := D2.kt q3 rfl; have q8 := D2.kt q4 rfl; have q9 := D2.dn 0 rfl rfl; clear D2; refine tn ?_; refine wp_seq ?_; refine wp_block ?_
 have o1 : Own s2 5 3 1 (Value.slice none 0 0) 0 (List.map Ty.int ([] : List Int)) := Own.nil _ _ _ _
 refine loop (fun n1 a3 w1 => ∃ (t1 : GW) (p : Nat) (out : List Int) (x11_0 : Value), t1.w = w1 ∧ FromL [] s0 t1 ∧ Ok 154 a3 ∧ At (Ty.nat p) t1 a3 (.tmp 2) ∧ At (Ty.val x11_0) t1 a3 (.tmp 11) ∧ At (Ty.lstc 2 callC cs) t1 a3 (.tmp 0) ∧ At (Ty.lst Ty.int l) t1 a3 (.tmp 1) ∧ At (Ty.nat deep) t1 a3 (.tmp 3) ∧ Own t1 5 3 1 x11_0 (List.length out) (List.map Ty.int out) ∧ ((parM (sgOf cs) deep out (List.drop p l)) = X) ∧ (p ≤ l.length) ∧ (at_ ≤ p) ∧ (out.length ≤ 400) ∧ n1 = l.length - p) (l.length - (at_)) ?_ ?_
 ·
  exact ⟨s2, at_, ([] : List Int), (Value.slice none 0 0), rfl, F2, ok2, (cvi (by (rfl)) q7), q9, q5, q6, q8, (cvo (by (simp)) (by (simp)) o1), hX.symm, by omega, by omega, by simp, rfl⟩
 ·
  rintro n2 a4 w2 ⟨t2, p, out, x11_0, rfl, F3, ok3, q10, q11, q12, q13, q14, o2, hx, hp, hap, hol, rfl⟩
  refine wp_seq ?_; refine wp_seq ?_
  refine reg (a := a4) (σ := t2) rfl (fun i_ => List.getD [(Ty.pr (Ty.nat p)), (Ty.pr (Ty.lst Ty.int l)), (Ty.pr (Ty.nat (List.length l))), (Ty.pr (Ty.bool (decide (((p : Nat) : Int) < (((List.length l) : Nat) : Int))))), (Ty.pr (Ty.bool (decide (((p : Nat) : Int) < (((List.length l) : Nat) : Int))))), (Ty.pr (Ty.grd ((decide (((p : Nat) : Int) < (((List.length l) : Nat) : Int))) = true) (Ty.lst Ty.int l))), (Ty.pr (Ty.grd ((decide (((p : Nat) : Int) < (((List.length l) : Nat) : Int))) = true) (Ty.nat p))), (Ty.pr (Ty.grd ((decide (((p : Nat) : Int) < (((List.length l) : Nat) : Int))) = true) (Ty.ref [(Ty.int (l.getD p 0))]))), (Ty.pr (Ty.grd ((decide (((p : Nat) : Int) < (((List.length l) : Nat) : Int))) = true) (Ty.int (l.getD p 0)))), (Ty.pr (Ty.grd ((decide (((p : Nat) : Int) < (((List.length l) : Nat) : Int))) = true) (Ty.bool (decide ((l.getD p 0) ≠ (41 : Int)))))), (Ty.pr (Ty.bool ((decide (((p : Nat) : Int) < (((List.length l) : Nat) : Int))) && (decide ((l.getD p 0) ≠ (41 : Int))))))] i_ Pr.any) ok3 rfl ⟨?_, ?_, ?_, ?_, ?_, ?_, ?_, ?_, ?_, ?_, ?_, trivial⟩ ?_
  · intro A B E G H; exact rP (y_move (kp (H 2 rfl) E q10))
  · intro A B E G H; exact rP (y_move (kp (H 1 rfl) E q13))
  · intro A B E G H d0; exact rP (y_len Try.underlying23 (ed d0 rfl rfl rfl))
  · intro A B E G H d0 d1; exact rP (y_lss (ed d0 rfl rfl rfl) (ed d1 rfl rfl rfl))
  · intro A B E G H d0; exact rP (y_move (ed d0 rfl rfl rfl))
  · intro A B E G H d0
    refine run_guard G rfl rfl (by decide) (ed d0 rfl rfl rfl) (fun hg => ?_)
    have hp := of_decide_eq_true hg
    exact y_move (kp (H 1 rfl) E q13)
  · intro A B E G H d0
    refine run_guard G rfl rfl (by decide) (ed d0 rfl rfl rfl) (fun hg => ?_)
    have hp := of_decide_eq_true hg
    exact y_move (kp (H 2 rfl) E q10)
  · intro A B E G H d0 d1 d2
    refine run_guard G rfl rfl (by decide) (ed d2 rfl rfl rfl) (fun hg => ?_)
    have hp := of_decide_eq_true hg
    exact y_index1 Try.underlying23 Try.inf3 ((ed d0 rfl rfl rfl).1 hg) ((ed d1 rfl rfl rfl).1 hg) (by omega) (lst_get Ty.int l 0 p (by omega))
  · intro A B E G H d0 d1
    refine run_guard G rfl rfl (by decide) (ed d1 rfl rfl rfl) (fun hg => ?_)
    have hp := of_decide_eq_true hg
    exact y_load Try.underlying3 rfl ((ed d0 rfl rfl rfl).1 hg) rfl
  · intro A B E G H d0 d1
    refine run_guard G rfl rfl (by decide) (ed d1 rfl rfl rfl) (fun hg => ?_)
    have hp := of_decide_eq_true hg
    exact y_neq ((ed d0 rfl rfl rfl).1 hg) rfl
  · intro A B E G H d0 d1; exact rP (y_pick_and (ed d0 rfl rfl rfl) (ed d1 rfl rfl rfl) rfl)
  intro a5 s3 D3; have ok4 := D3.ok; have F4 := F3.step0 D3.stp; have q15 := D3.kt q10 rfl; have q16 := D3.kt q11 rfl; have q17 := D3.kt q12 rfl; have q18 := D3.kt q13 rfl; have q19 := D3.kt q14 rfl; have o3 := Own.k0 o2 D3.stp; have q20 := D3.dn 10 rfl rfl; clear D3; refine tn ?_
  refine cond_t q20 (fun c1 => ?_) (fun c1 => ?_)
  ·
   obtain ⟨d1, d2⟩ := Bool.and_eq_true_iff.mp c1
   replace d1 := of_decide_eq_true d1
   replace d2 := of_decide_eq_true d2
   simp only [Bool.and_eq_true, decide_eq_true_eq] at c1; have hpl : p < l.length := (by omega); have hne : ¬ ((List.drop p l) = [] ∨ (List.drop p l).getD 0 0 = 41) := (by rw [dr_hd hpl]; rintro (h_ | h_); exact dr_ne hpl h_; exact c1.2 h_); obtain ⟨N, hN⟩ : ∃ N, N = numR 0 false (List.drop p l) := ⟨_, rfl⟩
   refine wp_skip ?_; refine tn ?_; refine wp_block ?_; refine wp_seq ?_
   refine rg a5 s3 [(Ty.int (0 : Int))] ok4 ⟨?_, trivial⟩ ?_
   · intro A B E G H; exact rP (y_assign rfl)
   intro a6 s4 D4; have ok5 := D4.ok; have F5 := F4.step0 D4.stp; have q21 := D4.kt q15 rfl; have q22 := D4.kt q16 rfl; have q23 := D4.kt q17 rfl; have q24 := D4.kt q18 rfl; have q25 := D4.kt q19 rfl; have o4 := Own.k0 o3 D4.stp; have q26 := D4.dn 0 rfl rfl; clear D4; refine tn ?_; refine wp_seq ?_
   refine rg a6 s4 [(Ty.bool false)] ok5 ⟨?_, trivial⟩ ?_
   · intro A B E G H; exact rP (y_assign rfl)
   intro a7 s5 D5; have ok6 := D5.ok; have F6 := F5.step0 D5.stp; have q27 := D5.kt q21 rfl; have q28 := D5.kt q22 rfl; have q29 := D5.kt q23 rfl; have q30 := D5.kt q24 rfl; have q31 := D5.kt q25 rfl; have q32 := D5.kt q26 rfl; have o5 := Own.k0 o4 D5.stp; have q33 := D5.dn 0 rfl rfl; clear D5; refine tn ?_; refine wp_seq ?_; refine wp_block ?_
   refine loop (fun n3 a8 w3 => ∃ (t3 : GW) (q : Nat) (v : Int) (b : Bool), t3.w = w3 ∧ FromL [] s0 t3 ∧ Ok 154 a8 ∧ At (Ty.nat q) t3 a8 (.tmp 2) ∧ At (Ty.int v) t3 a8 (.tmp 12) ∧ At (Ty.bool b) t3 a8 (.tmp 13) ∧ At (Ty.val x11_0) t3 a8 (.tmp 11) ∧ At (Ty.lstc 2 callC cs) t3 a8 (.tmp 0) ∧ At (Ty.lst Ty.int l) t3 a8 (.tmp 1) ∧ At (Ty.nat deep) t3 a8 (.tmp 3) ∧ Own t3 5 3 1 x11_0 (List.length out) (List.map Ty.int out) ∧ (numR v b (List.drop q l) = N) ∧ (q ≤ l.length) ∧ (p ≤ q) ∧ (0 ≤ v ∧ v ≤ 99) ∧ (b = true → 1 ≤ v) ∧ n3 = l.length - q) (l.length - (p)) ?_ ?_
   ·
    exact ⟨s5, p, 0, false, rfl, F6, ok6, (cvi (by (rfl)) q27), (cvi (by (rfl)) q32), (cvb (by (rfl)) q33), q28, q29, q30, q31, o5, hN.symm, by omega, by omega, by omega, by simp, rfl⟩
   ·
    rintro n4 a9 w4 ⟨t4, q, v, b, rfl, F7, ok7, q34, q35, q36, q37, q38, q39, q40, o6, hn, hq, hpq, hv, hb, rfl⟩
    refine wp_seq ?_; refine wp_seq ?_
    refine reg (a := a9) (σ := t4) rfl (fun i_ => List.getD [(Ty.pr (Ty.nat q)), (Ty.pr (Ty.lst Ty.int l)), (Ty.pr (Ty.nat (List.length l))), (Ty.pr (Ty.bool (decide (((q : Nat) : Int) < (((List.length l) : Nat) : Int))))), (Ty.pr (Ty.bool (decide (((q : Nat) : Int) < (((List.length l) : Nat) : Int))))), (Ty.pr (Ty.grd ((decide (((q : Nat) : Int) < (((List.length l) : Nat) : Int))) = true) (Ty.lst Ty.int l))), (Ty.pr (Ty.grd ((decide (((q : Nat) : Int) < (((List.length l) : Nat) : Int))) = true) (Ty.nat q))), (Ty.pr (Ty.grd ((decide (((q : Nat) : Int) < (((List.length l) : Nat) : Int))) = true) (Ty.ref [(Ty.int (l.getD q 0))]))), (Ty.pr (Ty.grd ((decide (((q : Nat) : Int) < (((List.length l) : Nat) : Int))) = true) (Ty.int (l.getD q 0)))), (Ty.pr (Ty.grd ((decide (((q : Nat) : Int) < (((List.length l) : Nat) : Int))) = true) (Ty.bool (decide ((48 : Int) ≤ (l.getD q 0)))))), (Ty.pr (Ty.bool ((decide (((q : Nat) : Int) < (((List.length l) : Nat) : Int))) && (decide ((48 : Int) ≤ (l.getD q 0)))))), (Ty.pr (Ty.bool ((decide (((q : Nat) : Int) < (((List.length l) : Nat) : Int))) && (decide ((48 : Int) ≤ (l.getD q 0)))))), (Ty.pr (Ty.grd (((decide (((q : Nat) : Int) < (((List.length l) : Nat) : Int))) && (decide ((48 : Int) ≤ (l.getD q 0)))) = true) (Ty.lst Ty.int l))), (Ty.pr (Ty.grd (((decide (((q : Nat) : Int) < (((List.length l) : Nat) : Int))) && (decide ((48 : Int) ≤ (l.getD q 0)))) = true) (Ty.nat q))), (Ty.pr (Ty.grd (((decide (((q : Nat) : Int) < (((List.length l) : Nat) : Int))) && (decide ((48 : Int) ≤ (l.getD q 0)))) = true) (Ty.ref [(Ty.int (l.getD q 0))]))), (Ty.pr (Ty.grd (((decide (((q : Nat) : Int) < (((List.length l) : Nat) : Int))) && (decide ((48 : Int) ≤ (l.getD q 0)))) = true) (Ty.int (l.getD q 0)))), (Ty.pr (Ty.grd (((decide (((q : Nat) : Int) < (((List.length l) : Nat) : Int))) && (decide ((48 : Int) ≤ (l.getD q 0)))) = true) (Ty.bool (decide ((l.getD q 0) ≤ (57 : Int)))))), (Ty.pr (Ty.bool (((decide (((q : Nat) : Int) < (((List.length l) : Nat) : Int))) && (decide ((48 : Int) ≤ (l.getD q 0)))) && (decide ((l.getD q 0) ≤ (57 : Int))))))] i_ Pr.any) ok7 rfl ⟨?_, ?_, ?_, ?_, ?_, ?_, ?_, ?_, ?_, ?_, ?_, ?_, ?_, ?_, ?_, ?_, ?_, ?_, trivial⟩ ?_
    · intro A B E G H; exact rP (y_move (kp (H 2 rfl) E q34))
    · intro A B E G H; exact rP (y_move (kp (H 1 rfl) E q39))
    · intro A B E G H d0; exact rP (y_len Try.underlying23 (ed d0 rfl rfl rfl))
    · intro A B E G H d0 d1; exact rP (y_lss (ed d0 rfl rfl rfl) (ed d1 rfl rfl rfl))
    · intro A B E G H d0; exact rP (y_move (ed d0 rfl rfl rfl))
    · intro A B E G H d0
      refine run_guard G rfl rfl (by decide) (ed d0 rfl rfl rfl) (fun hg => ?_)
      have hp := of_decide_eq_true hg
      exact y_move (kp (H 1 rfl) E q39)
    · intro A B E G H d0
      refine run_guard G rfl rfl (by decide) (ed d0 rfl rfl rfl) (fun hg => ?_)
      have hp := of_decide_eq_true hg
      exact y_move (kp (H 2 rfl) E q34)
    · intro A B E G H d0 d1 d2
      refine run_guard G rfl rfl (by decide) (ed d2 rfl rfl rfl) (fun hg => ?_)
      have hp := of_decide_eq_true hg
      exact y_index1 Try.underlying23 Try.inf3 ((ed d0 rfl rfl rfl).1 hg) ((ed d1 rfl rfl rfl).1 hg) (by omega) (lst_get Ty.int l 0 q (by omega))
    · intro A B E G H d0 d1
      refine run_guard G rfl rfl (by decide) (ed d1 rfl rfl rfl) (fun hg => ?_)
      have hp := of_decide_eq_true hg
      exact y_load Try.underlying3 rfl ((ed d0 rfl rfl rfl).1 hg) rfl
    · intro A B E G H d0 d1
      refine run_guard G rfl rfl (by decide) (ed d1 rfl rfl rfl) (fun hg => ?_)
      have hp := of_decide_eq_true hg
      exact y_geq ((ed d0 rfl rfl rfl).1 hg) rfl
    · intro A B E G H d0 d1; exact rP (y_pick_and (ed d0 rfl rfl rfl) (ed d1 rfl rfl rfl) rfl)
    · intro A B E G H d0 d1; exact rP (y_move (ed d0 rfl rfl rfl))
    · intro A B E G H d0
      refine run_guard G rfl rfl (by decide) (ed d0 rfl rfl rfl) (fun hg => ?_)
      obtain ⟨d3, d4⟩ := Bool.and_eq_true_iff.mp hg
      have d3 := of_decide_eq_true d3
      have d4 := of_decide_eq_true d4
      exact y_move (kp (H 1 rfl) E q39)
    · intro A B E G H d0
      refine run_guard G rfl rfl (by decide) (ed d0 rfl rfl rfl) (fun hg => ?_)
      obtain ⟨d5, d6⟩ := Bool.and_eq_true_iff.mp hg
      have d5 := of_decide_eq_true d5
      have d6 := of_decide_eq_true d6
      exact y_move (kp (H 2 rfl) E q34)
    · intro A B E G H d0 d1 d2
      refine run_guard G rfl rfl (by decide) (ed d2 rfl rfl rfl) (fun hg => ?_)
      obtain ⟨d7, d8⟩ := Bool.and_eq_true_iff.mp hg
      have d7 := of_decide_eq_true d7
      have d8 := of_decide_eq_true d8
      exact y_index1 Try.underlying23 Try.inf3 ((ed d0 rfl rfl rfl).1 hg) ((ed d1 rfl rfl rfl).1 hg) (by omega) (lst_get Ty.int l 0 q (by omega))
    · intro A B E G H d0 d1
      refine run_guard G rfl rfl (by decide) (ed d1 rfl rfl rfl) (fun hg => ?_)
      obtain ⟨d9, d10⟩ := Bool.and_eq_true_iff.mp hg
      have d9 := of_decide_eq_true d9
      have d10 := of_decide_eq_true d10
      exact y_load Try.underlying3 rfl ((ed d0 rfl rfl rfl).1 hg) rfl
    · intro A B E G H d0 d1
      refine run_guard G rfl rfl (by decide) (ed d1 rfl rfl rfl) (fun hg => ?_)
      obtain ⟨d11, d12⟩ := Bool.and_eq_true_iff.mp hg
      have d11 := of_decide_eq_true d11
      have d12 := of_decide_eq_true d12
      exact y_leq ((ed d0 rfl rfl rfl).1 hg) rfl
    · intro A B E G H d0 d1; exact rP (y_pick_and (ed d0 rfl rfl rfl) (ed d1 rfl rfl rfl) rfl)
    intro a10 s6 D6; have ok8 := D6.ok; have F8 := F7.step0 D6.stp; have q41 := D6.kt q34 rfl; have q42 := D6.kt q35 rfl; have q43 := D6.kt q36 rfl; have q44 := D6.kt q37 rfl; have q45 := D6.kt q38 rfl; have q46 := D6.kt q39 rfl; have q47 := D6.kt q40 rfl; have o7 := Own.k0 o6 D6.stp; have q48 := D6.dn 17 rfl rfl; clear D6; refine tn ?_
    refine cond_t q48 (fun c2 => ?_) (fun c2 => ?_)
    ·
     obtain ⟨d13, d14⟩ := Bool.and_eq_true_iff.mp c2
     obtain ⟨d15, d16⟩ := Bool.and_eq_true_iff.mp d13
     replace d15 := of_decide_eq_true d15
     replace d16 := of_decide_eq_true d16
     replace d14 := of_decide_eq_true d14
     simp only [Bool.and_eq_true, decide_eq_true_eq] at c2
     refine wp_skip ?_; refine tn ?_; refine wp_block ?_; refine wp_seq ?_
     refine rg a10 s6 [(Ty.int v), (Ty.int (v * (10 : Int))), (Ty.lst Ty.int l), (Ty.nat q), (Ty.ref [(Ty.int (l.getD q 0))]), (Ty.int (l.getD q 0)), (Ty.int ((v * (10 : Int)) + (l.getD q 0))), (Ty.int (((v * (10 : Int)) + (l.getD q 0)) - (48 : Int))), (Ty.int (((v * (10 : Int)) + (l.getD q 0)) - (48 : Int)))] ok8 ⟨?_, ?_, ?_, ?_, ?_, ?_, ?_, ?_, ?_, trivial⟩ ?_
     · intro A B E G H; exact rP (y_move (kp (H 12 rfl) E q42))
     · intro A B E G H d0; exact rP (y_mul (ed d0 rfl rfl rfl) rfl (w64 (by omega) (by omega)))
     · intro A B E G H; exact rP (y_move (kp (H 1 rfl) E q46))
     · intro A B E G H; exact rP (y_move (kp (H 2 rfl) E q41))
     · intro A B E G H d0 d1; exact rP (y_index1 Try.underlying23 Try.inf3 (ed d0 rfl rfl rfl) (ed d1 rfl rfl rfl) (by omega) (lst_get Ty.int l 0 q (by omega)))
     · intro A B E G H d0; exact rP (y_load Try.underlying3 rfl (ed d0 rfl rfl rfl) rfl)
     · intro A B E G H d0 d1; exact rP (y_add (ed d0 rfl rfl rfl) (ed d1 rfl rfl rfl) (w64 (by omega) (by omega)))
     · intro A B E G H d0; exact rP (y_sub (ed d0 rfl rfl rfl) rfl (w64 (by omega) (by omega)))
     · intro A B E G H d0 d1 d2 d3 d4 d5 d6 d7 d8; exact rP (y_assign (ed d0 rfl rfl rfl))
     intro a11 s7 D7; have ok9 := D7.ok; have F9 := F8.step0 D7.stp; have q49 := D7.kt q41 rfl; have q50 := D7.kt q44 rfl; have q51 := D7.kt q45 rfl; have q52 := D7.kt q46 rfl; have q53 := D7.kt q47 rfl; have o8 := Own.k0 o7 D7.stp; have q54 := D7.dn 8 rfl rfl; clear D7; refine tn ?_; refine wp_seq ?_
     refine rg a11 s7 [(Ty.bool true)] ok9 ⟨?_, trivial⟩ ?_
     · intro A B E G H; exact rP (y_assign rfl)
     intro a12 s8 D8; have ok10 := D8.ok; have F10 := F9.step0 D8.stp; have q55 := D8.kt q49 rfl; have q56 := D8.kt q50 rfl; have q57 := D8.kt q51 rfl; have q58 := D8.kt q52 rfl; have q59 := D8.kt q53 rfl; have q60 := D8.kt q54 rfl; have o9 := Own.k0 o8 D8.stp; have q61 := D8.dn 0 rfl rfl; clear D8; refine tn ?_; refine wp_seq ?_
     refine rg a12 s8 [(Ty.nat q), (Ty.nat (q + 1)), (Ty.nat (q + 1))] ok10 ⟨?_, ?_, ?_, trivial⟩ ?_
     · intro A B E G H; exact rP (y_move (kp (H 2 rfl) E q55))
     · intro A B E G H d0; exact rP ((y_add (ed d0 rfl rfl rfl) rfl (w64 (by omega) (by omega))).mono (fun τ _ h => cvi (σ := τ) (by first | omega | exact (Int.natCast_mul _ _).symm) h))
     · intro A B E G H d0 d1 d2; exact rP (y_assign (ed d0 rfl rfl rfl))
     intro a13 s9 D9; have ok11 := D9.ok; have F11 := F10.step0 D9.stp; have q62 := D9.kt q56 rfl; have q63 := D9.kt q57 rfl; have q64 := D9.kt q58 rfl; have q65 := D9.kt q59 rfl; have q66 := D9.kt q60 rfl; have q67 := D9.kt q61 rfl; have o10 := Own.k0 o9 D9.stp; have q68 := D9.dn 2 rfl rfl; clear D9; refine tn ?_; refine wp_seq ?_
     refine rg a13 s9 [(Ty.int (((v * (10 : Int)) + (l.getD q 0)) - (48 : Int))), (Ty.bool (decide ((((v * (10 : Int)) + (l.getD q 0)) - (48 : Int)) = (0 : Int)))), (Ty.bool (decide ((((v * (10 : Int)) + (l.getD q 0)) - (48 : Int)) = (0 : Int)))), (Ty.grd ((decide ((((v * (10 : Int)) + (l.getD q 0)) - (48 : Int)) = (0 : Int))) = false) (Ty.int (((v * (10 : Int)) + (l.getD q 0)) - (48 : Int)))), (Ty.grd ((decide ((((v * (10 : Int)) + (l.getD q 0)) - (48 : Int)) = (0 : Int))) = false) (Ty.bool (decide ((99 : Int) < (((v * (10 : Int)) + (l.getD q 0)) - (48 : Int)))))), (Ty.bool ((decide ((((v * (10 : Int)) + (l.getD q 0)) - (48 : Int)) = (0 : Int))) || (decide ((99 : Int) < (((v * (10 : Int)) + (l.getD q 0)) - (48 : Int))))))] ok11 ⟨?_, ?_, ?_, ?_, ?_, ?_, trivial⟩ ?_
     · intro A B E G H; exact rP (y_move (kp (H 12 rfl) E q66))
     · intro A B E G H d0; exact rP (y_eql (ed d0 rfl rfl rfl) rfl)
     · intro A B E G H d0; exact rP (y_move (ed d0 rfl rfl rfl))
     · intro A B E G H d0
       refine run_guard G rfl rfl (by decide) (ed d0 rfl rfl rfl) (fun hg => ?_)
       have hp := of_decide_eq_false hg
       exact y_move (kp (H 12 rfl) E q66)
     · intro A B E G H d0 d1
       refine run_guard G rfl rfl (by decide) (ed d1 rfl rfl rfl) (fun hg => ?_)
       have hp := of_decide_eq_false hg
       exact y_gtr ((ed d0 rfl rfl rfl).1 hg) rfl
     · intro A B E G H d0 d1; exact rP (y_pick_or (ed d0 rfl rfl rfl) rfl (ed d1 rfl rfl rfl))
     intro a14 s10 D10; have ok12 := D10.ok; have F12 := F11.step0 D10.stp; have q69 := D10.kt q62 rfl; have q70 := D10.kt q63 rfl; have q71 := D10.kt q64 rfl; have q72 := D10.kt q65 rfl; have q73 := D10.kt q66 rfl; have q74 := D10.kt q67 rfl; have q75 := D10.kt q68 rfl; have o11 := Own.k0 o10 D10.stp; have q76 := D10.dn 5 rfl rfl; clear D10; refine tn ?_
     refine cond_t q76 (fun c3 => ?_) (fun c3 => ?_)
     ·
      have hb3 : v * 10 + l.getD q 0 - 48 = 0 ∨ 99 < v * 10 + l.getD q 0 - 48 := (by simp only [Bool.or_eq_true, decide_eq_true_eq] at c3; omega); have hXe : X = ⟨12, [], []⟩ := x_err hx hne (it_num (by rw [← hN]; exact num_bad hn (by omega) (by omega) (by omega) hb3)) (by decide)
      refine wp_seq ?_
      refine rg a14 s10 [(Ty.val (Value.slice none 0 0)), (Ty.int (0 : Int)), (Ty.int (12 : Int))] ok12 ⟨?_, ?_, ?_, trivial⟩ ?_
      · intro A B E G H; exact rP (y_assign rfl)
      · intro A B E G H d0 d1; exact rP (y_assign rfl)
      · intro A B E G H d0 d1 d2; exact rP (y_assign rfl)
      intro a15 s11 D11; have ok13 := D11.ok; have F13 := F12.step0 D11.stp; have o12 := Own.k0 o11 D11.stp; have q77 := D11.dn 0 rfl rfl; have q78 := D11.dn 1 rfl rfl; have q79 := D11.dn 2 rfl rfl; clear D11; refine tn ?_; refine wp_ret ?_; refine br ?_; refine tr ?_; refine br ?_; refine tr ?_; refine br ?_; refine tr ?_; refine br ?_; refine tr ?_
      exact retL3 rfl ok13 F13 (hasT3 (nil_lst (by (rw [← hX, hXe])) q77) (cvi (by (rw [← hX, hXe]; first | rfl | exact (if_neg c8).symm)) q78) (cvi (by (rw [← hX, hXe])) q79))
     ·
      obtain ⟨d17, d18⟩ := Bool.or_eq_false_iff.mp c3
      replace d17 := of_decide_eq_false d17
      replace d18 := of_decide_eq_false d18
      have hg3 : ¬ (v * 10 + l.getD q 0 - 48 = 0 ∨ 99 < v * 10 + l.getD q 0 - 48) := (by simp only [Bool.or_eq_false_iff, decide_eq_false_iff_not] at c3; omega)
      refine wp_skip ?_; refine bn ?_
      exact tn ⟨l.length - ((q + 1)), by omega, s10, (q + 1), (v * 10 + l.getD q 0 - 48), true, rfl, F12, ok12, (cvi (by (first | rfl | omega | (simp_all; done) | (simp_all; omega))) q75), (cvi (by (first | rfl | omega | (simp_all; done) | (simp_all; omega))) q73), (cvb (by (first | rfl | omega | (simp_all; done) | (simp_all; omega))) q74), q69, q70, q71, q72, o11, num_go hn (by omega) (by omega) (by omega) hg3, by omega, by omega, by omega, fun _ => by omega, rfl⟩
    ·
     have hN2 : N = ⟨0, v, b, (List.drop q l)⟩ := num_end hn (by simp only [Bool.and_eq_false_iff, decide_eq_false_iff_not] at c2; omega)
     refine wp_exit ?_; refine tx ?_; refine tx ?_; refine bx ?_; refine tn ?_; refine wp_seq ?_; refine wp_seq ?_
     refine rg a10 s6 [(Ty.bool b), (Ty.bool (!b))] ok8 ⟨?_, ?_, trivial⟩ ?_
     · intro A B E G H; exact rP (y_move (kp (H 13 rfl) E q43))
     · intro A B E G H d0; exact rP (y_not (ed d0 rfl rfl rfl))
     intro a16 s12 D12; have ok14 := D12.ok; have F14 := F8.step0 D12.stp; have q80 := D12.kt q41 rfl; have q81 := D12.kt q42 rfl; have q82 := D12.kt q44 rfl; have q83 := D12.kt q45 rfl; have q84 := D12.kt q46 rfl; have q85 := D12.kt q47 rfl; have o13 := Own.k0 o7 D12.stp; have q86 := D12.dn 1 rfl rfl; clear D12; refine tn ?_
     refine Go.KL.join_then (Q' := fun a17 w5 => ∃ (t5 : GW), t5.w = w5 ∧ FromL [] s0 t5 ∧ Ok 154 a17 ∧ At (Ty.int (if b = true then v else 1)) t5 a17 (.tmp 12) ∧ At (Ty.nat q) t5 a17 (.tmp 2) ∧ At (Ty.val x11_0) t5 a17 (.tmp 11) ∧ At (Ty.lstc 2 callC cs) t5 a17 (.tmp 0) ∧ At (Ty.lst Ty.int l) t5 a17 (.tmp 1) ∧ At (Ty.nat deep) t5 a17 (.tmp 3) ∧ Own t5 5 3 1 x11_0 (List.length out) (List.map Ty.int out) ∧ True) ?_ ?_
     ·
      refine cond_t q86 (fun c4 => ?_) (fun c4 => ?_)
      ·
       refine rg a16 s12 [(Ty.int (1 : Int))] ok14 ⟨?_, trivial⟩ ?_
       · intro A B E G H; exact rP (y_assign rfl)
       intro a18 s13 D13; have ok15 := D13.ok; have F15 := F14.step0 D13.stp; have q87 := D13.kt q80 rfl; have q88 := D13.kt q82 rfl; have q89 := D13.kt q83 rfl; have q90 := D13.kt q84 rfl; have q91 := D13.kt q85 rfl; have o14 := Own.k0 o13 D13.stp; have q92 := D13.dn 0 rfl rfl; clear D13
       exact tn ⟨s13, rfl, F15, ok15, (cvi (by (rw [if_neg (by simpa using c4)])) q92), q87, q88, q89, q90, q91, o14, trivial⟩
      ·
       refine wp_skip ?_
       exact tn ⟨s12, rfl, F14, ok14, (cvi (by (rw [if_pos (by simpa using c4)])) q81), q80, q82, q83, q84, q85, o13, trivial⟩
     ·
      rintro a19 w6 ⟨t6, rfl, F16, ok16, q93, q94, q95, q96, q97, q98, o15, -⟩
      refine wp_seq ?_; refine wp_seq ?_
      refine reg (a := a19) (σ := t6) rfl (fun i_ => List.getD [(Ty.pr (Ty.nat q)), (Ty.pr (Ty.lst Ty.int l)), (Ty.pr (Ty.nat (List.length l))), (Ty.pr (Ty.bool (decide (((q : Nat) : Int) = (((List.length l) : Nat) : Int)))))] i_ Pr.any) ok16 rfl ⟨?_, ?_, ?_, ?_, trivial⟩ ?_
      · intro A B E G H; exact rP (y_move (kp (H 2 rfl) E q94))
      · intro A B E G H; exact rP (y_move (kp (H 1 rfl) E q97))
      · intro A B E G H d0; exact rP (y_len Try.underlying23 (ed d0 rfl rfl rfl))
      · intro A B E G H d0 d1; exact rP (y_eql (ed d0 rfl rfl rfl) (ed d1 rfl rfl rfl))
      intro a20 s14 D14; have ok17 := D14.ok; have F17 := F16.step0 D14.stp; have q99 := D14.kt q93 rfl; have q100 := D14.kt q94 rfl; have q101 := D14.kt q95 rfl; have q102 := D14.kt q96 rfl; have q103 := D14.kt q97 rfl; have q104 := D14.kt q98 rfl; have o16 := Own.k0 o15 D14.stp; have q105 := D14.dn 3 rfl rfl; clear D14; refine tn ?_
      refine cond_p (p := (((q : Nat) : Int) = (((List.length l) : Nat) : Int))) q105 (fun c5 => ?_) (fun c5 => ?_)
      ·
       have hXe : X = ⟨5, [], []⟩ := x_err hx hne (it_short (v := v) (b := b) (by rw [← hN, hN2, dr_nil (by omega)])) (by decide)
       refine wp_seq ?_
       refine rg a20 s14 [(Ty.val (Value.slice none 0 0)), (Ty.int (0 : Int)), (Ty.int (5 : Int))] ok17 ⟨?_, ?_, ?_, trivial⟩ ?_
       · intro A B E G H; exact rP (y_assign rfl)
       · intro A B E G H d0 d1; exact rP (y_assign rfl)
       · intro A B E G H d0 d1 d2; exact rP (y_assign rfl)
       intro a21 s15 D15; have ok18 := D15.ok; have F18 := F17.step0 D15.stp; have o17 := Own.k0 o16 D15.stp; have q106 := D15.dn 0 rfl rfl; have q107 := D15.dn 1 rfl rfl; have q108 := D15.dn 2 rfl rfl; clear D15; refine tn ?_; refine wp_ret ?_; refine tr ?_; refine br ?_; refine tr ?_; refine br ?_; refine tr ?_
       exact retL3 rfl ok18 F18 (hasT3 (nil_lst (by (rw [← hX, hXe])) q106) (cvi (by (rw [← hX, hXe]; first | rfl | exact (if_neg c8).symm)) q107) (cvi (by (rw [← hX, hXe])) q108))
      ·
       have hql : q < l.length := (by omega); have hs0 := dr_ne hql; have hsh := dr_hd hql; obtain ⟨Q, hQ⟩ : ∃ Q, Q = oneM (sgOf cs) (parM (sgOf cs)) deep (List.drop q l) := ⟨_, rfl⟩; have hNN : numR 0 false (List.drop p l) = ⟨0, v, b, (List.drop q l)⟩ := (by rw [← hN, hN2]); have hT : 1 ≤ (if b = true then v else 1) ∧ (if b = true then v else 1) ≤ 99 := (by by_cases e_ : b = true; (rw [if_pos e_]; have := hb e_; omega); (rw [if_neg e_]; omega)); have hd1 : List.drop 1 (List.drop q l) = List.drop (q + 1) l := List.drop_drop
       refine wp_skip ?_; refine tn ?_; refine wp_seq ?_
       refine rg a20 s14 [(Ty.val (Value.slice none 0 0))] ok17 ⟨?_, trivial⟩ ?_
       · intro A B E G H; exact rP (y_assign rfl)
       intro a22 s16 D16; have ok19 := D16.ok; have F19 := F17.step0 D16.stp; have q109 := D16.kt q99 rfl; have q110 := D16.kt q100 rfl; have q111 := D16.kt q101 rfl; have q112 := D16.kt q102 rfl; have q113 := D16.kt q103 rfl; have q114 := D16.kt q104 rfl; have o18 := Own.k0 o16 D16.stp; clear D16; refine tn ?_; refine wp_seq ?_; refine wp_seq ?_
       refine rg a22 s16 [(Ty.lst Ty.int l), (Ty.nat q), (Ty.ref [(Ty.int (l.getD q 0))]), (Ty.int (l.getD q 0)), (Ty.bool (decide ((l.getD q 0) = (40 : Int))))] ok19 ⟨?_, ?_, ?_, ?_, ?_, trivial⟩ ?_
       · intro A B E G H; exact rP (y_move (kp (H 1 rfl) E q113))
       · intro A B E G H; exact rP (y_move (kp (H 2 rfl) E q110))
       · intro A B E G H d0 d1; exact rP (y_index1 Try.underlying23 Try.inf3 (ed d0 rfl rfl rfl) (ed d1 rfl rfl rfl) (by omega) (lst_get Ty.int l 0 q (by omega)))
       · intro A B E G H d0; exact rP (y_load Try.underlying3 rfl (ed d0 rfl rfl rfl) rfl)
       · intro A B E G H d0; exact rP (y_eql (ed d0 rfl rfl rfl) rfl)
       intro a23 s17 D17; have ok20 := D17.ok; have F20 := F19.step0 D17.stp; have q115 := D17.kt q109 rfl; have q116 := D17.kt q110 rfl; have q117 := D17.kt q111 rfl; have q118 := D17.kt q112 rfl; have q119 := D17.kt q113 rfl; have q120 := D17.kt q114 rfl; have o19 := Own.k0 o18 D17.stp; have q121 := D17.dn 4 rfl rfl; clear D17; refine tn ?_
       refine Go.KL.join_then (Q' := fun a24 w7 => ∃ (t7 : GW), t7.w = w7 ∧ FromL [] s0 t7 ∧ Ok 154 a24 ∧ At (Ty.lst Ty.int Q.out) t7 a24 (.tmp 14) ∧ At (Ty.nat (l.length - Q.rest.length)) t7 a24 (.tmp 2) ∧ At (Ty.int (if b = true then v else 1)) t7 a24 (.tmp 12) ∧ At (Ty.val x11_0) t7 a24 (.tmp 11) ∧ At (Ty.lstc 2 callC cs) t7 a24 (.tmp 0) ∧ At (Ty.lst Ty.int l) t7 a24 (.tmp 1) ∧ At (Ty.nat deep) t7 a24 (.tmp 3) ∧ Own t7 5 3 1 x11_0 (List.length out) (List.map Ty.int out) ∧ (Q.err = 0) ∧ True) ?_ ?_
       ·
        refine cond_p (p := ((l.getD q 0) = (40 : Int))) q121 (fun c6 => ?_) (fun c6 => ?_)
        ·
         have h40 : (List.drop q l).getD 0 0 = 40 := (by rw [hsh]; exact c6); obtain ⟨Y, hY⟩ : ∃ Y, Y = parM (sgOf cs) (deep + 1) [] (List.drop (q + 1) l) := ⟨_, rfl⟩
         refine wp_seq ?_; refine wp_seq ?_
         refine rg a23 s17 [(Ty.nat deep), (Ty.bool (decide (((deep : Nat) : Int) = (6 : Int))))] ok20 ⟨?_, ?_, trivial⟩ ?_
         · intro A B E G H; exact rP (y_move (kp (H 3 rfl) E q120))
         · intro A B E G H d0; exact rP (y_eql (ed d0 rfl rfl rfl) rfl)
         intro a25 s18 D18; have ok21 := D18.ok; have F21 := F20.step0 D18.stp; have q122 := D18.kt q115 rfl; have q123 := D18.kt q116 rfl; have q124 := D18.kt q117 rfl; have q125 := D18.kt q118 rfl; have q126 := D18.kt q119 rfl; have q127 := D18.kt q120 rfl; have o20 := Own.k0 o19 D18.stp; have q128 := D18.dn 1 rfl rfl; clear D18; refine tn ?_
         refine cond_p (p := (((deep : Nat) : Int) = (6 : Int))) q128 (fun c7 => ?_) (fun c7 => ?_)
         ·
          have hXe : X = ⟨13, [], []⟩ := x_one hx hne hNN hs0 (one_deep h40 (by omega)) (by decide)
          refine wp_seq ?_
          refine rg a25 s18 [(Ty.val (Value.slice none 0 0)), (Ty.int (0 : Int)), (Ty.int (13 : Int))] ok21 ⟨?_, ?_, ?_, trivial⟩ ?_
          · intro A B E G H; exact rP (y_assign rfl)
          · intro A B E G H d0 d1; exact rP (y_assign rfl)
          · intro A B E G H d0 d1 d2; exact rP (y_assign rfl)
          intro a26 s19 D19; have ok22 := D19.ok; have F22 := F21.step0 D19.stp; have o21 := Own.k0 o20 D19.stp; have q129 := D19.dn 0 rfl rfl; have q130 := D19.dn 1 rfl rfl; have q131 := D19.dn 2 rfl rfl; clear D19; refine tn ?_; refine wp_ret ?_; refine tr ?_; refine tr ?_; refine br ?_; refine tr ?_; refine br ?_; refine tr ?_
          exact retL3 rfl ok22 F22 (hasT3 (nil_lst (by (rw [← hX, hXe])) q129) (cvi (by (rw [← hX, hXe]; first | rfl | exact (if_neg c8).symm)) q130) (cvi (by (rw [← hX, hXe])) q131))
         ·
          have hd6 : ¬ deep = 6 := (by omega)
          refine wp_skip ?_; refine tn ?_; refine wp_seq ?_
          refine rg a25 s18 [(Ty.lstc 2 callC cs), (Ty.lst Ty.int l), (Ty.nat q), (Ty.nat (q + 1)), (Ty.nat deep), (Ty.nat (deep + 1)), (Ty.tup3 (Ty.lst Ty.int Y.out) (Ty.int (if Y.err = 0 then ((l.length - Y.rest.length : Nat) : Int) else 0)) (Ty.int Y.err)), (Ty.tup3 (Ty.lst Ty.int Y.out) (Ty.int (if Y.err = 0 then ((l.length - Y.rest.length : Nat) : Int) else 0)) (Ty.int Y.err)), (Ty.lst Ty.int Y.out), (Ty.int (if Y.err = 0 then ((l.length - Y.rest.length : Nat) : Int) else 0)), (Ty.int Y.err), (Ty.lst Ty.int Y.out), (Ty.int (if Y.err = 0 then ((l.length - Y.rest.length : Nat) : Int) else 0)), (Ty.int Y.err)] ok21 ⟨?_, ?_, ?_, ?_, ?_, ?_, ?_, ?_, ?_, ?_, ?_, ?_, ?_, ?_, trivial⟩ ?_
          · intro A B E G H; exact rP (y_move (kp (H 0 rfl) E q125))
          · intro A B E G H; exact rP (y_move (kp (H 1 rfl) E q126))
          · intro A B E G H; exact rP (y_move (kp (H 2 rfl) E q123))
          · intro A B E G H d0; exact rP ((y_add (ed d0 rfl rfl rfl) rfl (w64 (by omega) (by omega))).mono (fun τ _ h => cvi (σ := τ) (by first | omega | exact (Int.natCast_mul _ _).symm) h))
          · intro A B E G H; exact rP (y_move (kp (H 3 rfl) E q127))
          · intro A B E G H d0; exact rP ((y_add (ed d0 rfl rfl rfl) rfl (w64 (by omega) (by omega))).mono (fun τ _ h => cvi (σ := τ) (by first | omega | exact (Int.natCast_mul _ _).symm) h))
          · intro A B E G H d0 d1 d2 d3; exact rP ((y_call #[A.eval (.tmp 79), A.eval (.tmp 80), A.eval (.tmp 82), A.eval (.tmp 84)] Try.func46 rfl rfl (by simp only [List.map_toArray, List.map_cons, List.map_nil]) (ih ((l.length - ((q + 1)))) (by omega) (cs) (l) ((q + 1)) ((deep + 1)) _ _ _ _ _ (ed d0 rfl rfl rfl) (ed d1 rfl rfl rfl) (cvi (σ := B) (by first | omega | assumption) (ed d2 rfl rfl rfl)) (cvi (σ := B) (by first | omega | assumption) (ed d3 rfl rfl rfl)) (by first | omega | assumption) (by first | omega | assumption) (by first | omega | assumption) (by first | omega | assumption) (by first | omega | assumption))).mono (fun τ _ h => cvt (σ := τ) (T := (Ty.tup3 (Ty.lst Ty.int ((parM (sgOf cs) ((deep + 1)) ([] : List Int) (List.drop ((q + 1)) l))).out) (Ty.int (if ((parM (sgOf cs) ((deep + 1)) ([] : List Int) (List.drop ((q + 1)) l))).err = 0 then ((l.length - ((parM (sgOf cs) ((deep + 1)) ([] : List Int) (List.drop ((q + 1)) l))).rest.length : Nat) : Int) else 0)) (Ty.int ((parM (sgOf cs) ((deep + 1)) ([] : List Int) (List.drop ((q + 1)) l))).err))) (U := (Ty.tup3 (Ty.lst Ty.int Y.out) (Ty.int (if Y.err = 0 then ((l.length - Y.rest.length : Nat) : Int) else 0)) (Ty.int Y.err))) (by rw [hY]) h))
          · intro A B E G H d0; exact rP (y_move (ed d0 rfl rfl rfl))
          · intro A B E G H d0; exact rP (y_ext3_0 (ed d0 rfl rfl rfl))
          · intro A B E G H d0 d1; exact rP (y_ext3_1 (ed d0 rfl rfl rfl))
          · intro A B E G H d0 d1; exact rP (y_ext3_2 (ed d0 rfl rfl rfl))
          · intro A B E G H d0 d1 d2 d3 d4 d5 d6 d7 d8 d9 d10 d11 d12; exact rP (y_assign (ed d0 rfl rfl rfl))
          · intro A B E G H d0 d1 d2 d3 d4 d5 d6 d7 d8 d9 d10 d11 d12 d13; exact rP (y_assign (ed d0 rfl rfl rfl))
          · intro A B E G H d0 d1 d2 d3 d4 d5 d6 d7 d8 d9 d10 d11 d12 d13 d14; exact rP (y_assign (ed d0 rfl rfl rfl))
          intro a27 s20 D20; have ok23 := D20.ok; have F23 := F21.step0 D20.stp; have q132 := D20.kt q122 rfl; have q133 := D20.kt q124 rfl; have q134 := D20.kt q125 rfl; have q135 := D20.kt q126 rfl; have q136 := D20.kt q127 rfl; have o22 := Own.k0 o20 D20.stp; have q137 := D20.dn 11 rfl rfl; have q138 := D20.dn 12 rfl rfl; have q139 := D20.dn 13 rfl rfl; clear D20; refine tn ?_; refine wp_seq ?_; refine wp_seq ?_
          refine rg a27 s20 [(Ty.int Y.err), (Ty.bool (decide (Y.err ≠ (0 : Int))))] ok23 ⟨?_, ?_, trivial⟩ ?_
          · intro A B E G H; exact rP (y_move (kp (H 17 rfl) E q139))
          · intro A B E G H d0; exact rP (y_neq (ed d0 rfl rfl rfl) rfl)
          intro a28 s21 D21; have ok24 := D21.ok; have F24 := F23.step0 D21.stp; have q140 := D21.kt q132 rfl; have q141 := D21.kt q133 rfl; have q142 := D21.kt q134 rfl; have q143 := D21.kt q135 rfl; have q144 := D21.kt q136 rfl; have q145 := D21.kt q137 rfl; have q146 := D21.kt q138 rfl; have q147 := D21.kt q139 rfl; have o23 := Own.k0 o22 D21.stp; have q148 := D21.dn 1 rfl rfl; clear D21; refine tn ?_
          refine cond_p (p := (Y.err ≠ (0 : Int))) q148 (fun c8 => ?_) (fun c8 => ?_)
          ·
           have hXe : X = ⟨Y.err, [], []⟩ := x_one hx hne hNN hs0 (by rw [one_err h40 hd6 (by rw [hd1, ← hY]; exact c8), hd1, ← hY]) c8
           refine wp_seq ?_
           refine rg a28 s21 [(Ty.int Y.err), (Ty.val (Value.slice none 0 0)), (Ty.int (0 : Int)), (Ty.int Y.err)] ok24 ⟨?_, ?_, ?_, ?_, trivial⟩ ?_
           · intro A B E G H d0; exact rP (y_move (kp (H 17 rfl) E q147))
           · intro A B E G H d0; exact rP (y_assign rfl)
           · intro A B E G H d0 d1 d2; exact rP (y_assign rfl)
           · intro A B E G H d0 d1 d2 d3 d4; exact rP (y_assign (ed d0 rfl rfl rfl))
           intro a29 s22 D22; have ok25 := D22.ok; have F25 := F24.step0 D22.stp; have o24 := Own.k0 o23 D22.stp; have q149 := D22.dn 1 rfl rfl; have q150 := D22.dn 2 rfl rfl; have q151 := D22.dn 3 rfl rfl; clear D22; refine tn ?_; refine wp_ret ?_; refine tr ?_; refine tr ?_; refine br ?_; refine tr ?_; refine br ?_; refine tr ?_
           exact retL3 rfl ok25 F25 (hasT3 (nil_lst (by (rw [← hX, hXe])) q149) (cvi (by (rw [← hX, hXe]; first | rfl | exact (if_neg c8).symm)) q150) (cvi (by (rw [← hX, hXe])) q151))
          ·
           have hY0 : Y.err = 0 := Classical.not_not.1 c8; have hYt : Tail Y.rest (List.drop (q + 1) l) := (by rw [hY] at hY0 ⊢; exact par_tail hY0); have hYl : Y.rest.length ≤ l.length - (q + 1) := (by obtain ⟨k_, h1_, h2_⟩ := hYt; rw [h2_, List.length_drop, List.length_drop]; omega)
           have q152 : At (Ty.nat (l.length - Y.rest.length)) s21 a28 (.tmp 16) := cvt (T := (Ty.int (if Y.err = 0 then ((l.length - Y.rest.length : Nat) : Int) else 0))) (U := (Ty.nat (l.length - Y.rest.length))) (by rw [if_pos hY0]) q146
           refine wp_skip ?_; refine tn ?_; refine wp_seq ?_; refine wp_seq ?_
           refine rg a28 s21 [(Ty.nat (l.length - Y.rest.length)), (Ty.lst Ty.int l), (Ty.nat (List.length l)), (Ty.bool (decide ((((l.length - Y.rest.length) : Nat) : Int) = (((List.length l) : Nat) : Int))))] ok24 ⟨?_, ?_, ?_, ?_, trivial⟩ ?_
           · intro A B E G H; exact rP (y_move (kp (H 16 rfl) E q152))
           · intro A B E G H; exact rP (y_move (kp (H 1 rfl) E q143))
           · intro A B E G H d0; exact rP (y_len Try.underlying23 (ed d0 rfl rfl rfl))
           · intro A B E G H d0 d1; exact rP (y_eql (ed d0 rfl rfl rfl) (ed d1 rfl rfl rfl))
           intro a30 s23 D23; have ok26 := D23.ok; have F26 := F24.step0 D23.stp; have q153 := D23.kt q140 rfl; have q154 := D23.kt q141 rfl; have q155 := D23.kt q142 rfl; have q156 := D23.kt q143 rfl; have q157 := D23.kt q144 rfl; have q158 := D23.kt q145 rfl; have q159 := D23.kt q152 rfl; have o25 := Own.k0 o23 D23.stp; have q160 := D23.dn 3 rfl rfl; clear D23; refine tn ?_
           refine cond_p (p := ((((l.length - Y.rest.length) : Nat) : Int) = (((List.length l) : Nat) : Int))) q160 (fun c9 => ?_) (fun c9 => ?_)
           ·
            have hXe : X = ⟨5, [], []⟩ := x_one hx hne hNN hs0 (one_short h40 hd6 (by rw [hd1, ← hY]; exact hY0) (by rw [hd1, ← hY]; exact List.eq_nil_of_length_eq_zero (by omega))) (by decide)
            refine wp_seq ?_
            refine rg a30 s23 [(Ty.val (Value.slice none 0 0)), (Ty.int (0 : Int)), (Ty.int (5 : Int))] ok26 ⟨?_, ?_, ?_, trivial⟩ ?_
            · intro A B E G H; exact rP (y_assign rfl)
            · intro A B E G H d0 d1; exact rP (y_assign rfl)
            · intro A B E G H d0 d1 d2; exact rP (y_assign rfl)
            intro a31 s24 D24; have ok27 := D24.ok; have F27 := F26.step0 D24.stp; have o26 := Own.k0 o25 D24.stp; have q161 := D24.dn 0 rfl rfl; have q162 := D24.dn 1 rfl rfl; have q163 := D24.dn 2 rfl rfl; clear D24; refine tn ?_; refine wp_ret ?_; refine tr ?_; refine tr ?_; refine br ?_; refine tr ?_; refine br ?_; refine tr ?_
            exact retL3 rfl ok27 F27 (hasT3 (nil_lst (by (rw [← hX, hXe])) q161) (cvi (by (rw [← hX, hXe]; first | rfl | exact (if_neg c8).symm)) q162) (cvi (by (rw [← hX, hXe])) q163))
           ·
            have hYp : 1 ≤ Y.rest.length := (by omega); have hYn : Y.rest ≠ [] := (fun e_ => by rw [e_] at hYp; simp at hYp)
            refine wp_skip ?_; refine tn ?_; refine wp_seq ?_; refine wp_seq ?_
            refine rg a30 s23 [(Ty.lst Ty.int Y.out), (Ty.nat (List.length Y.out)), (Ty.bool (decide ((((List.length Y.out) : Nat) : Int) = (0 : Int))))] ok26 ⟨?_, ?_, ?_, trivial⟩ ?_
            · intro A B E G H; exact rP (y_move (kp (H 15 rfl) E q158))
            · intro A B E G H d0; exact rP (y_len Try.underlying23 (ed d0 rfl rfl rfl))
            · intro A B E G H d0; exact rP (y_eql (ed d0 rfl rfl rfl) rfl)
            intro a32 s25 D25; have ok28 := D25.ok; have F28 := F26.step0 D25.stp; have q164 := D25.kt q153 rfl; have q165 := D25.kt q154 rfl; have q166 := D25.kt q155 rfl; have q167 := D25.kt q156 rfl; have q168 := D25.kt q157 rfl; have q169 := D25.kt q158 rfl; have q170 := D25.kt q159 rfl; have o27 := Own.k0 o25 D25.stp; have q171 := D25.dn 2 rfl rfl; clear D25; refine tn ?_
            refine cond_p (p := ((((List.length Y.out) : Nat) : Int) = (0 : Int))) q171 (fun c10 => ?_) (fun c10 => ?_)
            ·
             have hXe : X = ⟨4, [], []⟩ := x_one hx hne hNN hs0 (one_word h40 hd6 (by rw [hd1, ← hY]; exact hY0) (by rw [hd1, ← hY]; exact hYn) (by rw [hd1, ← hY]; exact List.eq_nil_of_length_eq_zero (by omega))) (by decide)
             refine wp_seq ?_
             refine rg a32 s25 [(Ty.val (Value.slice none 0 0)), (Ty.int (0 : Int)), (Ty.int (4 : Int))] ok28 ⟨?_, ?_, ?_, trivial⟩ ?_
             · intro A B E G H; exact rP (y_assign rfl)
             · intro A B E G H d0 d1; exact rP (y_assign rfl)
             · intro A B E G H d0 d1 d2; exact rP (y_assign rfl)
             intro a33 s26 D26; have ok29 := D26.ok; have F29 := F28.step0 D26.stp; have o28 := Own.k0 o27 D26.stp; have q172 := D26.dn 0 rfl rfl; have q173 := D26.dn 1 rfl rfl; have q174 := D26.dn 2 rfl rfl; clear D26; refine tn ?_; refine wp_ret ?_; refine tr ?_; refine tr ?_; refine br ?_; refine tr ?_; refine br ?_; refine tr ?_
             exact retL3 rfl ok29 F29 (hasT3 (nil_lst (by (rw [← hX, hXe])) q172) (cvi (by (rw [← hX, hXe]; first | rfl | exact (if_neg c8).symm)) q173) (cvi (by (rw [← hX, hXe])) q174))
            ·
             have hYo : Y.out ≠ [] := (fun e_ => by rw [e_] at c10; simp at c10); have hQi : Q = ⟨0, Y.out, Y.rest.drop 1⟩ := (by rw [hQ, one_in h40 hd6 (by rw [hd1, ← hY]; exact hY0) (by rw [hd1, ← hY]; exact hYn) (by rw [hd1, ← hY]; exact hYo), hd1, ← hY])
             refine wp_skip ?_; refine tn ?_; refine wp_seq ?_
             refine rg a32 s25 [(Ty.lst Ty.int Y.out), (Ty.lst Ty.int Y.out)] ok28 ⟨?_, ?_, trivial⟩ ?_
             · intro A B E G H; exact rP (y_move (kp (H 15 rfl) E q169))
             · intro A B E G H d0 d1; exact rP (y_assign (ed d0 rfl rfl rfl))
             intro a34 s27 D27; have ok30 := D27.ok; have F30 := F28.step0 D27.stp; have q175 := D27.kt q164 rfl; have q176 := D27.kt q165 rfl; have q177 := D27.kt q166 rfl; have q178 := D27.kt q167 rfl; have q179 := D27.kt q168 rfl; have q180 := D27.kt q170 rfl; have o29 := Own.k0 o27 D27.stp; have q181 := D27.dn 1 rfl rfl; clear D27; refine tn ?_
             refine rg a34 s27 [(Ty.nat (l.length - Y.rest.length)), (Ty.nat ((l.length - Y.rest.length) + 1)), (Ty.nat ((l.length - Y.rest.length) + 1))] ok30 ⟨?_, ?_, ?_, trivial⟩ ?_
             · intro A B E G H; exact rP (y_move (kp (H 16 rfl) E q180))
             · intro A B E G H d0; exact rP ((y_add (ed d0 rfl rfl rfl) rfl (w64 (by omega) (by omega))).mono (fun τ _ h => cvi (σ := τ) (by first | omega | exact (Int.natCast_mul _ _).symm) h))
             · intro A B E G H d0 d1 d2; exact rP (y_assign (ed d0 rfl rfl rfl))
             intro a35 s28 D28; have ok31 := D28.ok; have F31 := F30.step0 D28.stp; have q182 := D28.kt q175 rfl; have q183 := D28.kt q176 rfl; have q184 := D28.kt q177 rfl; have q185 := D28.kt q178 rfl; have q186 := D28.kt q179 rfl; have q187 := D28.kt q181 rfl; have o30 := Own.k0 o29 D28.stp; have q188 := D28.dn 2 rfl rfl; clear D28
             exact tn ⟨s28, rfl, F31, ok31, (cvt (by (rw [hQi])) q187), (cvi (by (rw [hQi]; simp only [List.length_drop]; omega)) q188), q182, q183, q184, q185, q186, o30, by rw [hQi], trivial⟩
        ·
         have h40 : ¬ (List.drop q l).getD 0 0 = 40 := (by rw [hsh]; exact c6)
         refine wp_seq ?_
         refine rg a23 s17 [(Ty.int (0 : Int))] ok20 ⟨?_, trivial⟩ ?_
         · intro A B E G H; exact rP (y_assign rfl)
         intro a36 s29 D29; have ok32 := D29.ok; have F32 := F20.step0 D29.stp; have q189 := D29.kt q115 rfl; have q190 := D29.kt q116 rfl; have q191 := D29.kt q117 rfl; have q192 := D29.kt q118 rfl; have q193 := D29.kt q119 rfl; have q194 := D29.kt q120 rfl; have o31 := Own.k0 o19 D29.stp; have q195 := D29.dn 0 rfl rfl; clear D29; refine tn ?_; refine wp_seq ?_; refine wp_block ?_
         refine loop (fun n5 a37 w8 => ∃ (t8 : GW) (k : Nat), t8.w = w8 ∧ FromL [] s0 t8 ∧ Ok 154 a37 ∧ At (Ty.nat k) t8 a37 (.tmp 18) ∧ At (Ty.int (if b = true then v else 1)) t8 a37 (.tmp 12) ∧ At (Ty.nat q) t8 a37 (.tmp 2) ∧ At (Ty.val x11_0) t8 a37 (.tmp 11) ∧ At (Ty.lstc 2 callC cs) t8 a37 (.tmp 0) ∧ At (Ty.lst Ty.int l) t8 a37 (.tmp 1) ∧ At (Ty.nat deep) t8 a37 (.tmp 3) ∧ Own t8 5 3 1 x11_0 (List.length out) (List.map Ty.int out) ∧ (k ≤ cs.length) ∧ (∀ j, j < k → (cs.getD j D0).1 ≠ l.getD q 0) ∧ n5 = cs.length - k) (cs.length - (0)) ?_ ?_
         ·
          exact ⟨s29, 0, rfl, F32, ok32, (cvi (by (first | rfl | omega | (simp_all; done) | (simp_all; omega))) q195), q189, q190, q191, q192, q193, q194, o31, by omega, fun j hj => absurd hj (Nat.not_lt_zero j), rfl⟩
         ·
          rintro n6 a38 w9 ⟨t9, k, rfl, F33, ok33, q196, q197, q198, q199, q200, q201, q202, o32, hk, hno, rfl⟩
          have hsk : k < cs.length → -2147483648 ≤ (cs.getD k D0).1 ∧ (cs.getD k D0).1 ≤ 2147483647 := fun h_ => hsg _ (mem_getDD D0 h_)
          refine wp_seq ?_; refine wp_seq ?_
          refine reg (a := a38) (σ := t9) rfl (fun i_ => List.getD [(Ty.pr (Ty.nat k)), (Ty.pr (Ty.lstc 2 callC cs)), (Ty.pr (Ty.nat (List.length cs))), (Ty.pr (Ty.bool (decide (((k : Nat) : Int) < (((List.length cs) : Nat) : Int))))), (Ty.pr (Ty.bool (decide (((k : Nat) : Int) < (((List.length cs) : Nat) : Int))))), (Ty.pr (Ty.grd ((decide (((k : Nat) : Int) < (((List.length cs) : Nat) : Int))) = true) (Ty.lstc 2 callC cs))), (Ty.pr (Ty.grd ((decide (((k : Nat) : Int) < (((List.length cs) : Nat) : Int))) = true) (Ty.nat k))), (Ty.pr (Ty.grd ((decide (((k : Nat) : Int) < (((List.length cs) : Nat) : Int))) = true) (Ty.ref [(Ty.val (Value.int .i32 ((cs.getD k D0)).1)), (Ty.lst Ty.ints ((cs.getD k D0)).2)]))), (Ty.pr (Ty.grd ((decide (((k : Nat) : Int) < (((List.length cs) : Nat) : Int))) = true) (Ty.ref [(Ty.val (Value.int .i32 ((cs.getD k D0)).1)), (Ty.lst Ty.ints ((cs.getD k D0)).2)]))), (Ty.pr (Ty.grd ((decide (((k : Nat) : Int) < (((List.length cs) : Nat) : Int))) = true) (Ty.val (Value.int .i32 ((cs.getD k D0)).1)))), (Ty.pr (Ty.grd ((decide (((k : Nat) : Int) < (((List.length cs) : Nat) : Int))) = true) (Ty.int ((cs.getD k D0)).1))), (Ty.pr (Ty.grd ((decide (((k : Nat) : Int) < (((List.length cs) : Nat) : Int))) = true) (Ty.lst Ty.int l))), (Ty.pr (Ty.grd ((decide (((k : Nat) : Int) < (((List.length cs) : Nat) : Int))) = true) (Ty.nat q))), (Ty.pr (Ty.grd ((decide (((k : Nat) : Int) < (((List.length cs) : Nat) : Int))) = true) (Ty.ref [(Ty.int (l.getD q 0))]))), (Ty.pr (Ty.grd ((decide (((k : Nat) : Int) < (((List.length cs) : Nat) : Int))) = true) (Ty.int (l.getD q 0)))), (Ty.pr (Ty.grd ((decide (((k : Nat) : Int) < (((List.length cs) : Nat) : Int))) = true) (Ty.bool (decide (((cs.getD k D0)).1 ≠ (l.getD q 0)))))), (Ty.pr (Ty.bool ((decide (((k : Nat) : Int) < (((List.length cs) : Nat) : Int))) && (decide (((cs.getD k D0)).1 ≠ (l.getD q 0))))))] i_ Pr.any) ok33 rfl ⟨?_, ?_, ?_, ?_, ?_, ?_, ?_, ?_, ?_, ?_, ?_, ?_, ?_, ?_, ?_, ?_, ?_, trivial⟩ ?_
          · intro A B E G H; exact rP (y_move (kp (H 18 rfl) E q196))
          · intro A B E G H; exact rP (y_move (kp (H 0 rfl) E q200))
          · intro A B E G H d0; exact rP (y_len Try.underlying22 (ed d0 rfl rfl rfl))
          · intro A B E G H d0 d1; exact rP (y_lss (ed d0 rfl rfl rfl) (ed d1 rfl rfl rfl))
          · intro A B E G H d0; exact rP (y_move (ed d0 rfl rfl rfl))
          · intro A B E G H d0
            refine run_guard G rfl rfl (by decide) (ed d0 rfl rfl rfl) (fun hg => ?_)
            have hp := of_decide_eq_true hg
            exact y_move (kp (H 0 rfl) E q200)
          · intro A B E G H d0
            refine run_guard G rfl rfl (by decide) (ed d0 rfl rfl rfl) (fun hg => ?_)
            have hp := of_decide_eq_true hg
            exact y_move (kp (H 18 rfl) E q196)
          · intro A B E G H d0 d1 d2
            refine run_guard G rfl rfl (by decide) (ed d2 rfl rfl rfl) (fun hg => ?_)
            have hp := of_decide_eq_true hg
            exact y_indexc (i := ((k : Nat) : Int)) D0 Try.underlying22 Try.inf56 ((ed d0 rfl rfl rfl).1 hg) ((ed d1 rfl rfl rfl).1 hg) (by omega) (by omega) (by decide) (fun _ => rfl)
          · intro A B E G H d0 d1
            refine run_guard G rfl rfl (by decide) (ed d1 rfl rfl rfl) (fun hg => ?_)
            have hp := of_decide_eq_true hg
            exact y_field Try.fld56_0 Try.inf21 (by decide) ((ed d0 rfl rfl rfl).1 hg) rfl
          · intro A B E G H d0 d1
            refine run_guard G rfl rfl (by decide) (ed d1 rfl rfl rfl) (fun hg => ?_)
            have hp := of_decide_eq_true hg
            exact y_load Try.underlying21 rfl ((ed d0 rfl rfl rfl).1 hg) rfl
          · intro A B E G H d0 d1
            refine run_guard G rfl rfl (by decide) (ed d1 rfl rfl rfl) (fun hg => ?_)
            have hp := of_decide_eq_true hg
            have hsk2 := hsk (by omega)
            exact y_conv Try.underlying3 ((ed d0 rfl rfl rfl).1 hg) (by exact w64 (by omega) (by omega)) (by rw [Try.underlying21]; rfl)
          · intro A B E G H d0
            refine run_guard G rfl rfl (by decide) (ed d0 rfl rfl rfl) (fun hg => ?_)
            have hp := of_decide_eq_true hg
            exact y_move (kp (H 1 rfl) E q201)
          · intro A B E G H d0
            refine run_guard G rfl rfl (by decide) (ed d0 rfl rfl rfl) (fun hg => ?_)
            have hp := of_decide_eq_true hg
            exact y_move (kp (H 2 rfl) E q198)
          · intro A B E G H d0 d1 d2
            refine run_guard G rfl rfl (by decide) (ed d2 rfl rfl rfl) (fun hg => ?_)
            have hp := of_decide_eq_true hg
            exact y_index1 Try.underlying23 Try.inf3 ((ed d0 rfl rfl rfl).1 hg) ((ed d1 rfl rfl rfl).1 hg) (by omega) (lst_get Ty.int l 0 q (by omega))
          · intro A B E G H d0 d1
            refine run_guard G rfl rfl (by decide) (ed d1 rfl rfl rfl) (fun hg => ?_)
            have hp := of_decide_eq_true hg
            exact y_load Try.underlying3 rfl ((ed d0 rfl rfl rfl).1 hg) rfl
          · intro A B E G H d0 d1 d2
            refine run_guard G rfl rfl (by decide) (ed d2 rfl rfl rfl) (fun hg => ?_)
            have hp := of_decide_eq_true hg
            exact y_neq ((ed d0 rfl rfl rfl).1 hg) ((ed d1 rfl rfl rfl).1 hg)
          · intro A B E G H d0 d1; exact rP (y_pick_and (ed d0 rfl rfl rfl) (ed d1 rfl rfl rfl) rfl)
          intro a39 s30 D30; have ok34 := D30.ok; have F34 := F33.step0 D30.stp; have q203 := D30.kt q196 rfl; have q204 := D30.kt q197 rfl; have q205 := D30.kt q198 rfl; have q206 := D30.kt q199 rfl; have q207 := D30.kt q200 rfl; have q208 := D30.kt q201 rfl; have q209 := D30.kt q202 rfl; have o33 := Own.k0 o32 D30.stp; have q210 := D30.dn 16 rfl rfl; clear D30; refine tn ?_
          refine cond_t q210 (fun c11 => ?_) (fun c11 => ?_)
          ·
           obtain ⟨d19, d20⟩ := Bool.and_eq_true_iff.mp c11
           replace d19 := of_decide_eq_true d19
           replace d20 := of_decide_eq_true d20
           simp only [Bool.and_eq_true, decide_eq_true_eq] at c11
           refine wp_skip ?_; refine tn ?_; refine wp_block ?_
           refine rg a39 s30 [(Ty.nat k), (Ty.nat (k + 1)), (Ty.nat (k + 1))] ok34 ⟨?_, ?_, ?_, trivial⟩ ?_
           · intro A B E G H; exact rP (y_move (kp (H 18 rfl) E q203))
           · intro A B E G H d0; exact rP ((y_add (ed d0 rfl rfl rfl) rfl (w64 (by omega) (by omega))).mono (fun τ _ h => cvi (σ := τ) (by first | omega | exact (Int.natCast_mul _ _).symm) h))
           · intro A B E G H d0 d1 d2; exact rP (y_assign (ed d0 rfl rfl rfl))
           intro a40 s31 D31; have ok35 := D31.ok; have F35 := F34.step0 D31.stp; have q211 := D31.kt q204 rfl; have q212 := D31.kt q205 rfl; have q213 := D31.kt q206 rfl; have q214 := D31.kt q207 rfl; have q215 := D31.kt q208 rfl; have q216 := D31.kt q209 rfl; have o34 := Own.k0 o33 D31.stp; have q217 := D31.dn 2 rfl rfl; clear D31; refine bn ?_
           exact tn ⟨cs.length - ((k+1)), by omega, s31, (k+1), rfl, F35, ok35, (cvi (by (first | rfl | omega | (simp_all; done) | (simp_all; omega))) q217), q211, q212, q213, q214, q215, q216, o34, by omega, fun j hj => by (by_cases e : j = k; subst e; exact c11.2; exact hno j (by omega)), rfl⟩
          ·
           simp only [Bool.and_eq_false_iff, decide_eq_false_iff_not, ne_eq, Classical.not_not] at c11
           refine wp_exit ?_; refine tx ?_; refine tx ?_; refine bx ?_; refine tn ?_; refine wp_seq ?_; refine wp_seq ?_
           refine rg a39 s30 [(Ty.nat k), (Ty.lstc 2 callC cs), (Ty.nat (List.length cs)), (Ty.bool (decide (((k : Nat) : Int) = (((List.length cs) : Nat) : Int)))), (Ty.bool (decide (((k : Nat) : Int) = (((List.length cs) : Nat) : Int)))), (Ty.grd ((decide (((k : Nat) : Int) = (((List.length cs) : Nat) : Int))) = false) (Ty.lst Ty.int l)), (Ty.grd ((decide (((k : Nat) : Int) = (((List.length cs) : Nat) : Int))) = false) (Ty.nat q)), (Ty.grd ((decide (((k : Nat) : Int) = (((List.length cs) : Nat) : Int))) = false) (Ty.ref [(Ty.int (l.getD q 0))])), (Ty.grd ((decide (((k : Nat) : Int) = (((List.length cs) : Nat) : Int))) = false) (Ty.int (l.getD q 0))), (Ty.grd ((decide (((k : Nat) : Int) = (((List.length cs) : Nat) : Int))) = false) (Ty.bool (decide ((l.getD q 0) < (0 : Int))))), (Ty.bool ((decide (((k : Nat) : Int) = (((List.length cs) : Nat) : Int))) || (decide ((l.getD q 0) < (0 : Int)))))] ok34 ⟨?_, ?_, ?_, ?_, ?_, ?_, ?_, ?_, ?_, ?_, ?_, trivial⟩ ?_
           · intro A B E G H; exact rP (y_move (kp (H 18 rfl) E q203))
           · intro A B E G H; exact rP (y_move (kp (H 0 rfl) E q207))
           · intro A B E G H d0; exact rP (y_len Try.underlying22 (ed d0 rfl rfl rfl))
           · intro A B E G H d0 d1; exact rP (y_eql (ed d0 rfl rfl rfl) (ed d1 rfl rfl rfl))
           · intro A B E G H d0; exact rP (y_move (ed d0 rfl rfl rfl))
           · intro A B E G H d0
             refine run_guard G rfl rfl (by decide) (ed d0 rfl rfl rfl) (fun hg => ?_)
             have hp := of_decide_eq_false hg
             exact y_move (kp (H 1 rfl) E q208)
           · intro A B E G H d0
             refine run_guard G rfl rfl (by decide) (ed d0 rfl rfl rfl) (fun hg => ?_)
             have hp := of_decide_eq_false hg
             exact y_move (kp (H 2 rfl) E q205)
           · intro A B E G H d0 d1 d2
             refine run_guard G rfl rfl (by decide) (ed d2 rfl rfl rfl) (fun hg => ?_)
             have hp := of_decide_eq_false hg
             exact y_index1 Try.underlying23 Try.inf3 ((ed d0 rfl rfl rfl).1 hg) ((ed d1 rfl rfl rfl).1 hg) (by omega) (lst_get Ty.int l 0 q (by omega))
           · intro A B E G H d0 d1
             refine run_guard G rfl rfl (by decide) (ed d1 rfl rfl rfl) (fun hg => ?_)
             have hp := of_decide_eq_false hg
             exact y_load Try.underlying3 rfl ((ed d0 rfl rfl rfl).1 hg) rfl
           · intro A B E G H d0 d1
             refine run_guard G rfl rfl (by decide) (ed d1 rfl rfl rfl) (fun hg => ?_)
             have hp := of_decide_eq_false hg
             exact y_lss ((ed d0 rfl rfl rfl).1 hg) rfl
           · intro A B E G H d0 d1; exact rP (y_pick_or (ed d0 rfl rfl rfl) rfl (ed d1 rfl rfl rfl))
           intro a41 s32 D32; have ok36 := D32.ok; have F36 := F34.step0 D32.stp; have q218 := D32.kt q203 rfl; have q219 := D32.kt q204 rfl; have q220 := D32.kt q205 rfl; have q221 := D32.kt q206 rfl; have q222 := D32.kt q207 rfl; have q223 := D32.kt q208 rfl; have q224 := D32.kt q209 rfl; have o35 := Own.k0 o33 D32.stp; have q225 := D32.dn 10 rfl rfl; clear D32; refine tn ?_
           refine cond_t q225 (fun c12 => ?_) (fun c12 => ?_)
           ·
            have hnn : (List.drop q l).getD 0 0 ∉ (sgOf cs) ∨ (List.drop q l).getD 0 0 < 0 := (by rw [hsh]; simp only [Bool.or_eq_true, decide_eq_true_eq] at c12; rcases c12 with h_ | h_; exact .inl (sign_out (fun j hj => hno j (by omega))); exact .inr h_); have hXe : X = ⟨4, [], []⟩ := x_one hx hne hNN hs0 (one_none h40 hnn) (by decide)
            refine wp_seq ?_
            refine rg a41 s32 [(Ty.val (Value.slice none 0 0)), (Ty.int (0 : Int)), (Ty.int (4 : Int))] ok36 ⟨?_, ?_, ?_, trivial⟩ ?_
            · intro A B E G H; exact rP (y_assign rfl)
            · intro A B E G H d0 d1; exact rP (y_assign rfl)
            · intro A B E G H d0 d1 d2; exact rP (y_assign rfl)
            intro a42 s33 D33; have ok37 := D33.ok; have F37 := F36.step0 D33.stp; have o36 := Own.k0 o35 D33.stp; have q226 := D33.dn 0 rfl rfl; have q227 := D33.dn 1 rfl rfl; have q228 := D33.dn 2 rfl rfl; clear D33; refine tn ?_; refine wp_ret ?_; refine tr ?_; refine tr ?_; refine br ?_; refine tr ?_; refine br ?_; refine tr ?_
            exact retL3 rfl ok37 F37 (hasT3 (nil_lst (by (rw [← hX, hXe])) q226) (cvi (by (rw [← hX, hXe]; first | rfl | exact (if_neg c8).symm)) q227) (cvi (by (rw [← hX, hXe])) q228))
           ·
            obtain ⟨d21, d22⟩ := Bool.or_eq_false_iff.mp c12
            replace d21 := of_decide_eq_false d21
            replace d22 := of_decide_eq_false d22
            simp only [Bool.or_eq_false_iff, decide_eq_false_iff_not] at c12; have hks : (cs.getD k D0).1 = l.getD q 0 := (by rcases c11 with h_ | h_; omega; exact h_); obtain ⟨hm1, hm2⟩ := sign_at (show k < cs.length by omega) hno hks; have hQi : Q = ⟨0, [((k : Nat) : Int)], List.drop (q + 1) l⟩ := (by rw [hQ, one_sign h40 (by rw [hsh]; rintro (h_ | h_); exact h_ hm1; omega), hsh, hm2, hd1])
            refine wp_skip ?_; refine tn ?_; refine wp_seq ?_
            refine rg a41 s32 [(Ty.nat k), (Ty.sl 1 1 [(Ty.nat k)]), (Ty.sl 1 1 [(Ty.nat k)])] ok36 ⟨?_, ?_, ?_, trivial⟩ ?_
            · intro A B E G H; exact rP (y_move (kp (H 18 rfl) E q218))
            · intro A B E G H d0; exact rP (y_build1o Try.underlying23 Try.inf3 rfl (one_val rfl) (ed d0 rfl rfl rfl))
            · intro A B E G H d0 d1 d2; exact rP (y_assign (ed d0 rfl rfl rfl))
            intro a43 s34 D34; have ok38 := D34.ok; have F38 := F36.step0 D34.stp; have q229 := D34.kt q219 rfl; have q230 := D34.kt q220 rfl; have q231 := D34.kt q221 rfl; have q232 := D34.kt q222 rfl; have q233 := D34.kt q223 rfl; have q234 := D34.kt q224 rfl; have o37 := Own.k0 o35 D34.stp; have q235 := D34.dn 2 rfl rfl; clear D34; refine tn ?_
            refine rg a43 s34 [(Ty.nat q), (Ty.nat (q + 1)), (Ty.nat (q + 1))] ok38 ⟨?_, ?_, ?_, trivial⟩ ?_
            · intro A B E G H; exact rP (y_move (kp (H 2 rfl) E q230))
            · intro A B E G H d0; exact rP ((y_add (ed d0 rfl rfl rfl) rfl (w64 (by omega) (by omega))).mono (fun τ _ h => cvi (σ := τ) (by first | omega | exact (Int.natCast_mul _ _).symm) h))
            · intro A B E G H d0 d1 d2; exact rP (y_assign (ed d0 rfl rfl rfl))
            intro a44 s35 D35; have ok39 := D35.ok; have F39 := F38.step0 D35.stp; have q236 := D35.kt q229 rfl; have q237 := D35.kt q231 rfl; have q238 := D35.kt q232 rfl; have q239 := D35.kt q233 rfl; have q240 := D35.kt q234 rfl; have q241 := D35.kt q235 rfl; have o38 := Own.k0 o37 D35.stp; have q242 := D35.dn 2 rfl rfl; clear D35
            exact tn ⟨s35, rfl, F39, ok39, (cvt (by (rw [hQi]; rfl)) q241), (cvi (by (rw [hQi]; simp only [List.length_drop]; omega)) q242), q236, q237, q238, q239, q240, o38, by rw [hQi], trivial⟩
       ·
        rintro a45 w10 ⟨t10, rfl, F40, ok40, q243, q244, q245, q246, q247, q248, q249, o39, hQe, -⟩
        refine wp_seq ?_; refine wp_seq ?_
        have hQo : Q.out.length ≤ 400 := by rw [hQ]; exact one_out
        have hmul : 0 ≤ (if b = true then v else 1) * ((Q.out.length : Nat) : Int) ∧ (if b = true then v else 1) * ((Q.out.length : Nat) : Int) ≤ 99 * 400 := ⟨Int.mul_nonneg (by omega) (by omega), Int.mul_le_mul hT.2 (by omega) (by omega) (by omega)⟩
        refine reg (a := a45) (σ := t10) rfl (fun i_ => List.getD [(Ty.pr (Ty.int (if b = true then v else 1))), (Ty.pr (Ty.lst Ty.int Q.out)), (Ty.pr (Ty.nat (List.length Q.out))), (Ty.pr (Ty.int ((if b = true then v else 1) * (((List.length Q.out) : Nat) : Int)))), (Ty.pr (Ty.bool (decide ((400 : Int) < ((if b = true then v else 1) * (((List.length Q.out) : Nat) : Int))))))] i_ Pr.any) ok40 rfl ⟨?_, ?_, ?_, ?_, ?_, trivial⟩ ?_
        · intro A B E G H; exact rP (y_move (kp (H 12 rfl) E q245))
        · intro A B E G H; exact rP (y_move (kp (H 14 rfl) E q243))
        · intro A B E G H d0; exact rP (y_len Try.underlying23 (ed d0 rfl rfl rfl))
        · intro A B E G H d0 d1; exact rP (y_mul (ed d0 rfl rfl rfl) (ed d1 rfl rfl rfl) (w64 (by omega) (by omega)))
        · intro A B E G H d0; exact rP (y_gtr (ed d0 rfl rfl rfl) rfl)
        intro a46 s36 D36; have ok41 := D36.ok; have F41 := F40.step0 D36.stp; have q250 := D36.kt q243 rfl; have q251 := D36.kt q244 rfl; have q252 := D36.kt q245 rfl; have q253 := D36.kt q246 rfl; have q254 := D36.kt q247 rfl; have q255 := D36.kt q248 rfl; have q256 := D36.kt q249 rfl; have o40 := Own.k0 o39 D36.stp; have q257 := D36.dn 4 rfl rfl; clear D36; refine tn ?_
        refine cond_p (p := ((400 : Int) < ((if b = true then v else 1) * (((List.length Q.out) : Nat) : Int)))) q257 (fun c13 => ?_) (fun c13 => ?_)
        ·
         have hXe : X = ⟨3, [], []⟩ := x_err hx hne ((it_rp hNN hs0 (by rw [← hQ]; exact hQe)).trans (by rw [← hQ]; exact rp_lim c13)) (by decide)
         refine wp_seq ?_
         refine rg a46 s36 [(Ty.val (Value.slice none 0 0)), (Ty.int (0 : Int)), (Ty.int (3 : Int))] ok41 ⟨?_, ?_, ?_, trivial⟩ ?_
         · intro A B E G H; exact rP (y_assign rfl)
         · intro A B E G H d0 d1; exact rP (y_assign rfl)
         · intro A B E G H d0 d1 d2; exact rP (y_assign rfl)
         intro a47 s37 D37; have ok42 := D37.ok; have F42 := F41.step0 D37.stp; have o41 := Own.k0 o40 D37.stp; have q258 := D37.dn 0 rfl rfl; have q259 := D37.dn 1 rfl rfl; have q260 := D37.dn 2 rfl rfl; clear D37; refine tn ?_; refine wp_ret ?_; refine tr ?_; refine br ?_; refine tr ?_; refine br ?_; refine tr ?_
         exact retL3 rfl ok42 F42 (hasT3 (nil_lst (by (rw [← hX, hXe])) q258) (cvi (by (rw [← hX, hXe]; first | rfl | exact (if_neg c8).symm)) q259) (cvi (by (rw [← hX, hXe])) q260))
        ·
         have hit : itM (sgOf cs) deep (List.drop p l) = ⟨0, repL ((if b = true then v else 1)).toNat Q.out, Q.rest⟩ := (it_rp hNN hs0 (by rw [← hQ]; exact hQe)).trans (by rw [← hQ]; exact rp_ok c13)
         refine wp_skip ?_; refine tn ?_; refine wp_seq ?_; refine wp_seq ?_
         refine rg a46 s36 [(Ty.int (0 : Int))] ok41 ⟨?_, trivial⟩ ?_
         · intro A B E G H; exact rP (y_assign rfl)
         intro a48 s38 D38; have ok43 := D38.ok; have F43 := F41.step0 D38.stp; have q261 := D38.kt q250 rfl; have q262 := D38.kt q251 rfl; have q263 := D38.kt q252 rfl; have q264 := D38.kt q253 rfl; have q265 := D38.kt q254 rfl; have q266 := D38.kt q255 rfl; have q267 := D38.kt q256 rfl; have o42 := Own.k0 o40 D38.stp; have q268 := D38.dn 0 rfl rfl; clear D38; refine tn ?_; refine wp_block ?_
         refine loop (fun n7 a49 w11 => ∃ (t11 : GW) (k : Nat) (x11_3 : Value), t11.w = w11 ∧ FromL [] s0 t11 ∧ Ok 154 a49 ∧ At (Ty.nat k) t11 a49 (.tmp 19) ∧ At (Ty.val x11_3) t11 a49 (.tmp 11) ∧ At (Ty.lst Ty.int Q.out) t11 a49 (.tmp 14) ∧ At (Ty.nat (l.length - Q.rest.length)) t11 a49 (.tmp 2) ∧ At (Ty.int (if b = true then v else 1)) t11 a49 (.tmp 12) ∧ At (Ty.lstc 2 callC cs) t11 a49 (.tmp 0) ∧ At (Ty.lst Ty.int l) t11 a49 (.tmp 1) ∧ At (Ty.nat deep) t11 a49 (.tmp 3) ∧ Own t11 5 3 1 x11_3 (List.length (out ++ repL k Q.out)) (List.map Ty.int (out ++ repL k Q.out)) ∧ (k ≤ ((if b = true then v else 1)).toNat) ∧ n7 = ((if b = true then v else 1)).toNat - k) (((if b = true then v else 1)).toNat - (0)) ?_ ?_
         ·
          exact ⟨s38, 0, x11_0, rfl, F43, ok43, (cvi (by (first | rfl | omega | (simp_all; done) | (simp_all; omega))) q268), q264, q261, q262, q263, q265, q266, q267, (cvo (by (rw [repL_zero, List.append_nil])) (by (rw [repL_zero, List.append_nil])) o42), by omega, rfl⟩
         ·
          rintro n8 a50 w12 ⟨t12, k, x11_3, rfl, F44, ok44, q269, q270, q271, q272, q273, q274, q275, q276, o43, hk, rfl⟩
          refine wp_seq ?_; refine wp_seq ?_
          refine reg (a := a50) (σ := t12) rfl (fun i_ => List.getD [(Ty.pr (Ty.nat k)), (Ty.pr (Ty.int (if b = true then v else 1))), (Ty.pr (Ty.bool (decide (((k : Nat) : Int) < (if b = true then v else 1)))))] i_ Pr.any) ok44 rfl ⟨?_, ?_, ?_, trivial⟩ ?_
          · intro A B E G H; exact rP (y_move (kp (H 19 rfl) E q269))
          · intro A B E G H; exact rP (y_move (kp (H 12 rfl) E q273))
          · intro A B E G H d0 d1; exact rP (y_lss (ed d0 rfl rfl rfl) (ed d1 rfl rfl rfl))
          intro a51 s39 D39; have ok45 := D39.ok; have F45 := F44.step0 D39.stp; have q277 := D39.kt q269 rfl; have q278 := D39.kt q270 rfl; have q279 := D39.kt q271 rfl; have q280 := D39.kt q272 rfl; have q281 := D39.kt q273 rfl; have q282 := D39.kt q274 rfl; have q283 := D39.kt q275 rfl; have q284 := D39.kt q276 rfl; have o44 := Own.k0 o43 D39.stp; have q285 := D39.dn 2 rfl rfl; clear D39; refine tn ?_
          refine cond_p (p := (((k : Nat) : Int) < (if b = true then v else 1))) q285 (fun c14 => ?_) (fun c14 => ?_)
          ·
           have hrl := repL_len k Q.out; have hkm : k * Q.out.length ≤ 99 * 400 := Nat.mul_le_mul (by omega) hQo; have hol2 : (out ++ repL k Q.out).length = out.length + (repL k Q.out).length := List.length_append
           refine wp_skip ?_; refine tn ?_; refine wp_seq ?_; refine wp_block ?_
           refine reg2 (a := a51) (σ := s39) rfl 2 (fun i_ => List.getD [(Ty.pr (Ty.val x11_3)), (Ty.pr (Ty.lst Ty.int Q.out))] i_ Pr.any) ok45 rfl (by decide) rfl ⟨?_, ?_, trivial⟩ ?_
           · intro A B E G H; exact rP (y_move (kp (H 11 rfl) E q278))
           · intro A B E G H; exact rP (y_move (kp (H 14 rfl) E q279))
           intro a52 s40 D40; have ok46 := D40.ok; have F46 := F45.step0 D40.stp; have q286 := D40.kt q277 rfl; have q287 := D40.kt q278 rfl; have q288 := D40.kt q279 rfl; have q289 := D40.kt q280 rfl; have q290 := D40.kt q281 rfl; have q291 := D40.kt q282 rfl; have q292 := D40.kt q283 rfl; have q293 := D40.kt q284 rfl; have o45 := Own.k0 o44 D40.stp
           have q294 : At (Ty.val x11_3) s40 a52 (.tmp 146) := D40.done 0 (by decide)
           have q295 := D40.dn 1 (by decide) rfl rfl; clear D40
           refine tailL (L := [5]) (R := (fun v τ => Own τ 5 3 1 v ((List.length (out ++ repL k Q.out)) + (List.length Q.out)) ((List.map Ty.int (out ++ repL k Q.out)) ++ (List.map Ty.int Q.out)))) rfl rfl (by decide) ok46 (YldM.toL (m_append Try.underlying23 Try.inf3 (by decide) rfl (by decide) (al (R := (Pr.own 5 3 1 (List.length (out ++ repL k Q.out)) (List.map Ty.int (out ++ repL k Q.out)))) q294 o45) q295 (one_map (fun _ => one_val rfl)) (by omega) (by omega))) (fun a53 s41 hs1 ok47 r1 sm1 => ?_)
           have F47 := F46.stepL hs1 (by decide); have q296 := kpL hs1 (by decide) (sm1 19 (by decide)) q286; have q297 := kpL hs1 (by decide) (sm1 11 (by decide)) q287; have q298 := kpL hs1 (by decide) (sm1 14 (by decide)) q288; have q299 := kpL hs1 (by decide) (sm1 2 (by decide)) q289; have q300 := kpL hs1 (by decide) (sm1 12 (by decide)) q290; have q301 := kpL hs1 (by decide) (sm1 0 (by decide)) q291; have q302 := kpL hs1 (by decide) (sm1 1 (by decide)) q292; have q303 := kpL hs1 (by decide) (sm1 3 (by decide)) q293
           obtain ⟨x1, hx1⟩ : ∃ x, a53.eval (.tmp 148) = x := ⟨_, rfl⟩
           have q304 : At (Ty.val x1) s41 a53 (.tmp 148) := hx1
           have o46 : Own s41 5 3 1 x1 (List.length ((out ++ repL k Q.out) ++ Q.out)) (List.map Ty.int ((out ++ repL k Q.out) ++ Q.out)) := al2 (R := (Pr.own 5 3 1 (List.length ((out ++ repL k Q.out) ++ Q.out)) (List.map Ty.int ((out ++ repL k Q.out) ++ Q.out)))) hx1 (cvo (by first | (simp; done) | (simp; omega)) (by first | (rw [List.map_append]; rfl) | simp) r1)
           clear r1
           refine tailL (L := []) (R := (fun v τ => Pr.has (Ty.pr (Ty.val x1)) τ v)) rfl rfl (by decide) ok47 (Yld.toL (y_assign q304)) (fun a54 s42 hs2 ok48 r2 sm2 => ?_)
           have F48 := F47.stepL hs2 (by decide); have q305 := kpL hs2 (by decide) (sm2 19 (by decide)) q296; have q306 := kpL hs2 (by decide) (sm2 14 (by decide)) q298; have q307 := kpL hs2 (by decide) (sm2 2 (by decide)) q299; have q308 := kpL hs2 (by decide) (sm2 12 (by decide)) q300; have q309 := kpL hs2 (by decide) (sm2 0 (by decide)) q301; have q310 := kpL hs2 (by decide) (sm2 1 (by decide)) q302; have q311 := kpL hs2 (by decide) (sm2 3 (by decide)) q303; have o47 := Own.keepL o46 hs2 (by decide) (by decide)
           have q312 : At (Ty.val x1) s42 a54 (.tmp 11) := r2
           clear r2; refine wpList_nil ?_; refine bn ?_; refine tn ?_
           refine rg a54 s42 [(Ty.nat k), (Ty.nat (k + 1)), (Ty.nat (k + 1))] ok48 ⟨?_, ?_, ?_, trivial⟩ ?_
           · intro A B E G H; exact rP (y_move (kp (H 19 rfl) E q305))
           · intro A B E G H d0; exact rP ((y_add (ed d0 rfl rfl rfl) rfl (w64 (by omega) (by omega))).mono (fun τ _ h => cvi (σ := τ) (by first | omega | exact (Int.natCast_mul _ _).symm) h))
           · intro A B E G H d0 d1 d2; exact rP (y_assign (ed d0 rfl rfl rfl))
           intro a55 s43 D41; have ok49 := D41.ok; have F49 := F48.step0 D41.stp; have q313 := D41.kt q306 rfl; have q314 := D41.kt q307 rfl; have q315 := D41.kt q308 rfl; have q316 := D41.kt q309 rfl; have q317 := D41.kt q310 rfl; have q318 := D41.kt q311 rfl; have q319 := D41.kt q312 rfl; have o48 := Own.k0 o47 D41.stp; have q320 := D41.dn 2 rfl rfl; clear D41
           exact tn ⟨((if b = true then v else 1)).toNat - ((k+1)), by omega, s43, (k+1), x1, rfl, F49, ok49, (cvi (by (first | rfl | omega | (simp_all; done) | (simp_all; omega))) q320), q319, q313, q314, q315, q316, q317, q318, (cvo (by (rw [repL_succ, List.append_assoc])) (by (rw [repL_succ, List.append_assoc])) o48), by omega, rfl⟩
          ·
           have hkT : k = ((if b = true then v else 1)).toNat := (by omega)
           refine wp_exit ?_; refine tx ?_; refine tx ?_; refine bx ?_; refine tn ?_; refine wp_seq ?_
           refine rg a51 s39 [(Ty.val x11_3), (Ty.nat (List.length (out ++ repL k Q.out))), (Ty.bool (decide ((400 : Int) < (((List.length (out ++ repL k Q.out)) : Nat) : Int))))] ok45 ⟨?_, ?_, ?_, trivial⟩ ?_
           · intro A B E G H; exact rP (y_move (kp (H 11 rfl) E q278))
           · intro A B E G H d0; exact rP (own_len Try.underlying23 (al (R := (Pr.own 5 3 1 (List.length (out ++ repL k Q.out)) (List.map Ty.int (out ++ repL k Q.out)))) (ed d0 rfl rfl rfl) (Own.k0 o44 E)))
           · intro A B E G H d0; exact rP (y_gtr (ed d0 rfl rfl rfl) rfl)
           intro a56 s44 D42; have ok50 := D42.ok; have F50 := F45.step0 D42.stp; have q321 := D42.kt q278 rfl; have q322 := D42.kt q280 rfl; have q323 := D42.kt q282 rfl; have q324 := D42.kt q283 rfl; have q325 := D42.kt q284 rfl; have o49 := Own.k0 o44 D42.stp; have q326 := D42.dn 2 rfl rfl; clear D42; refine tn ?_
           refine cond_p (p := ((400 : Int) < (((List.length (out ++ repL k Q.out)) : Nat) : Int))) q326 (fun c15 => ?_) (fun c15 => ?_)
           ·
            have hXe : X = ⟨3, [], []⟩ := x_lim hx hne hit (by rw [← hkT]; omega)
            refine wp_seq ?_
            refine rg a56 s44 [(Ty.val (Value.slice none 0 0)), (Ty.int (0 : Int)), (Ty.int (3 : Int))] ok50 ⟨?_, ?_, ?_, trivial⟩ ?_
            · intro A B E G H; exact rP (y_assign rfl)
            · intro A B E G H d0 d1; exact rP (y_assign rfl)
            · intro A B E G H d0 d1 d2; exact rP (y_assign rfl)
            intro a57 s45 D43; have ok51 := D43.ok; have F51 := F50.step0 D43.stp; have o50 := Own.k0 o49 D43.stp; have q327 := D43.dn 0 rfl rfl; have q328 := D43.dn 1 rfl rfl; have q329 := D43.dn 2 rfl rfl; clear D43; refine tn ?_; refine wp_ret ?_; refine br ?_; refine tr ?_; refine br ?_; refine tr ?_
            exact retL3 rfl ok51 F51 (hasT3 (nil_lst (by (rw [← hX, hXe])) q327) (cvi (by (rw [← hX, hXe]; first | rfl | exact (if_neg c8).symm)) q328) (cvi (by (rw [← hX, hXe])) q329))
           ·
            obtain ⟨hqt, hql2⟩ := it_rest hpl hit; have hxn : parM (sgOf cs) deep (out ++ repL ((if b = true then v else 1)).toNat Q.out) (List.drop (l.length - Q.rest.length) l) = X := (by rw [← hqt]; exact x_go hx hne hit (by rw [← hkT]; omega)); have hol3 : (out ++ repL ((if b = true then v else 1)).toNat Q.out).length ≤ 400 := (by rw [← hkT]; omega)
            refine wp_skip ?_; refine bn ?_
            exact tn ⟨l.length - ((l.length - Q.rest.length)), by omega, s44, (l.length - Q.rest.length), (out ++ repL ((if b = true then v else 1)).toNat Q.out), x11_3, rfl, F50, ok50, (cvi (by (first | rfl | omega | (simp_all; done) | (simp_all; omega))) q322), q321, q323, q324, q325, (cvo (by (rw [hkT])) (by (rw [hkT])) o49), hxn, by omega, by omega, hol3, rfl⟩
  ·
   simp only [Bool.and_eq_false_iff, decide_eq_false_iff_not, ne_eq, Classical.not_not] at c1; have hst : (List.drop p l) = [] ∨ (List.drop p l).getD 0 0 = 41 := (by by_cases hpl : p < l.length; (right; rw [dr_hd hpl]; omega); (left; exact dr_nil (by omega))); have hX2 : X = ⟨0, out, (List.drop p l)⟩ := (by rw [← hx, par_stop hst])
   refine wp_exit ?_; refine tx ?_; refine tx ?_; refine bx ?_; refine tn ?_; refine wp_seq ?_
   refine rg a5 s3 [(Ty.val x11_0), (Ty.nat p), (Ty.val x11_0), (Ty.nat p), (Ty.int (0 : Int))] ok4 ⟨?_, ?_, ?_, ?_, ?_, trivial⟩ ?_
   · intro A B E G H; exact rP (y_move (kp (H 11 rfl) E q16))
   · intro A B E G H d0; exact rP (y_move (kp (H 2 rfl) E q15))
   · intro A B E G H d0 d1 d2; exact rP (y_assign (ed d0 rfl rfl rfl))
   · intro A B E G H d0 d1 d2 d3 d4; exact rP (y_assign (ed d0 rfl rfl rfl))
   · intro A B E G H d0 d1 d2 d3 d4; exact rP (y_assign rfl)
   intro a58 s46 D44; have ok52 := D44.ok; have F52 := F4.step0 D44.stp; have o51 := Own.k0 o3 D44.stp
   have q330 : At (Ty.val x11_0) s46 a58 (.tmp 8) := D44.done 2
   have q331 := D44.dn 3 rfl rfl; have q332 := D44.dn 4 rfl rfl; clear D44; refine tn ?_; refine wp_ret ?_
   obtain ⟨t13, e1, h1, q333⟩ := Own.seal o51 (by decide)
   rw [← e1]
   have F53 := F52.step h1 (by decide)
   have q334 : At (Ty.lst Ty.int out) t13 a58 (.tmp 8) := by have e : a58.eval (.tmp 8) = x11_0 := q330; show Ty.has _ _ _; rw [e]; exact q333
   have q335 := Ty.up (Ty.nat p) (h1.le (by decide)) q331; have q336 := Ty.up (Ty.int (0 : Int)) (h1.le (by decide)) q332
   exact retL3 rfl ok52 F53 (hasT3 (cvt (by (rw [← hX, hX2])) q334) (cvi (by (rw [← hX, hX2]; show ((p : Nat) : Int) = ((l.length - (List.drop p l).length : Nat) : Int); rw [List.length_drop]; omega)) q335) (cvi (by (rw [← hX, hX2])) q336))


set_option maxHeartbeats 4000000 in
set_option maxRecDepth 100000 in
theorem rParse_fn (cs : List BCall) (s : ByteArray) (σ : GW)  (v0 v1 : Value) (hv0 : Ty.has (Ty.lstc 2 callC cs) σ v0) (hv1 : Ty.has (Ty.val (Value.string s)) σ v1)  (hsg : ∀ c ∈ cs, -2147483648 ≤ c.1 ∧ c.1 ≤ 2147483647) (hcl : cs.length ≤ 1000) :
    FnC Try.prog 13 #[v0, v1] σ (Ty.tup2 (Ty.lst Ty.int (ptM (sgOf cs) s).out) (Ty.int (ptM (sgOf cs) s).err)) := by
 have hLl := runsL_len s
 obtain ⟨L, hL⟩ : ∃ L, L = runsL s := ⟨_, rfl⟩
 rw [← hL] at hLl
 obtain ⟨X, hX⟩ : ∃ X, X = parM (sgOf cs) 0 [] L := ⟨_, rfl⟩
 have hXL := hX
 rw [hL] at hXL
 refine fn_intro0 Try.func13 rfl Try.ntmps13 (Nat.le_of_ble_eq_true rfl) (fun s0 a0 hle F0 ok0 hargs => ?_)
 have p0 : At (Ty.lstc 2 callC cs) s0 a0 (.tmp 0) := by have e := hargs 0 _ rfl; show Ty.has _ _ _; rw [e]; exact Ty.up _ hle hv0
 have b1 := sl_le p0
 have p1 : At (Ty.val (Value.string s)) s0 a0 (.tmp 1) := by have e := hargs 1 _ rfl; show Ty.has _ _ _; rw [e]; exact Ty.up _ hle hv1
 clear hargs; refine wp_seq ?_
 refine rg a0 s0 [(Ty.val (Value.slice none 0 0)), (Ty.int (0 : Int))] ok0 ⟨?_, ?_, trivial⟩ ?_
 · intro A B E G H; exact rP (y_assign rfl)
 · intro A B E G H d0; exact rP (y_assign rfl)
 intro a1 s1 D1; have ok1 := D1.ok; have F1 := F0.step0 D1.stp; have q1 := D1.kt p0 rfl; have q2 := D1.kt p1 rfl; clear D1; refine tn ?_; refine wp_seq ?_; refine wp_seq ?_
 refine rg a1 s1 [(Ty.val (Value.string s)), (Ty.nat (ByteArray.size s)), (Ty.bool (decide ((4000 : Int) < (((ByteArray.size s) : Nat) : Int))))] ok1 ⟨?_, ?_, ?_, trivial⟩ ?_
 · intro A B E G H; exact rP (y_move (kp (H 1 rfl) E q2))
 · intro A B E G H d0; exact rP (y_len_str Try.underlying9 (ed d0 rfl rfl rfl))
 · intro A B E G H d0; exact rP (y_gtr (ed d0 rfl rfl rfl) rfl)
 intro a2 s2 D2; have ok2 := D2.ok; have F2 := F1.step0 D2.stp; have q3 := D2.kt q1 rfl; have q4 := D2.kt q2 rfl; have q5 := D2.dn 2 rfl rfl; clear D2; refine tn ?_
 refine cond_p (p := ((4000 : Int) < (((ByteArray.size s) : Nat) : Int))) q5 (fun c1 => ?_) (fun c1 => ?_)
 ·
  refine wp_seq ?_
  refine rg a2 s2 [(Ty.val (Value.slice none 0 0)), (Ty.int (3 : Int))] ok2 ⟨?_, ?_, trivial⟩ ?_
  · intro A B E G H; exact rP (y_assign rfl)
  · intro A B E G H d0 d1; exact rP (y_assign rfl)
  intro a3 s3 D3; have ok3 := D3.ok; have F3 := F2.step0 D3.stp; have q6 := D3.dn 0 rfl rfl; have q7 := D3.dn 1 rfl rfl; clear D3; refine tn ?_; refine wp_ret ?_; refine tr ?_
  exact retL2 rfl ok3 F3 (hasT2 (nil_lst (by (rw [pt_lim (by omega)])) q6) (cvi (by (rw [pt_lim (by omega)])) q7))
 ·
  have hsz : ¬ 4000 < s.size := (by omega)
  refine wp_skip ?_; refine tn ?_; refine wp_seq ?_
  refine rg a2 s2 [(Ty.val (Value.string s)), (Ty.lst Ty.int L), (Ty.lst Ty.int L)] ok2 ⟨?_, ?_, ?_, trivial⟩ ?_
  · intro A B E G H; exact rP (y_move (kp (H 1 rfl) E q4))
  · intro A B E G H d0; exact rP ((y_call #[A.eval (.tmp 13)] Try.func45 rfl rfl (by simp only [List.map_toArray, List.map_cons, List.map_nil]) (rRunes_fn (s) _ _ (ed d0 rfl rfl rfl) (by omega))).mono (fun τ _ h => cvt (σ := τ) (T := (Ty.lst Ty.int (runsL s))) (U := (Ty.lst Ty.int L)) (by rw [hL]) h))
  · intro A B E G H d0 d1 d2 d3; exact rP (y_assign (ed d0 rfl rfl rfl))
  intro a4 s4 D4; have ok4 := D4.ok; have F4 := F2.step0 D4.stp; have q8 := D4.kt q3 rfl; have q9 := D4.dn 2 rfl rfl; clear D4; refine tn ?_; refine wp_seq ?_
  refine rg a4 s4 [(Ty.lstc 2 callC cs), (Ty.lst Ty.int L), (Ty.tup3 (Ty.lst Ty.int X.out) (Ty.int (if X.err = 0 then ((L.length - X.rest.length : Nat) : Int) else 0)) (Ty.int X.err)), (Ty.tup3 (Ty.lst Ty.int X.out) (Ty.int (if X.err = 0 then ((L.length - X.rest.length : Nat) : Int) else 0)) (Ty.int X.err)), (Ty.lst Ty.int X.out), (Ty.int (if X.err = 0 then ((L.length - X.rest.length : Nat) : Int) else 0)), (Ty.int X.err), (Ty.lst Ty.int X.out), (Ty.int (if X.err = 0 then ((L.length - X.rest.length : Nat) : Int) else 0)), (Ty.int X.err)] ok4 ⟨?_, ?_, ?_, ?_, ?_, ?_, ?_, ?_, ?_, ?_, trivial⟩ ?_
  · intro A B E G H; exact rP (y_move (kp (H 0 rfl) E q8))
  · intro A B E G H; exact rP (y_move (kp (H 6 rfl) E q9))
  · intro A B E G H d0 d1; exact rP ((y_call #[A.eval (.tmp 16), A.eval (.tmp 17), A.eval ((Operand.const (Value.int IntKind.i64 0))), A.eval ((Operand.const (Value.int IntKind.i64 0)))] Try.func46 rfl rfl (by simp only [List.map_toArray, List.map_cons, List.map_nil]) (rTouch_fn (((L).length - (0))) (cs) (L) (0) (0) _ _ _ _ _ (ed d0 rfl rfl rfl) (ed d1 rfl rfl rfl) (cvi (σ := B) (by first | omega | assumption) rfl) (cvi (σ := B) (by first | omega | assumption) rfl) (by first | omega | assumption) (by first | omega | assumption) (by first | omega | assumption) (by first | omega | assumption) (by first | omega | assumption))).mono (fun τ _ h => cvt (σ := τ) (T := (Ty.tup3 (Ty.lst Ty.int ((parM (sgOf cs) (0) ([] : List Int) (List.drop (0) (L)))).out) (Ty.int (if ((parM (sgOf cs) (0) ([] : List Int) (List.drop (0) (L)))).err = 0 then (((L).length - ((parM (sgOf cs) (0) ([] : List Int) (List.drop (0) (L)))).rest.length : Nat) : Int) else 0)) (Ty.int ((parM (sgOf cs) (0) ([] : List Int) (List.drop (0) (L)))).err))) (U := (Ty.tup3 (Ty.lst Ty.int X.out) (Ty.int (if X.err = 0 then ((L.length - X.rest.length : Nat) : Int) else 0)) (Ty.int X.err))) (by rw [hX]; rfl) h))
  · intro A B E G H d0; exact rP (y_move (ed d0 rfl rfl rfl))
  · intro A B E G H d0; exact rP (y_ext3_0 (ed d0 rfl rfl rfl))
  · intro A B E G H d0 d1; exact rP (y_ext3_1 (ed d0 rfl rfl rfl))
  · intro A B E G H d0 d1; exact rP (y_ext3_2 (ed d0 rfl rfl rfl))
  · intro A B E G H d0 d1 d2 d3 d4 d5 d6 d7 d8; exact rP (y_assign (ed d0 rfl rfl rfl))
  · intro A B E G H d0 d1 d2 d3 d4 d5 d6 d7 d8 d9; exact rP (y_assign (ed d0 rfl rfl rfl))
  · intro A B E G H d0 d1 d2 d3 d4 d5 d6 d7 d8 d9 d10; exact rP (y_assign (ed d0 rfl rfl rfl))
  intro a5 s5 D5; have ok5 := D5.ok; have F5 := F4.step0 D5.stp; have q10 := D5.kt q9 rfl; have q11 := D5.dn 7 rfl rfl; have q12 := D5.dn 8 rfl rfl; have q13 := D5.dn 9 rfl rfl; clear D5; refine tn ?_; refine wp_seq ?_; refine wp_seq ?_
  refine rg a5 s5 [(Ty.int X.err), (Ty.bool (decide (X.err ≠ (0 : Int))))] ok5 ⟨?_, ?_, trivial⟩ ?_
  · intro A B E G H; exact rP (y_move (kp (H 9 rfl) E q13))
  · intro A B E G H d0; exact rP (y_neq (ed d0 rfl rfl rfl) rfl)
  intro a6 s6 D6; have ok6 := D6.ok; have F6 := F5.step0 D6.stp; have q14 := D6.kt q10 rfl; have q15 := D6.kt q11 rfl; have q16 := D6.kt q12 rfl; have q17 := D6.kt q13 rfl; have q18 := D6.dn 1 rfl rfl; clear D6; refine tn ?_
  refine cond_p (p := (X.err ≠ (0 : Int))) q18 (fun c2 => ?_) (fun c2 => ?_)
  ·
   have hX1 := c2
   refine wp_seq ?_
   refine rg a6 s6 [(Ty.int X.err), (Ty.val (Value.slice none 0 0)), (Ty.int X.err)] ok6 ⟨?_, ?_, ?_, trivial⟩ ?_
   · intro A B E G H d0; exact rP (y_move (kp (H 9 rfl) E q17))
   · intro A B E G H d0; exact rP (y_assign rfl)
   · intro A B E G H d0 d1 d2 d3; exact rP (y_assign (ed d0 rfl rfl rfl))
   intro a7 s7 D7; have ok7 := D7.ok; have F7 := F6.step0 D7.stp; have q19 := D7.dn 1 rfl rfl; have q20 := D7.dn 2 rfl rfl; clear D7; refine tn ?_; refine wp_ret ?_; refine tr ?_
   exact retL2 rfl ok7 F7 (hasT2 (nil_lst (by (rw [pt_err hsz hXL hX1])) q19) (cvi (by (rw [pt_err hsz hXL hX1])) q20))
  ·
   have hX0 : X.err = 0 := Classical.not_not.1 c2; have hXt : X.rest.length ≤ L.length := (by rw [hX] at hX0 ⊢; exact (par_tail hX0).len)
   have q21 : At (Ty.nat (L.length - X.rest.length)) s6 a6 (.tmp 8) := cvt (T := (Ty.int (if X.err = 0 then ((L.length - X.rest.length : Nat) : Int) else 0))) (U := (Ty.nat (L.length - X.rest.length))) (by rw [if_pos hX0]) q16
   refine wp_skip ?_; refine tn ?_; refine wp_seq ?_; refine wp_seq ?_
   refine rg a6 s6 [(Ty.nat (L.length - X.rest.length)), (Ty.lst Ty.int L), (Ty.nat (List.length L)), (Ty.bool (decide ((((L.length - X.rest.length) : Nat) : Int) < (((List.length L) : Nat) : Int))))] ok6 ⟨?_, ?_, ?_, ?_, trivial⟩ ?_
   · intro A B E G H; exact rP (y_move (kp (H 8 rfl) E q21))
   · intro A B E G H; exact rP (y_move (kp (H 6 rfl) E q14))
   · intro A B E G H d0; exact rP (y_len Try.underlying23 (ed d0 rfl rfl rfl))
   · intro A B E G H d0 d1; exact rP (y_lss (ed d0 rfl rfl rfl) (ed d1 rfl rfl rfl))
   intro a8 s8 D8; have ok8 := D8.ok; have F8 := F6.step0 D8.stp; have q22 := D8.kt q15 rfl; have q23 := D8.dn 3 rfl rfl; clear D8; refine tn ?_
   refine cond_p (p := ((((L.length - X.rest.length) : Nat) : Int) < (((List.length L) : Nat) : Int))) q23 (fun c3 => ?_) (fun c3 => ?_)
   ·
    have hXr : X.rest ≠ [] := (fun e_ => by rw [e_] at c3; simp at c3)
    refine wp_seq ?_
    refine rg a8 s8 [(Ty.val (Value.slice none 0 0)), (Ty.int (4 : Int))] ok8 ⟨?_, ?_, trivial⟩ ?_
    · intro A B E G H; exact rP (y_assign rfl)
    · intro A B E G H d0 d1; exact rP (y_assign rfl)
    intro a9 s9 D9; have ok9 := D9.ok; have F9 := F8.step0 D9.stp; have q24 := D9.dn 0 rfl rfl; have q25 := D9.dn 1 rfl rfl; clear D9; refine tn ?_; refine wp_ret ?_; refine tr ?_
    exact retL2 rfl ok9 F9 (hasT2 (nil_lst (by (rw [pt_word hsz hXL hX0 hXr])) q24) (cvi (by (rw [pt_word hsz hXL hX0 hXr])) q25))
   ·
    have hXr : X.rest = [] := List.eq_nil_of_length_eq_zero (by omega)
    refine wp_skip ?_; refine tn ?_; refine wp_seq ?_; refine wp_seq ?_
    refine rg a8 s8 [(Ty.lst Ty.int X.out), (Ty.nat (List.length X.out)), (Ty.bool (decide ((((List.length X.out) : Nat) : Int) = (0 : Int))))] ok8 ⟨?_, ?_, ?_, trivial⟩ ?_
    · intro A B E G H; exact rP (y_move (kp (H 7 rfl) E q22))
    · intro A B E G H d0; exact rP (y_len Try.underlying23 (ed d0 rfl rfl rfl))
    · intro A B E G H d0; exact rP (y_eql (ed d0 rfl rfl rfl) rfl)
    intro a10 s10 D10; have ok10 := D10.ok; have F10 := F8.step0 D10.stp; have q26 := D10.kt q22 rfl; have q27 := D10.dn 2 rfl rfl; clear D10; refine tn ?_
    refine cond_p (p := ((((List.length X.out) : Nat) : Int) = (0 : Int))) q27 (fun c4 => ?_) (fun c4 => ?_)
    ·
     have hXo : X.out = [] := List.eq_nil_of_length_eq_zero (by omega)
     refine wp_seq ?_
     refine rg a10 s10 [(Ty.val (Value.slice none 0 0)), (Ty.int (5 : Int))] ok10 ⟨?_, ?_, trivial⟩ ?_
     · intro A B E G H; exact rP (y_assign rfl)
     · intro A B E G H d0 d1; exact rP (y_assign rfl)
     intro a11 s11 D11; have ok11 := D11.ok; have F11 := F10.step0 D11.stp; have q28 := D11.dn 0 rfl rfl; have q29 := D11.dn 1 rfl rfl; clear D11; refine tn ?_; refine wp_ret ?_; refine tr ?_
     exact retL2 rfl ok11 F11 (hasT2 (nil_lst (by (rw [pt_none hsz hXL hX0 hXr hXo])) q28) (cvi (by (rw [pt_none hsz hXL hX0 hXr hXo])) q29))
    ·
     have hXo : X.out ≠ [] := (fun e_ => by rw [e_] at c4; simp at c4)
     refine wp_skip ?_; refine tn ?_; refine wp_seq ?_
     refine rg a10 s10 [(Ty.lst Ty.int X.out), (Ty.lst Ty.int X.out), (Ty.int (0 : Int))] ok10 ⟨?_, ?_, ?_, trivial⟩ ?_
     · intro A B E G H; exact rP (y_move (kp (H 7 rfl) E q26))
     · intro A B E G H d0 d1; exact rP (y_assign (ed d0 rfl rfl rfl))
     · intro A B E G H d0 d1 d2; exact rP (y_assign rfl)
     intro a12 s12 D12; have ok12 := D12.ok; have F12 := F10.step0 D12.stp; have q30 := D12.dn 1 rfl rfl; have q31 := D12.dn 2 rfl rfl; clear D12; refine tn ?_; refine wp_ret ?_
     exact retL2 rfl ok12 F12 (hasT2 (cvt (by (rw [pt_ok hsz hXL hX0 hXr hXo])) q30) (cvi (by (rw [pt_ok hsz hXL hX0 hXr hXo])) q31))


set_option maxRecDepth 100000 in
theorem rsame_fn (xs : List Int) (ys : List Int) (σ : GW) (v0 v1 : Value) (hv0 : Ty.has (Ty.lst Ty.int xs) σ v0) (hv1 : Ty.has (Ty.lst Ty.int ys) σ v1)  :
    FnC Try.prog 14 #[v0, v1] σ (Ty.bool (decide (xs = ys))) := by
 refine fn_intro Try.func14 rfl Try.ntmps14 (Nat.le_of_ble_eq_true rfl) (fun s0 a0 hle F0 ok0 hargs => ?_)
 have p0 : At (Ty.lst Ty.int xs) s0 a0 (.tmp 0) := by have e := hargs 0 _ rfl; show Ty.has _ _ _; rw [e]; exact Ty.up _ hle hv0
 have b1 := sl_le p0
 have p1 : At (Ty.lst Ty.int ys) s0 a0 (.tmp 1) := by have e := hargs 1 _ rfl; show Ty.has _ _ _; rw [e]; exact Ty.up _ hle hv1
 have b2 := sl_le p1
 clear hargs; refine wp_seq ?_
 refine rg a0 s0 [(Ty.bool false)] ok0 ⟨?_, trivial⟩ ?_
 · intro A B E G H; exact rP (y_assign rfl)
 intro a1 s1 D1; have ok1 := D1.ok; have F1 := F0.step0 D1.stp; have q1 := D1.kt p0 rfl; have q2 := D1.kt p1 rfl; clear D1; refine tn ?_; refine wp_seq ?_; refine wp_seq ?_
 refine rg a1 s1 [(Ty.lst Ty.int xs), (Ty.nat (List.length xs)), (Ty.lst Ty.int ys), (Ty.nat (List.length ys)), (Ty.bool (decide ((((List.length xs) : Nat) : Int) ≠ (((List.length ys) : Nat) : Int))))] ok1 ⟨?_, ?_, ?_, ?_, ?_, trivial⟩ ?_
 · intro A B E G H; exact rP (y_move (kp (H 0 rfl) E q1))
 · intro A B E G H d0; exact rP (y_len Try.underlying23 (ed d0 rfl rfl rfl))
 · intro A B E G H; exact rP (y_move (kp (H 1 rfl) E q2))
 · intro A B E G H d0; exact rP (y_len Try.underlying23 (ed d0 rfl rfl rfl))
 · intro A B E G H d0 d1; exact rP (y_neq (ed d0 rfl rfl rfl) (ed d1 rfl rfl rfl))
 intro a2 s2 D2; have ok2 := D2.ok; have F2 := F1.step0 D2.stp; have q3 := D2.kt q1 rfl; have q4 := D2.kt q2 rfl; have q5 := D2.dn 4 rfl rfl; clear D2; refine tn ?_
 refine cond_p (p := ((((List.length xs) : Nat) : Int) ≠ (((List.length ys) : Nat) : Int))) q5 (fun c1 => ?_) (fun c1 => ?_)
 ·
  refine wp_seq ?_
  refine rg a2 s2 [(Ty.bool false)] ok2 ⟨?_, trivial⟩ ?_
  · intro A B E G H; exact rP (y_assign rfl)
  intro a3 s3 D3; have ok3 := D3.ok; have F3 := F2.step0 D3.stp; have q6 := D3.dn 0 rfl rfl; clear D3; refine tn ?_; refine wp_ret ?_; refine tr ?_
  exact ret1 rfl ok3 F3 (cvb (by (rw [decide_eq_false]; intro e; subst e; omega)) q6)
 ·
  refine wp_skip ?_; refine tn ?_; refine wp_seq ?_; refine wp_seq ?_
  refine rg a2 s2 [(Ty.int (0 : Int))] ok2 ⟨?_, trivial⟩ ?_
  · intro A B E G H; exact rP (y_assign rfl)
  intro a4 s4 D4; have ok4 := D4.ok; have F4 := F2.step0 D4.stp; have q7 := D4.kt q3 rfl; have q8 := D4.kt q4 rfl; have q9 := D4.dn 0 rfl rfl; clear D4; refine tn ?_; refine wp_block ?_
  refine loop (fun n1 a5 w1 => ∃ (t1 : GW) (k : Nat), t1.w = w1 ∧ From s0 t1 ∧ Ok 26 a5 ∧ At (Ty.nat k) t1 a5 (.tmp 5) ∧ At (Ty.lst Ty.int xs) t1 a5 (.tmp 0) ∧ At (Ty.lst Ty.int ys) t1 a5 (.tmp 1) ∧ (k ≤ xs.length) ∧ (xs.length = ys.length) ∧ (∀ j, j < k → xs.getD j 0 = ys.getD j 0) ∧ n1 = xs.length - k) (xs.length - (0)) ?_ ?_
  ·
   exact ⟨s4, 0, rfl, F4, ok4, (cvi (by (first | rfl | omega | (simp_all; done) | (simp_all; omega))) q9), q7, q8, by omega, by omega, fun j hj => absurd hj (Nat.not_lt_zero j), rfl⟩
  ·
   rintro n2 a6 w2 ⟨t2, k, rfl, F5, ok5, q10, q11, q12, hk, hl, heq, rfl⟩
   refine wp_seq ?_; refine wp_seq ?_
   refine reg (a := a6) (σ := t2) rfl (fun i_ => List.getD [(Ty.pr (Ty.nat k)), (Ty.pr (Ty.lst Ty.int xs)), (Ty.pr (Ty.nat (List.length xs))), (Ty.pr (Ty.bool (decide (((k : Nat) : Int) < (((List.length xs) : Nat) : Int)))))] i_ Pr.any) ok5 rfl ⟨?_, ?_, ?_, ?_, trivial⟩ ?_
   · intro A B E G H; exact rP (y_move (kp (H 5 rfl) E q10))
   · intro A B E G H; exact rP (y_move (kp (H 0 rfl) E q11))
   · intro A B E G H d0; exact rP (y_len Try.underlying23 (ed d0 rfl rfl rfl))
   · intro A B E G H d0 d1; exact rP (y_lss (ed d0 rfl rfl rfl) (ed d1 rfl rfl rfl))
   intro a7 s5 D5; have ok6 := D5.ok; have F6 := F5.step0 D5.stp; have q13 := D5.kt q10 rfl; have q14 := D5.kt q11 rfl; have q15 := D5.kt q12 rfl; have q16 := D5.dn 3 rfl rfl; clear D5; refine tn ?_
   refine cond_p (p := (((k : Nat) : Int) < (((List.length xs) : Nat) : Int))) q16 (fun c2 => ?_) (fun c2 => ?_)
   ·
    refine wp_skip ?_; refine tn ?_; refine wp_seq ?_; refine wp_block ?_; refine wp_seq ?_
    refine rg a7 s5 [(Ty.lst Ty.int xs), (Ty.nat k), (Ty.ref [(Ty.int (xs.getD k 0))]), (Ty.int (xs.getD k 0)), (Ty.lst Ty.int ys), (Ty.nat k), (Ty.ref [(Ty.int (ys.getD k 0))]), (Ty.int (ys.getD k 0)), (Ty.bool (decide ((xs.getD k 0) ≠ (ys.getD k 0))))] ok6 ⟨?_, ?_, ?_, ?_, ?_, ?_, ?_, ?_, ?_, trivial⟩ ?_
    · intro A B E G H; exact rP (y_move (kp (H 0 rfl) E q14))
    · intro A B E G H; exact rP (y_move (kp (H 5 rfl) E q13))
    · intro A B E G H d0 d1; exact rP (y_index1 Try.underlying23 Try.inf3 (ed d0 rfl rfl rfl) (ed d1 rfl rfl rfl) (by omega) (lst_get Ty.int xs 0 k (by omega)))
    · intro A B E G H d0; exact rP (y_load Try.underlying3 rfl (ed d0 rfl rfl rfl) rfl)
    · intro A B E G H; exact rP (y_move (kp (H 1 rfl) E q15))
    · intro A B E G H; exact rP (y_move (kp (H 5 rfl) E q13))
    · intro A B E G H d0 d1; exact rP (y_index1 Try.underlying23 Try.inf3 (ed d0 rfl rfl rfl) (ed d1 rfl rfl rfl) (by omega) (lst_get Ty.int ys 0 k (by omega)))
    · intro A B E G H d0; exact rP (y_load Try.underlying3 rfl (ed d0 rfl rfl rfl) rfl)
    · intro A B E G H d0 d1; exact rP (y_neq (ed d0 rfl rfl rfl) (ed d1 rfl rfl rfl))
    intro a8 s6 D6; have ok7 := D6.ok; have F7 := F6.step0 D6.stp; have q17 := D6.kt q13 rfl; have q18 := D6.kt q14 rfl; have q19 := D6.kt q15 rfl; have q20 := D6.dn 8 rfl rfl; clear D6; refine tn ?_
    refine cond_p (p := ((xs.getD k 0) ≠ (ys.getD k 0))) q20 (fun c3 => ?_) (fun c3 => ?_)
    ·
     refine wp_seq ?_
     refine rg a8 s6 [(Ty.bool false)] ok7 ⟨?_, trivial⟩ ?_
     · intro A B E G H; exact rP (y_assign rfl)
     intro a9 s7 D7; have ok8 := D7.ok; have F8 := F7.step0 D7.stp; have q21 := D7.dn 0 rfl rfl; clear D7; refine tn ?_; refine wp_ret ?_; refine br ?_; refine tr ?_; refine tr ?_; refine br ?_; refine tr ?_
     exact ret1 rfl ok8 F8 (cvb (by (exact (decide_eq_false (fun e => by subst e; simp_all)).symm)) q21)
    ·
     refine wp_skip ?_; refine bn ?_; refine tn ?_
     refine rg a8 s6 [(Ty.nat k), (Ty.int (((k : Nat) : Int) + (1 : Int))), (Ty.int (((k : Nat) : Int) + (1 : Int)))] ok7 ⟨?_, ?_, ?_, trivial⟩ ?_
     · intro A B E G H; exact rP (y_move (kp (H 5 rfl) E q17))
     · intro A B E G H d0; exact rP (y_add (ed d0 rfl rfl rfl) rfl (w64 (by omega) (by omega)))
     · intro A B E G H d0 d1 d2; exact rP (y_assign (ed d0 rfl rfl rfl))
     intro a10 s8 D8; have ok9 := D8.ok; have F9 := F7.step0 D8.stp; have q22 := D8.kt q18 rfl; have q23 := D8.kt q19 rfl; have q24 := D8.dn 2 rfl rfl; clear D8
     exact tn ⟨xs.length - ((k+1)), by omega, s8, (k+1), rfl, F9, ok9, (cvi (by (first | rfl | omega | (simp_all; done) | (simp_all; omega))) q24), q22, q23, by omega, by omega, all_snoc heq (by assumption), rfl⟩
   ·
    refine wp_exit ?_; refine tx ?_; refine tx ?_; refine bx ?_; refine tn ?_; refine wp_seq ?_
    refine rg a7 s5 [(Ty.bool true)] ok6 ⟨?_, trivial⟩ ?_
    · intro A B E G H; exact rP (y_assign rfl)
    intro a11 s9 D9; have ok10 := D9.ok; have F10 := F6.step0 D9.stp; have q25 := D9.dn 0 rfl rfl; clear D9; refine tn ?_; refine wp_ret ?_
    exact ret1 rfl ok10 F10 (cvb (by (exact (decide_eq_true (list_ext (by omega) (fun j hj => heq j (by omega)))).symm)) q25)


set_option maxHeartbeats 4000000 in
set_option maxRecDepth 100000 in
theorem callParses_fn (cs : List BCall) (s : ByteArray) (σ : GW)  (v0 v1 : Value) (hv0 : Ty.has (Ty.lstc 2 callC cs) σ v0) (hv1 : Ty.has (Ty.val (Value.string s)) σ v1)  (hsg : ∀ c ∈ cs, -2147483648 ≤ c.1 ∧ c.1 ≤ 2147483647) :
    FnC Try.prog 3 #[v0, v1] σ (Ty.bool true) := by
 refine fn_intro0 Try.func3 rfl Try.ntmps3 (Nat.le_of_ble_eq_true rfl) (fun s0 a0 hle F0 ok0 hargs => ?_)
 have p0 : At (Ty.lstc 2 callC cs) s0 a0 (.tmp 0) := by have e := hargs 0 _ rfl; show Ty.has _ _ _; rw [e]; exact Ty.up _ hle hv0
 have b1 := sl_le p0
 have p1 : At (Ty.val (Value.string s)) s0 a0 (.tmp 1) := by have e := hargs 1 _ rfl; show Ty.has _ _ _; rw [e]; exact Ty.up _ hle hv1
 clear hargs; refine wp_seq ?_
 refine rg a0 s0 [(Ty.bool false)] ok0 ⟨?_, trivial⟩ ?_
 · intro A B E G H; exact rP (y_assign rfl)
 intro a1 s1 D1; have ok1 := D1.ok; have F1 := F0.step0 D1.stp; have q1 := D1.kt p0 rfl; have q2 := D1.kt p1 rfl; clear D1; refine tn ?_; refine wp_seq ?_; refine wp_seq ?_
 refine rg a1 s1 [(Ty.lstc 2 callC cs), (Ty.nat (List.length cs)), (Ty.bool (decide ((12 : Int) < (((List.length cs) : Nat) : Int)))), (Ty.bool (decide ((12 : Int) < (((List.length cs) : Nat) : Int)))), (Ty.grd ((decide ((12 : Int) < (((List.length cs) : Nat) : Int))) = false) (Ty.val (Value.string s))), (Ty.grd ((decide ((12 : Int) < (((List.length cs) : Nat) : Int))) = false) (Ty.nat (ByteArray.size s))), (Ty.grd ((decide ((12 : Int) < (((List.length cs) : Nat) : Int))) = false) (Ty.bool (decide ((600 : Int) < (((ByteArray.size s) : Nat) : Int))))), (Ty.grd ((decide ((12 : Int) < (((List.length cs) : Nat) : Int))) = false) (Ty.bool (decide ((600 : Int) < (((ByteArray.size s) : Nat) : Int))))), (Ty.grd (((decide ((12 : Int) < (((List.length cs) : Nat) : Int))) = false) ∧ (decide ((600 : Int) < (((ByteArray.size s) : Nat) : Int))) = true) (Ty.val (Value.string s))), (Ty.grd (((decide ((12 : Int) < (((List.length cs) : Nat) : Int))) = false) ∧ (decide ((600 : Int) < (((ByteArray.size s) : Nat) : Int))) = true) (Ty.nat (ByteArray.size s))), (Ty.grd (((decide ((12 : Int) < (((List.length cs) : Nat) : Int))) = false) ∧ (decide ((600 : Int) < (((ByteArray.size s) : Nat) : Int))) = true) (Ty.bool (decide ((((ByteArray.size s) : Nat) : Int) < (4001 : Int))))), (Ty.grd ((decide ((12 : Int) < (((List.length cs) : Nat) : Int))) = false) (Ty.bool ((decide ((600 : Int) < (((ByteArray.size s) : Nat) : Int))) && (decide ((((ByteArray.size s) : Nat) : Int) < (4001 : Int)))))), (Ty.bool ((decide ((12 : Int) < (((List.length cs) : Nat) : Int))) || ((decide ((600 : Int) < (((ByteArray.size s) : Nat) : Int))) && (decide ((((ByteArray.size s) : Nat) : Int) < (4001 : Int))))))] ok1 ⟨?_, ?_, ?_, ?_, ?_, ?_, ?_, ?_, ?_, ?_, ?_, ?_, ?_, trivial⟩ ?_
 · intro A B E G H; exact rP (y_move (kp (H 0 rfl) E q1))
 · intro A B E G H d0; exact rP (y_len Try.underlying22 (ed d0 rfl rfl rfl))
 · intro A B E G H d0; exact rP (y_gtr (ed d0 rfl rfl rfl) rfl)
 · intro A B E G H d0; exact rP (y_move (ed d0 rfl rfl rfl))
 · intro A B E G H d0
   refine run_guard G rfl rfl (by decide) (ed d0 rfl rfl rfl) (fun hg => ?_)
   have hp := of_decide_eq_false hg
   exact y_move (kp (H 1 rfl) E q2)
 · intro A B E G H d0 d1
   refine run_guard G rfl rfl (by decide) (ed d1 rfl rfl rfl) (fun hg => ?_)
   have hp := of_decide_eq_false hg
   exact y_len_str Try.underlying9 ((ed d0 rfl rfl rfl).1 hg)
 · intro A B E G H d0 d1
   refine run_guard G rfl rfl (by decide) (ed d1 rfl rfl rfl) (fun hg => ?_)
   have hp := of_decide_eq_false hg
   exact y_gtr ((ed d0 rfl rfl rfl).1 hg) rfl
 · intro A B E G H d0 d1 d2
   refine run_guard G rfl rfl (by decide) (ed d1 rfl rfl rfl) (fun hg => ?_)
   have hp := of_decide_eq_false hg
   exact y_move ((ed d0 rfl rfl rfl).1 hg)
 · intro A B E G H d0
   refine run_guard2 G rfl rfl (by decide) (ed d0 rfl rfl rfl) (fun hg => ?_)
   have hp := of_decide_eq_true hg.2
   exact y_move (kp (H 1 rfl) E q2)
 · intro A B E G H d0 d1
   refine run_guard2 G rfl rfl (by decide) (ed d1 rfl rfl rfl) (fun hg => ?_)
   have hp := of_decide_eq_true hg.2
   exact y_len_str Try.underlying9 ((ed d0 rfl rfl rfl).1 hg)
 · intro A B E G H d0 d1
   refine run_guard2 G rfl rfl (by decide) (ed d1 rfl rfl rfl) (fun hg => ?_)
   have hp := of_decide_eq_true hg.2
   exact y_lss ((ed d0 rfl rfl rfl).1 hg) rfl
 · intro A B E G H d0 d1 d2
   refine run_guard G rfl rfl (by decide) (ed d2 rfl rfl rfl) (fun hg => ?_)
   have hp := of_decide_eq_false hg
   exact y_pick_and ((ed d0 rfl rfl rfl).1 hg) (grd_part hg (ed d1 rfl rfl rfl)) rfl
 · intro A B E G H d0 d1; exact rP (y_pick_or (ed d0 rfl rfl rfl) rfl (ed d1 rfl rfl rfl))
 intro a2 s2 D2; have ok2 := D2.ok; have F2 := F1.step0 D2.stp; have q3 := D2.kt q1 rfl; have q4 := D2.kt q2 rfl; have q5 := D2.dn 12 rfl rfl; clear D2; refine tn ?_
 refine cond_t q5 (fun c1 => ?_) (fun c1 => ?_)
 ·
  refine wp_seq ?_
  refine rg a2 s2 [(Ty.bool true)] ok2 ⟨?_, trivial⟩ ?_
  · intro A B E G H; exact rP (y_assign rfl)
  intro a3 s3 D3; have ok3 := D3.ok; have F3 := F2.step0 D3.stp; have q6 := D3.dn 0 rfl rfl; clear D3; refine tn ?_; refine wp_ret ?_; refine tr ?_
  exact retL1 rfl ok3 F3 q6
 ·
  obtain ⟨d1, d2⟩ := Bool.or_eq_false_iff.mp c1
  replace d1 := of_decide_eq_false d1
  simp only [Bool.or_eq_false_iff, decide_eq_false_iff_not] at c1; have hc12 : cs.length ≤ 12 := (by omega)
  refine wp_skip ?_; refine tn ?_; refine wp_seq ?_
  refine rg a2 s2 [(Ty.lstc 2 callC cs), (Ty.val (Value.string s)), (Ty.tup2 (Ty.lst Ty.int (ptM (sgOf cs) s).out) (Ty.int (ptM (sgOf cs) s).err)), (Ty.tup2 (Ty.lst Ty.int (ptM (sgOf cs) s).out) (Ty.int (ptM (sgOf cs) s).err)), (Ty.lst Ty.int (ptM (sgOf cs) s).out), (Ty.int (ptM (sgOf cs) s).err), (Ty.lst Ty.int (ptM (sgOf cs) s).out), (Ty.int (ptM (sgOf cs) s).err)] ok2 ⟨?_, ?_, ?_, ?_, ?_, ?_, ?_, ?_, trivial⟩ ?_
  · intro A B E G H; exact rP (y_move (kp (H 0 rfl) E q3))
  · intro A B E G H; exact rP (y_move (kp (H 1 rfl) E q4))
  · intro A B E G H d0 d1; exact rP (y_call #[A.eval (.tmp 23), A.eval (.tmp 24)] Try.func12 rfl rfl (by simp only [List.map_toArray, List.map_cons, List.map_nil]) (parse_fn (cs) (s) _ _ _ (ed d0 rfl rfl rfl) (ed d1 rfl rfl rfl) ))
  · intro A B E G H d0; exact rP (y_move (ed d0 rfl rfl rfl))
  · intro A B E G H d0; exact rP (y_ext2_0 (ed d0 rfl rfl rfl))
  · intro A B E G H d0 d1; exact rP (y_ext2_1 (ed d0 rfl rfl rfl))
  · intro A B E G H d0 d1 d2 d3 d4 d5 d6 d7; exact rP (y_assign (ed d0 rfl rfl rfl))
  · intro A B E G H d0 d1 d2 d3 d4 d5 d6 d7 d8; exact rP (y_assign (ed d0 rfl rfl rfl))
  intro a4 s4 D4; have ok4 := D4.ok; have F4 := F2.step0 D4.stp; have q7 := D4.kt q3 rfl; have q8 := D4.kt q4 rfl; have q9 := D4.dn 6 rfl rfl; have q10 := D4.dn 7 rfl rfl; clear D4; refine tn ?_; refine wp_seq ?_
  refine rg a4 s4 [(Ty.lstc 2 callC cs), (Ty.val (Value.string s)), (Ty.tup2 (Ty.lst Ty.int (ptM (sgOf cs) s).out) (Ty.int (ptM (sgOf cs) s).err)), (Ty.tup2 (Ty.lst Ty.int (ptM (sgOf cs) s).out) (Ty.int (ptM (sgOf cs) s).err)), (Ty.lst Ty.int (ptM (sgOf cs) s).out), (Ty.int (ptM (sgOf cs) s).err), (Ty.lst Ty.int (ptM (sgOf cs) s).out), (Ty.int (ptM (sgOf cs) s).err)] ok4 ⟨?_, ?_, ?_, ?_, ?_, ?_, ?_, ?_, trivial⟩ ?_
  · intro A B E G H; exact rP (y_move (kp (H 0 rfl) E q7))
  · intro A B E G H; exact rP (y_move (kp (H 1 rfl) E q8))
  · intro A B E G H d0 d1; exact rP (y_call #[A.eval (.tmp 29), A.eval (.tmp 30)] Try.func13 rfl rfl (by simp only [List.map_toArray, List.map_cons, List.map_nil]) (rParse_fn (cs) (s) _ _ _ (ed d0 rfl rfl rfl) (ed d1 rfl rfl rfl) (by first | omega | assumption) (by first | omega | assumption)))
  · intro A B E G H d0; exact rP (y_move (ed d0 rfl rfl rfl))
  · intro A B E G H d0; exact rP (y_ext2_0 (ed d0 rfl rfl rfl))
  · intro A B E G H d0 d1; exact rP (y_ext2_1 (ed d0 rfl rfl rfl))
  · intro A B E G H d0 d1 d2 d3 d4 d5 d6 d7; exact rP (y_assign (ed d0 rfl rfl rfl))
  · intro A B E G H d0 d1 d2 d3 d4 d5 d6 d7 d8; exact rP (y_assign (ed d0 rfl rfl rfl))
  intro a5 s5 D5; have ok5 := D5.ok; have F5 := F4.step0 D5.stp; have q11 := D5.kt q9 rfl; have q12 := D5.kt q10 rfl; have q13 := D5.dn 6 rfl rfl; have q14 := D5.dn 7 rfl rfl; clear D5; refine tn ?_; refine wp_seq ?_
  refine rg a5 s5 [(Ty.int (ptM (sgOf cs) s).err), (Ty.int (ptM (sgOf cs) s).err), (Ty.bool (decide ((ptM (sgOf cs) s).err = (ptM (sgOf cs) s).err))), (Ty.bool (decide ((ptM (sgOf cs) s).err = (ptM (sgOf cs) s).err))), (Ty.grd ((decide ((ptM (sgOf cs) s).err = (ptM (sgOf cs) s).err)) = true) (Ty.lst Ty.int (ptM (sgOf cs) s).out)), (Ty.grd ((decide ((ptM (sgOf cs) s).err = (ptM (sgOf cs) s).err)) = true) (Ty.lst Ty.int (ptM (sgOf cs) s).out)), (Ty.grd ((decide ((ptM (sgOf cs) s).err = (ptM (sgOf cs) s).err)) = true) (Ty.bool (decide (((ptM (sgOf cs) s).out) = ((ptM (sgOf cs) s).out))))), (Ty.bool ((decide ((ptM (sgOf cs) s).err = (ptM (sgOf cs) s).err)) && (decide (((ptM (sgOf cs) s).out) = ((ptM (sgOf cs) s).out))))), (Ty.bool ((decide ((ptM (sgOf cs) s).err = (ptM (sgOf cs) s).err)) && (decide (((ptM (sgOf cs) s).out) = ((ptM (sgOf cs) s).out)))))] ok5 ⟨?_, ?_, ?_, ?_, ?_, ?_, ?_, ?_, ?_, trivial⟩ ?_
  · intro A B E G H; exact rP (y_move (kp (H 6 rfl) E q12))
  · intro A B E G H; exact rP (y_move (kp (H 8 rfl) E q14))
  · intro A B E G H d0 d1; exact rP (y_eql (ed d0 rfl rfl rfl) (ed d1 rfl rfl rfl))
  · intro A B E G H d0; exact rP (y_move (ed d0 rfl rfl rfl))
  · intro A B E G H d0
    refine run_guard G rfl rfl (by decide) (ed d0 rfl rfl rfl) (fun hg => ?_)
    have hp := of_decide_eq_true hg
    exact y_move (kp (H 5 rfl) E q11)
  · intro A B E G H d0
    refine run_guard G rfl rfl (by decide) (ed d0 rfl rfl rfl) (fun hg => ?_)
    have hp := of_decide_eq_true hg
    exact y_move (kp (H 7 rfl) E q13)
  · intro A B E G H d0 d1 d2 d3
    refine run_guard G rfl rfl (by decide) (ed d2 rfl rfl rfl) (fun hg => ?_)
    have hp := of_decide_eq_true hg
    exact y_call #[A.eval (.tmp 38), A.eval (.tmp 39)] Try.func14 rfl rfl (by simp only [List.map_toArray, List.map_cons, List.map_nil]) (rsame_fn ((ptM (sgOf cs) s).out) ((ptM (sgOf cs) s).out) _ _ _ ((ed d0 rfl rfl rfl).1 hg) ((ed d1 rfl rfl rfl).1 hg) )
  · intro A B E G H d0 d1; exact rP (y_pick_and (ed d0 rfl rfl rfl) (ed d1 rfl rfl rfl) rfl)
  · intro A B E G H d0 d1 d2 d3 d4 d5 d6 d7 d8 d9; exact rP (y_assign (ed d0 rfl rfl rfl))
  intro a6 s6 D6; have ok6 := D6.ok; have F6 := F5.step0 D6.stp; have q15 := D6.dn 8 rfl rfl; clear D6; refine tn ?_; refine wp_ret ?_
  exact retL1 rfl ok6 F6 (cvb (by (simp)) q15)


end Go.Proofs.Ytbilebfnanlgfaa
