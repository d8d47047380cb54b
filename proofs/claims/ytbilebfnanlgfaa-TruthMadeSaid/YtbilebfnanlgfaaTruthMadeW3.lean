/- The functions that the law TruthMade reaches, each by its contract. Part 3. -/
import Derived.Test.YtbilebfnanlgfaaTruthMadeW2
namespace Go.Proofs.Ytbilebfnanlgfaa
open Go.KL
theorem Try.inf21 : Info Try.prog 21 (.int .i32 0) 1 4 := by unfold Info; kernel_rfl
theorem Try.fld56_0 : fieldOf Try.prog 56 0 = some (21, 0) := by kernel_rfl
theorem Try.fld56_1 : fieldOf Try.prog 56 1 = some (29, 1) := by kernel_rfl
set_option maxHeartbeats 4000000 in
set_option maxRecDepth 100000 in
theorem rCallsMay_fn (nm : ByteArray) (n : Int) (l : List (List Int)) (cs : List BCall) (σ : GW)  (v0 v1 : Value) (hv0 : Ty.has (Ty.agg [(Ty.val (Value.string nm)), (Ty.int n), (Ty.lst Ty.ints l)]) σ v0) (hv1 : Ty.has (Ty.lstc 2 callC cs) σ v1)  (hnm : nm.size ≤ 1099511627776) (hn : -9223372036854775808 ≤ n ∧ n ≤ 9223372036854775807) :
    FnC Try.prog 51 #[v0, v1] σ (Ty.int (callsMay nm n l cs)) := by
 refine fn_intro0 Try.func51 rfl Try.ntmps51 (Nat.le_of_ble_eq_true rfl) (fun s0 a0 hle F0 ok0 hargs => ?_)
 have p0 : At (Ty.agg [(Ty.val (Value.string nm)), (Ty.int n), (Ty.lst Ty.ints l)]) s0 a0 (.tmp 0) := by have e := hargs 0 _ rfl; show Ty.has _ _ _; rw [e]; exact Ty.up _ hle hv0
 have p1 : At (Ty.lstc 2 callC cs) s0 a0 (.tmp 1) := by have e := hargs 1 _ rfl; show Ty.has _ _ _; rw [e]; exact Ty.up _ hle hv1
 have b1 := sl_le p1
 clear hargs; refine wp_seq ?_
 refine rg a0 s0 [(Ty.ref [(Ty.val (Value.string nm)), (Ty.int n), (Ty.lst Ty.ints l)]), (Ty.int (0 : Int))] ok0 ⟨?_, ?_, trivial⟩ ?_
 · intro A B E G H; exact rP (y_boxagg (kp (H 0 rfl) E p0))
 · intro A B E G H; exact rP (y_assign rfl)
 intro a1 s1 D1; have ok1 := D1.ok; have F1 := F0.step0 D1.stp; have q1 := D1.kt p1 rfl; have q2 := D1.dn 0 rfl rfl; clear D1; refine tn ?_; refine wp_seq ?_
 refine rg a1 s1 [(Ty.agg [(Ty.val (Value.string nm)), (Ty.int n), (Ty.lst Ty.ints l)]), (Ty.int (methMay nm n l)), (Ty.int (methMay nm n l))] ok1 ⟨?_, ?_, ?_, trivial⟩ ?_
 · intro A B E G H; exact rP (y_loadagg Try.underlying31 Try.inf31 (kp (H 2 rfl) E q2))
 · intro A B E G H d0; exact rP (y_call #[A.eval (.tmp 11)] Try.func26 rfl rfl (by simp only [List.map_toArray, List.map_cons, List.map_nil]) (rMethodMay_fn (nm) (n) (l) _ _ (ed d0 rfl rfl rfl) (by first | omega | assumption) (by first | omega | assumption)))
 · intro A B E G H d0 d1 d2 d3; exact rP (y_assign (ed d0 rfl rfl rfl))
 intro a2 s2 D2; have ok2 := D2.ok; have F2 := F1.step0 D2.stp; have q3 := D2.kt q1 rfl; have q4 := D2.kt q2 rfl; have q5 := D2.dn 2 rfl rfl; clear D2; refine tn ?_; refine wp_seq ?_; refine wp_seq ?_
 refine rg a2 s2 [(Ty.int (methMay nm n l)), (Ty.bool (decide ((methMay nm n l) ≠ (0 : Int))))] ok2 ⟨?_, ?_, trivial⟩ ?_
 · intro A B E G H; exact rP (y_move (kp (H 5 rfl) E q5))
 · intro A B E G H d0; exact rP (y_neq (ed d0 rfl rfl rfl) rfl)
 intro a3 s3 D3; have ok3 := D3.ok; have F3 := F2.step0 D3.stp; have q6 := D3.kt q3 rfl; have q7 := D3.kt q4 rfl; have q8 := D3.kt q5 rfl; have q9 := D3.dn 1 rfl rfl; clear D3; refine tn ?_
 refine cond_p (p := ((methMay nm n l) ≠ (0 : Int))) q9 (fun c1 => ?_) (fun c1 => ?_)
 ·
  have hm := callsMay_meth (cs := cs) c1
  refine wp_seq ?_
  refine rg a3 s3 [(Ty.int (methMay nm n l)), (Ty.int (methMay nm n l))] ok3 ⟨?_, ?_, trivial⟩ ?_
  · intro A B E G H; exact rP (y_move (kp (H 5 rfl) E q8))
  · intro A B E G H d0 d1; exact rP (y_assign (ed d0 rfl rfl rfl))
  intro a4 s4 D4; have ok4 := D4.ok; have F4 := F3.step0 D4.stp; have q10 := D4.dn 1 rfl rfl; clear D4; refine tn ?_; refine wp_ret ?_; refine tr ?_
  exact retL1 rfl ok4 F4 (cvi (by (exact hm.symm)) q10)
 ·
  refine wp_skip ?_; refine tn ?_; refine wp_seq ?_; refine wp_seq ?_
  refine rg a3 s3 [(Ty.lstc 2 callC cs), (Ty.nat (List.length cs)), (Ty.bool (decide ((((List.length cs) : Nat) : Int) < (1 : Int)))), (Ty.bool (decide ((((List.length cs) : Nat) : Int) < (1 : Int)))), (Ty.grd ((decide ((((List.length cs) : Nat) : Int) < (1 : Int))) = false) (Ty.lstc 2 callC cs)), (Ty.grd ((decide ((((List.length cs) : Nat) : Int) < (1 : Int))) = false) (Ty.nat (List.length cs))), (Ty.grd ((decide ((((List.length cs) : Nat) : Int) < (1 : Int))) = false) (Ty.bool (decide ((8 : Int) < (((List.length cs) : Nat) : Int))))), (Ty.bool ((decide ((((List.length cs) : Nat) : Int) < (1 : Int))) || (decide ((8 : Int) < (((List.length cs) : Nat) : Int)))))] ok3 ⟨?_, ?_, ?_, ?_, ?_, ?_, ?_, ?_, trivial⟩ ?_
  · intro A B E G H; exact rP (y_move (kp (H 1 rfl) E q6))
  · intro A B E G H d0; exact rP (y_len Try.underlying22 (ed d0 rfl rfl rfl))
  · intro A B E G H d0; exact rP (y_lss (ed d0 rfl rfl rfl) rfl)
  · intro A B E G H d0; exact rP (y_move (ed d0 rfl rfl rfl))
  · intro A B E G H d0
    refine run_guard G rfl rfl (by decide) (ed d0 rfl rfl rfl) (fun hg => ?_)
    have hp := of_decide_eq_false hg
    exact y_move (kp (H 1 rfl) E q6)
  · intro A B E G H d0 d1
    refine run_guard G rfl rfl (by decide) (ed d1 rfl rfl rfl) (fun hg => ?_)
    have hp := of_decide_eq_false hg
    exact y_len Try.underlying22 ((ed d0 rfl rfl rfl).1 hg)
  · intro A B E G H d0 d1
    refine run_guard G rfl rfl (by decide) (ed d1 rfl rfl rfl) (fun hg => ?_)
    have hp := of_decide_eq_false hg
    exact y_gtr ((ed d0 rfl rfl rfl).1 hg) rfl
  · intro A B E G H d0 d1; exact rP (y_pick_or (ed d0 rfl rfl rfl) rfl (ed d1 rfl rfl rfl))
  intro a5 s5 D5; have ok5 := D5.ok; have F5 := F3.step0 D5.stp; have q11 := D5.kt q6 rfl; have q12 := D5.kt q7 rfl; have q13 := D5.dn 7 rfl rfl; clear D5; refine tn ?_
  refine cond_t q13 (fun c2 => ?_) (fun c2 => ?_)
  ·
   simp only [Bool.or_eq_true, decide_eq_true_eq] at c2; have hm := callsMay_cnt (cs := cs) c1 (by omega)
   refine wp_seq ?_
   refine rg a5 s5 [(Ty.int (1 : Int))] ok5 ⟨?_, trivial⟩ ?_
   · intro A B E G H; exact rP (y_assign rfl)
   intro a6 s6 D6; have ok6 := D6.ok; have F6 := F5.step0 D6.stp; have q14 := D6.dn 0 rfl rfl; clear D6; refine tn ?_; refine wp_ret ?_; refine tr ?_
   exact retL1 rfl ok6 F6 (cvi (by (exact hm.symm)) q14)
  ·
   obtain ⟨d1, d2⟩ := Bool.or_eq_false_iff.mp c2
   replace d1 := of_decide_eq_false d1
   replace d2 := of_decide_eq_false d2
   have hx2 : ¬ (cs.length < 1 ∨ 8 < cs.length) := (by simp only [Bool.or_eq_false_iff, decide_eq_false_iff_not] at c2; omega); have hm := callsMay_all c1 hx2; have hl2 := (methMay_ok' (Classical.not_not.1 c1)).1.l2
   refine wp_skip ?_; refine tn ?_; refine wp_seq ?_; refine wp_seq ?_
   refine rg a5 s5 [(Ty.int (0 : Int))] ok5 ⟨?_, trivial⟩ ?_
   · intro A B E G H; exact rP (y_assign rfl)
   intro a7 s7 D7; have ok7 := D7.ok; have F7 := F5.step0 D7.stp; have q15 := D7.kt q11 rfl; have q16 := D7.kt q12 rfl; have q17 := D7.dn 0 rfl rfl; clear D7; refine tn ?_; refine wp_block ?_
   refine loop (fun n1 a8 w1 => ∃ (t1 : GW) (i : Nat), t1.w = w1 ∧ FromL [] s0 t1 ∧ Ok 88 a8 ∧ At (Ty.nat i) t1 a8 (.tmp 6) ∧ At (Ty.lstc 2 callC cs) t1 a8 (.tmp 1) ∧ At (Ty.ref [(Ty.val (Value.string nm)), (Ty.int n), (Ty.lst Ty.ints l)]) t1 a8 (.tmp 2) ∧ (i ≤ cs.length) ∧ (callsTo n l.length ((cs.take i).map (·.1)) (cs.drop i) = callsTo n l.length [] cs) ∧ n1 = cs.length - i) (cs.length - (0)) ?_ ?_
   ·
    exact ⟨s7, 0, rfl, F7, ok7, (cvi (by (first | rfl | omega | (simp_all; done) | (simp_all; omega))) q17), q15, q16, by omega, rfl, rfl⟩
   ·
    rintro n2 a9 w2 ⟨t2, i, rfl, F8, ok8, q18, q19, q20, hi, hc, rfl⟩
    refine wp_seq ?_; refine wp_seq ?_
    refine reg (a := a9) (σ := t2) rfl (fun i_ => List.getD [(Ty.pr (Ty.nat i)), (Ty.pr (Ty.lstc 2 callC cs)), (Ty.pr (Ty.nat (List.length cs))), (Ty.pr (Ty.bool (decide (((i : Nat) : Int) < (((List.length cs) : Nat) : Int)))))] i_ Pr.any) ok8 rfl ⟨?_, ?_, ?_, ?_, trivial⟩ ?_
    · intro A B E G H; exact rP (y_move (kp (H 6 rfl) E q18))
    · intro A B E G H; exact rP (y_move (kp (H 1 rfl) E q19))
    · intro A B E G H d0; exact rP (y_len Try.underlying22 (ed d0 rfl rfl rfl))
    · intro A B E G H d0 d1; exact rP (y_lss (ed d0 rfl rfl rfl) (ed d1 rfl rfl rfl))
    intro a10 s8 D8; have ok9 := D8.ok; have F9 := F8.step0 D8.stp; have q21 := D8.kt q18 rfl; have q22 := D8.kt q19 rfl; have q23 := D8.kt q20 rfl; have q24 := D8.dn 3 rfl rfl; clear D8; refine tn ?_
    refine cond_p (p := (((i : Nat) : Int) < (((List.length cs) : Nat) : Int))) q24 (fun c3 => ?_) (fun c3 => ?_)
    ·
     refine wp_skip ?_; refine tn ?_; refine wp_seq ?_; refine wp_block ?_; refine wp_seq ?_
     refine rg a10 s8 [(Ty.lstc 2 callC cs), (Ty.nat i), (Ty.ref [(Ty.val (Value.int .i32 ((cs.getD i D0)).1)), (Ty.lst Ty.ints ((cs.getD i D0)).2)]), (Ty.ref [(Ty.val (Value.int .i32 ((cs.getD i D0)).1)), (Ty.lst Ty.ints ((cs.getD i D0)).2)]), (Ty.val (Value.int .i32 ((cs.getD i D0)).1)), (Ty.bool (signMay (((cs.getD i D0)).1))), (Ty.bool (signMay (((cs.getD i D0)).1)))] ok9 ⟨?_, ?_, ?_, ?_, ?_, ?_, ?_, trivial⟩ ?_
     · intro A B E G H; exact rP (y_move (kp (H 1 rfl) E q22))
     · intro A B E G H; exact rP (y_move (kp (H 6 rfl) E q21))
     · intro A B E G H d0 d1; exact rP (y_indexc (i := ((i : Nat) : Int)) D0 Try.underlying22 Try.inf56 (ed d0 rfl rfl rfl) (ed d1 rfl rfl rfl) (by omega) (by omega) (by decide) (fun _ => rfl))
     · intro A B E G H d0; exact rP (y_field Try.fld56_0 Try.inf21 (by decide) (ed d0 rfl rfl rfl) rfl)
     · intro A B E G H d0; exact rP (y_load Try.underlying21 rfl (ed d0 rfl rfl rfl) rfl)
     · intro A B E G H d0; exact rP (y_call #[A.eval (.tmp 34)] Try.func86 rfl rfl (by simp only [List.map_toArray, List.map_cons, List.map_nil]) (rSignMay_fn (((cs.getD i D0)).1) _ _ (cvi (σ := B) (by omega) (ed d0 rfl rfl rfl)) ))
     · intro A B E G H d0 d1 d2 d3 d4 d5 d6 d7; exact rP (y_assign (ed d0 rfl rfl rfl))
     intro a11 s9 D9; have ok10 := D9.ok; have F10 := F9.step0 D9.stp; have q25 := D9.kt q21 rfl; have q26 := D9.kt q22 rfl; have q27 := D9.kt q23 rfl; have q28 := D9.dn 6 rfl rfl; clear D9; refine tn ?_; refine wp_seq ?_; refine wp_seq ?_
     refine rg a11 s9 [(Ty.bool (signMay (((cs.getD i D0)).1))), (Ty.bool (!(signMay (((cs.getD i D0)).1))))] ok10 ⟨?_, ?_, trivial⟩ ?_
     · intro A B E G H; exact rP (y_move (kp (H 7 rfl) E q28))
     · intro A B E G H d0; exact rP (y_not (ed d0 rfl rfl rfl))
     intro a12 s10 D10; have ok11 := D10.ok; have F11 := F10.step0 D10.stp; have q29 := D10.kt q25 rfl; have q30 := D10.kt q26 rfl; have q31 := D10.kt q27 rfl; have q32 := D10.dn 1 rfl rfl; clear D10; refine tn ?_
     refine cond_t q32 (fun c4 => ?_) (fun c4 => ?_)
     ·
      have hs4 : signMay (cs.getD i D0).1 = false := (by simpa using c4); have hv := calls_at hc (by omega) (step_sign hs4) (by decide)
      refine wp_seq ?_
      refine rg a12 s10 [(Ty.int (4 : Int))] ok11 ⟨?_, trivial⟩ ?_
      · intro A B E G H; exact rP (y_assign rfl)
      intro a13 s11 D11; have ok12 := D11.ok; have F12 := F11.step0 D11.stp; have q33 := D11.dn 0 rfl rfl; clear D11; refine tn ?_; refine wp_ret ?_; refine tr ?_; refine br ?_; refine tr ?_; refine tr ?_; refine br ?_; refine tr ?_
      exact retL1 rfl ok12 F12 (cvi (by (rw [hm]; exact hv.symm)) q33)
     ·
      have hs4 : signMay (cs.getD i D0).1 = true := (by simpa using c4)
      refine wp_skip ?_; refine tn ?_; refine wp_seq ?_; refine wp_seq ?_
      refine rg a12 s10 [(Ty.int (0 : Int))] ok11 ⟨?_, trivial⟩ ?_
      · intro A B E G H; exact rP (y_assign rfl)
      intro a14 s12 D12; have ok13 := D12.ok; have F13 := F11.step0 D12.stp; have q34 := D12.kt q29 rfl; have q35 := D12.kt q30 rfl; have q36 := D12.kt q31 rfl; have q37 := D12.dn 0 rfl rfl; clear D12; refine tn ?_; refine wp_block ?_
      refine loop (fun n3 a15 w3 => ∃ (t3 : GW) (k : Nat), t3.w = w3 ∧ FromL [] s0 t3 ∧ Ok 88 a15 ∧ At (Ty.nat k) t3 a15 (.tmp 8) ∧ At (Ty.nat i) t3 a15 (.tmp 6) ∧ At (Ty.lstc 2 callC cs) t3 a15 (.tmp 1) ∧ At (Ty.ref [(Ty.val (Value.string nm)), (Ty.int n), (Ty.lst Ty.ints l)]) t3 a15 (.tmp 2) ∧ (k ≤ i) ∧ (∀ j, j < k → (cs.getD j D0).1 ≠ (cs.getD i D0).1) ∧ n3 = i - k) (i - (0)) ?_ ?_
      ·
       exact ⟨s12, 0, rfl, F13, ok13, (cvi (by (first | rfl | omega | (simp_all; done) | (simp_all; omega))) q37), q34, q35, q36, by omega, fun j hj => absurd hj (Nat.not_lt_zero j), rfl⟩
      ·
       rintro n4 a16 w4 ⟨t4, k, rfl, F14, ok14, q38, q39, q40, q41, hk, hno, rfl⟩
       refine wp_seq ?_; refine wp_seq ?_
       refine reg (a := a16) (σ := t4) rfl (fun i_ => List.getD [(Ty.pr (Ty.nat k)), (Ty.pr (Ty.nat i)), (Ty.pr (Ty.bool (decide (((k : Nat) : Int) < ((i : Nat) : Int)))))] i_ Pr.any) ok14 rfl ⟨?_, ?_, ?_, trivial⟩ ?_
       · intro A B E G H; exact rP (y_move (kp (H 8 rfl) E q38))
       · intro A B E G H; exact rP (y_move (kp (H 6 rfl) E q39))
       · intro A B E G H d0 d1; exact rP (y_lss (ed d0 rfl rfl rfl) (ed d1 rfl rfl rfl))
       intro a17 s13 D13; have ok15 := D13.ok; have F15 := F14.step0 D13.stp; have q42 := D13.kt q38 rfl; have q43 := D13.kt q39 rfl; have q44 := D13.kt q40 rfl; have q45 := D13.kt q41 rfl; have q46 := D13.dn 2 rfl rfl; clear D13; refine tn ?_
       refine cond_p (p := (((k : Nat) : Int) < ((i : Nat) : Int))) q46 (fun c5 => ?_) (fun c5 => ?_)
       ·
        refine wp_skip ?_; refine tn ?_; refine wp_seq ?_; refine wp_block ?_; refine wp_seq ?_
        refine rg a17 s13 [(Ty.lstc 2 callC cs), (Ty.nat k), (Ty.ref [(Ty.val (Value.int .i32 ((cs.getD k D0)).1)), (Ty.lst Ty.ints ((cs.getD k D0)).2)]), (Ty.ref [(Ty.val (Value.int .i32 ((cs.getD k D0)).1)), (Ty.lst Ty.ints ((cs.getD k D0)).2)]), (Ty.val (Value.int .i32 ((cs.getD k D0)).1)), (Ty.lstc 2 callC cs), (Ty.nat i), (Ty.ref [(Ty.val (Value.int .i32 ((cs.getD i D0)).1)), (Ty.lst Ty.ints ((cs.getD i D0)).2)]), (Ty.ref [(Ty.val (Value.int .i32 ((cs.getD i D0)).1)), (Ty.lst Ty.ints ((cs.getD i D0)).2)]), (Ty.val (Value.int .i32 ((cs.getD i D0)).1)), (Ty.bool (decide (((cs.getD k D0)).1 = ((cs.getD i D0)).1)))] ok15 ⟨?_, ?_, ?_, ?_, ?_, ?_, ?_, ?_, ?_, ?_, ?_, trivial⟩ ?_
        · intro A B E G H; exact rP (y_move (kp (H 1 rfl) E q44))
        · intro A B E G H; exact rP (y_move (kp (H 8 rfl) E q42))
        · intro A B E G H d0 d1; exact rP (y_indexc (i := ((k : Nat) : Int)) D0 Try.underlying22 Try.inf56 (ed d0 rfl rfl rfl) (ed d1 rfl rfl rfl) (by omega) (by omega) (by decide) (fun _ => rfl))
        · intro A B E G H d0; exact rP (y_field Try.fld56_0 Try.inf21 (by decide) (ed d0 rfl rfl rfl) rfl)
        · intro A B E G H d0; exact rP (y_load Try.underlying21 rfl (ed d0 rfl rfl rfl) rfl)
        · intro A B E G H; exact rP (y_move (kp (H 1 rfl) E q44))
        · intro A B E G H; exact rP (y_move (kp (H 6 rfl) E q43))
        · intro A B E G H d0 d1; exact rP (y_indexc (i := ((i : Nat) : Int)) D0 Try.underlying22 Try.inf56 (ed d0 rfl rfl rfl) (ed d1 rfl rfl rfl) (by omega) (by omega) (by decide) (fun _ => rfl))
        · intro A B E G H d0; exact rP (y_field Try.fld56_0 Try.inf21 (by decide) (ed d0 rfl rfl rfl) rfl)
        · intro A B E G H d0; exact rP (y_load Try.underlying21 rfl (ed d0 rfl rfl rfl) rfl)
        · intro A B E G H d0 d1; exact rP (y_eql (ed d0 rfl rfl rfl) (ed d1 rfl rfl rfl))
        intro a18 s14 D14; have ok16 := D14.ok; have F16 := F15.step0 D14.stp; have q47 := D14.kt q42 rfl; have q48 := D14.kt q43 rfl; have q49 := D14.kt q44 rfl; have q50 := D14.kt q45 rfl; have q51 := D14.dn 10 rfl rfl; clear D14; refine tn ?_
        refine cond_p (p := (((cs.getD k D0)).1 = ((cs.getD i D0)).1)) q51 (fun c6 => ?_) (fun c6 => ?_)
        ·
         have hs5 : (cs.getD i D0).1 ∈ ((cs.take i).map (·.1)) := pre_in (by omega) (by omega) c6; have hv := calls_at hc (by omega) (step_dbl hs4 hs5) (by decide)
         refine wp_seq ?_
         refine rg a18 s14 [(Ty.int (8 : Int))] ok16 ⟨?_, trivial⟩ ?_
         · intro A B E G H; exact rP (y_assign rfl)
         intro a19 s15 D15; have ok17 := D15.ok; have F17 := F16.step0 D15.stp; have q52 := D15.dn 0 rfl rfl; clear D15; refine tn ?_; refine wp_ret ?_; refine br ?_; refine tr ?_; refine tr ?_; refine br ?_; refine tr ?_; refine br ?_; refine tr ?_; refine tr ?_; refine br ?_; refine tr ?_
         exact retL1 rfl ok17 F17 (cvi (by (rw [hm]; exact hv.symm)) q52)
        ·
         refine wp_skip ?_; refine bn ?_; refine tn ?_
         refine rg a18 s14 [(Ty.nat k), (Ty.nat (k + 1)), (Ty.nat (k + 1))] ok16 ⟨?_, ?_, ?_, trivial⟩ ?_
         · intro A B E G H; exact rP (y_move (kp (H 8 rfl) E q47))
         · intro A B E G H d0; exact rP ((y_add (ed d0 rfl rfl rfl) rfl (w64 (by omega) (by omega))).mono (fun τ _ h => cvi (σ := τ) (by first | omega | exact (Int.natCast_mul _ _).symm) h))
         · intro A B E G H d0 d1 d2; exact rP (y_assign (ed d0 rfl rfl rfl))
         intro a20 s16 D16; have ok18 := D16.ok; have F18 := F16.step0 D16.stp; have q53 := D16.kt q48 rfl; have q54 := D16.kt q49 rfl; have q55 := D16.kt q50 rfl; have q56 := D16.dn 2 rfl rfl; clear D16
         exact tn ⟨i - ((k+1)), by omega, s16, (k+1), rfl, F18, ok18, (cvi (by (first | rfl | omega | (simp_all; done) | (simp_all; omega))) q56), q53, q54, q55, by omega, fun j hj => by (by_cases e : j = k; subst e; assumption; exact hno j (by omega)), rfl⟩
       ·
        have hs5 : (cs.getD i D0).1 ∉ ((cs.take i).map (·.1)) := pre_out (fun j hj => hno j (by omega))
        refine wp_exit ?_; refine tx ?_; refine tx ?_; refine bx ?_; refine tn ?_; refine wp_seq ?_; refine wp_seq ?_
        refine rg a17 s13 [(Ty.lstc 2 callC cs), (Ty.nat i), (Ty.ref [(Ty.val (Value.int .i32 ((cs.getD i D0)).1)), (Ty.lst Ty.ints ((cs.getD i D0)).2)]), (Ty.ref [(Ty.lst Ty.ints ((cs.getD i D0)).2)]), (Ty.lst Ty.ints ((cs.getD i D0)).2), (Ty.nat (List.length ((cs.getD i D0)).2)), (Ty.ref [(Ty.lst Ty.ints l)]), (Ty.lst Ty.ints l), (Ty.nat (List.length l)), (Ty.bool (decide ((((List.length l) : Nat) : Int) < (((List.length ((cs.getD i D0)).2) : Nat) : Int))))] ok15 ⟨?_, ?_, ?_, ?_, ?_, ?_, ?_, ?_, ?_, ?_, trivial⟩ ?_
        · intro A B E G H; exact rP (y_move (kp (H 1 rfl) E q44))
        · intro A B E G H; exact rP (y_move (kp (H 6 rfl) E q43))
        · intro A B E G H d0 d1; exact rP (y_indexc (i := ((i : Nat) : Int)) D0 Try.underlying22 Try.inf56 (ed d0 rfl rfl rfl) (ed d1 rfl rfl rfl) (by omega) (by omega) (by decide) (fun _ => rfl))
        · intro A B E G H d0; exact rP (y_field Try.fld56_1 Try.inf29 (by decide) (ed d0 rfl rfl rfl) rfl)
        · intro A B E G H d0; exact rP (y_load Try.underlying29 rfl (ed d0 rfl rfl rfl) rfl)
        · intro A B E G H d0; exact rP (y_len Try.underlying29 (ed d0 rfl rfl rfl))
        · intro A B E G H; exact rP (y_field Try.fld31_2 Try.inf29 (by decide) (kp (H 2 rfl) E q45) rfl)
        · intro A B E G H d0; exact rP (y_load Try.underlying29 rfl (ed d0 rfl rfl rfl) rfl)
        · intro A B E G H d0; exact rP (y_len Try.underlying29 (ed d0 rfl rfl rfl))
        · intro A B E G H d0 d1; exact rP (y_gtr (ed d0 rfl rfl rfl) (ed d1 rfl rfl rfl))
        intro a21 s17 D17; have ok19 := D17.ok; have F19 := F15.step0 D17.stp; have q57 := D17.kt q43 rfl; have q58 := D17.kt q44 rfl; have q59 := D17.kt q45 rfl; have q60 := D17.dn 9 rfl rfl; clear D17; refine tn ?_
        refine cond_p (p := ((((List.length l) : Nat) : Int) < (((List.length ((cs.getD i D0)).2) : Nat) : Int))) q60 (fun c7 => ?_) (fun c7 => ?_)
        ·
         have hs6 : l.length < (cs.getD i D0).2.length := (by omega); have hv := calls_at hc (by omega) (step_long hs4 hs5 hs6) (by decide)
         refine wp_seq ?_
         refine rg a21 s17 [(Ty.int (1 : Int))] ok19 ⟨?_, trivial⟩ ?_
         · intro A B E G H; exact rP (y_assign rfl)
         intro a22 s18 D18; have ok20 := D18.ok; have F20 := F19.step0 D18.stp; have q61 := D18.dn 0 rfl rfl; clear D18; refine tn ?_; refine wp_ret ?_; refine tr ?_; refine br ?_; refine tr ?_; refine tr ?_; refine br ?_; refine tr ?_
         exact retL1 rfl ok20 F20 (cvi (by (rw [hm]; exact hv.symm)) q61)
        ·
         have hs6 : ¬ l.length < (cs.getD i D0).2.length := (by omega)
         refine wp_skip ?_; refine tn ?_; refine wp_seq ?_
         refine rg a21 s17 [(Ty.int (0 : Int))] ok19 ⟨?_, trivial⟩ ?_
         · intro A B E G H; exact rP (y_assign rfl)
         intro a23 s19 D19; have ok21 := D19.ok; have F21 := F19.step0 D19.stp; have q62 := D19.kt q57 rfl; have q63 := D19.kt q58 rfl; have q64 := D19.kt q59 rfl; have q65 := D19.dn 0 rfl rfl; clear D19; refine tn ?_; refine wp_block ?_
         refine loop (fun n5 a24 w5 => ∃ (t5 : GW) (k : Nat), t5.w = w5 ∧ FromL [] s0 t5 ∧ Ok 88 a24 ∧ At (Ty.nat k) t5 a24 (.tmp 9) ∧ At (Ty.nat i) t5 a24 (.tmp 6) ∧ At (Ty.lstc 2 callC cs) t5 a24 (.tmp 1) ∧ At (Ty.ref [(Ty.val (Value.string nm)), (Ty.int n), (Ty.lst Ty.ints l)]) t5 a24 (.tmp 2) ∧ (k ≤ (cs.getD i D0).2.length) ∧ (allMay n ((cs.getD i D0).2.drop k) = allMay n (cs.getD i D0).2) ∧ n5 = (cs.getD i D0).2.length - k) ((cs.getD i D0).2.length - (0)) ?_ ?_
         ·
          exact ⟨s19, 0, rfl, F21, ok21, (cvi (by (first | rfl | omega | (simp_all; done) | (simp_all; omega))) q65), q62, q63, q64, by omega, rfl, rfl⟩
         ·
          rintro n6 a25 w6 ⟨t6, k, rfl, F22, ok22, q66, q67, q68, q69, hk, ha, rfl⟩
          refine wp_seq ?_; refine wp_seq ?_
          refine reg (a := a25) (σ := t6) rfl (fun i_ => List.getD [(Ty.pr (Ty.nat k)), (Ty.pr (Ty.lstc 2 callC cs)), (Ty.pr (Ty.nat i)), (Ty.pr (Ty.ref [(Ty.val (Value.int .i32 ((cs.getD i D0)).1)), (Ty.lst Ty.ints ((cs.getD i D0)).2)])), (Ty.pr (Ty.ref [(Ty.lst Ty.ints ((cs.getD i D0)).2)])), (Ty.pr (Ty.lst Ty.ints ((cs.getD i D0)).2)), (Ty.pr (Ty.nat (List.length ((cs.getD i D0)).2))), (Ty.pr (Ty.bool (decide (((k : Nat) : Int) < (((List.length ((cs.getD i D0)).2) : Nat) : Int)))))] i_ Pr.any) ok22 rfl ⟨?_, ?_, ?_, ?_, ?_, ?_, ?_, ?_, trivial⟩ ?_
          · intro A B E G H; exact rP (y_move (kp (H 9 rfl) E q66))
          · intro A B E G H; exact rP (y_move (kp (H 1 rfl) E q68))
          · intro A B E G H; exact rP (y_move (kp (H 6 rfl) E q67))
          · intro A B E G H d0 d1; exact rP (y_indexc (i := ((i : Nat) : Int)) D0 Try.underlying22 Try.inf56 (ed d0 rfl rfl rfl) (ed d1 rfl rfl rfl) (by omega) (by omega) (by decide) (fun _ => rfl))
          · intro A B E G H d0; exact rP (y_field Try.fld56_1 Try.inf29 (by decide) (ed d0 rfl rfl rfl) rfl)
          · intro A B E G H d0; exact rP (y_load Try.underlying29 rfl (ed d0 rfl rfl rfl) rfl)
          · intro A B E G H d0; exact rP (y_len Try.underlying29 (ed d0 rfl rfl rfl))
          · intro A B E G H d0 d1; exact rP (y_lss (ed d0 rfl rfl rfl) (ed d1 rfl rfl rfl))
          intro a26 s20 D20; have ok23 := D20.ok; have F23 := F22.step0 D20.stp; have q70 := D20.kt q66 rfl; have q71 := D20.kt q67 rfl; have q72 := D20.kt q68 rfl; have q73 := D20.kt q69 rfl; have q74 := D20.dn 7 rfl rfl; clear D20; refine tn ?_
          refine cond_p (p := (((k : Nat) : Int) < (((List.length ((cs.getD i D0)).2) : Nat) : Int))) q74 (fun c8 => ?_) (fun c8 => ?_)
          ·
           refine wp_skip ?_; refine tn ?_; refine wp_seq ?_; refine wp_block ?_; refine wp_seq ?_
           refine rg a26 s20 [(Ty.ref [(Ty.int n), (Ty.lst Ty.ints l)]), (Ty.int n), (Ty.lstc 2 callC cs), (Ty.nat i), (Ty.ref [(Ty.val (Value.int .i32 ((cs.getD i D0)).1)), (Ty.lst Ty.ints ((cs.getD i D0)).2)]), (Ty.ref [(Ty.lst Ty.ints ((cs.getD i D0)).2)]), (Ty.lst Ty.ints ((cs.getD i D0)).2), (Ty.nat k), (Ty.ref [(Ty.lst Ty.int (((cs.getD i D0)).2.getD k []))]), (Ty.lst Ty.int (((cs.getD i D0)).2.getD k [])), (Ty.int (chgMay n ((((cs.getD i D0)).2.getD k [])))), (Ty.int (chgMay n ((((cs.getD i D0)).2.getD k []))))] ok23 ⟨?_, ?_, ?_, ?_, ?_, ?_, ?_, ?_, ?_, ?_, ?_, ?_, trivial⟩ ?_
           · intro A B E G H; exact rP (y_field Try.fld31_1 Try.inf3 (by decide) (kp (H 2 rfl) E q73) rfl)
           · intro A B E G H d0; exact rP (y_load Try.underlying3 rfl (ed d0 rfl rfl rfl) rfl)
           · intro A B E G H; exact rP (y_move (kp (H 1 rfl) E q72))
           · intro A B E G H; exact rP (y_move (kp (H 6 rfl) E q71))
           · intro A B E G H d0 d1; exact rP (y_indexc (i := ((i : Nat) : Int)) D0 Try.underlying22 Try.inf56 (ed d0 rfl rfl rfl) (ed d1 rfl rfl rfl) (by omega) (by omega) (by decide) (fun _ => rfl))
           · intro A B E G H d0; exact rP (y_field Try.fld56_1 Try.inf29 (by decide) (ed d0 rfl rfl rfl) rfl)
           · intro A B E G H d0; exact rP (y_load Try.underlying29 rfl (ed d0 rfl rfl rfl) rfl)
           · intro A B E G H; exact rP (y_move (kp (H 9 rfl) E q70))
           · intro A B E G H d0 d1; exact rP (y_index1 Try.underlying29 Try.inf23 (ed d0 rfl rfl rfl) (ed d1 rfl rfl rfl) (by omega) (lst_get Ty.ints ((cs.getD i D0)).2 [] k (by omega)))
           · intro A B E G H d0; exact rP (y_load Try.underlying23 rfl (ed d0 rfl rfl rfl) rfl)
           · intro A B E G H d0 d1; exact rP (y_call #[A.eval (.tmp 75), A.eval (.tmp 83)] Try.func62 rfl rfl (by simp only [List.map_toArray, List.map_cons, List.map_nil]) (rChangeMay_fn (n) ((((cs.getD i D0)).2.getD k [])) _ _ _ (ed d0 rfl rfl rfl) (ed d1 rfl rfl rfl) (by omega)))
           · intro A B E G H d0 d1 d2 d3 d4 d5 d6 d7 d8 d9 d10 d11 d12; exact rP (y_assign (ed d0 rfl rfl rfl))
           intro a27 s21 D21; have ok24 := D21.ok; have F24 := F23.step0 D21.stp; have q75 := D21.kt q70 rfl; have q76 := D21.kt q71 rfl; have q77 := D21.kt q72 rfl; have q78 := D21.kt q73 rfl; have q79 := D21.dn 11 rfl rfl; clear D21; refine tn ?_; refine wp_seq ?_
           refine rg a27 s21 [(Ty.int (chgMay n ((((cs.getD i D0)).2.getD k [])))), (Ty.bool (decide ((chgMay n ((((cs.getD i D0)).2.getD k []))) ≠ (0 : Int))))] ok24 ⟨?_, ?_, trivial⟩ ?_
           · intro A B E G H; exact rP (y_move (kp (H 10 rfl) E q79))
           · intro A B E G H d0; exact rP (y_neq (ed d0 rfl rfl rfl) rfl)
           intro a28 s22 D22; have ok25 := D22.ok; have F25 := F24.step0 D22.stp; have q80 := D22.kt q75 rfl; have q81 := D22.kt q76 rfl; have q82 := D22.kt q77 rfl; have q83 := D22.kt q78 rfl; have q84 := D22.kt q79 rfl; have q85 := D22.dn 1 rfl rfl; clear D22; refine tn ?_
           refine cond_p (p := ((chgMay n ((((cs.getD i D0)).2.getD k []))) ≠ (0 : Int))) q85 (fun c9 => ?_) (fun c9 => ?_)
           ·
            have hae := allMay_stop ha (by omega) c9; have hv := calls_at hc (by omega) ((step_all hs4 hs5 hs6).trans hae) c9
            refine wp_seq ?_
            refine rg a28 s22 [(Ty.int (chgMay n ((((cs.getD i D0)).2.getD k [])))), (Ty.int (chgMay n ((((cs.getD i D0)).2.getD k []))))] ok25 ⟨?_, ?_, trivial⟩ ?_
            · intro A B E G H; exact rP (y_move (kp (H 10 rfl) E q84))
            · intro A B E G H d0 d1; exact rP (y_assign (ed d0 rfl rfl rfl))
            intro a29 s23 D23; have ok26 := D23.ok; have F26 := F25.step0 D23.stp; have q86 := D23.dn 1 rfl rfl; clear D23; refine tn ?_; refine wp_ret ?_; refine br ?_; refine tr ?_; refine tr ?_; refine br ?_; refine br ?_; refine tr ?_; refine tr ?_; refine br ?_; refine tr ?_
            exact retL1 rfl ok26 F26 (cvi (by (rw [hm]; exact hv.symm)) q86)
           ·
            refine wp_skip ?_; refine bn ?_; refine tn ?_
            refine rg a28 s22 [(Ty.nat k), (Ty.nat (k + 1)), (Ty.nat (k + 1))] ok25 ⟨?_, ?_, ?_, trivial⟩ ?_
            · intro A B E G H; exact rP (y_move (kp (H 9 rfl) E q80))
            · intro A B E G H d0; exact rP ((y_add (ed d0 rfl rfl rfl) rfl (w64 (by omega) (by omega))).mono (fun τ _ h => cvi (σ := τ) (by first | omega | exact (Int.natCast_mul _ _).symm) h))
            · intro A B E G H d0 d1 d2; exact rP (y_assign (ed d0 rfl rfl rfl))
            intro a30 s24 D24; have ok27 := D24.ok; have F27 := F25.step0 D24.stp; have q87 := D24.kt q81 rfl; have q88 := D24.kt q82 rfl; have q89 := D24.kt q83 rfl; have q90 := D24.dn 2 rfl rfl; clear D24
            exact tn ⟨(cs.getD i D0).2.length - ((k+1)), by omega, s24, (k+1), rfl, F27, ok27, (cvi (by (first | rfl | omega | (simp_all; done) | (simp_all; omega))) q90), q87, q88, q89, by omega, allMay_step ha (by omega) (by assumption), rfl⟩
          ·
           have ha0 := allMay_end ha (by omega)
           refine wp_exit ?_; refine tx ?_; refine tx ?_; refine bx ?_; refine bn ?_; refine tn ?_
           refine rg a26 s20 [(Ty.nat i), (Ty.nat (i + 1)), (Ty.nat (i + 1))] ok23 ⟨?_, ?_, ?_, trivial⟩ ?_
           · intro A B E G H; exact rP (y_move (kp (H 6 rfl) E q71))
           · intro A B E G H d0; exact rP ((y_add (ed d0 rfl rfl rfl) rfl (w64 (by omega) (by omega))).mono (fun τ _ h => cvi (σ := τ) (by first | omega | exact (Int.natCast_mul _ _).symm) h))
           · intro A B E G H d0 d1 d2; exact rP (y_assign (ed d0 rfl rfl rfl))
           intro a31 s25 D25; have ok28 := D25.ok; have F28 := F23.step0 D25.stp; have q91 := D25.kt q72 rfl; have q92 := D25.kt q73 rfl; have q93 := D25.dn 2 rfl rfl; clear D25
           exact tn ⟨cs.length - ((i+1)), by omega, s25, (i+1), rfl, F28, ok28, (cvi (by (first | rfl | omega | (simp_all; done) | (simp_all; omega))) q93), q91, q92, by omega, calls_step hc (by omega) (by rw [step_all hs4 hs5 hs6]; exact ha0), rfl⟩
    ·
     refine wp_exit ?_; refine tx ?_; refine tx ?_; refine bx ?_; refine tn ?_; refine wp_seq ?_
     refine rg a10 s8 [(Ty.int (0 : Int))] ok9 ⟨?_, trivial⟩ ?_
     · intro A B E G H; exact rP (y_assign rfl)
     intro a32 s26 D26; have ok29 := D26.ok; have F29 := F9.step0 D26.stp; have q94 := D26.dn 0 rfl rfl; clear D26; refine tn ?_; refine wp_ret ?_
     exact retL1 rfl ok29 F29 (cvi (by (rw [hm]; exact (calls_end hc (by omega)).symm)) q94)


set_option maxHeartbeats 4000000 in
set_option maxRecDepth 100000 in
theorem rTouchMay_fn (nm : ByteArray) (n : Int) (l : List (List Int)) (cs : List BCall) (leads : List Int) (σ : GW)  (v0 v1 v2 : Value) (hv0 : Ty.has (Ty.agg [(Ty.val (Value.string nm)), (Ty.int n), (Ty.lst Ty.ints l)]) σ v0) (hv1 : Ty.has (Ty.lstc 2 callC cs) σ v1) (hv2 : Ty.has (Ty.lst Ty.int leads) σ v2)  (hnm : nm.size ≤ 1099511627776) (hn : -9223372036854775808 ≤ n ∧ n ≤ 9223372036854775807) :
    FnC Try.prog 21 #[v0, v1, v2] σ (Ty.int (touchMay nm n l cs leads)) := by
 refine fn_intro0 Try.func21 rfl Try.ntmps21 (Nat.le_of_ble_eq_true rfl) (fun s0 a0 hle F0 ok0 hargs => ?_)
 have p0 : At (Ty.agg [(Ty.val (Value.string nm)), (Ty.int n), (Ty.lst Ty.ints l)]) s0 a0 (.tmp 0) := by have e := hargs 0 _ rfl; show Ty.has _ _ _; rw [e]; exact Ty.up _ hle hv0
 have p1 : At (Ty.lstc 2 callC cs) s0 a0 (.tmp 1) := by have e := hargs 1 _ rfl; show Ty.has _ _ _; rw [e]; exact Ty.up _ hle hv1
 have b1 := sl_le p1
 have p2 : At (Ty.lst Ty.int leads) s0 a0 (.tmp 2) := by have e := hargs 2 _ rfl; show Ty.has _ _ _; rw [e]; exact Ty.up _ hle hv2
 have b2 := sl_le p2
 clear hargs; refine wp_seq ?_
 refine rg a0 s0 [(Ty.ref [(Ty.val (Value.string nm)), (Ty.int n), (Ty.lst Ty.ints l)]), (Ty.int (0 : Int))] ok0 ⟨?_, ?_, trivial⟩ ?_
 · intro A B E G H; exact rP (y_boxagg (kp (H 0 rfl) E p0))
 · intro A B E G H; exact rP (y_assign rfl)
 intro a1 s1 D1; have ok1 := D1.ok; have F1 := F0.step0 D1.stp; have q1 := D1.kt p1 rfl; have q2 := D1.kt p2 rfl; have q3 := D1.dn 0 rfl rfl; clear D1; refine tn ?_; refine wp_seq ?_
 refine rg a1 s1 [(Ty.agg [(Ty.val (Value.string nm)), (Ty.int n), (Ty.lst Ty.ints l)]), (Ty.lstc 2 callC cs), (Ty.int (callsMay nm n l cs)), (Ty.int (callsMay nm n l cs))] ok1 ⟨?_, ?_, ?_, ?_, trivial⟩ ?_
 · intro A B E G H; exact rP (y_loadagg Try.underlying31 Try.inf31 (kp (H 3 rfl) E q3))
 · intro A B E G H; exact rP (y_move (kp (H 1 rfl) E q1))
 · intro A B E G H d0 d1; exact rP (y_call #[A.eval (.tmp 9), A.eval (.tmp 10)] Try.func51 rfl rfl (by simp only [List.map_toArray, List.map_cons, List.map_nil]) (rCallsMay_fn (nm) (n) (l) (cs) _ _ _ (ed d0 rfl rfl rfl) (ed d1 rfl rfl rfl) (by first | omega | assumption) (by first | omega | assumption)))
 · intro A B E G H d0 d1 d2 d3 d4; exact rP (y_assign (ed d0 rfl rfl rfl))
 intro a2 s2 D2; have ok2 := D2.ok; have F2 := F1.step0 D2.stp; have q4 := D2.kt q1 rfl; have q5 := D2.kt q2 rfl; have q6 := D2.kt q3 rfl; have q7 := D2.dn 3 rfl rfl; clear D2; refine tn ?_; refine wp_seq ?_; refine wp_seq ?_
 refine rg a2 s2 [(Ty.int (callsMay nm n l cs)), (Ty.bool (decide ((callsMay nm n l cs) ≠ (0 : Int))))] ok2 ⟨?_, ?_, trivial⟩ ?_
 · intro A B E G H; exact rP (y_move (kp (H 7 rfl) E q7))
 · intro A B E G H d0; exact rP (y_neq (ed d0 rfl rfl rfl) rfl)
 intro a3 s3 D3; have ok3 := D3.ok; have F3 := F2.step0 D3.stp; have q8 := D3.kt q4 rfl; have q9 := D3.kt q5 rfl; have q10 := D3.kt q6 rfl; have q11 := D3.kt q7 rfl; have q12 := D3.dn 1 rfl rfl; clear D3; refine tn ?_
 refine cond_p (p := ((callsMay nm n l cs) ≠ (0 : Int))) q12 (fun c1 => ?_) (fun c1 => ?_)
 ·
  have hm := touchMay_calls (leads := leads) c1
  refine wp_seq ?_
  refine rg a3 s3 [(Ty.int (callsMay nm n l cs)), (Ty.int (callsMay nm n l cs))] ok3 ⟨?_, ?_, trivial⟩ ?_
  · intro A B E G H; exact rP (y_move (kp (H 7 rfl) E q11))
  · intro A B E G H d0 d1; exact rP (y_assign (ed d0 rfl rfl rfl))
  intro a4 s4 D4; have ok4 := D4.ok; have F4 := F3.step0 D4.stp; have q13 := D4.dn 1 rfl rfl; clear D4; refine tn ?_; refine wp_ret ?_; refine tr ?_
  exact retL1 rfl ok4 F4 (cvi (by (exact hm.symm)) q13)
 ·
  have h0 := Classical.not_not.1 c1; have hl2 := (callsMay_ok h0).1.meth.l2
  refine wp_skip ?_; refine tn ?_; refine wp_seq ?_; refine wp_seq ?_
  refine rg a3 s3 [(Ty.lst Ty.int leads), (Ty.nat (List.length leads)), (Ty.bool (decide ((((List.length leads) : Nat) : Int) < (1 : Int)))), (Ty.bool (decide ((((List.length leads) : Nat) : Int) < (1 : Int)))), (Ty.grd ((decide ((((List.length leads) : Nat) : Int) < (1 : Int))) = false) (Ty.lst Ty.int leads)), (Ty.grd ((decide ((((List.length leads) : Nat) : Int) < (1 : Int))) = false) (Ty.nat (List.length leads))), (Ty.grd ((decide ((((List.length leads) : Nat) : Int) < (1 : Int))) = false) (Ty.bool (decide ((400 : Int) < (((List.length leads) : Nat) : Int))))), (Ty.bool ((decide ((((List.length leads) : Nat) : Int) < (1 : Int))) || (decide ((400 : Int) < (((List.length leads) : Nat) : Int)))))] ok3 ⟨?_, ?_, ?_, ?_, ?_, ?_, ?_, ?_, trivial⟩ ?_
  · intro A B E G H; exact rP (y_move (kp (H 2 rfl) E q9))
  · intro A B E G H d0; exact rP (y_len Try.underlying23 (ed d0 rfl rfl rfl))
  · intro A B E G H d0; exact rP (y_lss (ed d0 rfl rfl rfl) rfl)
  · intro A B E G H d0; exact rP (y_move (ed d0 rfl rfl rfl))
  · intro A B E G H d0
    refine run_guard G rfl rfl (by decide) (ed d0 rfl rfl rfl) (fun hg => ?_)
    have hp := of_decide_eq_false hg
    exact y_move (kp (H 2 rfl) E q9)
  · intro A B E G H d0 d1
    refine run_guard G rfl rfl (by decide) (ed d1 rfl rfl rfl) (fun hg => ?_)
    have hp := of_decide_eq_false hg
    exact y_len Try.underlying23 ((ed d0 rfl rfl rfl).1 hg)
  · intro A B E G H d0 d1
    refine run_guard G rfl rfl (by decide) (ed d1 rfl rfl rfl) (fun hg => ?_)
    have hp := of_decide_eq_false hg
    exact y_gtr ((ed d0 rfl rfl rfl).1 hg) rfl
  · intro A B E G H d0 d1; exact rP (y_pick_or (ed d0 rfl rfl rfl) rfl (ed d1 rfl rfl rfl))
  intro a5 s5 D5; have ok5 := D5.ok; have F5 := F3.step0 D5.stp; have q14 := D5.kt q8 rfl; have q15 := D5.kt q9 rfl; have q16 := D5.kt q10 rfl; have q17 := D5.dn 7 rfl rfl; clear D5; refine tn ?_
  refine cond_t q17 (fun c2 => ?_) (fun c2 => ?_)
  ·
   simp only [Bool.or_eq_true, decide_eq_true_eq] at c2; have hm := touchMay_cnt h0 (leads := leads) (by omega)
   refine wp_seq ?_
   refine rg a5 s5 [(Ty.int (1 : Int))] ok5 ⟨?_, trivial⟩ ?_
   · intro A B E G H; exact rP (y_assign rfl)
   intro a6 s6 D6; have ok6 := D6.ok; have F6 := F5.step0 D6.stp; have q18 := D6.dn 0 rfl rfl; clear D6; refine tn ?_; refine wp_ret ?_; refine tr ?_
   exact retL1 rfl ok6 F6 (cvi (by (exact hm.symm)) q18)
  ·
   obtain ⟨d1, d2⟩ := Bool.or_eq_false_iff.mp c2
   replace d1 := of_decide_eq_false d1
   replace d2 := of_decide_eq_false d2
   have hx2 : ¬ (leads.length < 1 ∨ 400 < leads.length) := (by simp only [Bool.or_eq_false_iff, decide_eq_false_iff_not] at c2; omega); have hmb : leads.length * l.length ≤ 400 * 200 := Nat.mul_le_mul (by omega) hl2; have hmc : ((leads.length : Nat) : Int) * ((l.length : Nat) : Int) = ((leads.length * l.length : Nat) : Int) := (Int.natCast_mul _ _).symm
   refine wp_skip ?_; refine tn ?_; refine wp_seq ?_; refine wp_seq ?_
   refine rg a5 s5 [(Ty.int (0 : Int))] ok5 ⟨?_, trivial⟩ ?_
   · intro A B E G H; exact rP (y_assign rfl)
   intro a7 s7 D7; have ok7 := D7.ok; have F7 := F5.step0 D7.stp; have q19 := D7.kt q14 rfl; have q20 := D7.kt q15 rfl; have q21 := D7.kt q16 rfl; have q22 := D7.dn 0 rfl rfl; clear D7; refine tn ?_; refine wp_block ?_
   refine loop (fun n1 a8 w1 => ∃ (t1 : GW) (k : Nat), t1.w = w1 ∧ FromL [] s0 t1 ∧ Ok 50 a8 ∧ At (Ty.nat k) t1 a8 (.tmp 8) ∧ At (Ty.lstc 2 callC cs) t1 a8 (.tmp 1) ∧ At (Ty.lst Ty.int leads) t1 a8 (.tmp 2) ∧ At (Ty.ref [(Ty.val (Value.string nm)), (Ty.int n), (Ty.lst Ty.ints l)]) t1 a8 (.tmp 3) ∧ (k ≤ leads.length) ∧ (∀ j, j < k → 0 ≤ leads.getD j 0 ∧ leads.getD j 0 < cs.length) ∧ n1 = leads.length - k) (leads.length - (0)) ?_ ?_
   ·
    exact ⟨s7, 0, rfl, F7, ok7, (cvi (by (first | rfl | omega | (simp_all; done) | (simp_all; omega))) q22), q19, q20, q21, by omega, fun j hj => absurd hj (Nat.not_lt_zero j), rfl⟩
   ·
    rintro n2 a9 w2 ⟨t2, k, rfl, F8, ok8, q23, q24, q25, q26, hk, hin, rfl⟩
    refine wp_seq ?_; refine wp_seq ?_
    refine reg (a := a9) (σ := t2) rfl (fun i_ => List.getD [(Ty.pr (Ty.nat k)), (Ty.pr (Ty.lst Ty.int leads)), (Ty.pr (Ty.nat (List.length leads))), (Ty.pr (Ty.bool (decide (((k : Nat) : Int) < (((List.length leads) : Nat) : Int)))))] i_ Pr.any) ok8 rfl ⟨?_, ?_, ?_, ?_, trivial⟩ ?_
    · intro A B E G H; exact rP (y_move (kp (H 8 rfl) E q23))
    · intro A B E G H; exact rP (y_move (kp (H 2 rfl) E q25))
    · intro A B E G H d0; exact rP (y_len Try.underlying23 (ed d0 rfl rfl rfl))
    · intro A B E G H d0 d1; exact rP (y_lss (ed d0 rfl rfl rfl) (ed d1 rfl rfl rfl))
    intro a10 s8 D8; have ok9 := D8.ok; have F9 := F8.step0 D8.stp; have q27 := D8.kt q23 rfl; have q28 := D8.kt q24 rfl; have q29 := D8.kt q25 rfl; have q30 := D8.kt q26 rfl; have q31 := D8.dn 3 rfl rfl; clear D8; refine tn ?_
    refine cond_p (p := (((k : Nat) : Int) < (((List.length leads) : Nat) : Int))) q31 (fun c3 => ?_) (fun c3 => ?_)
    ·
     refine wp_skip ?_; refine tn ?_; refine wp_seq ?_; refine wp_block ?_; refine wp_seq ?_
     refine rg a10 s8 [(Ty.lst Ty.int leads), (Ty.nat k), (Ty.ref [(Ty.int (leads.getD k 0))]), (Ty.int (leads.getD k 0)), (Ty.bool (decide ((leads.getD k 0) < (0 : Int)))), (Ty.bool (decide ((leads.getD k 0) < (0 : Int)))), (Ty.grd ((decide ((leads.getD k 0) < (0 : Int))) = false) (Ty.lst Ty.int leads)), (Ty.grd ((decide ((leads.getD k 0) < (0 : Int))) = false) (Ty.nat k)), (Ty.grd ((decide ((leads.getD k 0) < (0 : Int))) = false) (Ty.ref [(Ty.int (leads.getD k 0))])), (Ty.grd ((decide ((leads.getD k 0) < (0 : Int))) = false) (Ty.int (leads.getD k 0))), (Ty.grd ((decide ((leads.getD k 0) < (0 : Int))) = false) (Ty.lstc 2 callC cs)), (Ty.grd ((decide ((leads.getD k 0) < (0 : Int))) = false) (Ty.nat (List.length cs))), (Ty.grd ((decide ((leads.getD k 0) < (0 : Int))) = false) (Ty.bool (decide ((((List.length cs) : Nat) : Int) ≤ (leads.getD k 0))))), (Ty.bool ((decide ((leads.getD k 0) < (0 : Int))) || (decide ((((List.length cs) : Nat) : Int) ≤ (leads.getD k 0)))))] ok9 ⟨?_, ?_, ?_, ?_, ?_, ?_, ?_, ?_, ?_, ?_, ?_, ?_, ?_, ?_, trivial⟩ ?_
     · intro A B E G H; exact rP (y_move (kp (H 2 rfl) E q29))
     · intro A B E G H; exact rP (y_move (kp (H 8 rfl) E q27))
     · intro A B E G H d0 d1; exact rP (y_index1 Try.underlying23 Try.inf3 (ed d0 rfl rfl rfl) (ed d1 rfl rfl rfl) (by omega) (lst_get Ty.int leads 0 k (by omega)))
     · intro A B E G H d0; exact rP (y_load Try.underlying3 rfl (ed d0 rfl rfl rfl) rfl)
     · intro A B E G H d0; exact rP (y_lss (ed d0 rfl rfl rfl) rfl)
     · intro A B E G H d0; exact rP (y_move (ed d0 rfl rfl rfl))
     · intro A B E G H d0
       refine run_guard G rfl rfl (by decide) (ed d0 rfl rfl rfl) (fun hg => ?_)
       have hp := of_decide_eq_false hg
       exact y_move (kp (H 2 rfl) E q29)
     · intro A B E G H d0
       refine run_guard G rfl rfl (by decide) (ed d0 rfl rfl rfl) (fun hg => ?_)
       have hp := of_decide_eq_false hg
       exact y_move (kp (H 8 rfl) E q27)
     · intro A B E G H d0 d1 d2
       refine run_guard G rfl rfl (by decide) (ed d2 rfl rfl rfl) (fun hg => ?_)
       have hp := of_decide_eq_false hg
       exact y_index1 Try.underlying23 Try.inf3 ((ed d0 rfl rfl rfl).1 hg) ((ed d1 rfl rfl rfl).1 hg) (by omega) (lst_get Ty.int leads 0 k (by omega))
     · intro A B E G H d0 d1
       refine run_guard G rfl rfl (by decide) (ed d1 rfl rfl rfl) (fun hg => ?_)
       have hp := of_decide_eq_false hg
       exact y_load Try.underlying3 rfl ((ed d0 rfl rfl rfl).1 hg) rfl
     · intro A B E G H d0
       refine run_guard G rfl rfl (by decide) (ed d0 rfl rfl rfl) (fun hg => ?_)
       have hp := of_decide_eq_false hg
       exact y_move (kp (H 1 rfl) E q28)
     · intro A B E G H d0 d1
       refine run_guard G rfl rfl (by decide) (ed d1 rfl rfl rfl) (fun hg => ?_)
       have hp := of_decide_eq_false hg
       exact y_len Try.underlying22 ((ed d0 rfl rfl rfl).1 hg)
     · intro A B E G H d0 d1 d2
       refine run_guard G rfl rfl (by decide) (ed d2 rfl rfl rfl) (fun hg => ?_)
       have hp := of_decide_eq_false hg
       exact y_geq ((ed d0 rfl rfl rfl).1 hg) ((ed d1 rfl rfl rfl).1 hg)
     · intro A B E G H d0 d1; exact rP (y_pick_or (ed d0 rfl rfl rfl) rfl (ed d1 rfl rfl rfl))
     intro a11 s9 D9; have ok10 := D9.ok; have F10 := F9.step0 D9.stp; have q32 := D9.kt q27 rfl; have q33 := D9.kt q28 rfl; have q34 := D9.kt q29 rfl; have q35 := D9.kt q30 rfl; have q36 := D9.dn 13 rfl rfl; clear D9; refine tn ?_
     refine cond_t q36 (fun c4 => ?_) (fun c4 => ?_)
     ·
      simp only [Bool.or_eq_true, decide_eq_true_eq] at c4; have hm := touchMay_val h0 hx2 (k := k) (by omega) (by omega)
      refine wp_seq ?_
      refine rg a11 s9 [(Ty.int (12 : Int))] ok10 ⟨?_, trivial⟩ ?_
      · intro A B E G H; exact rP (y_assign rfl)
      intro a12 s10 D10; have ok11 := D10.ok; have F11 := F10.step0 D10.stp; have q37 := D10.dn 0 rfl rfl; clear D10; refine tn ?_; refine wp_ret ?_; refine br ?_; refine tr ?_; refine tr ?_; refine br ?_; refine tr ?_
      exact retL1 rfl ok11 F11 (cvi (by (exact hm.symm)) q37)
     ·
      obtain ⟨d3, d4⟩ := Bool.or_eq_false_iff.mp c4
      replace d3 := of_decide_eq_false d3
      replace d4 := of_decide_eq_false d4
      refine wp_skip ?_; refine bn ?_; refine tn ?_
      refine rg a11 s9 [(Ty.nat k), (Ty.nat (k + 1)), (Ty.nat (k + 1))] ok10 ⟨?_, ?_, ?_, trivial⟩ ?_
      · intro A B E G H; exact rP (y_move (kp (H 8 rfl) E q32))
      · intro A B E G H d0; exact rP ((y_add (ed d0 rfl rfl rfl) rfl (w64 (by omega) (by omega))).mono (fun τ _ h => cvi (σ := τ) (by first | omega | exact (Int.natCast_mul _ _).symm) h))
      · intro A B E G H d0 d1 d2; exact rP (y_assign (ed d0 rfl rfl rfl))
      intro a13 s11 D11; have ok12 := D11.ok; have F12 := F10.step0 D11.stp; have q38 := D11.kt q33 rfl; have q39 := D11.kt q34 rfl; have q40 := D11.kt q35 rfl; have q41 := D11.dn 2 rfl rfl; clear D11
      exact tn ⟨leads.length - ((k+1)), by omega, s11, (k+1), rfl, F12, ok12, (cvi (by (first | rfl | omega | (simp_all; done) | (simp_all; omega))) q41), q38, q39, q40, by omega, fun j hj => by (by_cases e : j = k; subst e; simp only [Bool.or_eq_false_iff, decide_eq_false_iff_not] at c4; omega; exact hin j (by omega)), rfl⟩
    ·
     have hin2 : ∀ j, j < leads.length → 0 ≤ leads.getD j 0 ∧ leads.getD j 0 < cs.length := fun j hj => hin j (by omega)
     refine wp_exit ?_; refine tx ?_; refine tx ?_; refine bx ?_; refine tn ?_; refine wp_seq ?_; refine wp_seq ?_
     refine rg a10 s8 [(Ty.lst Ty.int leads), (Ty.nat (List.length leads)), (Ty.ref [(Ty.lst Ty.ints l)]), (Ty.lst Ty.ints l), (Ty.nat (List.length l)), (Ty.nat ((List.length leads) * (List.length l))), (Ty.bool (decide ((20000 : Int) < ((((List.length leads) * (List.length l)) : Nat) : Int))))] ok9 ⟨?_, ?_, ?_, ?_, ?_, ?_, ?_, trivial⟩ ?_
     · intro A B E G H; exact rP (y_move (kp (H 2 rfl) E q29))
     · intro A B E G H d0; exact rP (y_len Try.underlying23 (ed d0 rfl rfl rfl))
     · intro A B E G H; exact rP (y_field Try.fld31_2 Try.inf29 (by decide) (kp (H 3 rfl) E q30) rfl)
     · intro A B E G H d0; exact rP (y_load Try.underlying29 rfl (ed d0 rfl rfl rfl) rfl)
     · intro A B E G H d0; exact rP (y_len Try.underlying29 (ed d0 rfl rfl rfl))
     · intro A B E G H d0 d1; exact rP ((y_mul (ed d0 rfl rfl rfl) (ed d1 rfl rfl rfl) (w64 (by omega) (by omega))).mono (fun τ _ h => cvi (σ := τ) (by first | omega | exact (Int.natCast_mul _ _).symm) h))
     · intro A B E G H d0; exact rP (y_gtr (ed d0 rfl rfl rfl) rfl)
     intro a14 s12 D12; have ok13 := D12.ok; have F13 := F9.step0 D12.stp; have q42 := D12.dn 6 rfl rfl; clear D12; refine tn ?_
     refine cond_p (p := ((20000 : Int) < ((((List.length leads) * (List.length l)) : Nat) : Int))) q42 (fun c5 => ?_) (fun c5 => ?_)
     ·
      have hm := touchMay_lim h0 hx2 hin2 (by omega)
      refine wp_seq ?_
      refine rg a14 s12 [(Ty.int (3 : Int))] ok13 ⟨?_, trivial⟩ ?_
      · intro A B E G H; exact rP (y_assign rfl)
      intro a15 s13 D13; have ok14 := D13.ok; have F14 := F13.step0 D13.stp; have q43 := D13.dn 0 rfl rfl; clear D13; refine tn ?_; refine wp_ret ?_; refine tr ?_
      exact retL1 rfl ok14 F14 (cvi (by (exact hm.symm)) q43)
     ·
      have hm := touchMay_yes h0 hx2 hin2 (by omega)
      refine wp_skip ?_; refine tn ?_; refine wp_seq ?_
      refine rg a14 s12 [(Ty.int (0 : Int))] ok13 ⟨?_, trivial⟩ ?_
      · intro A B E G H; exact rP (y_assign rfl)
      intro a16 s14 D14; have ok15 := D14.ok; have F15 := F13.step0 D14.stp; have q44 := D14.dn 0 rfl rfl; clear D14; refine tn ?_; refine wp_ret ?_
      exact retL1 rfl ok15 F15 (cvi (by (exact hm.symm)) q44)


set_option maxRecDepth 100000 in
theorem letter_fn (c : Int) (σ : GW) (v0 : Value) (hv0 : Ty.has (Ty.val (Value.int .i32 c)) σ v0)  :
    FnC Try.prog 117 #[v0] σ (Ty.bool (letterB c)) := by
 refine fn_intro Try.func117 rfl Try.ntmps117 (Nat.le_of_ble_eq_true rfl) (fun s0 a0 hle F0 ok0 hargs => ?_)
 have p0 : At (Ty.val (Value.int .i32 c)) s0 a0 (.tmp 0) := by have e := hargs 0 _ rfl; show Ty.has _ _ _; rw [e]; exact Ty.up _ hle hv0
 clear hargs; refine wp_seq ?_
 refine rg a0 s0 [(Ty.bool false)] ok0 ⟨?_, trivial⟩ ?_
 · intro A B E G H; exact rP (y_assign rfl)
 intro a1 s1 D1; have ok1 := D1.ok; have F1 := F0.step0 D1.stp; have q1 := D1.kt p0 rfl; clear D1; refine tn ?_; refine wp_seq ?_
 refine rg a1 s1 [(Ty.val (Value.int .i32 c)), (Ty.bool (decide ((65 : Int) ≤ c))), (Ty.bool (decide ((65 : Int) ≤ c))), (Ty.grd ((decide ((65 : Int) ≤ c)) = true) (Ty.val (Value.int .i32 c))), (Ty.grd ((decide ((65 : Int) ≤ c)) = true) (Ty.bool (decide (c ≤ (90 : Int))))), (Ty.bool ((decide ((65 : Int) ≤ c)) && (decide (c ≤ (90 : Int))))), (Ty.bool ((decide ((65 : Int) ≤ c)) && (decide (c ≤ (90 : Int))))), (Ty.grd (((decide ((65 : Int) ≤ c)) && (decide (c ≤ (90 : Int)))) = false) (Ty.val (Value.int .i32 c))), (Ty.grd (((decide ((65 : Int) ≤ c)) && (decide (c ≤ (90 : Int)))) = false) (Ty.bool (decide ((97 : Int) ≤ c)))), (Ty.grd (((decide ((65 : Int) ≤ c)) && (decide (c ≤ (90 : Int)))) = false) (Ty.bool (decide ((97 : Int) ≤ c)))), (Ty.grd ((((decide ((65 : Int) ≤ c)) && (decide (c ≤ (90 : Int)))) = false) ∧ (decide ((97 : Int) ≤ c)) = true) (Ty.val (Value.int .i32 c))), (Ty.grd ((((decide ((65 : Int) ≤ c)) && (decide (c ≤ (90 : Int)))) = false) ∧ (decide ((97 : Int) ≤ c)) = true) (Ty.bool (decide (c ≤ (122 : Int))))), (Ty.grd (((decide ((65 : Int) ≤ c)) && (decide (c ≤ (90 : Int)))) = false) (Ty.bool ((decide ((97 : Int) ≤ c)) && (decide (c ≤ (122 : Int)))))), (Ty.bool (((decide ((65 : Int) ≤ c)) && (decide (c ≤ (90 : Int)))) || ((decide ((97 : Int) ≤ c)) && (decide (c ≤ (122 : Int)))))), (Ty.bool (((decide ((65 : Int) ≤ c)) && (decide (c ≤ (90 : Int)))) || ((decide ((97 : Int) ≤ c)) && (decide (c ≤ (122 : Int)))))), (Ty.grd ((((decide ((65 : Int) ≤ c)) && (decide (c ≤ (90 : Int)))) || ((decide ((97 : Int) ≤ c)) && (decide (c ≤ (122 : Int))))) = false) (Ty.val (Value.int .i32 c))), (Ty.grd ((((decide ((65 : Int) ≤ c)) && (decide (c ≤ (90 : Int)))) || ((decide ((97 : Int) ≤ c)) && (decide (c ≤ (122 : Int))))) = false) (Ty.bool (decide ((48 : Int) ≤ c)))), (Ty.grd ((((decide ((65 : Int) ≤ c)) && (decide (c ≤ (90 : Int)))) || ((decide ((97 : Int) ≤ c)) && (decide (c ≤ (122 : Int))))) = false) (Ty.bool (decide ((48 : Int) ≤ c)))), (Ty.grd (((((decide ((65 : Int) ≤ c)) && (decide (c ≤ (90 : Int)))) || ((decide ((97 : Int) ≤ c)) && (decide (c ≤ (122 : Int))))) = false) ∧ (decide ((48 : Int) ≤ c)) = true) (Ty.val (Value.int .i32 c))), (Ty.grd (((((decide ((65 : Int) ≤ c)) && (decide (c ≤ (90 : Int)))) || ((decide ((97 : Int) ≤ c)) && (decide (c ≤ (122 : Int))))) = false) ∧ (decide ((48 : Int) ≤ c)) = true) (Ty.bool (decide (c ≤ (57 : Int))))), (Ty.grd ((((decide ((65 : Int) ≤ c)) && (decide (c ≤ (90 : Int)))) || ((decide ((97 : Int) ≤ c)) && (decide (c ≤ (122 : Int))))) = false) (Ty.bool ((decide ((48 : Int) ≤ c)) && (decide (c ≤ (57 : Int)))))), (Ty.bool ((((decide ((65 : Int) ≤ c)) && (decide (c ≤ (90 : Int)))) || ((decide ((97 : Int) ≤ c)) && (decide (c ≤ (122 : Int))))) || ((decide ((48 : Int) ≤ c)) && (decide (c ≤ (57 : Int)))))), (Ty.bool ((((decide ((65 : Int) ≤ c)) && (decide (c ≤ (90 : Int)))) || ((decide ((97 : Int) ≤ c)) && (decide (c ≤ (122 : Int))))) || ((decide ((48 : Int) ≤ c)) && (decide (c ≤ (57 : Int)))))), (Ty.grd (((((decide ((65 : Int) ≤ c)) && (decide (c ≤ (90 : Int)))) || ((decide ((97 : Int) ≤ c)) && (decide (c ≤ (122 : Int))))) || ((decide ((48 : Int) ≤ c)) && (decide (c ≤ (57 : Int))))) = false) (Ty.val (Value.int .i32 c))), (Ty.grd (((((decide ((65 : Int) ≤ c)) && (decide (c ≤ (90 : Int)))) || ((decide ((97 : Int) ≤ c)) && (decide (c ≤ (122 : Int))))) || ((decide ((48 : Int) ≤ c)) && (decide (c ≤ (57 : Int))))) = false) (Ty.bool (decide (c = (32 : Int))))), (Ty.bool (((((decide ((65 : Int) ≤ c)) && (decide (c ≤ (90 : Int)))) || ((decide ((97 : Int) ≤ c)) && (decide (c ≤ (122 : Int))))) || ((decide ((48 : Int) ≤ c)) && (decide (c ≤ (57 : Int))))) || (decide (c = (32 : Int))))), (Ty.bool (((((decide ((65 : Int) ≤ c)) && (decide (c ≤ (90 : Int)))) || ((decide ((97 : Int) ≤ c)) && (decide (c ≤ (122 : Int))))) || ((decide ((48 : Int) ≤ c)) && (decide (c ≤ (57 : Int))))) || (decide (c = (32 : Int))))), (Ty.grd ((((((decide ((65 : Int) ≤ c)) && (decide (c ≤ (90 : Int)))) || ((decide ((97 : Int) ≤ c)) && (decide (c ≤ (122 : Int))))) || ((decide ((48 : Int) ≤ c)) && (decide (c ≤ (57 : Int))))) || (decide (c = (32 : Int)))) = false) (Ty.val (Value.int .i32 c))), (Ty.grd ((((((decide ((65 : Int) ≤ c)) && (decide (c ≤ (90 : Int)))) || ((decide ((97 : Int) ≤ c)) && (decide (c ≤ (122 : Int))))) || ((decide ((48 : Int) ≤ c)) && (decide (c ≤ (57 : Int))))) || (decide (c = (32 : Int)))) = false) (Ty.bool (decide ((192 : Int) ≤ c)))), (Ty.grd ((((((decide ((65 : Int) ≤ c)) && (decide (c ≤ (90 : Int)))) || ((decide ((97 : Int) ≤ c)) && (decide (c ≤ (122 : Int))))) || ((decide ((48 : Int) ≤ c)) && (decide (c ≤ (57 : Int))))) || (decide (c = (32 : Int)))) = false) (Ty.bool (decide ((192 : Int) ≤ c)))), (Ty.grd (((((((decide ((65 : Int) ≤ c)) && (decide (c ≤ (90 : Int)))) || ((decide ((97 : Int) ≤ c)) && (decide (c ≤ (122 : Int))))) || ((decide ((48 : Int) ≤ c)) && (decide (c ≤ (57 : Int))))) || (decide (c = (32 : Int)))) = false) ∧ (decide ((192 : Int) ≤ c)) = true) (Ty.val (Value.int .i32 c))), (Ty.grd (((((((decide ((65 : Int) ≤ c)) && (decide (c ≤ (90 : Int)))) || ((decide ((97 : Int) ≤ c)) && (decide (c ≤ (122 : Int))))) || ((decide ((48 : Int) ≤ c)) && (decide (c ≤ (57 : Int))))) || (decide (c = (32 : Int)))) = false) ∧ (decide ((192 : Int) ≤ c)) = true) (Ty.bool (decide (c ≤ (382 : Int))))), (Ty.grd ((((((decide ((65 : Int) ≤ c)) && (decide (c ≤ (90 : Int)))) || ((decide ((97 : Int) ≤ c)) && (decide (c ≤ (122 : Int))))) || ((decide ((48 : Int) ≤ c)) && (decide (c ≤ (57 : Int))))) || (decide (c = (32 : Int)))) = false) (Ty.bool ((decide ((192 : Int) ≤ c)) && (decide (c ≤ (382 : Int)))))), (Ty.grd ((((((decide ((65 : Int) ≤ c)) && (decide (c ≤ (90 : Int)))) || ((decide ((97 : Int) ≤ c)) && (decide (c ≤ (122 : Int))))) || ((decide ((48 : Int) ≤ c)) && (decide (c ≤ (57 : Int))))) || (decide (c = (32 : Int)))) = false) (Ty.bool ((decide ((192 : Int) ≤ c)) && (decide (c ≤ (382 : Int)))))), (Ty.grd (((((((decide ((65 : Int) ≤ c)) && (decide (c ≤ (90 : Int)))) || ((decide ((97 : Int) ≤ c)) && (decide (c ≤ (122 : Int))))) || ((decide ((48 : Int) ≤ c)) && (decide (c ≤ (57 : Int))))) || (decide (c = (32 : Int)))) = false) ∧ ((decide ((192 : Int) ≤ c)) && (decide (c ≤ (382 : Int)))) = true) (Ty.val (Value.int .i32 c))), (Ty.grd (((((((decide ((65 : Int) ≤ c)) && (decide (c ≤ (90 : Int)))) || ((decide ((97 : Int) ≤ c)) && (decide (c ≤ (122 : Int))))) || ((decide ((48 : Int) ≤ c)) && (decide (c ≤ (57 : Int))))) || (decide (c = (32 : Int)))) = false) ∧ ((decide ((192 : Int) ≤ c)) && (decide (c ≤ (382 : Int)))) = true) (Ty.bool (decide (c ≠ (215 : Int))))), (Ty.grd ((((((decide ((65 : Int) ≤ c)) && (decide (c ≤ (90 : Int)))) || ((decide ((97 : Int) ≤ c)) && (decide (c ≤ (122 : Int))))) || ((decide ((48 : Int) ≤ c)) && (decide (c ≤ (57 : Int))))) || (decide (c = (32 : Int)))) = false) (Ty.bool (((decide ((192 : Int) ≤ c)) && (decide (c ≤ (382 : Int)))) && (decide (c ≠ (215 : Int)))))), (Ty.grd ((((((decide ((65 : Int) ≤ c)) && (decide (c ≤ (90 : Int)))) || ((decide ((97 : Int) ≤ c)) && (decide (c ≤ (122 : Int))))) || ((decide ((48 : Int) ≤ c)) && (decide (c ≤ (57 : Int))))) || (decide (c = (32 : Int)))) = false) (Ty.bool (((decide ((192 : Int) ≤ c)) && (decide (c ≤ (382 : Int)))) && (decide (c ≠ (215 : Int)))))), (Ty.grd (((((((decide ((65 : Int) ≤ c)) && (decide (c ≤ (90 : Int)))) || ((decide ((97 : Int) ≤ c)) && (decide (c ≤ (122 : Int))))) || ((decide ((48 : Int) ≤ c)) && (decide (c ≤ (57 : Int))))) || (decide (c = (32 : Int)))) = false) ∧ (((decide ((192 : Int) ≤ c)) && (decide (c ≤ (382 : Int)))) && (decide (c ≠ (215 : Int)))) = true) (Ty.val (Value.int .i32 c))), (Ty.grd (((((((decide ((65 : Int) ≤ c)) && (decide (c ≤ (90 : Int)))) || ((decide ((97 : Int) ≤ c)) && (decide (c ≤ (122 : Int))))) || ((decide ((48 : Int) ≤ c)) && (decide (c ≤ (57 : Int))))) || (decide (c = (32 : Int)))) = false) ∧ (((decide ((192 : Int) ≤ c)) && (decide (c ≤ (382 : Int)))) && (decide (c ≠ (215 : Int)))) = true) (Ty.bool (decide (c ≠ (247 : Int))))), (Ty.grd ((((((decide ((65 : Int) ≤ c)) && (decide (c ≤ (90 : Int)))) || ((decide ((97 : Int) ≤ c)) && (decide (c ≤ (122 : Int))))) || ((decide ((48 : Int) ≤ c)) && (decide (c ≤ (57 : Int))))) || (decide (c = (32 : Int)))) = false) (Ty.bool ((((decide ((192 : Int) ≤ c)) && (decide (c ≤ (382 : Int)))) && (decide (c ≠ (215 : Int)))) && (decide (c ≠ (247 : Int)))))), (Ty.bool ((((((decide ((65 : Int) ≤ c)) && (decide (c ≤ (90 : Int)))) || ((decide ((97 : Int) ≤ c)) && (decide (c ≤ (122 : Int))))) || ((decide ((48 : Int) ≤ c)) && (decide (c ≤ (57 : Int))))) || (decide (c = (32 : Int)))) || ((((decide ((192 : Int) ≤ c)) && (decide (c ≤ (382 : Int)))) && (decide (c ≠ (215 : Int)))) && (decide (c ≠ (247 : Int)))))), (Ty.bool ((((((decide ((65 : Int) ≤ c)) && (decide (c ≤ (90 : Int)))) || ((decide ((97 : Int) ≤ c)) && (decide (c ≤ (122 : Int))))) || ((decide ((48 : Int) ≤ c)) && (decide (c ≤ (57 : Int))))) || (decide (c = (32 : Int)))) || ((((decide ((192 : Int) ≤ c)) && (decide (c ≤ (382 : Int)))) && (decide (c ≠ (215 : Int)))) && (decide (c ≠ (247 : Int))))))] ok1 ⟨?_, ?_, ?_, ?_, ?_, ?_, ?_, ?_, ?_, ?_, ?_, ?_, ?_, ?_, ?_, ?_, ?_, ?_, ?_, ?_, ?_, ?_, ?_, ?_, ?_, ?_, ?_, ?_, ?_, ?_, ?_, ?_, ?_, ?_, ?_, ?_, ?_, ?_, ?_, ?_, ?_, ?_, ?_, trivial⟩ ?_
 · intro A B E G H; exact rP (y_move (kp (H 0 rfl) E q1))
 · intro A B E G H d0; exact rP (y_geq (ed d0 rfl rfl rfl) rfl)
 · intro A B E G H d0; exact rP (y_move (ed d0 rfl rfl rfl))
 · intro A B E G H d0
   refine run_guard G rfl rfl (by decide) (ed d0 rfl rfl rfl) (fun hg => ?_)
   have hp := of_decide_eq_true hg
   exact y_move (kp (H 0 rfl) E q1)
 · intro A B E G H d0 d1
   refine run_guard G rfl rfl (by decide) (ed d1 rfl rfl rfl) (fun hg => ?_)
   have hp := of_decide_eq_true hg
   exact y_leq ((ed d0 rfl rfl rfl).1 hg) rfl
 · intro A B E G H d0 d1; exact rP (y_pick_and (ed d0 rfl rfl rfl) (ed d1 rfl rfl rfl) rfl)
 · intro A B E G H d0 d1; exact rP (y_move (ed d0 rfl rfl rfl))
 · intro A B E G H d0
   refine run_guard G rfl rfl (by decide) (ed d0 rfl rfl rfl) (fun hg => ?_)
   exact y_move (kp (H 0 rfl) E q1)
 · intro A B E G H d0 d1
   refine run_guard G rfl rfl (by decide) (ed d1 rfl rfl rfl) (fun hg => ?_)
   exact y_geq ((ed d0 rfl rfl rfl).1 hg) rfl
 · intro A B E G H d0 d1 d2
   refine run_guard G rfl rfl (by decide) (ed d1 rfl rfl rfl) (fun hg => ?_)
   exact y_move ((ed d0 rfl rfl rfl).1 hg)
 · intro A B E G H d0
   refine run_guard2 G rfl rfl (by decide) (ed d0 rfl rfl rfl) (fun hg => ?_)
   have hp := of_decide_eq_true hg.2
   exact y_move (kp (H 0 rfl) E q1)
 · intro A B E G H d0 d1
   refine run_guard2 G rfl rfl (by decide) (ed d1 rfl rfl rfl) (fun hg => ?_)
   have hp := of_decide_eq_true hg.2
   exact y_leq ((ed d0 rfl rfl rfl).1 hg) rfl
 · intro A B E G H d0 d1 d2
   refine run_guard G rfl rfl (by decide) (ed d2 rfl rfl rfl) (fun hg => ?_)
   exact y_pick_and ((ed d0 rfl rfl rfl).1 hg) (grd_part hg (ed d1 rfl rfl rfl)) rfl
 · intro A B E G H d0 d1; exact rP (y_pick_or (ed d0 rfl rfl rfl) rfl (ed d1 rfl rfl rfl))
 · intro A B E G H d0 d1; exact rP (y_move (ed d0 rfl rfl rfl))
 · intro A B E G H d0
   refine run_guard G rfl rfl (by decide) (ed d0 rfl rfl rfl) (fun hg => ?_)
   obtain ⟨d1, d2⟩ := Bool.or_eq_false_iff.mp hg
   exact y_move (kp (H 0 rfl) E q1)
 · intro A B E G H d0 d1
   refine run_guard G rfl rfl (by decide) (ed d1 rfl rfl rfl) (fun hg => ?_)
   obtain ⟨d3, d4⟩ := Bool.or_eq_false_iff.mp hg
   exact y_geq ((ed d0 rfl rfl rfl).1 hg) rfl
 · intro A B E G H d0 d1 d2
   refine run_guard G rfl rfl (by decide) (ed d1 rfl rfl rfl) (fun hg => ?_)
   obtain ⟨d5, d6⟩ := Bool.or_eq_false_iff.mp hg
   exact y_move ((ed d0 rfl rfl rfl).1 hg)
 · intro A B E G H d0
   refine run_guard2 G rfl rfl (by decide) (ed d0 rfl rfl rfl) (fun hg => ?_)
   have hp := of_decide_eq_true hg.2
   exact y_move (kp (H 0 rfl) E q1)
 · intro A B E G H d0 d1
   refine run_guard2 G rfl rfl (by decide) (ed d1 rfl rfl rfl) (fun hg => ?_)
   have hp := of_decide_eq_true hg.2
   exact y_leq ((ed d0 rfl rfl rfl).1 hg) rfl
 · intro A B E G H d0 d1 d2
   refine run_guard G rfl rfl (by decide) (ed d2 rfl rfl rfl) (fun hg => ?_)
   obtain ⟨d7, d8⟩ := Bool.or_eq_false_iff.mp hg
   exact y_pick_and ((ed d0 rfl rfl rfl).1 hg) (grd_part hg (ed d1 rfl rfl rfl)) rfl
 · intro A B E G H d0 d1; exact rP (y_pick_or (ed d0 rfl rfl rfl) rfl (ed d1 rfl rfl rfl))
 · intro A B E G H d0 d1; exact rP (y_move (ed d0 rfl rfl rfl))
 · intro A B E G H d0
   refine run_guard G rfl rfl (by decide) (ed d0 rfl rfl rfl) (fun hg => ?_)
   obtain ⟨d9, d10⟩ := Bool.or_eq_false_iff.mp hg
   obtain ⟨d11, d12⟩ := Bool.or_eq_false_iff.mp d9
   exact y_move (kp (H 0 rfl) E q1)
 · intro A B E G H d0 d1
   refine run_guard G rfl rfl (by decide) (ed d1 rfl rfl rfl) (fun hg => ?_)
   obtain ⟨d13, d14⟩ := Bool.or_eq_false_iff.mp hg
   obtain ⟨d15, d16⟩ := Bool.or_eq_false_iff.mp d13
   exact y_eql ((ed d0 rfl rfl rfl).1 hg) rfl
 · intro A B E G H d0 d1; exact rP (y_pick_or (ed d0 rfl rfl rfl) rfl (ed d1 rfl rfl rfl))
 · intro A B E G H d0 d1; exact rP (y_move (ed d0 rfl rfl rfl))
 · intro A B E G H d0
   refine run_guard G rfl rfl (by decide) (ed d0 rfl rfl rfl) (fun hg => ?_)
   obtain ⟨d17, d18⟩ := Bool.or_eq_false_iff.mp hg
   obtain ⟨d19, d20⟩ := Bool.or_eq_false_iff.mp d17
   obtain ⟨d21, d22⟩ := Bool.or_eq_false_iff.mp d19
   have d18 := of_decide_eq_false d18
   exact y_move (kp (H 0 rfl) E q1)
 · intro A B E G H d0 d1
   refine run_guard G rfl rfl (by decide) (ed d1 rfl rfl rfl) (fun hg => ?_)
   obtain ⟨d23, d24⟩ := Bool.or_eq_false_iff.mp hg
   obtain ⟨d25, d26⟩ := Bool.or_eq_false_iff.mp d23
   obtain ⟨d27, d28⟩ := Bool.or_eq_false_iff.mp d25
   have d24 := of_decide_eq_false d24
   exact y_geq ((ed d0 rfl rfl rfl).1 hg) rfl
 · intro A B E G H d0 d1 d2
   refine run_guard G rfl rfl (by decide) (ed d1 rfl rfl rfl) (fun hg => ?_)
   obtain ⟨d29, d30⟩ := Bool.or_eq_false_iff.mp hg
   obtain ⟨d31, d32⟩ := Bool.or_eq_false_iff.mp d29
   obtain ⟨d33, d34⟩ := Bool.or_eq_false_iff.mp d31
   have d30 := of_decide_eq_false d30
   exact y_move ((ed d0 rfl rfl rfl).1 hg)
 · intro A B E G H d0
   refine run_guard2 G rfl rfl (by decide) (ed d0 rfl rfl rfl) (fun hg => ?_)
   have hp := of_decide_eq_true hg.2
   exact y_move (kp (H 0 rfl) E q1)
 · intro A B E G H d0 d1
   refine run_guard2 G rfl rfl (by decide) (ed d1 rfl rfl rfl) (fun hg => ?_)
   have hp := of_decide_eq_true hg.2
   exact y_leq ((ed d0 rfl rfl rfl).1 hg) rfl
 · intro A B E G H d0 d1 d2
   refine run_guard G rfl rfl (by decide) (ed d2 rfl rfl rfl) (fun hg => ?_)
   obtain ⟨d35, d36⟩ := Bool.or_eq_false_iff.mp hg
   obtain ⟨d37, d38⟩ := Bool.or_eq_false_iff.mp d35
   obtain ⟨d39, d40⟩ := Bool.or_eq_false_iff.mp d37
   have d36 := of_decide_eq_false d36
   exact y_pick_and ((ed d0 rfl rfl rfl).1 hg) (grd_part hg (ed d1 rfl rfl rfl)) rfl
 · intro A B E G H d0 d1 d2
   refine run_guard G rfl rfl (by decide) (ed d2 rfl rfl rfl) (fun hg => ?_)
   obtain ⟨d41, d42⟩ := Bool.or_eq_false_iff.mp hg
   obtain ⟨d43, d44⟩ := Bool.or_eq_false_iff.mp d41
   obtain ⟨d45, d46⟩ := Bool.or_eq_false_iff.mp d43
   have d42 := of_decide_eq_false d42
   exact y_move ((ed d0 rfl rfl rfl).1 hg)
 · intro A B E G H d0
   refine run_guard2 G rfl rfl (by decide) (ed d0 rfl rfl rfl) (fun hg => ?_)
   obtain ⟨d47, d48⟩ := Bool.and_eq_true_iff.mp hg.2
   have d47 := of_decide_eq_true d47
   have d48 := of_decide_eq_true d48
   exact y_move (kp (H 0 rfl) E q1)
 · intro A B E G H d0 d1
   refine run_guard2 G rfl rfl (by decide) (ed d1 rfl rfl rfl) (fun hg => ?_)
   obtain ⟨d49, d50⟩ := Bool.and_eq_true_iff.mp hg.2
   have d49 := of_decide_eq_true d49
   have d50 := of_decide_eq_true d50
   exact y_neq ((ed d0 rfl rfl rfl).1 hg) rfl
 · intro A B E G H d0 d1 d2
   refine run_guard G rfl rfl (by decide) (ed d2 rfl rfl rfl) (fun hg => ?_)
   obtain ⟨d51, d52⟩ := Bool.or_eq_false_iff.mp hg
   obtain ⟨d53, d54⟩ := Bool.or_eq_false_iff.mp d51
   obtain ⟨d55, d56⟩ := Bool.or_eq_false_iff.mp d53
   have d52 := of_decide_eq_false d52
   exact y_pick_and ((ed d0 rfl rfl rfl).1 hg) (grd_part hg (ed d1 rfl rfl rfl)) rfl
 · intro A B E G H d0 d1 d2
   refine run_guard G rfl rfl (by decide) (ed d2 rfl rfl rfl) (fun hg => ?_)
   obtain ⟨d57, d58⟩ := Bool.or_eq_false_iff.mp hg
   obtain ⟨d59, d60⟩ := Bool.or_eq_false_iff.mp d57
   obtain ⟨d61, d62⟩ := Bool.or_eq_false_iff.mp d59
   have d58 := of_decide_eq_false d58
   exact y_move ((ed d0 rfl rfl rfl).1 hg)
 · intro A B E G H d0
   refine run_guard2 G rfl rfl (by decide) (ed d0 rfl rfl rfl) (fun hg => ?_)
   obtain ⟨d63, d64⟩ := Bool.and_eq_true_iff.mp hg.2
   obtain ⟨d65, d66⟩ := Bool.and_eq_true_iff.mp d63
   have d65 := of_decide_eq_true d65
   have d66 := of_decide_eq_true d66
   have d64 := of_decide_eq_true d64
   exact y_move (kp (H 0 rfl) E q1)
 · intro A B E G H d0 d1
   refine run_guard2 G rfl rfl (by decide) (ed d1 rfl rfl rfl) (fun hg => ?_)
   obtain ⟨d67, d68⟩ := Bool.and_eq_true_iff.mp hg.2
   obtain ⟨d69, d70⟩ := Bool.and_eq_true_iff.mp d67
   have d69 := of_decide_eq_true d69
   have d70 := of_decide_eq_true d70
   have d68 := of_decide_eq_true d68
   exact y_neq ((ed d0 rfl rfl rfl).1 hg) rfl
 · intro A B E G H d0 d1 d2
   refine run_guard G rfl rfl (by decide) (ed d2 rfl rfl rfl) (fun hg => ?_)
   obtain ⟨d71, d72⟩ := Bool.or_eq_false_iff.mp hg
   obtain ⟨d73, d74⟩ := Bool.or_eq_false_iff.mp d71
   obtain ⟨d75, d76⟩ := Bool.or_eq_false_iff.mp d73
   have d72 := of_decide_eq_false d72
   exact y_pick_and ((ed d0 rfl rfl rfl).1 hg) (grd_part hg (ed d1 rfl rfl rfl)) rfl
 · intro A B E G H d0 d1; exact rP (y_pick_or (ed d0 rfl rfl rfl) rfl (ed d1 rfl rfl rfl))
 · intro A B E G H d0 d1 d2 d3 d4 d5 d6 d7 d8 d9 d10 d11 d12 d13 d14 d15 d16 d17 d18 d19 d20 d21 d22 d23 d24 d25 d26 d27 d28 d29 d30 d31 d32 d33 d34 d35 d36 d37 d38 d39 d40 d41 d42 d43; exact rP (y_assign (ed d0 rfl rfl rfl))
 intro a2 s2 D2; have ok2 := D2.ok; have F2 := F1.step0 D2.stp; have q2 := D2.dn 42 rfl rfl; clear D2; refine tn ?_; refine wp_ret ?_
 exact ret1 rfl ok2 F2 (cvb (by (rfl)) q2)


set_option maxRecDepth 100000 in
theorem mName_fn (s : ByteArray) (σ : GW) (v0 : Value) (hv0 : Ty.has (Ty.val (Value.string s)) σ v0) (E : s.size ≤ 1099511627776) :
    FnC Try.prog 99 #[v0] σ (Ty.bool (nameL s)) := by
 refine fn_intro Try.func99 rfl Try.ntmps99 (Nat.le_of_ble_eq_true rfl) (fun s0 a0 hle F0 ok0 hargs => ?_)
 have p0 : At (Ty.val (Value.string s)) s0 a0 (.tmp 0) := by have e := hargs 0 _ rfl; show Ty.has _ _ _; rw [e]; exact Ty.up _ hle hv0
 clear hargs; refine wp_seq ?_
 refine rg a0 s0 [(Ty.bool false)] ok0 ⟨?_, trivial⟩ ?_
 · intro A B E G H; exact rP (y_assign rfl)
 intro a1 s1 D1; have ok1 := D1.ok; have F1 := F0.step0 D1.stp; have q1 := D1.kt p0 rfl; clear D1; refine tn ?_; refine wp_seq ?_
 refine rg a1 s1 [(Ty.int (0 : Int))] ok1 ⟨?_, trivial⟩ ?_
 · intro A B E G H; exact rP (y_assign rfl)
 intro a2 s2 D2; have ok2 := D2.ok; have F2 := F1.step0 D2.stp; have q2 := D2.kt q1 rfl; have q3 := D2.dn 0 rfl rfl; clear D2; refine tn ?_; refine wp_seq ?_; refine wp_seq ?_
 refine reg (a := a2) (σ := s2) rfl (fun i_ => List.getD [(Ty.pr (Ty.val (Value.string s))), (Pr.iter 7 s 0)] i_ Pr.any) ok2 rfl ⟨?_, ?_, trivial⟩ ?_
 · intro A B E G H; exact rP (y_move (kp (H 0 rfl) E q2))
 · intro A B E G H d0; exact rP (y_range 7 Try.underlying9 (ed d0 rfl rfl rfl))
 intro a3 s3 D3; have ok3 := D3.ok; have F3 := F2.step0 D3.stp; have q4 := D3.kt q2 rfl; have q5 := D3.kt q3 rfl
 have q6 : (Pr.iter 7 s 0).has s3 (a3.eval (.tmp 7)) := D3.done 1
 clear D3; refine tn ?_; refine wp_block ?_
 refine loop (fun n1 a4 w1 => ∃ (t1 : GW) (xs : List Nat) (p : Nat) (f : Nat), t1.w = w1 ∧ From s0 t1 ∧ Ok 35 a4 ∧ (Pr.iter 7 s p).has t1 (a4.eval (.tmp 7)) ∧ At (Ty.nat xs.length) t1 a4 (.tmp 3) ∧ At (Ty.val (Value.string s)) t1 a4 (.tmp 0) ∧ (∀ c ∈ xs, letterB ((c : Nat) : Int) = true) ∧ (xs ++ runesF s f p = runesL s) ∧ (s.size ≤ f + p) ∧ (p ≤ s.size + 4) ∧ (xs.length ≤ p) ∧ (xs.length = 0 ∨ 0 < s.size) ∧ n1 = s.size + 8 - p) (s.size + 8 - (0)) ?_ ?_
 ·
  exact ⟨s3, ([] : List Nat), 0, s.size, rfl, F3, ok3, (cvit (by omega) q6), (cvi (by (first | rfl | omega | (simp_all; done) | (simp_all; omega))) q5), q4, fun c hc => by simp at hc, rfl, by omega, by omega, by simp, .inl rfl, rfl⟩
 ·
  rintro n2 a5 w2 ⟨t2, xs, p, f, rfl, F4, ok4, q7, q8, q9, hall, heq, hf, hp, hx, hz, rfl⟩
  have hw := wid_pos s p
  have hw2 := wid_le s p
  refine wp_seq ?_
  refine reg2 (a := a5) (σ := t2) rfl 0 (fun i_ => List.getD [] i_ Pr.any) ok4 rfl (by decide) rfl trivial ?_
  intro a6 s4 D4; have ok5 := D4.ok; have F5 := F4.step0 D4.stp; have q10 := (Pr.iter 7 s p).up D4.stp q7
  have q11 : a6.eval (.tmp 7) = a5.eval (.tmp 7) := D4.same 7 rfl
  have q12 := D4.kt q8 rfl; have q13 := D4.kt q9 rfl; clear D4
  refine tail_step (m := 7) (R := (fun v τ => (Ty.nxt (decide (p < s.size)) p (run1 s p)).has τ v ∧ Iter τ 7 (a5.eval (.tmp 7)) s (stepTo s p))) rfl rfl (by decide) ok5 (m_next (by decide) q10 q11) (fun a7 s5 hs1 ok6 r1 sm1 => ?_)
  have F6 := F5.step hs1 (by decide)
  have q14 : (Pr.iter 7 s (stepTo s p)).has s5 (a5.eval (.tmp 7)) := (r1).2
  have q15 := (sm1 7 (by decide)).trans q11
  have q16 : At (Ty.nat xs.length) s5 a7 (.tmp 3) := kpm hs1 (by decide) (sm1 3 (by decide)) q12
  have q17 : At (Ty.val (Value.string s)) s5 a7 (.tmp 0) := kpm hs1 (by decide) (sm1 0 (by decide)) q13
  have q18 : At (Ty.nxt (decide (p < s.size)) p (run1 s p)) s5 a7 (.tmp 8) := (r1).1
  refine tail_step (m := 0) (R := (fun v τ => Pr.has (Ty.pr (Ty.bool (decide (p < s.size)))) τ v)) rfl rfl (by decide) ok6 (Yld.toM (y_ext_n0 q18)) (fun a8 s6 hs2 ok7 r2 sm2 => ?_)
  have F7 := F6.step hs2 (by decide); have q19 := Iter.keep q14 hs2 (by decide) (.inl rfl); have q20 := (sm2 7 (by decide)).trans q15
  have q21 : At (Ty.nat xs.length) s6 a8 (.tmp 3) := kpm hs2 (by decide) (sm2 3 (by decide)) q16
  have q22 : At (Ty.val (Value.string s)) s6 a8 (.tmp 0) := kpm hs2 (by decide) (sm2 0 (by decide)) q17
  have q23 : At (Ty.nxt (decide (p < s.size)) p (run1 s p)) s6 a8 (.tmp 8) := kpm hs2 (by decide) (sm2 8 (by decide)) q18
  have q24 : At (Ty.bool (decide (p < s.size))) s6 a8 (.tmp 9) := r2
  refine wpList_nil ?_
  have q25 : (Pr.iter 7 s (stepTo s p)).has s6 (a8.eval (.tmp 7)) := al q20 q19
  refine tn ?_; refine wp_seq ?_
  refine cond_p (p := (p < s.size)) q24 (fun c1 => ?_) (fun c1 => ?_)
  ·
   refine wp_skip ?_; refine tn ?_; refine wp_block ?_; refine wp_seq ?_
   refine rg a8 s6 [(Ty.val (Value.int .i32 ((run1 s p : Nat) : Int))), (Ty.val (Value.int .i32 ((run1 s p : Nat) : Int)))] ok7 ⟨?_, ?_, trivial⟩ ?_
   · intro A B E G H; exact rP (y_ext_n2 (kp (H 8 rfl) E q23) (decide_eq_true (by omega)))
   · intro A B E G H d0 d1; exact rP (y_assign (ed d0 rfl rfl rfl))
   intro a9 s7 D5; have ok8 := D5.ok; have F8 := F7.step0 D5.stp
   have q26 : (Pr.iter 7 s (stepTo s p)).has s7 (a9.eval (.tmp 7)) := D5.ko q25 rfl
   have q27 := D5.kt q21 rfl; have q28 := D5.kt q22 rfl; have q29 := D5.dn 1 rfl rfl; clear D5; refine tn ?_; refine wp_seq ?_; refine wp_seq ?_
   refine rg a9 s7 [(Ty.val (Value.int .i32 ((run1 s p : Nat) : Int))), (Ty.bool (letterB (((run1 s p : Nat) : Int)))), (Ty.bool (!(letterB (((run1 s p : Nat) : Int)))))] ok8 ⟨?_, ?_, ?_, trivial⟩ ?_
   · intro A B E G H; exact rP (y_move (kp (H 5 rfl) E q29))
   · intro A B E G H d0; exact rP (y_call #[A.eval (.tmp 11)] Try.func117 rfl rfl (by simp only [List.map_toArray, List.map_cons, List.map_nil]) (letter_fn (((run1 s p : Nat) : Int)) _ _ (ed d0 rfl rfl rfl) ))
   · intro A B E G H d0; exact rP (y_not (ed d0 rfl rfl rfl))
   intro a10 s8 D6; have ok9 := D6.ok; have F9 := F8.step0 D6.stp
   have q30 : (Pr.iter 7 s (stepTo s p)).has s8 (a10.eval (.tmp 7)) := D6.ko q26 rfl
   have q31 := D6.kt q27 rfl; have q32 := D6.kt q28 rfl; have q33 := D6.dn 2 rfl rfl; clear D6; refine tn ?_
   refine cond_t q33 (fun c2 => ?_) (fun c2 => ?_)
   ·
    have hlet : letterB (run1 s p : Nat) = false := (by simpa using c2)
    refine wp_seq ?_
    refine rg a10 s8 [(Ty.bool false)] ok9 ⟨?_, trivial⟩ ?_
    · intro A B E G H; exact rP (y_assign rfl)
    intro a11 s9 D7; have ok10 := D7.ok; have F10 := F9.step0 D7.stp; have q34 := D7.dn 0 rfl rfl; clear D7; refine tn ?_; refine wp_ret ?_; refine tr ?_; refine br ?_; refine tr ?_; refine br ?_; refine tr ?_
    exact ret1 rfl ok10 F10 (cvb (by (exact (nameL_no heq (by omega) (by omega) hlet).symm)) q34)
   ·
    have hlet : letterB (run1 s p : Nat) = true := (by simpa using c2)
    refine wp_skip ?_; refine tn ?_
    refine rg a10 s8 [(Ty.nat xs.length), (Ty.int (((xs.length : Nat) : Int) + (1 : Int))), (Ty.int (((xs.length : Nat) : Int) + (1 : Int)))] ok9 ⟨?_, ?_, ?_, trivial⟩ ?_
    · intro A B E G H; exact rP (y_move (kp (H 3 rfl) E q31))
    · intro A B E G H d0; exact rP (y_add (ed d0 rfl rfl rfl) rfl (w64 (by omega) (by omega)))
    · intro A B E G H d0 d1 d2; exact rP (y_assign (ed d0 rfl rfl rfl))
    intro a12 s10 D8; have ok11 := D8.ok; have F11 := F9.step0 D8.stp
    have q35 : (Pr.iter 7 s (stepTo s p)).has s10 (a12.eval (.tmp 7)) := D8.ko q30 rfl
    have q36 := D8.kt q32 rfl; have q37 := D8.dn 2 rfl rfl; clear D8; refine bn ?_
    exact tn ⟨s.size + 8 - ((p + wid s p)), by omega, s10, (xs ++ [run1 s p]), (p + wid s p), (f - 1), rfl, F11, ok11, (cvit (by unfold stepTo; rw [if_pos (by omega)]) q35), (cvi (by (simp)) q37), q36, fun c hc => by (rcases List.mem_append.1 hc with h | h; exact hall c h; simp at h; subst h; exact hlet), runesF_step heq (by omega) (by omega), by omega, by omega, by simp; omega, .inr (by omega), rfl⟩
  ·
   refine wp_exit ?_; refine tx ?_; refine tx ?_; refine bx ?_; refine tn ?_; refine wp_seq ?_
   refine rg a8 s6 [(Ty.nat xs.length), (Ty.bool (decide ((1 : Int) ≤ ((xs.length : Nat) : Int)))), (Ty.bool (decide ((1 : Int) ≤ ((xs.length : Nat) : Int)))), (Ty.grd ((decide ((1 : Int) ≤ ((xs.length : Nat) : Int))) = true) (Ty.nat xs.length)), (Ty.grd ((decide ((1 : Int) ≤ ((xs.length : Nat) : Int))) = true) (Ty.bool (decide (((xs.length : Nat) : Int) ≤ (20 : Int))))), (Ty.bool ((decide ((1 : Int) ≤ ((xs.length : Nat) : Int))) && (decide (((xs.length : Nat) : Int) ≤ (20 : Int))))), (Ty.bool ((decide ((1 : Int) ≤ ((xs.length : Nat) : Int))) && (decide (((xs.length : Nat) : Int) ≤ (20 : Int))))), (Ty.grd (((decide ((1 : Int) ≤ ((xs.length : Nat) : Int))) && (decide (((xs.length : Nat) : Int) ≤ (20 : Int)))) = true) (Ty.val (Value.string s))), (Ty.grd (((decide ((1 : Int) ≤ ((xs.length : Nat) : Int))) && (decide (((xs.length : Nat) : Int) ≤ (20 : Int)))) = true) (Ty.val (Value.int .u8 (((s.get! ((0 : Int)).toNat).toNat : Nat) : Int)))), (Ty.grd (((decide ((1 : Int) ≤ ((xs.length : Nat) : Int))) && (decide (((xs.length : Nat) : Int) ≤ (20 : Int)))) = true) (Ty.bool (decide ((((s.get! ((0 : Int)).toNat).toNat : Nat) : Int) ≠ (32 : Int))))), (Ty.bool (((decide ((1 : Int) ≤ ((xs.length : Nat) : Int))) && (decide (((xs.length : Nat) : Int) ≤ (20 : Int)))) && (decide ((((s.get! ((0 : Int)).toNat).toNat : Nat) : Int) ≠ (32 : Int))))), (Ty.bool (((decide ((1 : Int) ≤ ((xs.length : Nat) : Int))) && (decide (((xs.length : Nat) : Int) ≤ (20 : Int)))) && (decide ((((s.get! ((0 : Int)).toNat).toNat : Nat) : Int) ≠ (32 : Int))))), (Ty.grd ((((decide ((1 : Int) ≤ ((xs.length : Nat) : Int))) && (decide (((xs.length : Nat) : Int) ≤ (20 : Int)))) && (decide ((((s.get! ((0 : Int)).toNat).toNat : Nat) : Int) ≠ (32 : Int)))) = true) (Ty.val (Value.string s))), (Ty.grd ((((decide ((1 : Int) ≤ ((xs.length : Nat) : Int))) && (decide (((xs.length : Nat) : Int) ≤ (20 : Int)))) && (decide ((((s.get! ((0 : Int)).toNat).toNat : Nat) : Int) ≠ (32 : Int)))) = true) (Ty.val (Value.string s))), (Ty.grd ((((decide ((1 : Int) ≤ ((xs.length : Nat) : Int))) && (decide (((xs.length : Nat) : Int) ≤ (20 : Int)))) && (decide ((((s.get! ((0 : Int)).toNat).toNat : Nat) : Int) ≠ (32 : Int)))) = true) (Ty.nat (ByteArray.size s))), (Ty.grd ((((decide ((1 : Int) ≤ ((xs.length : Nat) : Int))) && (decide (((xs.length : Nat) : Int) ≤ (20 : Int)))) && (decide ((((s.get! ((0 : Int)).toNat).toNat : Nat) : Int) ≠ (32 : Int)))) = true) (Ty.int ((((ByteArray.size s) : Nat) : Int) - (1 : Int)))), (Ty.grd ((((decide ((1 : Int) ≤ ((xs.length : Nat) : Int))) && (decide (((xs.length : Nat) : Int) ≤ (20 : Int)))) && (decide ((((s.get! ((0 : Int)).toNat).toNat : Nat) : Int) ≠ (32 : Int)))) = true) (Ty.val (Value.int .u8 (((s.get! (((((ByteArray.size s) : Nat) : Int) - (1 : Int))).toNat).toNat : Nat) : Int)))), (Ty.grd ((((decide ((1 : Int) ≤ ((xs.length : Nat) : Int))) && (decide (((xs.length : Nat) : Int) ≤ (20 : Int)))) && (decide ((((s.get! ((0 : Int)).toNat).toNat : Nat) : Int) ≠ (32 : Int)))) = true) (Ty.bool (decide ((((s.get! (((((ByteArray.size s) : Nat) : Int) - (1 : Int))).toNat).toNat : Nat) : Int) ≠ (32 : Int))))), (Ty.bool ((((decide ((1 : Int) ≤ ((xs.length : Nat) : Int))) && (decide (((xs.length : Nat) : Int) ≤ (20 : Int)))) && (decide ((((s.get! ((0 : Int)).toNat).toNat : Nat) : Int) ≠ (32 : Int)))) && (decide ((((s.get! (((((ByteArray.size s) : Nat) : Int) - (1 : Int))).toNat).toNat : Nat) : Int) ≠ (32 : Int))))), (Ty.bool ((((decide ((1 : Int) ≤ ((xs.length : Nat) : Int))) && (decide (((xs.length : Nat) : Int) ≤ (20 : Int)))) && (decide ((((s.get! ((0 : Int)).toNat).toNat : Nat) : Int) ≠ (32 : Int)))) && (decide ((((s.get! (((((ByteArray.size s) : Nat) : Int) - (1 : Int))).toNat).toNat : Nat) : Int) ≠ (32 : Int)))))] ok7 ⟨?_, ?_, ?_, ?_, ?_, ?_, ?_, ?_, ?_, ?_, ?_, ?_, ?_, ?_, ?_, ?_, ?_, ?_, ?_, ?_, trivial⟩ ?_
   · intro A B E G H; exact rP (y_move (kp (H 3 rfl) E q21))
   · intro A B E G H d0; exact rP (y_geq (ed d0 rfl rfl rfl) rfl)
   · intro A B E G H d0; exact rP (y_move (ed d0 rfl rfl rfl))
   · intro A B E G H d0
     refine run_guard G rfl rfl (by decide) (ed d0 rfl rfl rfl) (fun hg => ?_)
     have hp := of_decide_eq_true hg
     exact y_move (kp (H 3 rfl) E q21)
   · intro A B E G H d0 d1
     refine run_guard G rfl rfl (by decide) (ed d1 rfl rfl rfl) (fun hg => ?_)
     have hp := of_decide_eq_true hg
     exact y_leq ((ed d0 rfl rfl rfl).1 hg) rfl
   · intro A B E G H d0 d1; exact rP (y_pick_and (ed d0 rfl rfl rfl) (ed d1 rfl rfl rfl) rfl)
   · intro A B E G H d0 d1; exact rP (y_move (ed d0 rfl rfl rfl))
   · intro A B E G H d0
     refine run_guard G rfl rfl (by decide) (ed d0 rfl rfl rfl) (fun hg => ?_)
     obtain ⟨d1, d2⟩ := Bool.and_eq_true_iff.mp hg
     have d1 := of_decide_eq_true d1
     have d2 := of_decide_eq_true d2
     exact y_move (kp (H 0 rfl) E q22)
   · intro A B E G H d0 d1
     refine run_guard G rfl rfl (by decide) (ed d1 rfl rfl rfl) (fun hg => ?_)
     obtain ⟨d3, d4⟩ := Bool.and_eq_true_iff.mp hg
     have d3 := of_decide_eq_true d3
     have d4 := of_decide_eq_true d4
     exact y_sindex Try.underlying9 ((ed d0 rfl rfl rfl).1 hg) rfl (by omega) (by omega)
   · intro A B E G H d0 d1
     refine run_guard G rfl rfl (by decide) (ed d1 rfl rfl rfl) (fun hg => ?_)
     obtain ⟨d5, d6⟩ := Bool.and_eq_true_iff.mp hg
     have d5 := of_decide_eq_true d5
     have d6 := of_decide_eq_true d6
     exact y_neq ((ed d0 rfl rfl rfl).1 hg) rfl
   · intro A B E G H d0 d1; exact rP (y_pick_and (ed d0 rfl rfl rfl) (ed d1 rfl rfl rfl) rfl)
   · intro A B E G H d0 d1; exact rP (y_move (ed d0 rfl rfl rfl))
   · intro A B E G H d0
     refine run_guard G rfl rfl (by decide) (ed d0 rfl rfl rfl) (fun hg => ?_)
     obtain ⟨d7, d8⟩ := Bool.and_eq_true_iff.mp hg
     obtain ⟨d9, d10⟩ := Bool.and_eq_true_iff.mp d7
     have d9 := of_decide_eq_true d9
     have d10 := of_decide_eq_true d10
     have d8 := of_decide_eq_true d8
     exact y_move (kp (H 0 rfl) E q22)
   · intro A B E G H d0
     refine run_guard G rfl rfl (by decide) (ed d0 rfl rfl rfl) (fun hg => ?_)
     obtain ⟨d11, d12⟩ := Bool.and_eq_true_iff.mp hg
     obtain ⟨d13, d14⟩ := Bool.and_eq_true_iff.mp d11
     have d13 := of_decide_eq_true d13
     have d14 := of_decide_eq_true d14
     have d12 := of_decide_eq_true d12
     exact y_move (kp (H 0 rfl) E q22)
   · intro A B E G H d0 d1
     refine run_guard G rfl rfl (by decide) (ed d1 rfl rfl rfl) (fun hg => ?_)
     obtain ⟨d15, d16⟩ := Bool.and_eq_true_iff.mp hg
     obtain ⟨d17, d18⟩ := Bool.and_eq_true_iff.mp d15
     have d17 := of_decide_eq_true d17
     have d18 := of_decide_eq_true d18
     have d16 := of_decide_eq_true d16
     exact y_len_str Try.underlying9 ((ed d0 rfl rfl rfl).1 hg)
   · intro A B E G H d0 d1
     refine run_guard G rfl rfl (by decide) (ed d1 rfl rfl rfl) (fun hg => ?_)
     obtain ⟨d19, d20⟩ := Bool.and_eq_true_iff.mp hg
     obtain ⟨d21, d22⟩ := Bool.and_eq_true_iff.mp d19
     have d21 := of_decide_eq_true d21
     have d22 := of_decide_eq_true d22
     have d20 := of_decide_eq_true d20
     exact y_sub ((ed d0 rfl rfl rfl).1 hg) rfl (w64 (by omega) (by omega))
   · intro A B E G H d0 d1 d2
     refine run_guard G rfl rfl (by decide) (ed d2 rfl rfl rfl) (fun hg => ?_)
     obtain ⟨d23, d24⟩ := Bool.and_eq_true_iff.mp hg
     obtain ⟨d25, d26⟩ := Bool.and_eq_true_iff.mp d23
     have d25 := of_decide_eq_true d25
     have d26 := of_decide_eq_true d26
     have d24 := of_decide_eq_true d24
     exact y_sindex Try.underlying9 ((ed d0 rfl rfl rfl).1 hg) ((ed d1 rfl rfl rfl).1 hg) (by omega) (by omega)
   · intro A B E G H d0 d1
     refine run_guard G rfl rfl (by decide) (ed d1 rfl rfl rfl) (fun hg => ?_)
     obtain ⟨d27, d28⟩ := Bool.and_eq_true_iff.mp hg
     obtain ⟨d29, d30⟩ := Bool.and_eq_true_iff.mp d27
     have d29 := of_decide_eq_true d29
     have d30 := of_decide_eq_true d30
     have d28 := of_decide_eq_true d28
     exact y_neq ((ed d0 rfl rfl rfl).1 hg) rfl
   · intro A B E G H d0 d1; exact rP (y_pick_and (ed d0 rfl rfl rfl) (ed d1 rfl rfl rfl) rfl)
   · intro A B E G H d0 d1 d2 d3 d4 d5 d6 d7 d8 d9 d10 d11 d12 d13 d14 d15 d16 d17 d18 d19 d20; exact rP (y_assign (ed d0 rfl rfl rfl))
   intro a13 s11 D9; have ok12 := D9.ok; have F12 := F7.step0 D9.stp; have q38 := D9.dn 19 rfl rfl; clear D9; refine tn ?_; refine wp_ret ?_
   exact ret1 rfl ok12 F12 (cvb (by (rw [runesF_end (by omega), List.append_nil] at heq; rw [nameL_all (by rw [← heq]; exact hall), heq]; simp)) q38)


set_option maxRecDepth 100000 in
theorem pCheck_fn (n : Int) (l : List Int) (σ : GW) (v0 v1 : Value) (hv0 : Ty.has (Ty.int n) σ v0) (hv1 : Ty.has (Ty.lst Ty.int l) σ v1) (hn : -9223372036854775808 ≤ n ∧ n ≤ 9223372036854775807) :
    FnC Try.prog 79 #[v0, v1] σ (Ty.int (chgMay n l)) := by
 refine fn_intro Try.func79 rfl Try.ntmps79 (Nat.le_of_ble_eq_true rfl) (fun s0 a0 hle F0 ok0 hargs => ?_)
 have p0 : At (Ty.int n) s0 a0 (.tmp 0) := by have e := hargs 0 _ rfl; show Ty.has _ _ _; rw [e]; exact Ty.up _ hle hv0
 have p1 : At (Ty.lst Ty.int l) s0 a0 (.tmp 1) := by have e := hargs 1 _ rfl; show Ty.has _ _ _; rw [e]; exact Ty.up _ hle hv1
 have b1 := sl_le p1
 clear hargs; refine wp_seq ?_
 refine rg a0 s0 [(Ty.int (0 : Int))] ok0 ⟨?_, trivial⟩ ?_
 · intro A B E G H; exact rP (y_assign rfl)
 intro a1 s1 D1; have ok1 := D1.ok; have F1 := F0.step0 D1.stp; have q1 := D1.kt p0 rfl; have q2 := D1.kt p1 rfl; clear D1; refine tn ?_; refine wp_seq ?_; refine wp_seq ?_
 refine rg a1 s1 [(Ty.int n), (Ty.bool (decide (n < (1 : Int)))), (Ty.bool (decide (n < (1 : Int)))), (Ty.grd ((decide (n < (1 : Int))) = false) (Ty.int n)), (Ty.grd ((decide (n < (1 : Int))) = false) (Ty.bool (decide ((12 : Int) < n)))), (Ty.bool ((decide (n < (1 : Int))) || (decide ((12 : Int) < n))))] ok1 ⟨?_, ?_, ?_, ?_, ?_, ?_, trivial⟩ ?_
 · intro A B E G H; exact rP (y_move (kp (H 0 rfl) E q1))
 · intro A B E G H d0; exact rP (y_lss (ed d0 rfl rfl rfl) rfl)
 · intro A B E G H d0; exact rP (y_move (ed d0 rfl rfl rfl))
 · intro A B E G H d0
   refine run_guard G rfl rfl (by decide) (ed d0 rfl rfl rfl) (fun hg => ?_)
   have hp := of_decide_eq_false hg
   exact y_move (kp (H 0 rfl) E q1)
 · intro A B E G H d0 d1
   refine run_guard G rfl rfl (by decide) (ed d1 rfl rfl rfl) (fun hg => ?_)
   have hp := of_decide_eq_false hg
   exact y_gtr ((ed d0 rfl rfl rfl).1 hg) rfl
 · intro A B E G H d0 d1; exact rP (y_pick_or (ed d0 rfl rfl rfl) rfl (ed d1 rfl rfl rfl))
 intro a2 s2 D2; have ok2 := D2.ok; have F2 := F1.step0 D2.stp; have q3 := D2.kt q1 rfl; have q4 := D2.kt q2 rfl; have q5 := D2.dn 5 rfl rfl; clear D2; refine tn ?_
 refine cond_t q5 (fun c1 => ?_) (fun c1 => ?_)
 ·
  simp only [Bool.or_eq_true, decide_eq_true_eq] at c1
  refine wp_seq ?_
  refine rg a2 s2 [(Ty.int (1 : Int))] ok2 ⟨?_, trivial⟩ ?_
  · intro A B E G H; exact rP (y_assign rfl)
  intro a3 s3 D3; have ok3 := D3.ok; have F3 := F2.step0 D3.stp; have q6 := D3.dn 0 rfl rfl; clear D3; refine tn ?_; refine wp_ret ?_; refine tr ?_
  exact ret1 rfl ok3 F3 (cvi (by (exact (chgMay_cnt (by omega)).symm)) q6)
 ·
  obtain ⟨d1, d2⟩ := Bool.or_eq_false_iff.mp c1
  replace d1 := of_decide_eq_false d1
  replace d2 := of_decide_eq_false d2
  refine wp_skip ?_; refine tn ?_; refine wp_seq ?_
  refine rg a2 s2 [(Ty.int (0 : Int))] ok2 ⟨?_, trivial⟩ ?_
  · intro A B E G H; exact rP (y_assign rfl)
  intro a4 s4 D4; have ok4 := D4.ok; have F4 := F2.step0 D4.stp; have q7 := D4.kt q3 rfl; have q8 := D4.kt q4 rfl; have q9 := D4.dn 0 rfl rfl; clear D4; refine tn ?_; refine wp_seq ?_; refine wp_seq ?_
  refine rg a4 s4 [(Ty.lst Ty.int l), (Ty.nat (List.length l)), (Ty.int (0 : Int))] ok4 ⟨?_, ?_, ?_, trivial⟩ ?_
  · intro A B E G H; exact rP (y_move (kp (H 1 rfl) E q8))
  · intro A B E G H d0; exact rP (y_len Try.underlying23 (ed d0 rfl rfl rfl))
  · intro A B E G H; exact rP (y_move rfl)
  intro a5 s5 D5; have ok5 := D5.ok; have F5 := F4.step0 D5.stp; have q10 := D5.kt q7 rfl; have q11 := D5.kt q9 rfl; have q12 := D5.dn 0 rfl rfl; have q13 := D5.dn 1 rfl rfl; have q14 := D5.dn 2 rfl rfl; clear D5; refine tn ?_; refine wp_block ?_
  refine loop (fun n1 a6 w1 => ∃ (t1 : GW) (k : Nat) (z : Int), t1.w = w1 ∧ From s0 t1 ∧ Ok 42 a6 ∧ At (Ty.nat k) t1 a6 (.tmp 16) ∧ At (Ty.int z) t1 a6 (.tmp 5) ∧ At (Ty.int n) t1 a6 (.tmp 0) ∧ At (Ty.lst Ty.int l) t1 a6 (.tmp 14) ∧ At (Ty.nat (List.length l)) t1 a6 (.tmp 15) ∧ (k ≤ l.length) ∧ (scanTo n l k = some z) ∧ (0 ≤ z ∧ z ≤ n) ∧ n1 = l.length - k) (l.length - (0)) ?_ ?_
  ·
   exact ⟨s5, 0, 0, rfl, F5, ok5, (cvi (by (first | rfl | omega | (simp_all; done) | (simp_all; omega))) q14), (cvi (by (first | rfl | omega | (simp_all; done) | (simp_all; omega))) q11), q10, q12, q13, by omega, rfl, by omega, rfl⟩
  ·
   rintro n2 a7 w2 ⟨t2, k, z, rfl, F6, ok6, q15, q16, q17, q18, q19, hk, E, hz, rfl⟩
   refine wp_seq ?_
   refine reg (a := a7) (σ := t2) rfl (fun i_ => List.getD [(Ty.pr (Ty.bool (decide (((k : Nat) : Int) < (((List.length l) : Nat) : Int)))))] i_ Pr.any) ok6 rfl ⟨?_, trivial⟩ ?_
   · intro A B E G H; exact rP (y_lss (kp (H 16 rfl) E q15) (kp (H 15 rfl) E q19))
   intro a8 s6 D6; have ok7 := D6.ok; have F7 := F6.step0 D6.stp; have q20 := D6.kt q15 rfl; have q21 := D6.kt q16 rfl; have q22 := D6.kt q17 rfl; have q23 := D6.kt q18 rfl; have q24 := D6.kt q19 rfl; have q25 := D6.dn 0 rfl rfl; clear D6; refine tn ?_; refine wp_seq ?_
   refine cond_p (p := (((k : Nat) : Int) < (((List.length l) : Nat) : Int))) q25 (fun c2 => ?_) (fun c2 => ?_)
   ·
    refine wp_skip ?_; refine tn ?_; refine wp_seq ?_; refine wp_block ?_; refine wp_seq ?_
    refine rg a8 s6 [(Ty.ref [(Ty.int (l.getD k 0))]), (Ty.int (l.getD k 0)), (Ty.int (l.getD k 0))] ok7 ⟨?_, ?_, ?_, trivial⟩ ?_
    · intro A B E G H; exact rP (y_index1 Try.underlying23 Try.inf3 (kp (H 14 rfl) E q23) (kp (H 16 rfl) E q20) (by omega) (lst_get Ty.int l 0 k (by omega)))
    · intro A B E G H d0; exact rP (y_load Try.underlying3 rfl (ed d0 rfl rfl rfl) rfl)
    · intro A B E G H d0 d1 d2; exact rP (y_assign (ed d0 rfl rfl rfl))
    intro a9 s7 D7; have ok8 := D7.ok; have F8 := F7.step0 D7.stp; have q26 := D7.kt q20 rfl; have q27 := D7.kt q21 rfl; have q28 := D7.kt q22 rfl; have q29 := D7.kt q23 rfl; have q30 := D7.kt q24 rfl; have q31 := D7.dn 2 rfl rfl; clear D7; refine tn ?_; refine wp_seq ?_; refine wp_seq ?_
    refine rg a9 s7 [(Ty.int (l.getD k 0)), (Ty.int z), (Ty.bool (decide ((l.getD k 0) ≤ z))), (Ty.bool (decide ((l.getD k 0) ≤ z))), (Ty.grd ((decide ((l.getD k 0) ≤ z)) = false) (Ty.int (l.getD k 0))), (Ty.grd ((decide ((l.getD k 0) ≤ z)) = false) (Ty.int n)), (Ty.grd ((decide ((l.getD k 0) ≤ z)) = false) (Ty.bool (decide (n < (l.getD k 0))))), (Ty.bool ((decide ((l.getD k 0) ≤ z)) || (decide (n < (l.getD k 0))))), (Ty.bool ((decide ((l.getD k 0) ≤ z)) || (decide (n < (l.getD k 0))))), (Ty.grd (((decide ((l.getD k 0) ≤ z)) || (decide (n < (l.getD k 0)))) = false) (Ty.int (l.getD k 0))), (Ty.grd (((decide ((l.getD k 0) ≤ z)) || (decide (n < (l.getD k 0)))) = false) (Ty.int z)), (Ty.grd (((decide ((l.getD k 0) ≤ z)) || (decide (n < (l.getD k 0)))) = false) (Ty.int ((l.getD k 0) - z))), (Ty.grd (((decide ((l.getD k 0) ≤ z)) || (decide (n < (l.getD k 0)))) = false) (Ty.nat ((((l.getD k 0) - z)).toNat % 2))), (Ty.grd (((decide ((l.getD k 0) ≤ z)) || (decide (n < (l.getD k 0)))) = false) (Ty.bool (decide (((((((l.getD k 0) - z)).toNat % 2) : Nat) : Int) = (0 : Int))))), (Ty.bool (((decide ((l.getD k 0) ≤ z)) || (decide (n < (l.getD k 0)))) || (decide (((((((l.getD k 0) - z)).toNat % 2) : Nat) : Int) = (0 : Int)))))] ok8 ⟨?_, ?_, ?_, ?_, ?_, ?_, ?_, ?_, ?_, ?_, ?_, ?_, ?_, ?_, ?_, trivial⟩ ?_
    · intro A B E G H; exact rP (y_move (kp (H 7 rfl) E q31))
    · intro A B E G H; exact rP (y_move (kp (H 5 rfl) E q27))
    · intro A B E G H d0 d1; exact rP (y_leq (ed d0 rfl rfl rfl) (ed d1 rfl rfl rfl))
    · intro A B E G H d0; exact rP (y_move (ed d0 rfl rfl rfl))
    · intro A B E G H d0
      refine run_guard G rfl rfl (by decide) (ed d0 rfl rfl rfl) (fun hg => ?_)
      have hp := of_decide_eq_false hg
      exact y_move (kp (H 7 rfl) E q31)
    · intro A B E G H d0
      refine run_guard G rfl rfl (by decide) (ed d0 rfl rfl rfl) (fun hg => ?_)
      have hp := of_decide_eq_false hg
      exact y_move (kp (H 0 rfl) E q28)
    · intro A B E G H d0 d1 d2
      refine run_guard G rfl rfl (by decide) (ed d2 rfl rfl rfl) (fun hg => ?_)
      have hp := of_decide_eq_false hg
      exact y_gtr ((ed d0 rfl rfl rfl).1 hg) ((ed d1 rfl rfl rfl).1 hg)
    · intro A B E G H d0 d1; exact rP (y_pick_or (ed d0 rfl rfl rfl) rfl (ed d1 rfl rfl rfl))
    · intro A B E G H d0 d1; exact rP (y_move (ed d0 rfl rfl rfl))
    · intro A B E G H d0
      refine run_guard G rfl rfl (by decide) (ed d0 rfl rfl rfl) (fun hg => ?_)
      obtain ⟨d3, d4⟩ := Bool.or_eq_false_iff.mp hg
      have d3 := of_decide_eq_false d3
      have d4 := of_decide_eq_false d4
      exact y_move (kp (H 7 rfl) E q31)
    · intro A B E G H d0
      refine run_guard G rfl rfl (by decide) (ed d0 rfl rfl rfl) (fun hg => ?_)
      obtain ⟨d5, d6⟩ := Bool.or_eq_false_iff.mp hg
      have d5 := of_decide_eq_false d5
      have d6 := of_decide_eq_false d6
      exact y_move (kp (H 5 rfl) E q27)
    · intro A B E G H d0 d1 d2
      refine run_guard G rfl rfl (by decide) (ed d2 rfl rfl rfl) (fun hg => ?_)
      obtain ⟨d7, d8⟩ := Bool.or_eq_false_iff.mp hg
      have d7 := of_decide_eq_false d7
      have d8 := of_decide_eq_false d8
      exact y_sub ((ed d0 rfl rfl rfl).1 hg) ((ed d1 rfl rfl rfl).1 hg) (w64 (by omega) (by omega))
    · intro A B E G H d0 d1
      refine run_guard G rfl rfl (by decide) (ed d1 rfl rfl rfl) (fun hg => ?_)
      obtain ⟨d9, d10⟩ := Bool.or_eq_false_iff.mp hg
      have d9 := of_decide_eq_false d9
      have d10 := of_decide_eq_false d10
      exact y_remN (toN (σ := B) ((ed d0 rfl rfl rfl).1 hg) (by omega)) (toN (σ := B) rfl (by omega)) (by omega)
    · intro A B E G H d0 d1
      refine run_guard G rfl rfl (by decide) (ed d1 rfl rfl rfl) (fun hg => ?_)
      obtain ⟨d11, d12⟩ := Bool.or_eq_false_iff.mp hg
      have d11 := of_decide_eq_false d11
      have d12 := of_decide_eq_false d12
      exact y_eql ((ed d0 rfl rfl rfl).1 hg) rfl
    · intro A B E G H d0 d1; exact rP (y_pick_or (ed d0 rfl rfl rfl) rfl (ed d1 rfl rfl rfl))
    intro a10 s8 D8; have ok9 := D8.ok; have F9 := F8.step0 D8.stp; have q32 := D8.kt q26 rfl; have q33 := D8.kt q28 rfl; have q34 := D8.kt q29 rfl; have q35 := D8.kt q30 rfl; have q36 := D8.kt q31 rfl; have q37 := D8.dn 14 rfl rfl; clear D8; refine tn ?_
    refine cond_t q37 (fun c3 => ?_) (fun c3 => ?_)
    ·
     simp only [Bool.or_eq_true, decide_eq_true_eq] at c3
     refine wp_seq ?_
     refine rg a10 s8 [(Ty.int (6 : Int))] ok9 ⟨?_, trivial⟩ ?_
     · intro A B E G H; exact rP (y_assign rfl)
     intro a11 s9 D9; have ok10 := D9.ok; have F10 := F9.step0 D9.stp; have q38 := D9.dn 0 rfl rfl; clear D9; refine tn ?_; refine wp_ret ?_; refine tr ?_; refine br ?_; refine tr ?_; refine tr ?_; refine br ?_; refine tr ?_
     exact ret1 rfl ok10 F10 (cvi (by (exact (chgMay_scan (by omega) E (by omega) (by omega)).symm)) q38)
    ·
     obtain ⟨d13, d14⟩ := Bool.or_eq_false_iff.mp c3
     obtain ⟨d15, d16⟩ := Bool.or_eq_false_iff.mp d13
     replace d15 := of_decide_eq_false d15
     replace d16 := of_decide_eq_false d16
     replace d14 := of_decide_eq_false d14
     refine wp_skip ?_; refine tn ?_
     refine rg a10 s8 [(Ty.int (l.getD k 0)), (Ty.int (l.getD k 0))] ok9 ⟨?_, ?_, trivial⟩ ?_
     · intro A B E G H; exact rP (y_move (kp (H 7 rfl) E q36))
     · intro A B E G H d0 d1; exact rP (y_assign (ed d0 rfl rfl rfl))
     intro a12 s10 D10; have ok11 := D10.ok; have F11 := F9.step0 D10.stp; have q39 := D10.kt q32 rfl; have q40 := D10.kt q33 rfl; have q41 := D10.kt q34 rfl; have q42 := D10.kt q35 rfl; have q43 := D10.dn 1 rfl rfl; clear D10; refine bn ?_; refine tn ?_
     refine rg a12 s10 [(Ty.int (((k : Nat) : Int) + (1 : Int))), (Ty.int (((k : Nat) : Int) + (1 : Int)))] ok11 ⟨?_, ?_, trivial⟩ ?_
     · intro A B E G H; exact rP (y_add (kp (H 16 rfl) E q39) rfl (w64 (by omega) (by omega)))
     · intro A B E G H d0; exact rP (y_move (ed d0 rfl rfl rfl))
     intro a13 s11 D11; have ok12 := D11.ok; have F12 := F11.step0 D11.stp; have q44 := D11.kt q40 rfl; have q45 := D11.kt q41 rfl; have q46 := D11.kt q42 rfl; have q47 := D11.kt q43 rfl; have q48 := D11.dn 1 rfl rfl; clear D11
     have d1_ := (of_decide_eq_false (Bool.or_eq_false_iff.1 c3).2)
     have d2_ := of_decide_eq_false (Bool.or_eq_false_iff.1 (Bool.or_eq_false_iff.1 c3).1).1
     have d3_ := of_decide_eq_false (Bool.or_eq_false_iff.1 (Bool.or_eq_false_iff.1 c3).1).2
     exact tn ⟨l.length - ((k+1)), by omega, s11, (k+1), (l.getD k 0), rfl, F12, ok12, (cvi (by (first | rfl | omega | (simp_all; done) | (simp_all; omega))) q48), (cvi (by (first | rfl | omega | (simp_all; done) | (simp_all; omega))) q47), q44, q45, q46, by omega, scan_step E (by omega) (by omega) (by omega) d1_, by omega, rfl⟩
   ·
    have hk2 : k = l.length := (by omega)
    refine wp_exit ?_; refine tx ?_; refine tx ?_; refine bx ?_; refine tn ?_; refine wp_seq ?_; refine wp_seq ?_
    refine rg a8 s6 [(Ty.int n), (Ty.int z), (Ty.int (n - z)), (Ty.nat (((n - z)).toNat % 2)), (Ty.bool (decide ((((((n - z)).toNat % 2) : Nat) : Int) = (1 : Int))))] ok7 ⟨?_, ?_, ?_, ?_, ?_, trivial⟩ ?_
    · intro A B E G H; exact rP (y_move (kp (H 0 rfl) E q22))
    · intro A B E G H; exact rP (y_move (kp (H 5 rfl) E q21))
    · intro A B E G H d0 d1; exact rP (y_sub (ed d0 rfl rfl rfl) (ed d1 rfl rfl rfl) (w64 (by omega) (by omega)))
    · intro A B E G H d0; exact rP (y_remN (toN (σ := B) (ed d0 rfl rfl rfl) (by omega)) (toN (σ := B) rfl (by omega)) (by omega))
    · intro A B E G H d0; exact rP (y_eql (ed d0 rfl rfl rfl) rfl)
    intro a14 s12 D12; have ok13 := D12.ok; have F13 := F7.step0 D12.stp; have q49 := D12.dn 4 rfl rfl; clear D12; refine tn ?_
    refine cond_p (p := ((((((n - z)).toNat % 2) : Nat) : Int) = (1 : Int))) q49 (fun c4 => ?_) (fun c4 => ?_)
    ·
     refine wp_seq ?_
     refine rg a14 s12 [(Ty.int (6 : Int))] ok13 ⟨?_, trivial⟩ ?_
     · intro A B E G H; exact rP (y_assign rfl)
     intro a15 s13 D13; have ok14 := D13.ok; have F14 := F13.step0 D13.stp; have q50 := D13.dn 0 rfl rfl; clear D13; refine tn ?_; refine wp_ret ?_; refine tr ?_
     exact ret1 rfl ok14 F14 (cvi (by (exact (chgMay_odd (by omega) (by rw [← hk2]; exact E) (by omega)).symm)) q50)
    ·
     refine wp_skip ?_; refine tn ?_; refine wp_seq ?_
     refine rg a14 s12 [(Ty.int (0 : Int))] ok13 ⟨?_, trivial⟩ ?_
     · intro A B E G H; exact rP (y_assign rfl)
     intro a16 s14 D14; have ok15 := D14.ok; have F15 := F13.step0 D14.stp; have q51 := D14.dn 0 rfl rfl; clear D14; refine tn ?_; refine wp_ret ?_
     exact ret1 rfl ok15 F15 (cvi (by (exact (chgMay_ok (by omega) (by rw [← hk2]; exact E) (by omega)).symm)) q51)


end Go.Proofs.Ytbilebfnanlgfaa
