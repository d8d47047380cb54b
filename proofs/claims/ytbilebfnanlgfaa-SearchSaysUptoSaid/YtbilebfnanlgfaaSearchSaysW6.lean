/- The functions that the law SearchSays reaches, each by its contract. Part 6. -/
import Derived.Test.YtbilebfnanlgfaaSearchSaysW5
namespace Go.Proofs.Ytbilebfnanlgfaa
open Go.KL

set_option maxHeartbeats 4000000 in
set_option maxRecDepth 100000 in
theorem rCallsMay_fn (nm : ByteArray) (n : Int) (l : List (List Int)) (cs : List BCall) (σ : GW)  (v0 v1 : Value) (hv0 : Ty.has (Ty.agg [(Ty.val (Value.string nm)), (Ty.int n), (Ty.lst Ty.ints l)]) σ v0) (hv1 : Ty.has (Ty.lstc 2 callC cs) σ v1)  (hnm : nm.size ≤ 1099511627776) (hn : -9223372036854775808 ≤ n ∧ n ≤ 9223372036854775807) :
    FnC Try.prog 51 #[v0, v1] σ (Ty.int (callsMay nm n l cs)) := by
 refine fn_intro0 Try.func51 rfl Try.ntmps51 (Nat.le_of_ble_eq_true rfl) (fun s0 a0 hle F0 ok0 hargs => ?_)
 have p0 : At (Ty.agg [(Ty.val (Value.string nm)), (Ty.int n), (Ty.lst Ty.ints l)]) s0 a0 (.tmp 0) := by have e := hargs 0 _ rfl; show Ty.has _ _ _; rw [e]; exact Ty.up _ hle hv0
 have p1 : At (Ty.lstc 2 callC cs) s0 a0 (.tmp 1) := by have e := hargs 1 _ rfl; show Ty.has _ _ _; rw [e]; exact Ty.up _ hle hv1
 have b1 := sl_le p1
 clear hargs
 refine wp_seq ?_
 refine reg (a := a0) (σ := s0) rfl (fun i_ => List.getD [(Ty.pr (Ty.ref [(Ty.val (Value.string nm)), (Ty.int n), (Ty.lst Ty.ints l)])), (Ty.pr (Ty.int (0 : Int)))] i_ Pr.any) ok0 rfl ⟨?_, ?_, trivial⟩ ?_
 · intro ax tx hs okx sm
   exact run_plain rfl (y_boxagg (kp (sm 0 rfl) hs p0))
 · intro ax tx hs okx sm
   exact run_plain rfl (y_assign rfl)
 intro a1 s1 D1
 have ok1 := D1.ok
 have F1 := F0.step0 D1.stp
 have q1 := D1.kt p1 rfl
 have q2 : At (Ty.ref [(Ty.val (Value.string nm)), (Ty.int n), (Ty.lst Ty.ints l)]) s1 a1 (.tmp 2) := D1.done 0
 clear D1
 refine tn ?_
 refine wp_seq ?_
 refine reg (a := a1) (σ := s1) rfl (fun i_ => List.getD [(Ty.pr (Ty.agg [(Ty.val (Value.string nm)), (Ty.int n), (Ty.lst Ty.ints l)])), (Ty.pr (Ty.int (methMay nm n l))), (Ty.pr (Ty.int (methMay nm n l)))] i_ Pr.any) ok1 rfl ⟨?_, ?_, ?_, trivial⟩ ?_
 · intro ax tx hs okx sm
   exact run_plain rfl (y_loadagg Try.underlying31 Try.inf31 (kp (sm 2 rfl) hs q2))
 · intro ax tx hs okx sm d0
   have e0 := ed d0 rfl rfl rfl
   exact run_plain rfl (y_call #[ax.eval (.tmp 11)] Try.func26 rfl rfl (by simp only [List.map_toArray, List.map_cons, List.map_nil]) (rMethodMay_fn (nm) (n) (l) _ _ e0 (by first | omega | assumption) (by first | omega | assumption)))
 · intro ax tx hs okx sm d0 d1 d2 d3
   have e1 := ed d0 rfl rfl rfl
   exact run_plain rfl (y_assign e1)
 intro a2 s2 D2
 have ok2 := D2.ok
 have F2 := F1.step0 D2.stp
 have q3 := D2.kt q1 rfl
 have q4 := D2.kt q2 rfl
 have q5 : At (Ty.int (methMay nm n l)) s2 a2 (.tmp 5) := D2.done 2
 clear D2
 refine tn ?_
 refine wp_seq ?_
 refine wp_seq ?_
 refine reg (a := a2) (σ := s2) rfl (fun i_ => List.getD [(Ty.pr (Ty.int (methMay nm n l))), (Ty.pr (Ty.bool (decide ((methMay nm n l) ≠ (0 : Int)))))] i_ Pr.any) ok2 rfl ⟨?_, ?_, trivial⟩ ?_
 · intro ax tx hs okx sm
   exact run_plain rfl (y_move (kp (sm 5 rfl) hs q5))
 · intro ax tx hs okx sm d0
   have e0 := ed d0 rfl rfl rfl
   exact run_plain rfl (y_neq e0 rfl)
 intro a3 s3 D3
 have ok3 := D3.ok
 have F3 := F2.step0 D3.stp
 have q6 := D3.kt q3 rfl
 have q7 := D3.kt q4 rfl
 have q8 := D3.kt q5 rfl
 have q9 : At (Ty.bool (decide ((methMay nm n l) ≠ (0 : Int)))) s3 a3 (.tmp 14) := D3.done 1
 clear D3
 refine tn ?_
 refine cond_p (p := ((methMay nm n l) ≠ (0 : Int))) q9 (fun c1 => ?_) (fun c1 => ?_)
 ·
  have hm := callsMay_meth (cs := cs) c1
  refine wp_seq ?_
  refine reg (a := a3) (σ := s3) rfl (fun i_ => List.getD [(Ty.pr (Ty.int (methMay nm n l))), (Ty.pr (Ty.int (methMay nm n l)))] i_ Pr.any) ok3 rfl ⟨?_, ?_, trivial⟩ ?_
  · intro ax tx hs okx sm
    exact run_plain rfl (y_move (kp (sm 5 rfl) hs q8))
  · intro ax tx hs okx sm d0 d1
    have e0 := ed d0 rfl rfl rfl
    exact run_plain rfl (y_assign e0)
  intro a4 s4 D4
  have ok4 := D4.ok
  have F4 := F3.step0 D4.stp
  have q10 : At (Ty.int (methMay nm n l)) s4 a4 (.tmp 4) := D4.done 1
  clear D4
  refine tn ?_
  refine wp_ret ?_
  refine tr ?_
  exact retL1 rfl ok4 F4 (cvi (by (exact hm.symm)) q10)
 ·
  refine wp_skip ?_
  refine tn ?_
  refine wp_seq ?_
  refine wp_seq ?_
  refine reg (a := a3) (σ := s3) rfl (fun i_ => List.getD [(Ty.pr (Ty.lstc 2 callC cs)), (Ty.pr (Ty.nat (List.length cs))), (Ty.pr (Ty.bool (decide ((((List.length cs) : Nat) : Int) < (1 : Int))))), (Ty.pr (Ty.bool (decide ((((List.length cs) : Nat) : Int) < (1 : Int))))), (Ty.pr (Ty.grd ((decide ((((List.length cs) : Nat) : Int) < (1 : Int))) = false) (Ty.lstc 2 callC cs))), (Ty.pr (Ty.grd ((decide ((((List.length cs) : Nat) : Int) < (1 : Int))) = false) (Ty.nat (List.length cs)))), (Ty.pr (Ty.grd ((decide ((((List.length cs) : Nat) : Int) < (1 : Int))) = false) (Ty.bool (decide ((8 : Int) < (((List.length cs) : Nat) : Int)))))), (Ty.pr (Ty.bool ((decide ((((List.length cs) : Nat) : Int) < (1 : Int))) || (decide ((8 : Int) < (((List.length cs) : Nat) : Int))))))] i_ Pr.any) ok3 rfl ⟨?_, ?_, ?_, ?_, ?_, ?_, ?_, ?_, trivial⟩ ?_
  · intro ax tx hs okx sm
    exact run_plain rfl (y_move (kp (sm 1 rfl) hs q6))
  · intro ax tx hs okx sm d0
    have e0 := ed d0 rfl rfl rfl
    exact run_plain rfl (y_len Try.underlying22 e0)
  · intro ax tx hs okx sm d0
    have e1 := ed d0 rfl rfl rfl
    exact run_plain rfl (y_lss e1 rfl)
  · intro ax tx hs okx sm d0
    have e2 := ed d0 rfl rfl rfl
    exact run_plain rfl (y_move e2)
  · intro ax tx hs okx sm d0
    have e3 := ed d0 rfl rfl rfl
    refine run_guard (T := (Ty.lstc 2 callC cs)) okx rfl rfl (by decide) e3 (fun hg => ?_)
    have hp := of_decide_eq_false hg
    exact y_move (kp (sm 1 rfl) hs q6)
  · intro ax tx hs okx sm d0 d1
    have e4 := ed d0 rfl rfl rfl
    have e3 := ed d1 rfl rfl rfl
    refine run_guard (T := (Ty.nat (List.length cs))) okx rfl rfl (by decide) e3 (fun hg => ?_)
    have hp := of_decide_eq_false hg
    exact y_len Try.underlying22 (e4.1 hg)
  · intro ax tx hs okx sm d0 d1
    have e5 := ed d0 rfl rfl rfl
    have e3 := ed d1 rfl rfl rfl
    refine run_guard (T := (Ty.bool (decide ((8 : Int) < (((List.length cs) : Nat) : Int))))) okx rfl rfl (by decide) e3 (fun hg => ?_)
    have hp := of_decide_eq_false hg
    exact y_gtr (e5.1 hg) rfl
  · intro ax tx hs okx sm d0 d1
    have e3 := ed d0 rfl rfl rfl
    have e6 := ed d1 rfl rfl rfl
    exact run_plain rfl (y_pick_or e3 rfl e6)
  intro a5 s5 D5
  have ok5 := D5.ok
  have F5 := F3.step0 D5.stp
  have q11 := D5.kt q6 rfl
  have q12 := D5.kt q7 rfl
  have q13 : At (Ty.bool ((decide ((((List.length cs) : Nat) : Int) < (1 : Int))) || (decide ((8 : Int) < (((List.length cs) : Nat) : Int))))) s5 a5 (.tmp 23) := D5.done 7
  clear D5
  refine tn ?_
  refine cond_t q13 (fun c2 => ?_) (fun c2 => ?_)
  ·
   simp only [Bool.or_eq_true, decide_eq_true_eq] at c2; have hm := callsMay_cnt (cs := cs) c1 (by omega)
   refine wp_seq ?_
   refine reg (a := a5) (σ := s5) rfl (fun i_ => List.getD [(Ty.pr (Ty.int (1 : Int)))] i_ Pr.any) ok5 rfl ⟨?_, trivial⟩ ?_
   · intro ax tx hs okx sm
     exact run_plain rfl (y_assign rfl)
   intro a6 s6 D6
   have ok6 := D6.ok
   have F6 := F5.step0 D6.stp
   have q14 : At (Ty.int (1 : Int)) s6 a6 (.tmp 4) := D6.done 0
   clear D6
   refine tn ?_
   refine wp_ret ?_
   refine tr ?_
   exact retL1 rfl ok6 F6 (cvi (by (exact hm.symm)) q14)
  ·
   obtain ⟨d1, d2⟩ := Bool.or_eq_false_iff.mp c2
   replace d1 := of_decide_eq_false d1
   replace d2 := of_decide_eq_false d2
   have hx2 : ¬ (cs.length < 1 ∨ 8 < cs.length) := (by simp only [Bool.or_eq_false_iff, decide_eq_false_iff_not] at c2; omega); have hm := callsMay_all c1 hx2; have hl2 := (methMay_ok' (Classical.not_not.1 c1)).1.l2
   refine wp_skip ?_
   refine tn ?_
   refine wp_seq ?_
   refine wp_seq ?_
   refine reg (a := a5) (σ := s5) rfl (fun i_ => List.getD [(Ty.pr (Ty.int (0 : Int)))] i_ Pr.any) ok5 rfl ⟨?_, trivial⟩ ?_
   · intro ax tx hs okx sm
     exact run_plain rfl (y_assign rfl)
   intro a7 s7 D7
   have ok7 := D7.ok
   have F7 := F5.step0 D7.stp
   have q15 := D7.kt q11 rfl
   have q16 := D7.kt q12 rfl
   have q17 : At (Ty.int (0 : Int)) s7 a7 (.tmp 6) := D7.done 0
   clear D7
   refine tn ?_
   refine wp_block ?_
   refine loop (fun n1 a8 w1 => ∃ (t1 : GW) (i : Nat), t1.w = w1 ∧ FromL [] s0 t1 ∧ Ok 88 a8 ∧ At (Ty.nat i) t1 a8 (.tmp 6) ∧ At (Ty.lstc 2 callC cs) t1 a8 (.tmp 1) ∧ At (Ty.ref [(Ty.val (Value.string nm)), (Ty.int n), (Ty.lst Ty.ints l)]) t1 a8 (.tmp 2) ∧ (i ≤ cs.length) ∧ (callsTo n l.length ((cs.take i).map (·.1)) (cs.drop i) = callsTo n l.length [] cs) ∧ n1 = cs.length - i) (cs.length - (0)) ?_ ?_
   ·
    exact ⟨s7, 0, rfl, F7, ok7, (cvi (by (first | rfl | omega | (simp_all; done) | (simp_all; omega))) q17), q15, q16, by omega, rfl, rfl⟩
   ·
    rintro n2 a9 w2 ⟨t2, i, rfl, F8, ok8, q18, q19, q20, hi, hc, rfl⟩
    refine wp_seq ?_
    refine wp_seq ?_
    refine reg (a := a9) (σ := t2) rfl (fun i_ => List.getD [(Ty.pr (Ty.nat i)), (Ty.pr (Ty.lstc 2 callC cs)), (Ty.pr (Ty.nat (List.length cs))), (Ty.pr (Ty.bool (decide (((i : Nat) : Int) < (((List.length cs) : Nat) : Int)))))] i_ Pr.any) ok8 rfl ⟨?_, ?_, ?_, ?_, trivial⟩ ?_
    · intro ax tx hs okx sm
      exact run_plain rfl (y_move (kp (sm 6 rfl) hs q18))
    · intro ax tx hs okx sm
      exact run_plain rfl (y_move (kp (sm 1 rfl) hs q19))
    · intro ax tx hs okx sm d0
      have e1 := ed d0 rfl rfl rfl
      exact run_plain rfl (y_len Try.underlying22 e1)
    · intro ax tx hs okx sm d0 d1
      have e0 := ed d0 rfl rfl rfl
      have e2 := ed d1 rfl rfl rfl
      exact run_plain rfl (y_lss e0 e2)
    intro a10 s8 D8
    have ok9 := D8.ok
    have F9 := F8.step0 D8.stp
    have q21 := D8.kt q18 rfl
    have q22 := D8.kt q19 rfl
    have q23 := D8.kt q20 rfl
    have q24 : At (Ty.bool (decide (((i : Nat) : Int) < (((List.length cs) : Nat) : Int)))) s8 a10 (.tmp 27) := D8.done 3
    clear D8
    refine tn ?_
    refine cond_p (p := (((i : Nat) : Int) < (((List.length cs) : Nat) : Int))) q24 (fun c3 => ?_) (fun c3 => ?_)
    ·
     refine wp_skip ?_
     refine tn ?_
     refine wp_seq ?_
     refine wp_block ?_
     refine wp_seq ?_
     refine reg (a := a10) (σ := s8) rfl (fun i_ => List.getD [(Ty.pr (Ty.lstc 2 callC cs)), (Ty.pr (Ty.nat i)), (Ty.pr (Ty.ref [(Ty.val (Value.int .i32 ((cs.getD i D0)).1)), (Ty.lst Ty.ints ((cs.getD i D0)).2)])), (Ty.pr (Ty.ref [(Ty.val (Value.int .i32 ((cs.getD i D0)).1)), (Ty.lst Ty.ints ((cs.getD i D0)).2)])), (Ty.pr (Ty.val (Value.int .i32 ((cs.getD i D0)).1))), (Ty.pr (Ty.bool (signMay (((cs.getD i D0)).1)))), (Ty.pr (Ty.bool (signMay (((cs.getD i D0)).1))))] i_ Pr.any) ok9 rfl ⟨?_, ?_, ?_, ?_, ?_, ?_, ?_, trivial⟩ ?_
     · intro ax tx hs okx sm
       exact run_plain rfl (y_move (kp (sm 1 rfl) hs q22))
     · intro ax tx hs okx sm
       exact run_plain rfl (y_move (kp (sm 6 rfl) hs q21))
     · intro ax tx hs okx sm d0 d1
       have e0 := ed d0 rfl rfl rfl
       have e1 := ed d1 rfl rfl rfl
       exact run_plain rfl (y_indexc (i := ((i : Nat) : Int)) D0 Try.underlying22 Try.inf56 e0 e1 (by omega) (by omega) (by decide) (fun _ => rfl))
     · intro ax tx hs okx sm d0
       have e2 := ed d0 rfl rfl rfl
       exact run_plain rfl (y_field Try.fld56_0 Try.inf21 (by decide) e2 rfl)
     · intro ax tx hs okx sm d0
       have e3 := ed d0 rfl rfl rfl
       exact run_plain rfl (y_load Try.underlying21 rfl e3 rfl)
     · intro ax tx hs okx sm d0
       have e4 := ed d0 rfl rfl rfl
       exact run_plain rfl (y_call #[ax.eval (.tmp 34)] Try.func86 rfl rfl (by simp only [List.map_toArray, List.map_cons, List.map_nil]) (rSignMay_fn (((cs.getD i D0)).1) _ _ (cvi (σ := tx) (by omega) e4) ))
     · intro ax tx hs okx sm d0 d1 d2 d3 d4 d5 d6 d7
       have e5 := ed d0 rfl rfl rfl
       exact run_plain rfl (y_assign e5)
     intro a11 s9 D9
     have ok10 := D9.ok
     have F10 := F9.step0 D9.stp
     have q25 := D9.kt q21 rfl
     have q26 := D9.kt q22 rfl
     have q27 := D9.kt q23 rfl
     have q28 : At (Ty.bool (signMay (((cs.getD i D0)).1))) s9 a11 (.tmp 7) := D9.done 6
     clear D9
     refine tn ?_
     refine wp_seq ?_
     refine wp_seq ?_
     refine reg (a := a11) (σ := s9) rfl (fun i_ => List.getD [(Ty.pr (Ty.bool (signMay (((cs.getD i D0)).1)))), (Ty.pr (Ty.bool (!(signMay (((cs.getD i D0)).1)))))] i_ Pr.any) ok10 rfl ⟨?_, ?_, trivial⟩ ?_
     · intro ax tx hs okx sm
       exact run_plain rfl (y_move (kp (sm 7 rfl) hs q28))
     · intro ax tx hs okx sm d0
       have e0 := ed d0 rfl rfl rfl
       exact run_plain rfl (y_not e0)
     intro a12 s10 D10
     have ok11 := D10.ok
     have F11 := F10.step0 D10.stp
     have q29 := D10.kt q25 rfl
     have q30 := D10.kt q26 rfl
     have q31 := D10.kt q27 rfl
     have q32 : At (Ty.bool (!(signMay (((cs.getD i D0)).1)))) s10 a12 (.tmp 37) := D10.done 1
     clear D10
     refine tn ?_
     refine cond_t q32 (fun c4 => ?_) (fun c4 => ?_)
     ·
      have hs4 : signMay (cs.getD i D0).1 = false := (by simpa using c4); have hv := calls_at hc (by omega) (step_sign hs4) (by decide)
      refine wp_seq ?_
      refine reg (a := a12) (σ := s10) rfl (fun i_ => List.getD [(Ty.pr (Ty.int (4 : Int)))] i_ Pr.any) ok11 rfl ⟨?_, trivial⟩ ?_
      · intro ax tx hs okx sm
        exact run_plain rfl (y_assign rfl)
      intro a13 s11 D11
      have ok12 := D11.ok
      have F12 := F11.step0 D11.stp
      have q33 : At (Ty.int (4 : Int)) s11 a13 (.tmp 4) := D11.done 0
      clear D11
      refine tn ?_
      refine wp_ret ?_
      refine tr ?_
      refine br ?_
      refine tr ?_
      refine tr ?_
      refine br ?_
      refine tr ?_
      exact retL1 rfl ok12 F12 (cvi (by (rw [hm]; exact hv.symm)) q33)
     ·
      have hs4 : signMay (cs.getD i D0).1 = true := (by simpa using c4)
      refine wp_skip ?_
      refine tn ?_
      refine wp_seq ?_
      refine wp_seq ?_
      refine reg (a := a12) (σ := s10) rfl (fun i_ => List.getD [(Ty.pr (Ty.int (0 : Int)))] i_ Pr.any) ok11 rfl ⟨?_, trivial⟩ ?_
      · intro ax tx hs okx sm
        exact run_plain rfl (y_assign rfl)
      intro a14 s12 D12
      have ok13 := D12.ok
      have F13 := F11.step0 D12.stp
      have q34 := D12.kt q29 rfl
      have q35 := D12.kt q30 rfl
      have q36 := D12.kt q31 rfl
      have q37 : At (Ty.int (0 : Int)) s12 a14 (.tmp 8) := D12.done 0
      clear D12
      refine tn ?_
      refine wp_block ?_
      refine loop (fun n3 a15 w3 => ∃ (t3 : GW) (k : Nat), t3.w = w3 ∧ FromL [] s0 t3 ∧ Ok 88 a15 ∧ At (Ty.nat k) t3 a15 (.tmp 8) ∧ At (Ty.nat i) t3 a15 (.tmp 6) ∧ At (Ty.lstc 2 callC cs) t3 a15 (.tmp 1) ∧ At (Ty.ref [(Ty.val (Value.string nm)), (Ty.int n), (Ty.lst Ty.ints l)]) t3 a15 (.tmp 2) ∧ (k ≤ i) ∧ (∀ j, j < k → (cs.getD j D0).1 ≠ (cs.getD i D0).1) ∧ n3 = i - k) (i - (0)) ?_ ?_
      ·
       exact ⟨s12, 0, rfl, F13, ok13, (cvi (by (first | rfl | omega | (simp_all; done) | (simp_all; omega))) q37), q34, q35, q36, by omega, fun j hj => absurd hj (Nat.not_lt_zero j), rfl⟩
      ·
       rintro n4 a16 w4 ⟨t4, k, rfl, F14, ok14, q38, q39, q40, q41, hk, hno, rfl⟩
       refine wp_seq ?_
       refine wp_seq ?_
       refine reg (a := a16) (σ := t4) rfl (fun i_ => List.getD [(Ty.pr (Ty.nat k)), (Ty.pr (Ty.nat i)), (Ty.pr (Ty.bool (decide (((k : Nat) : Int) < ((i : Nat) : Int)))))] i_ Pr.any) ok14 rfl ⟨?_, ?_, ?_, trivial⟩ ?_
       · intro ax tx hs okx sm
         exact run_plain rfl (y_move (kp (sm 8 rfl) hs q38))
       · intro ax tx hs okx sm
         exact run_plain rfl (y_move (kp (sm 6 rfl) hs q39))
       · intro ax tx hs okx sm d0 d1
         have e0 := ed d0 rfl rfl rfl
         have e1 := ed d1 rfl rfl rfl
         exact run_plain rfl (y_lss e0 e1)
       intro a17 s13 D13
       have ok15 := D13.ok
       have F15 := F14.step0 D13.stp
       have q42 := D13.kt q38 rfl
       have q43 := D13.kt q39 rfl
       have q44 := D13.kt q40 rfl
       have q45 := D13.kt q41 rfl
       have q46 : At (Ty.bool (decide (((k : Nat) : Int) < ((i : Nat) : Int)))) s13 a17 (.tmp 40) := D13.done 2
       clear D13
       refine tn ?_
       refine cond_p (p := (((k : Nat) : Int) < ((i : Nat) : Int))) q46 (fun c5 => ?_) (fun c5 => ?_)
       ·
        refine wp_skip ?_
        refine tn ?_
        refine wp_seq ?_
        refine wp_block ?_
        refine wp_seq ?_
        refine reg (a := a17) (σ := s13) rfl (fun i_ => List.getD [(Ty.pr (Ty.lstc 2 callC cs)), (Ty.pr (Ty.nat k)), (Ty.pr (Ty.ref [(Ty.val (Value.int .i32 ((cs.getD k D0)).1)), (Ty.lst Ty.ints ((cs.getD k D0)).2)])), (Ty.pr (Ty.ref [(Ty.val (Value.int .i32 ((cs.getD k D0)).1)), (Ty.lst Ty.ints ((cs.getD k D0)).2)])), (Ty.pr (Ty.val (Value.int .i32 ((cs.getD k D0)).1))), (Ty.pr (Ty.lstc 2 callC cs)), (Ty.pr (Ty.nat i)), (Ty.pr (Ty.ref [(Ty.val (Value.int .i32 ((cs.getD i D0)).1)), (Ty.lst Ty.ints ((cs.getD i D0)).2)])), (Ty.pr (Ty.ref [(Ty.val (Value.int .i32 ((cs.getD i D0)).1)), (Ty.lst Ty.ints ((cs.getD i D0)).2)])), (Ty.pr (Ty.val (Value.int .i32 ((cs.getD i D0)).1))), (Ty.pr (Ty.bool (decide (((cs.getD k D0)).1 = ((cs.getD i D0)).1))))] i_ Pr.any) ok15 rfl ⟨?_, ?_, ?_, ?_, ?_, ?_, ?_, ?_, ?_, ?_, ?_, trivial⟩ ?_
        · intro ax tx hs okx sm
          exact run_plain rfl (y_move (kp (sm 1 rfl) hs q44))
        · intro ax tx hs okx sm
          exact run_plain rfl (y_move (kp (sm 8 rfl) hs q42))
        · intro ax tx hs okx sm d0 d1
          have e0 := ed d0 rfl rfl rfl
          have e1 := ed d1 rfl rfl rfl
          exact run_plain rfl (y_indexc (i := ((k : Nat) : Int)) D0 Try.underlying22 Try.inf56 e0 e1 (by omega) (by omega) (by decide) (fun _ => rfl))
        · intro ax tx hs okx sm d0
          have e2 := ed d0 rfl rfl rfl
          exact run_plain rfl (y_field Try.fld56_0 Try.inf21 (by decide) e2 rfl)
        · intro ax tx hs okx sm d0
          have e3 := ed d0 rfl rfl rfl
          exact run_plain rfl (y_load Try.underlying21 rfl e3 rfl)
        · intro ax tx hs okx sm
          exact run_plain rfl (y_move (kp (sm 1 rfl) hs q44))
        · intro ax tx hs okx sm
          exact run_plain rfl (y_move (kp (sm 6 rfl) hs q43))
        · intro ax tx hs okx sm d0 d1
          have e5 := ed d0 rfl rfl rfl
          have e6 := ed d1 rfl rfl rfl
          exact run_plain rfl (y_indexc (i := ((i : Nat) : Int)) D0 Try.underlying22 Try.inf56 e5 e6 (by omega) (by omega) (by decide) (fun _ => rfl))
        · intro ax tx hs okx sm d0
          have e7 := ed d0 rfl rfl rfl
          exact run_plain rfl (y_field Try.fld56_0 Try.inf21 (by decide) e7 rfl)
        · intro ax tx hs okx sm d0
          have e8 := ed d0 rfl rfl rfl
          exact run_plain rfl (y_load Try.underlying21 rfl e8 rfl)
        · intro ax tx hs okx sm d0 d1
          have e4 := ed d0 rfl rfl rfl
          have e9 := ed d1 rfl rfl rfl
          exact run_plain rfl (y_eql e4 e9)
        intro a18 s14 D14
        have ok16 := D14.ok
        have F16 := F15.step0 D14.stp
        have q47 := D14.kt q42 rfl
        have q48 := D14.kt q43 rfl
        have q49 := D14.kt q44 rfl
        have q50 := D14.kt q45 rfl
        have q51 : At (Ty.bool (decide (((cs.getD k D0)).1 = ((cs.getD i D0)).1))) s14 a18 (.tmp 53) := D14.done 10
        clear D14
        refine tn ?_
        refine cond_p (p := (((cs.getD k D0)).1 = ((cs.getD i D0)).1)) q51 (fun c6 => ?_) (fun c6 => ?_)
        ·
         have hs5 : (cs.getD i D0).1 ∈ ((cs.take i).map (·.1)) := pre_in (by omega) (by omega) c6; have hv := calls_at hc (by omega) (step_dbl hs4 hs5) (by decide)
         refine wp_seq ?_
         refine reg (a := a18) (σ := s14) rfl (fun i_ => List.getD [(Ty.pr (Ty.int (8 : Int)))] i_ Pr.any) ok16 rfl ⟨?_, trivial⟩ ?_
         · intro ax tx hs okx sm
           exact run_plain rfl (y_assign rfl)
         intro a19 s15 D15
         have ok17 := D15.ok
         have F17 := F16.step0 D15.stp
         have q52 : At (Ty.int (8 : Int)) s15 a19 (.tmp 4) := D15.done 0
         clear D15
         refine tn ?_
         refine wp_ret ?_
         refine br ?_
         refine tr ?_
         refine tr ?_
         refine br ?_
         refine tr ?_
         refine br ?_
         refine tr ?_
         refine tr ?_
         refine br ?_
         refine tr ?_
         exact retL1 rfl ok17 F17 (cvi (by (rw [hm]; exact hv.symm)) q52)
        ·
         refine wp_skip ?_
         refine bn ?_
         refine tn ?_
         refine reg (a := a18) (σ := s14) rfl (fun i_ => List.getD [(Ty.pr (Ty.nat k)), (Ty.pr (Ty.nat (k + 1))), (Ty.pr (Ty.nat (k + 1)))] i_ Pr.any) ok16 rfl ⟨?_, ?_, ?_, trivial⟩ ?_
         · intro ax tx hs okx sm
           exact run_plain rfl (y_move (kp (sm 8 rfl) hs q47))
         · intro ax tx hs okx sm d0
           have e0 := ed d0 rfl rfl rfl
           exact run_plain rfl ((y_add e0 rfl (w64 (by omega) (by omega))).mono (fun τ _ h => cvi (σ := τ) (by first | omega | exact (Int.natCast_mul _ _).symm) h))
         · intro ax tx hs okx sm d0 d1 d2
           have e1 := ed d0 rfl rfl rfl
           exact run_plain rfl (y_assign e1)
         intro a20 s16 D16
         have ok18 := D16.ok
         have F18 := F16.step0 D16.stp
         have q53 := D16.kt q48 rfl
         have q54 := D16.kt q49 rfl
         have q55 := D16.kt q50 rfl
         have q56 : At (Ty.nat (k + 1)) s16 a20 (.tmp 8) := D16.done 2
         clear D16
         exact tn ⟨i - ((k+1)), by omega, s16, (k+1), rfl, F18, ok18, (cvi (by (first | rfl | omega | (simp_all; done) | (simp_all; omega))) q56), q53, q54, q55, by omega, fun j hj => by (by_cases e : j = k; subst e; assumption; exact hno j (by omega)), rfl⟩
       ·
        have hs5 : (cs.getD i D0).1 ∉ ((cs.take i).map (·.1)) := pre_out (fun j hj => hno j (by omega))
        refine wp_exit ?_
        refine tx ?_
        refine tx ?_
        refine bx ?_
        refine tn ?_
        refine wp_seq ?_
        refine wp_seq ?_
        refine reg (a := a17) (σ := s13) rfl (fun i_ => List.getD [(Ty.pr (Ty.lstc 2 callC cs)), (Ty.pr (Ty.nat i)), (Ty.pr (Ty.ref [(Ty.val (Value.int .i32 ((cs.getD i D0)).1)), (Ty.lst Ty.ints ((cs.getD i D0)).2)])), (Ty.pr (Ty.ref [(Ty.lst Ty.ints ((cs.getD i D0)).2)])), (Ty.pr (Ty.lst Ty.ints ((cs.getD i D0)).2)), (Ty.pr (Ty.nat (List.length ((cs.getD i D0)).2))), (Ty.pr (Ty.ref [(Ty.lst Ty.ints l)])), (Ty.pr (Ty.lst Ty.ints l)), (Ty.pr (Ty.nat (List.length l))), (Ty.pr (Ty.bool (decide ((((List.length l) : Nat) : Int) < (((List.length ((cs.getD i D0)).2) : Nat) : Int)))))] i_ Pr.any) ok15 rfl ⟨?_, ?_, ?_, ?_, ?_, ?_, ?_, ?_, ?_, ?_, trivial⟩ ?_
        · intro ax tx hs okx sm
          exact run_plain rfl (y_move (kp (sm 1 rfl) hs q44))
        · intro ax tx hs okx sm
          exact run_plain rfl (y_move (kp (sm 6 rfl) hs q43))
        · intro ax tx hs okx sm d0 d1
          have e0 := ed d0 rfl rfl rfl
          have e1 := ed d1 rfl rfl rfl
          exact run_plain rfl (y_indexc (i := ((i : Nat) : Int)) D0 Try.underlying22 Try.inf56 e0 e1 (by omega) (by omega) (by decide) (fun _ => rfl))
        · intro ax tx hs okx sm d0
          have e2 := ed d0 rfl rfl rfl
          exact run_plain rfl (y_field Try.fld56_1 Try.inf29 (by decide) e2 rfl)
        · intro ax tx hs okx sm d0
          have e3 := ed d0 rfl rfl rfl
          exact run_plain rfl (y_load Try.underlying29 rfl e3 rfl)
        · intro ax tx hs okx sm d0
          have e4 := ed d0 rfl rfl rfl
          exact run_plain rfl (y_len Try.underlying29 e4)
        · intro ax tx hs okx sm
          exact run_plain rfl (y_field Try.fld31_2 Try.inf29 (by decide) (kp (sm 2 rfl) hs q45) rfl)
        · intro ax tx hs okx sm d0
          have e6 := ed d0 rfl rfl rfl
          exact run_plain rfl (y_load Try.underlying29 rfl e6 rfl)
        · intro ax tx hs okx sm d0
          have e7 := ed d0 rfl rfl rfl
          exact run_plain rfl (y_len Try.underlying29 e7)
        · intro ax tx hs okx sm d0 d1
          have e5 := ed d0 rfl rfl rfl
          have e8 := ed d1 rfl rfl rfl
          exact run_plain rfl (y_gtr e5 e8)
        intro a21 s17 D17
        have ok19 := D17.ok
        have F19 := F15.step0 D17.stp
        have q57 := D17.kt q43 rfl
        have q58 := D17.kt q44 rfl
        have q59 := D17.kt q45 rfl
        have q60 : At (Ty.bool (decide ((((List.length l) : Nat) : Int) < (((List.length ((cs.getD i D0)).2) : Nat) : Int)))) s17 a21 (.tmp 63) := D17.done 9
        clear D17
        refine tn ?_
        refine cond_p (p := ((((List.length l) : Nat) : Int) < (((List.length ((cs.getD i D0)).2) : Nat) : Int))) q60 (fun c7 => ?_) (fun c7 => ?_)
        ·
         have hs6 : l.length < (cs.getD i D0).2.length := (by omega); have hv := calls_at hc (by omega) (step_long hs4 hs5 hs6) (by decide)
         refine wp_seq ?_
         refine reg (a := a21) (σ := s17) rfl (fun i_ => List.getD [(Ty.pr (Ty.int (1 : Int)))] i_ Pr.any) ok19 rfl ⟨?_, trivial⟩ ?_
         · intro ax tx hs okx sm
           exact run_plain rfl (y_assign rfl)
         intro a22 s18 D18
         have ok20 := D18.ok
         have F20 := F19.step0 D18.stp
         have q61 : At (Ty.int (1 : Int)) s18 a22 (.tmp 4) := D18.done 0
         clear D18
         refine tn ?_
         refine wp_ret ?_
         refine tr ?_
         refine br ?_
         refine tr ?_
         refine tr ?_
         refine br ?_
         refine tr ?_
         exact retL1 rfl ok20 F20 (cvi (by (rw [hm]; exact hv.symm)) q61)
        ·
         have hs6 : ¬ l.length < (cs.getD i D0).2.length := (by omega)
         refine wp_skip ?_
         refine tn ?_
         refine wp_seq ?_
         refine reg (a := a21) (σ := s17) rfl (fun i_ => List.getD [(Ty.pr (Ty.int (0 : Int)))] i_ Pr.any) ok19 rfl ⟨?_, trivial⟩ ?_
         · intro ax tx hs okx sm
           exact run_plain rfl (y_assign rfl)
         intro a23 s19 D19
         have ok21 := D19.ok
         have F21 := F19.step0 D19.stp
         have q62 := D19.kt q57 rfl
         have q63 := D19.kt q58 rfl
         have q64 := D19.kt q59 rfl
         have q65 : At (Ty.int (0 : Int)) s19 a23 (.tmp 9) := D19.done 0
         clear D19
         refine tn ?_
         refine wp_block ?_
         refine loop (fun n5 a24 w5 => ∃ (t5 : GW) (k : Nat), t5.w = w5 ∧ FromL [] s0 t5 ∧ Ok 88 a24 ∧ At (Ty.nat k) t5 a24 (.tmp 9) ∧ At (Ty.nat i) t5 a24 (.tmp 6) ∧ At (Ty.lstc 2 callC cs) t5 a24 (.tmp 1) ∧ At (Ty.ref [(Ty.val (Value.string nm)), (Ty.int n), (Ty.lst Ty.ints l)]) t5 a24 (.tmp 2) ∧ (k ≤ (cs.getD i D0).2.length) ∧ (allMay n ((cs.getD i D0).2.drop k) = allMay n (cs.getD i D0).2) ∧ n5 = (cs.getD i D0).2.length - k) ((cs.getD i D0).2.length - (0)) ?_ ?_
         ·
          exact ⟨s19, 0, rfl, F21, ok21, (cvi (by (first | rfl | omega | (simp_all; done) | (simp_all; omega))) q65), q62, q63, q64, by omega, rfl, rfl⟩
         ·
          rintro n6 a25 w6 ⟨t6, k, rfl, F22, ok22, q66, q67, q68, q69, hk, ha, rfl⟩
          refine wp_seq ?_
          refine wp_seq ?_
          refine reg (a := a25) (σ := t6) rfl (fun i_ => List.getD [(Ty.pr (Ty.nat k)), (Ty.pr (Ty.lstc 2 callC cs)), (Ty.pr (Ty.nat i)), (Ty.pr (Ty.ref [(Ty.val (Value.int .i32 ((cs.getD i D0)).1)), (Ty.lst Ty.ints ((cs.getD i D0)).2)])), (Ty.pr (Ty.ref [(Ty.lst Ty.ints ((cs.getD i D0)).2)])), (Ty.pr (Ty.lst Ty.ints ((cs.getD i D0)).2)), (Ty.pr (Ty.nat (List.length ((cs.getD i D0)).2))), (Ty.pr (Ty.bool (decide (((k : Nat) : Int) < (((List.length ((cs.getD i D0)).2) : Nat) : Int)))))] i_ Pr.any) ok22 rfl ⟨?_, ?_, ?_, ?_, ?_, ?_, ?_, ?_, trivial⟩ ?_
          · intro ax tx hs okx sm
            exact run_plain rfl (y_move (kp (sm 9 rfl) hs q66))
          · intro ax tx hs okx sm
            exact run_plain rfl (y_move (kp (sm 1 rfl) hs q68))
          · intro ax tx hs okx sm
            exact run_plain rfl (y_move (kp (sm 6 rfl) hs q67))
          · intro ax tx hs okx sm d0 d1
            have e1 := ed d0 rfl rfl rfl
            have e2 := ed d1 rfl rfl rfl
            exact run_plain rfl (y_indexc (i := ((i : Nat) : Int)) D0 Try.underlying22 Try.inf56 e1 e2 (by omega) (by omega) (by decide) (fun _ => rfl))
          · intro ax tx hs okx sm d0
            have e3 := ed d0 rfl rfl rfl
            exact run_plain rfl (y_field Try.fld56_1 Try.inf29 (by decide) e3 rfl)
          · intro ax tx hs okx sm d0
            have e4 := ed d0 rfl rfl rfl
            exact run_plain rfl (y_load Try.underlying29 rfl e4 rfl)
          · intro ax tx hs okx sm d0
            have e5 := ed d0 rfl rfl rfl
            exact run_plain rfl (y_len Try.underlying29 e5)
          · intro ax tx hs okx sm d0 d1
            have e0 := ed d0 rfl rfl rfl
            have e6 := ed d1 rfl rfl rfl
            exact run_plain rfl (y_lss e0 e6)
          intro a26 s20 D20
          have ok23 := D20.ok
          have F23 := F22.step0 D20.stp
          have q70 := D20.kt q66 rfl
          have q71 := D20.kt q67 rfl
          have q72 := D20.kt q68 rfl
          have q73 := D20.kt q69 rfl
          have q74 : At (Ty.bool (decide (((k : Nat) : Int) < (((List.length ((cs.getD i D0)).2) : Nat) : Int)))) s20 a26 (.tmp 71) := D20.done 7
          clear D20
          refine tn ?_
          refine cond_p (p := (((k : Nat) : Int) < (((List.length ((cs.getD i D0)).2) : Nat) : Int))) q74 (fun c8 => ?_) (fun c8 => ?_)
          ·
           refine wp_skip ?_
           refine tn ?_
           refine wp_seq ?_
           refine wp_block ?_
           refine wp_seq ?_
           refine reg (a := a26) (σ := s20) rfl (fun i_ => List.getD [(Ty.pr (Ty.ref [(Ty.int n), (Ty.lst Ty.ints l)])), (Ty.pr (Ty.int n)), (Ty.pr (Ty.lstc 2 callC cs)), (Ty.pr (Ty.nat i)), (Ty.pr (Ty.ref [(Ty.val (Value.int .i32 ((cs.getD i D0)).1)), (Ty.lst Ty.ints ((cs.getD i D0)).2)])), (Ty.pr (Ty.ref [(Ty.lst Ty.ints ((cs.getD i D0)).2)])), (Ty.pr (Ty.lst Ty.ints ((cs.getD i D0)).2)), (Ty.pr (Ty.nat k)), (Ty.pr (Ty.ref [(Ty.lst Ty.int (((cs.getD i D0)).2.getD k []))])), (Ty.pr (Ty.lst Ty.int (((cs.getD i D0)).2.getD k []))), (Ty.pr (Ty.int (chgMay n ((((cs.getD i D0)).2.getD k []))))), (Ty.pr (Ty.int (chgMay n ((((cs.getD i D0)).2.getD k [])))))] i_ Pr.any) ok23 rfl ⟨?_, ?_, ?_, ?_, ?_, ?_, ?_, ?_, ?_, ?_, ?_, ?_, trivial⟩ ?_
           · intro ax tx hs okx sm
             exact run_plain rfl (y_field Try.fld31_1 Try.inf3 (by decide) (kp (sm 2 rfl) hs q73) rfl)
           · intro ax tx hs okx sm d0
             have e0 := ed d0 rfl rfl rfl
             exact run_plain rfl (y_load Try.underlying3 rfl e0 rfl)
           · intro ax tx hs okx sm
             exact run_plain rfl (y_move (kp (sm 1 rfl) hs q72))
           · intro ax tx hs okx sm
             exact run_plain rfl (y_move (kp (sm 6 rfl) hs q71))
           · intro ax tx hs okx sm d0 d1
             have e2 := ed d0 rfl rfl rfl
             have e3 := ed d1 rfl rfl rfl
             exact run_plain rfl (y_indexc (i := ((i : Nat) : Int)) D0 Try.underlying22 Try.inf56 e2 e3 (by omega) (by omega) (by decide) (fun _ => rfl))
           · intro ax tx hs okx sm d0
             have e4 := ed d0 rfl rfl rfl
             exact run_plain rfl (y_field Try.fld56_1 Try.inf29 (by decide) e4 rfl)
           · intro ax tx hs okx sm d0
             have e5 := ed d0 rfl rfl rfl
             exact run_plain rfl (y_load Try.underlying29 rfl e5 rfl)
           · intro ax tx hs okx sm
             exact run_plain rfl (y_move (kp (sm 9 rfl) hs q70))
           · intro ax tx hs okx sm d0 d1
             have e6 := ed d0 rfl rfl rfl
             have e7 := ed d1 rfl rfl rfl
             exact run_plain rfl (y_index1 Try.underlying29 Try.inf23 e6 e7 (by omega) (lst_get Ty.ints ((cs.getD i D0)).2 [] k (by omega)))
           · intro ax tx hs okx sm d0
             have e8 := ed d0 rfl rfl rfl
             exact run_plain rfl (y_load Try.underlying23 rfl e8 rfl)
           · intro ax tx hs okx sm d0 d1
             have e1 := ed d0 rfl rfl rfl
             have e9 := ed d1 rfl rfl rfl
             exact run_plain rfl (y_call #[ax.eval (.tmp 75), ax.eval (.tmp 83)] Try.func62 rfl rfl (by simp only [List.map_toArray, List.map_cons, List.map_nil]) (rChangeMay_fn (n) ((((cs.getD i D0)).2.getD k [])) _ _ _ e1 e9 (by omega)))
           · intro ax tx hs okx sm d0 d1 d2 d3 d4 d5 d6 d7 d8 d9 d10 d11 d12
             have e10 := ed d0 rfl rfl rfl
             exact run_plain rfl (y_assign e10)
           intro a27 s21 D21
           have ok24 := D21.ok
           have F24 := F23.step0 D21.stp
           have q75 := D21.kt q70 rfl
           have q76 := D21.kt q71 rfl
           have q77 := D21.kt q72 rfl
           have q78 := D21.kt q73 rfl
           have q79 : At (Ty.int (chgMay n ((((cs.getD i D0)).2.getD k [])))) s21 a27 (.tmp 10) := D21.done 11
           clear D21
           refine tn ?_
           refine wp_seq ?_
           refine reg (a := a27) (σ := s21) rfl (fun i_ => List.getD [(Ty.pr (Ty.int (chgMay n ((((cs.getD i D0)).2.getD k []))))), (Ty.pr (Ty.bool (decide ((chgMay n ((((cs.getD i D0)).2.getD k []))) ≠ (0 : Int)))))] i_ Pr.any) ok24 rfl ⟨?_, ?_, trivial⟩ ?_
           · intro ax tx hs okx sm
             exact run_plain rfl (y_move (kp (sm 10 rfl) hs q79))
           · intro ax tx hs okx sm d0
             have e0 := ed d0 rfl rfl rfl
             exact run_plain rfl (y_neq e0 rfl)
           intro a28 s22 D22
           have ok25 := D22.ok
           have F25 := F24.step0 D22.stp
           have q80 := D22.kt q75 rfl
           have q81 := D22.kt q76 rfl
           have q82 := D22.kt q77 rfl
           have q83 := D22.kt q78 rfl
           have q84 := D22.kt q79 rfl
           have q85 : At (Ty.bool (decide ((chgMay n ((((cs.getD i D0)).2.getD k []))) ≠ (0 : Int)))) s22 a28 (.tmp 86) := D22.done 1
           clear D22
           refine tn ?_
           refine cond_p (p := ((chgMay n ((((cs.getD i D0)).2.getD k []))) ≠ (0 : Int))) q85 (fun c9 => ?_) (fun c9 => ?_)
           ·
            have hae := allMay_stop ha (by omega) c9; have hv := calls_at hc (by omega) ((step_all hs4 hs5 hs6).trans hae) c9
            refine wp_seq ?_
            refine reg (a := a28) (σ := s22) rfl (fun i_ => List.getD [(Ty.pr (Ty.int (chgMay n ((((cs.getD i D0)).2.getD k []))))), (Ty.pr (Ty.int (chgMay n ((((cs.getD i D0)).2.getD k [])))))] i_ Pr.any) ok25 rfl ⟨?_, ?_, trivial⟩ ?_
            · intro ax tx hs okx sm
              exact run_plain rfl (y_move (kp (sm 10 rfl) hs q84))
            · intro ax tx hs okx sm d0 d1
              have e0 := ed d0 rfl rfl rfl
              exact run_plain rfl (y_assign e0)
            intro a29 s23 D23
            have ok26 := D23.ok
            have F26 := F25.step0 D23.stp
            have q86 : At (Ty.int (chgMay n ((((cs.getD i D0)).2.getD k [])))) s23 a29 (.tmp 4) := D23.done 1
            clear D23
            refine tn ?_
            refine wp_ret ?_
            refine br ?_
            refine tr ?_
            refine tr ?_
            refine br ?_
            refine br ?_
            refine tr ?_
            refine tr ?_
            refine br ?_
            refine tr ?_
            exact retL1 rfl ok26 F26 (cvi (by (rw [hm]; exact hv.symm)) q86)
           ·
            refine wp_skip ?_
            refine bn ?_
            refine tn ?_
            refine reg (a := a28) (σ := s22) rfl (fun i_ => List.getD [(Ty.pr (Ty.nat k)), (Ty.pr (Ty.nat (k + 1))), (Ty.pr (Ty.nat (k + 1)))] i_ Pr.any) ok25 rfl ⟨?_, ?_, ?_, trivial⟩ ?_
            · intro ax tx hs okx sm
              exact run_plain rfl (y_move (kp (sm 9 rfl) hs q80))
            · intro ax tx hs okx sm d0
              have e0 := ed d0 rfl rfl rfl
              exact run_plain rfl ((y_add e0 rfl (w64 (by omega) (by omega))).mono (fun τ _ h => cvi (σ := τ) (by first | omega | exact (Int.natCast_mul _ _).symm) h))
            · intro ax tx hs okx sm d0 d1 d2
              have e1 := ed d0 rfl rfl rfl
              exact run_plain rfl (y_assign e1)
            intro a30 s24 D24
            have ok27 := D24.ok
            have F27 := F25.step0 D24.stp
            have q87 := D24.kt q81 rfl
            have q88 := D24.kt q82 rfl
            have q89 := D24.kt q83 rfl
            have q90 : At (Ty.nat (k + 1)) s24 a30 (.tmp 9) := D24.done 2
            clear D24
            exact tn ⟨(cs.getD i D0).2.length - ((k+1)), by omega, s24, (k+1), rfl, F27, ok27, (cvi (by (first | rfl | omega | (simp_all; done) | (simp_all; omega))) q90), q87, q88, q89, by omega, allMay_step ha (by omega) (by assumption), rfl⟩
          ·
           have ha0 := allMay_end ha (by omega)
           refine wp_exit ?_
           refine tx ?_
           refine tx ?_
           refine bx ?_
           refine bn ?_
           refine tn ?_
           refine reg (a := a26) (σ := s20) rfl (fun i_ => List.getD [(Ty.pr (Ty.nat i)), (Ty.pr (Ty.nat (i + 1))), (Ty.pr (Ty.nat (i + 1)))] i_ Pr.any) ok23 rfl ⟨?_, ?_, ?_, trivial⟩ ?_
           · intro ax tx hs okx sm
             exact run_plain rfl (y_move (kp (sm 6 rfl) hs q71))
           · intro ax tx hs okx sm d0
             have e0 := ed d0 rfl rfl rfl
             exact run_plain rfl ((y_add e0 rfl (w64 (by omega) (by omega))).mono (fun τ _ h => cvi (σ := τ) (by first | omega | exact (Int.natCast_mul _ _).symm) h))
           · intro ax tx hs okx sm d0 d1 d2
             have e1 := ed d0 rfl rfl rfl
             exact run_plain rfl (y_assign e1)
           intro a31 s25 D25
           have ok28 := D25.ok
           have F28 := F23.step0 D25.stp
           have q91 := D25.kt q72 rfl
           have q92 := D25.kt q73 rfl
           have q93 : At (Ty.nat (i + 1)) s25 a31 (.tmp 6) := D25.done 2
           clear D25
           exact tn ⟨cs.length - ((i+1)), by omega, s25, (i+1), rfl, F28, ok28, (cvi (by (first | rfl | omega | (simp_all; done) | (simp_all; omega))) q93), q91, q92, by omega, calls_step hc (by omega) (by rw [step_all hs4 hs5 hs6]; exact ha0), rfl⟩
    ·
     refine wp_exit ?_
     refine tx ?_
     refine tx ?_
     refine bx ?_
     refine tn ?_
     refine wp_seq ?_
     refine reg (a := a10) (σ := s8) rfl (fun i_ => List.getD [(Ty.pr (Ty.int (0 : Int)))] i_ Pr.any) ok9 rfl ⟨?_, trivial⟩ ?_
     · intro ax tx hs okx sm
       exact run_plain rfl (y_assign rfl)
     intro a32 s26 D26
     have ok29 := D26.ok
     have F29 := F9.step0 D26.stp
     have q94 : At (Ty.int (0 : Int)) s26 a32 (.tmp 4) := D26.done 0
     clear D26
     refine tn ?_
     refine wp_ret ?_
     exact retL1 rfl ok29 F29 (cvi (by (rw [hm]; exact (calls_end hc (by omega)).symm)) q94)


set_option maxRecDepth 100000 in
theorem rRounds_fn (n : Nat) (σ : GW) (v0 : Value) (hv0 : Ty.has (Ty.nat n) σ v0) (hn : n ≤ 1000000) :
    FnC Try.prog 64 #[v0] σ (Ty.lst Ty.int (roundsL n)) := by
 refine fn_intro Try.func64 rfl Try.ntmps64 (Nat.le_of_ble_eq_true rfl) (fun s0 a0 hle F0 ok0 hargs => ?_)
 have p0 : At (Ty.nat n) s0 a0 (.tmp 0) := by have e := hargs 0 _ rfl; show Ty.has _ _ _; rw [e]; exact Ty.up _ hle hv0
 clear hargs
 refine wp_seq ?_
 refine reg (a := a0) (σ := s0) rfl (fun i_ => List.getD [(Ty.pr (Ty.val (Value.slice none 0 0)))] i_ Pr.any) ok0 rfl ⟨?_, trivial⟩ ?_
 · intro ax tx hs okx sm
   exact run_plain rfl (y_assign rfl)
 intro a1 s1 D1
 have ok1 := D1.ok
 have F1 := F0.step0 D1.stp
 have q1 := D1.kt p0 rfl
 clear D1
 refine tn ?_
 refine wp_seq ?_
 refine reg (a := a1) (σ := s1) rfl (fun i_ => List.getD [(Ty.pr (Ty.val (Value.slice none 0 0)))] i_ Pr.any) ok1 rfl ⟨?_, trivial⟩ ?_
 · intro ax tx hs okx sm
   exact run_plain rfl (y_assign rfl)
 intro a2 s2 D2
 have ok2 := D2.ok
 have F2 := F1.step0 D2.stp
 have q2 := D2.kt q1 rfl
 have q3 : At (Ty.val (Value.slice none 0 0)) s2 a2 (.tmp 3) := D2.done 0
 clear D2
 refine tn ?_
 refine wp_seq ?_
 refine wp_seq ?_
 refine reg (a := a2) (σ := s2) rfl (fun i_ => List.getD [(Ty.pr (Ty.int (0 : Int)))] i_ Pr.any) ok2 rfl ⟨?_, trivial⟩ ?_
 · intro ax tx hs okx sm
   exact run_plain rfl (y_assign rfl)
 intro a3 s3 D3
 have ok3 := D3.ok
 have F3 := F2.step0 D3.stp
 have q4 := D3.kt q2 rfl
 have q5 := D3.kt q3 rfl
 have q6 : At (Ty.int (0 : Int)) s3 a3 (.tmp 4) := D3.done 0
 clear D3
 refine tn ?_
 refine wp_block ?_
 refine loop (fun n1 a4 w1 => ∃ (t1 : GW) (k : Nat), t1.w = w1 ∧ From s0 t1 ∧ Ok 15 a4 ∧ (Pr.own 2 3 1 (List.length (roundsL k)) (List.map Ty.int (roundsL k))).has t1 (a4.eval (.tmp 3)) ∧ At (Ty.nat k) t1 a4 (.tmp 4) ∧ At (Ty.nat n) t1 a4 (.tmp 0) ∧ (k ≤ n) ∧ n1 = n - k) (n - (0)) ?_ ?_
 ·
  exact ⟨s3, 0, rfl, F3, ok3, (by have e : a3.eval (.tmp 3) = _ := q5; rw [e]; exact Own.nil _ _ _ _), (cvi (by (first | rfl | omega | (simp_all; done) | (simp_all; omega))) q6), q4, by omega, rfl⟩
 ·
  rintro n2 a5 w2 ⟨t2, k, rfl, F4, ok4, q7, q8, q9, hk, rfl⟩
  have hp := roundsL_len k
  refine wp_seq ?_
  refine wp_seq ?_
  refine reg (a := a5) (σ := t2) rfl (fun i_ => List.getD [(Ty.pr (Ty.nat k)), (Ty.pr (Ty.nat n)), (Ty.pr (Ty.bool (decide (((k : Nat) : Int) < ((n : Nat) : Int)))))] i_ Pr.any) ok4 rfl ⟨?_, ?_, ?_, trivial⟩ ?_
  · intro ax tx hs okx sm
    exact run_plain rfl (y_move (kp (sm 4 rfl) hs q8))
  · intro ax tx hs okx sm
    exact run_plain rfl (y_move (kp (sm 0 rfl) hs q9))
  · intro ax tx hs okx sm d0 d1
    have e0 := ed d0 rfl rfl rfl
    have e1 := ed d1 rfl rfl rfl
    exact run_plain rfl (y_lss e0 e1)
  intro a6 s4 D4
  have ok5 := D4.ok
  have F5 := F4.step0 D4.stp
  have q10 : (Pr.own 2 3 1 (List.length (roundsL k)) (List.map Ty.int (roundsL k))).has s4 (a6.eval (.tmp 3)) := D4.ko q7 rfl
  have q11 := D4.kt q8 rfl
  have q12 := D4.kt q9 rfl
  have q13 : At (Ty.bool (decide (((k : Nat) : Int) < ((n : Nat) : Int)))) s4 a6 (.tmp 7) := D4.done 2
  clear D4
  refine tn ?_
  refine cond_p (p := (((k : Nat) : Int) < ((n : Nat) : Int))) q13 (fun c1 => ?_) (fun c1 => ?_)
  ·
   refine wp_skip ?_
   refine tn ?_
   refine wp_seq ?_
   refine wp_block ?_
   refine reg2 (a := a6) (σ := s4) rfl 3 (fun i_ => List.getD [(Ty.pr (Ty.val (a6.eval (.tmp 3)))), (Ty.pr (Ty.nat k)), (Ty.pr (Ty.sl 1 1 [(Ty.nat k)]))] i_ Pr.any) ok5 rfl (by decide) rfl ⟨?_, ?_, ?_, trivial⟩ ?_
   · intro ax tx hs okx sm
     exact run_plain rfl (y_move (sm 3 rfl))
   · intro ax tx hs okx sm
     exact run_plain rfl (y_move (kp (sm 4 rfl) hs q11))
   · intro ax tx hs okx sm d0
     have e1 := ed d0 rfl rfl rfl
     exact run_plain rfl (y_build1o Try.underlying23 Try.inf3 rfl (one_val rfl) e1)
   intro a7 s5 D5
   have ok6 := D5.ok
   have F6 := F5.step0 D5.stp
   have q14 := (Pr.own 2 3 1 (List.length (roundsL k)) (List.map Ty.int (roundsL k))).up D5.stp q10
   have q15 : a7.eval (.tmp 3) = a6.eval (.tmp 3) := D5.same 3 rfl
   have q16 := D5.kt q11 rfl
   have q17 := D5.kt q12 rfl
   have q18 : At (Ty.val (a6.eval (.tmp 3))) s5 a7 (.tmp 10) := D5.done 0 (by decide)
   have q19 : At (Ty.sl 1 1 [(Ty.nat k)]) s5 a7 (.tmp 12) := D5.done 2 (by decide)
   clear D5
   refine tail_step (m := 2) (R := (fun v τ => Own τ 2 3 1 v ((List.length (roundsL k)) + 1) ((List.map Ty.int (roundsL k)) ++ [(Ty.nat k)]))) rfl rfl (by decide) ok6 (m_append Try.underlying23 Try.inf3 (by decide) rfl (by decide) (al q18 q14) q19 (by intro U hU; simp at hU;  subst hU; exact one_val rfl) (by omega) (by omega)) (fun a8 s6 hs1 ok7 r1 sm1 => ?_)
   have F7 := F6.step hs1 (by decide)
   have q20 : At (Ty.nat k) s6 a8 (.tmp 4) := kpm hs1 (by decide) (sm1 4 (by decide)) q16
   have q21 : At (Ty.nat n) s6 a8 (.tmp 0) := kpm hs1 (by decide) (sm1 0 (by decide)) q17
   have q22 : At (Ty.sl 1 1 [(Ty.nat k)]) s6 a8 (.tmp 12) := kpm hs1 (by decide) (sm1 12 (by decide)) q19
   have q23 : (Pr.own 2 3 1 (List.length ((roundsL k) ++ [((k : Nat) : Int)])) (List.map Ty.int ((roundsL k) ++ [((k : Nat) : Int)]))).has s6 (a8.eval (.tmp 13)) := (cvo (by simp) (by first | (rw [List.map_append]; rfl) | simp) r1)
   refine tail_step (m := 0) (R := (fun v τ => Pr.has (Pr.own 2 3 1 (List.length ((roundsL k) ++ [((k : Nat) : Int)])) (List.map Ty.int ((roundsL k) ++ [((k : Nat) : Int)]))) τ v)) rfl rfl (by decide) ok7 (Yld.toM (y_assign q23)) (fun a9 s7 hs2 ok8 r2 sm2 => ?_)
   have F8 := F7.step hs2 (by decide)
   have q24 : At (Ty.nat k) s7 a9 (.tmp 4) := kpm hs2 (by decide) (sm2 4 (by decide)) q20
   have q25 : At (Ty.nat n) s7 a9 (.tmp 0) := kpm hs2 (by decide) (sm2 0 (by decide)) q21
   have q26 : At (Ty.sl 1 1 [(Ty.nat k)]) s7 a9 (.tmp 12) := kpm hs2 (by decide) (sm2 12 (by decide)) q22
   have q27 : (Pr.own 2 3 1 (List.length ((roundsL k) ++ [((k : Nat) : Int)])) (List.map Ty.int ((roundsL k) ++ [((k : Nat) : Int)]))).has s7 (a9.eval (.tmp 13)) := kpmo hs2 (by decide) (.inl rfl) (sm2 13 (by decide)) q23
   have q28 : (Pr.own 2 3 1 (List.length ((roundsL k) ++ [((k : Nat) : Int)])) (List.map Ty.int ((roundsL k) ++ [((k : Nat) : Int)]))).has s7 (a9.eval (.tmp 3)) := r2
   refine wpList_nil ?_
   refine bn ?_
   refine tn ?_
   refine reg (a := a9) (σ := s7) rfl (fun i_ => List.getD [(Ty.pr (Ty.nat k)), (Ty.pr (Ty.int (((k : Nat) : Int) + (1 : Int)))), (Ty.pr (Ty.int (((k : Nat) : Int) + (1 : Int))))] i_ Pr.any) ok8 rfl ⟨?_, ?_, ?_, trivial⟩ ?_
   · intro ax tx hs okx sm
     exact run_plain rfl (y_move (kp (sm 4 rfl) hs q24))
   · intro ax tx hs okx sm d0
     have e0 := ed d0 rfl rfl rfl
     exact run_plain rfl (y_add e0 rfl (w64 (by omega) (by omega)))
   · intro ax tx hs okx sm d0 d1 d2
     have e1 := ed d0 rfl rfl rfl
     exact run_plain rfl (y_assign e1)
   intro a10 s8 D6
   have ok9 := D6.ok
   have F9 := F8.step0 D6.stp
   have q29 := D6.kt q25 rfl
   have q30 : (Pr.own 2 3 1 (List.length ((roundsL k) ++ [((k : Nat) : Int)])) (List.map Ty.int ((roundsL k) ++ [((k : Nat) : Int)]))).has s8 (a10.eval (.tmp 3)) := D6.ko q28 rfl
   have q31 : At (Ty.int (((k : Nat) : Int) + (1 : Int))) s8 a10 (.tmp 4) := D6.done 2
   clear D6
   exact tn ⟨n - ((k+1)), by omega, s8, (k+1), rfl, F9, ok9, (cvo (by (rw [roundsL_succ k])) (by (rw [roundsL_succ k])) q30), (cvi (by (first | rfl | omega | (simp_all; done) | (simp_all; omega))) q31), q29, by omega, rfl⟩
  ·
   refine wp_exit ?_
   refine tx ?_
   refine tx ?_
   refine bx ?_
   refine tn ?_
   refine wp_seq ?_
   refine reg (a := a6) (σ := s4) rfl (fun i_ => List.getD [(Ty.pr (Ty.val (a6.eval (.tmp 3)))), (Ty.pr (Ty.val (a6.eval (.tmp 3))))] i_ Pr.any) ok5 rfl ⟨?_, ?_, trivial⟩ ?_
   · intro ax tx hs okx sm
     exact run_plain rfl (y_move (sm 3 rfl))
   · intro ax tx hs okx sm d0 d1
     have e0 := ed d0 rfl rfl rfl
     exact run_plain rfl (y_assign e0)
   intro a11 s9 D7
   have ok10 := D7.ok
   have F10 := F5.step0 D7.stp
   have q32 : (Pr.own 2 3 1 (List.length (roundsL k)) (List.map Ty.int (roundsL k))).has s9 (a11.eval (.tmp 2)) := al (show _ = _ from D7.done 1) ((Pr.own 2 3 1 (List.length (roundsL k)) (List.map Ty.int (roundsL k))).up D7.stp q10)
   clear D7
   refine tn ?_
   refine wp_ret ?_
   obtain ⟨t3, e1, h1, q33⟩ := Own.seal q32 (by decide)
   rw [← e1]
   have F11 := F10.step h1 (by decide)
   exact ret1 rfl ok10 F11 (cvt (by (obtain rfl : k = n := (by omega); rfl)) q33)


set_option maxHeartbeats 4000000 in
set_option maxRecDepth 100000 in
theorem rEnds_fn (nm : ByteArray) (n : Int) (l : List (List Int)) (sx : Int) (lx : List (List Int)) (σ : GW)  (v0 v1 : Value) (hv0 : Ty.has (Ty.agg [(Ty.val (Value.string nm)), (Ty.int n), (Ty.lst Ty.ints l)]) σ v0) (hv1 : Ty.has (Ty.agg [(Ty.val (Value.int .i32 sx)), (Ty.lst Ty.ints lx)]) σ v1)  (hx : lx.length ≤ l.length) (hl2 : l.length ≤ 200) :
    FnC Try.prog 67 #[v0, v1] σ (Ty.lst Ty.ints (endsL l (sx, lx))) := by
 have htk : (List.take (l.length - lx.length) l).length = l.length - lx.length := by rw [List.length_take]; omega
 refine fn_intro0 Try.func67 rfl Try.ntmps67 (Nat.le_of_ble_eq_true rfl) (fun s0 a0 hle F0 ok0 hargs => ?_)
 have p0 : At (Ty.agg [(Ty.val (Value.string nm)), (Ty.int n), (Ty.lst Ty.ints l)]) s0 a0 (.tmp 0) := by have e := hargs 0 _ rfl; show Ty.has _ _ _; rw [e]; exact Ty.up _ hle hv0
 have p1 : At (Ty.agg [(Ty.val (Value.int .i32 sx)), (Ty.lst Ty.ints lx)]) s0 a0 (.tmp 1) := by have e := hargs 1 _ rfl; show Ty.has _ _ _; rw [e]; exact Ty.up _ hle hv1
 clear hargs
 refine wp_seq ?_
 refine reg (a := a0) (σ := s0) rfl (fun i_ => List.getD [(Ty.pr (Ty.ref [(Ty.val (Value.string nm)), (Ty.int n), (Ty.lst Ty.ints l)])), (Ty.pr (Ty.ref [(Ty.val (Value.int .i32 sx)), (Ty.lst Ty.ints lx)])), (Ty.pr (Ty.val (Value.slice none 0 0)))] i_ Pr.any) ok0 rfl ⟨?_, ?_, ?_, trivial⟩ ?_
 · intro ax tx hs okx sm
   exact run_plain rfl (y_boxagg (kp (sm 0 rfl) hs p0))
 · intro ax tx hs okx sm
   exact run_plain rfl (y_boxagg (kp (sm 1 rfl) hs p1))
 · intro ax tx hs okx sm
   exact run_plain rfl (y_assign rfl)
 intro a1 s1 D1
 have ok1 := D1.ok
 have F1 := F0.step0 D1.stp
 have q1 : At (Ty.ref [(Ty.val (Value.string nm)), (Ty.int n), (Ty.lst Ty.ints l)]) s1 a1 (.tmp 2) := D1.done 0
 have q2 : At (Ty.ref [(Ty.val (Value.int .i32 sx)), (Ty.lst Ty.ints lx)]) s1 a1 (.tmp 3) := D1.done 1
 clear D1
 refine tn ?_
 refine wp_seq ?_
 refine reg (a := a1) (σ := s1) rfl (fun i_ => List.getD [(Ty.pr (Ty.ref [(Ty.lst Ty.ints l)])), (Ty.pr (Ty.lst Ty.ints l)), (Ty.pr (Ty.nat (List.length l))), (Ty.pr (Ty.ref [(Ty.lst Ty.ints lx)])), (Ty.pr (Ty.lst Ty.ints lx)), (Ty.pr (Ty.nat (List.length lx))), (Ty.pr (Ty.nat ((List.length l) - (List.length lx)))), (Ty.pr (Ty.nat ((List.length l) - (List.length lx))))] i_ Pr.any) ok1 rfl ⟨?_, ?_, ?_, ?_, ?_, ?_, ?_, ?_, trivial⟩ ?_
 · intro ax tx hs okx sm
   exact run_plain rfl (y_field Try.fld31_2 Try.inf29 (by decide) (kp (sm 2 rfl) hs q1) rfl)
 · intro ax tx hs okx sm d0
   have e0 := ed d0 rfl rfl rfl
   exact run_plain rfl (y_load Try.underlying29 rfl e0 rfl)
 · intro ax tx hs okx sm d0
   have e1 := ed d0 rfl rfl rfl
   exact run_plain rfl (y_len Try.underlying29 e1)
 · intro ax tx hs okx sm
   exact run_plain rfl (y_field Try.fld56_1 Try.inf29 (by decide) (kp (sm 3 rfl) hs q2) rfl)
 · intro ax tx hs okx sm d0
   have e3 := ed d0 rfl rfl rfl
   exact run_plain rfl (y_load Try.underlying29 rfl e3 rfl)
 · intro ax tx hs okx sm d0
   have e4 := ed d0 rfl rfl rfl
   exact run_plain rfl (y_len Try.underlying29 e4)
 · intro ax tx hs okx sm d0 d1
   have e2 := ed d0 rfl rfl rfl
   have e5 := ed d1 rfl rfl rfl
   exact run_plain rfl ((y_sub e2 e5 (w64 (by omega) (by omega))).mono (fun τ _ h => cvi (σ := τ) (by omega) h))
 · intro ax tx hs okx sm d0 d1 d2 d3 d4 d5 d6 d7
   have e6 := ed d0 rfl rfl rfl
   exact run_plain rfl (y_assign e6)
 intro a2 s2 D2
 have ok2 := D2.ok
 have F2 := F1.step0 D2.stp
 have q3 := D2.kt q1 rfl
 have q4 := D2.kt q2 rfl
 have q5 : At (Ty.nat ((List.length l) - (List.length lx))) s2 a2 (.tmp 5) := D2.done 7
 clear D2
 refine tn ?_
 refine wp_seq ?_
 refine reg2 (a := a2) (σ := s2) rfl 8 (fun i_ => List.getD [(Pr.own0 7 23), (Ty.pr (Ty.ref [(Ty.lst Ty.ints l)])), (Ty.pr (Ty.lst Ty.ints l)), (Ty.pr (Ty.nat ((List.length l) - (List.length lx)))), (Ty.pr (Ty.lst Ty.ints (l.take ((List.length l) - (List.length lx))))), (Pr.own 7 23 1 (List.length (l.take ((List.length l) - (List.length lx)))) (List.map Ty.ints (l.take ((List.length l) - (List.length lx))))), (Ty.pr (Ty.ref [(Ty.lst Ty.ints lx)])), (Ty.pr (Ty.lst Ty.ints lx))] i_ Pr.any) ok2 rfl (by decide) rfl ⟨?_, ?_, ?_, ?_, ?_, ?_, ?_, ?_, trivial⟩ ?_
 · intro ax tx hs okx sm
   exact run_plain rfl (y_lit00 (k := 7) Try.underlying29 Try.inf23)
 · intro ax tx hs okx sm
   exact run_plain rfl (y_field Try.fld31_2 Try.inf29 (by decide) (kp (sm 2 rfl) hs q3) rfl)
 · intro ax tx hs okx sm d0
   have e1 := ed d0 rfl rfl rfl
   exact run_plain rfl (y_load Try.underlying29 rfl e1 rfl)
 · intro ax tx hs okx sm
   exact run_plain rfl (y_move (kp (sm 5 rfl) hs q5))
 · intro ax tx hs okx sm d0 d1
   have e2 := ed d0 rfl rfl rfl
   have e3 := ed d1 rfl rfl rfl
   exact run_plain rfl (y_take Try.underlying29 Try.inf23 e2 e3 (by omega))
 · intro ax tx hs okx sm d0 d1
   have e0 : (Pr.own0 7 23).has tx (ax.eval (.tmp 13)) := d0 rfl
   have e4 := ed d1 rfl rfl rfl
   exact run_plain rfl (y_append0 Try.underlying29 Try.inf23 (by decide) rfl e0 e4 (one_map (fun _ => one_sl)) (by omega) (by omega))
 · intro ax tx hs okx sm
   exact run_plain rfl (y_field Try.fld56_1 Try.inf29 (by decide) (kp (sm 3 rfl) hs q4) rfl)
 · intro ax tx hs okx sm d0
   have e6 := ed d0 rfl rfl rfl
   exact run_plain rfl (y_load Try.underlying29 rfl e6 rfl)
 intro a3 s3 D3
 have ok3 := D3.ok
 have F3 := F2.step0 D3.stp
 obtain ⟨x1, hx1⟩ : ∃ x, a3.eval (.tmp 18) = x := ⟨_, rfl⟩
 have q6 : At (Ty.val x1) s3 a3 (.tmp 18) := hx1
 have o1 : Own s3 7 23 1 x1 (List.length (l.take ((List.length l) - (List.length lx)))) (List.map Ty.ints (l.take ((List.length l) - (List.length lx)))) := al2 (R := (Pr.own 7 23 1 (List.length (l.take ((List.length l) - (List.length lx)))) (List.map Ty.ints (l.take ((List.length l) - (List.length lx)))))) hx1 (D3.done 5 (by decide))
 have q7 : At (Ty.lst Ty.ints lx) s3 a3 (.tmp 20) := D3.done 7 (by decide)
 have b1 := sl_le q7
 clear D3
 refine tailL (L := [7]) (R := (fun v τ => Own τ 7 23 1 v ((List.length (l.take ((List.length l) - (List.length lx)))) + (List.length lx)) ((List.map Ty.ints (l.take ((List.length l) - (List.length lx)))) ++ (List.map Ty.ints lx)))) rfl rfl (by decide) ok3 (YldM.toL (m_append Try.underlying29 Try.inf23 (by decide) rfl (by decide) (al (R := (Pr.own 7 23 1 (List.length (l.take ((List.length l) - (List.length lx)))) (List.map Ty.ints (l.take ((List.length l) - (List.length lx)))))) q6 o1) q7 (one_map (fun _ => one_sl)) (by omega) (by omega))) (fun a4 s4 hs1 ok4 r1 sm1 => ?_)
 have F4 := F3.stepL hs1 (by decide)
 obtain ⟨x2, hx2⟩ : ∃ x, a4.eval (.tmp 21) = x := ⟨_, rfl⟩
 have q8 : At (Ty.val x2) s4 a4 (.tmp 21) := hx2
 have o2 : Own s4 7 23 1 x2 (List.length ((l.take ((List.length l) - (List.length lx))) ++ lx)) (List.map Ty.ints ((l.take ((List.length l) - (List.length lx))) ++ lx)) := al2 (R := (Pr.own 7 23 1 (List.length ((l.take ((List.length l) - (List.length lx))) ++ lx)) (List.map Ty.ints ((l.take ((List.length l) - (List.length lx))) ++ lx)))) hx2 (cvo (by simp) (by first | (rw [List.map_append]; rfl) | simp) r1)
 clear r1
 refine tailL (L := []) (R := (fun v τ => Pr.has (Ty.pr (Ty.val x2)) τ v)) rfl rfl (by decide) ok4 (Yld.toL (y_assign q8)) (fun a5 s5 hs2 ok5 r2 sm2 => ?_)
 have F5 := F4.stepL hs2 (by decide)
 have o3 := Own.keepL o2 hs2 (by decide) (by decide)
 have q9 : At (Ty.val x2) s5 a5 (.tmp 4) := r2
 clear r2
 refine wpList_nil ?_
 refine tn ?_
 refine wp_ret ?_
 obtain ⟨t1, e1, h1, q10⟩ := Own.seal o3 (by decide)
 rw [← e1]
 have F6 := F5.step h1 (by decide)
 have q11 : At (Ty.lst Ty.ints ((l.take ((List.length l) - (List.length lx))) ++ lx)) t1 a5 (.tmp 4) := by have e : a5.eval (.tmp 4) = x2 := q9; show Ty.has _ _ _; rw [e]; exact q10
 exact retL1 rfl ok5 F6 (cvt (by (first | rfl | omega | (simp_all; done) | (simp_all; omega))) q11)


set_option maxRecDepth 100000 in
theorem rIsIn_fn (xs : List Int) (x : Int) (σ : GW) (v0 v1 : Value) (hv0 : Ty.has (Ty.lst Ty.int xs) σ v0) (hv1 : Ty.has (Ty.int x) σ v1)  :
    FnC Try.prog 114 #[v0, v1] σ (Ty.bool (decide (x ∈ xs))) := by
 refine fn_intro Try.func114 rfl Try.ntmps114 (Nat.le_of_ble_eq_true rfl) (fun s0 a0 hle F0 ok0 hargs => ?_)
 have p0 : At (Ty.lst Ty.int xs) s0 a0 (.tmp 0) := by have e := hargs 0 _ rfl; show Ty.has _ _ _; rw [e]; exact Ty.up _ hle hv0
 have b1 := sl_le p0
 have p1 : At (Ty.int x) s0 a0 (.tmp 1) := by have e := hargs 1 _ rfl; show Ty.has _ _ _; rw [e]; exact Ty.up _ hle hv1
 clear hargs
 refine wp_seq ?_
 refine reg (a := a0) (σ := s0) rfl (fun i_ => List.getD [(Ty.pr (Ty.bool false))] i_ Pr.any) ok0 rfl ⟨?_, trivial⟩ ?_
 · intro ax tx hs okx sm
   exact run_plain rfl (y_assign rfl)
 intro a1 s1 D1
 have ok1 := D1.ok
 have F1 := F0.step0 D1.stp
 have q1 := D1.kt p0 rfl
 have q2 := D1.kt p1 rfl
 clear D1
 refine tn ?_
 refine wp_seq ?_
 refine wp_seq ?_
 refine reg (a := a1) (σ := s1) rfl (fun i_ => List.getD [(Ty.pr (Ty.int (0 : Int)))] i_ Pr.any) ok1 rfl ⟨?_, trivial⟩ ?_
 · intro ax tx hs okx sm
   exact run_plain rfl (y_assign rfl)
 intro a2 s2 D2
 have ok2 := D2.ok
 have F2 := F1.step0 D2.stp
 have q3 := D2.kt q1 rfl
 have q4 := D2.kt q2 rfl
 have q5 : At (Ty.int (0 : Int)) s2 a2 (.tmp 5) := D2.done 0
 clear D2
 refine tn ?_
 refine wp_block ?_
 refine loop (fun n1 a3 w1 => ∃ (t1 : GW) (k : Nat), t1.w = w1 ∧ From s0 t1 ∧ Ok 18 a3 ∧ At (Ty.nat k) t1 a3 (.tmp 5) ∧ At (Ty.lst Ty.int xs) t1 a3 (.tmp 0) ∧ At (Ty.int x) t1 a3 (.tmp 1) ∧ (k ≤ xs.length) ∧ (∀ j, j < k → xs.getD j 0 ≠ x) ∧ n1 = xs.length - k) (xs.length - (0)) ?_ ?_
 ·
  exact ⟨s2, 0, rfl, F2, ok2, (cvi (by (first | rfl | omega | (simp_all; done) | (simp_all; omega))) q5), q3, q4, by omega, fun j hj => absurd hj (Nat.not_lt_zero j), rfl⟩
 ·
  rintro n2 a4 w2 ⟨t2, k, rfl, F3, ok3, q6, q7, q8, hk, hno, rfl⟩
  refine wp_seq ?_
  refine wp_seq ?_
  refine reg (a := a4) (σ := t2) rfl (fun i_ => List.getD [(Ty.pr (Ty.nat k)), (Ty.pr (Ty.lst Ty.int xs)), (Ty.pr (Ty.nat (List.length xs))), (Ty.pr (Ty.bool (decide (((k : Nat) : Int) < (((List.length xs) : Nat) : Int)))))] i_ Pr.any) ok3 rfl ⟨?_, ?_, ?_, ?_, trivial⟩ ?_
  · intro ax tx hs okx sm
    exact run_plain rfl (y_move (kp (sm 5 rfl) hs q6))
  · intro ax tx hs okx sm
    exact run_plain rfl (y_move (kp (sm 0 rfl) hs q7))
  · intro ax tx hs okx sm d0
    have e1 := ed d0 rfl rfl rfl
    exact run_plain rfl (y_len Try.underlying23 e1)
  · intro ax tx hs okx sm d0 d1
    have e0 := ed d0 rfl rfl rfl
    have e2 := ed d1 rfl rfl rfl
    exact run_plain rfl (y_lss e0 e2)
  intro a5 s3 D3
  have ok4 := D3.ok
  have F4 := F3.step0 D3.stp
  have q9 := D3.kt q6 rfl
  have q10 := D3.kt q7 rfl
  have q11 := D3.kt q8 rfl
  have q12 : At (Ty.bool (decide (((k : Nat) : Int) < (((List.length xs) : Nat) : Int)))) s3 a5 (.tmp 9) := D3.done 3
  clear D3
  refine tn ?_
  refine cond_p (p := (((k : Nat) : Int) < (((List.length xs) : Nat) : Int))) q12 (fun c1 => ?_) (fun c1 => ?_)
  ·
   refine wp_skip ?_
   refine tn ?_
   refine wp_seq ?_
   refine wp_block ?_
   refine wp_seq ?_
   refine reg (a := a5) (σ := s3) rfl (fun i_ => List.getD [(Ty.pr (Ty.lst Ty.int xs)), (Ty.pr (Ty.nat k)), (Ty.pr (Ty.ref [(Ty.int (xs.getD k 0))])), (Ty.pr (Ty.int (xs.getD k 0))), (Ty.pr (Ty.int x)), (Ty.pr (Ty.bool (decide ((xs.getD k 0) = x))))] i_ Pr.any) ok4 rfl ⟨?_, ?_, ?_, ?_, ?_, ?_, trivial⟩ ?_
   · intro ax tx hs okx sm
     exact run_plain rfl (y_move (kp (sm 0 rfl) hs q10))
   · intro ax tx hs okx sm
     exact run_plain rfl (y_move (kp (sm 5 rfl) hs q9))
   · intro ax tx hs okx sm d0 d1
     have e0 := ed d0 rfl rfl rfl
     have e1 := ed d1 rfl rfl rfl
     exact run_plain rfl (y_index1 Try.underlying23 Try.inf3 e0 e1 (by omega) (lst_get Ty.int xs 0 k (by omega)))
   · intro ax tx hs okx sm d0
     have e2 := ed d0 rfl rfl rfl
     exact run_plain rfl (y_load Try.underlying3 rfl e2 rfl)
   · intro ax tx hs okx sm
     exact run_plain rfl (y_move (kp (sm 1 rfl) hs q11))
   · intro ax tx hs okx sm d0 d1
     have e3 := ed d0 rfl rfl rfl
     have e4 := ed d1 rfl rfl rfl
     exact run_plain rfl (y_eql e3 e4)
   intro a6 s4 D4
   have ok5 := D4.ok
   have F5 := F4.step0 D4.stp
   have q13 := D4.kt q9 rfl
   have q14 := D4.kt q10 rfl
   have q15 := D4.kt q11 rfl
   have q16 : At (Ty.bool (decide ((xs.getD k 0) = x))) s4 a6 (.tmp 17) := D4.done 5
   clear D4
   refine tn ?_
   refine cond_p (p := ((xs.getD k 0) = x)) q16 (fun c2 => ?_) (fun c2 => ?_)
   ·
    refine wp_seq ?_
    refine reg (a := a6) (σ := s4) rfl (fun i_ => List.getD [(Ty.pr (Ty.bool true))] i_ Pr.any) ok5 rfl ⟨?_, trivial⟩ ?_
    · intro ax tx hs okx sm
      exact run_plain rfl (y_assign rfl)
    intro a7 s5 D5
    have ok6 := D5.ok
    have F6 := F5.step0 D5.stp
    have q17 : At (Ty.bool true) s5 a7 (.tmp 4) := D5.done 0
    clear D5
    refine tn ?_
    refine wp_ret ?_
    refine br ?_
    refine tr ?_
    refine tr ?_
    refine br ?_
    refine tr ?_
    exact ret1 rfl ok6 F6 (cvb (by (exact (decide_eq_true (mem_at (by omega) c2)).symm)) q17)
   ·
    refine wp_skip ?_
    refine bn ?_
    refine tn ?_
    refine reg (a := a6) (σ := s4) rfl (fun i_ => List.getD [(Ty.pr (Ty.nat k)), (Ty.pr (Ty.int (((k : Nat) : Int) + (1 : Int)))), (Ty.pr (Ty.int (((k : Nat) : Int) + (1 : Int))))] i_ Pr.any) ok5 rfl ⟨?_, ?_, ?_, trivial⟩ ?_
    · intro ax tx hs okx sm
      exact run_plain rfl (y_move (kp (sm 5 rfl) hs q13))
    · intro ax tx hs okx sm d0
      have e0 := ed d0 rfl rfl rfl
      exact run_plain rfl (y_add e0 rfl (w64 (by omega) (by omega)))
    · intro ax tx hs okx sm d0 d1 d2
      have e1 := ed d0 rfl rfl rfl
      exact run_plain rfl (y_assign e1)
    intro a8 s6 D6
    have ok7 := D6.ok
    have F7 := F5.step0 D6.stp
    have q18 := D6.kt q14 rfl
    have q19 := D6.kt q15 rfl
    have q20 : At (Ty.int (((k : Nat) : Int) + (1 : Int))) s6 a8 (.tmp 5) := D6.done 2
    clear D6
    exact tn ⟨xs.length - ((k+1)), by omega, s6, (k+1), rfl, F7, ok7, (cvi (by (first | rfl | omega | (simp_all; done) | (simp_all; omega))) q20), q18, q19, by omega, fun j hj => by (by_cases e : j = k; subst e; exact c2; exact hno j (by omega)), rfl⟩
  ·
   refine wp_exit ?_
   refine tx ?_
   refine tx ?_
   refine bx ?_
   refine tn ?_
   refine wp_seq ?_
   refine reg (a := a5) (σ := s3) rfl (fun i_ => List.getD [(Ty.pr (Ty.bool false))] i_ Pr.any) ok4 rfl ⟨?_, trivial⟩ ?_
   · intro ax tx hs okx sm
     exact run_plain rfl (y_assign rfl)
   intro a9 s7 D7
   have ok8 := D7.ok
   have F8 := F4.step0 D7.stp
   have q21 : At (Ty.bool false) s7 a9 (.tmp 4) := D7.done 0
   clear D7
   refine tn ?_
   refine wp_ret ?_
   exact ret1 rfl ok8 F8 (cvb (by (exact (decide_eq_false (not_mem_all (fun j hj => hno j (by omega)))).symm)) q21)


set_option maxRecDepth 100000 in
theorem rChangeRow_fn (n : Nat) (l : List Int) (σ : GW) (v0 v1 : Value) (hv0 : Ty.has (Ty.nat n) σ v0) (hv1 : Ty.has (Ty.lst Ty.int l) σ v1) (hn : n ≤ 100) :
    FnC Try.prog 92 #[v0, v1] σ (Ty.lst Ty.int (chgRow n l)) := by
 refine fn_intro Try.func92 rfl Try.ntmps92 (Nat.le_of_ble_eq_true rfl) (fun s0 a0 hle F0 ok0 hargs => ?_)
 have p0 : At (Ty.nat n) s0 a0 (.tmp 0) := by have e := hargs 0 _ rfl; show Ty.has _ _ _; rw [e]; exact Ty.up _ hle hv0
 have p1 : At (Ty.lst Ty.int l) s0 a0 (.tmp 1) := by have e := hargs 1 _ rfl; show Ty.has _ _ _; rw [e]; exact Ty.up _ hle hv1
 have b1 := sl_le p1
 clear hargs
 refine wp_seq ?_
 refine reg (a := a0) (σ := s0) rfl (fun i_ => List.getD [(Ty.pr (Ty.val (Value.slice none 0 0)))] i_ Pr.any) ok0 rfl ⟨?_, trivial⟩ ?_
 · intro ax tx hs okx sm
   exact run_plain rfl (y_assign rfl)
 intro a1 s1 D1
 have ok1 := D1.ok
 have F1 := F0.step0 D1.stp
 have q1 := D1.kt p0 rfl
 have q2 := D1.kt p1 rfl
 clear D1
 refine tn ?_
 refine wp_seq ?_
 refine reg (a := a1) (σ := s1) rfl (fun i_ => List.getD [(Ty.pr (Ty.val (Value.slice none 0 0)))] i_ Pr.any) ok1 rfl ⟨?_, trivial⟩ ?_
 · intro ax tx hs okx sm
   exact run_plain rfl (y_assign rfl)
 intro a2 s2 D2
 have ok2 := D2.ok
 have F2 := F1.step0 D2.stp
 have q3 := D2.kt q1 rfl
 have q4 := D2.kt q2 rfl
 have q5 : At (Ty.val (Value.slice none 0 0)) s2 a2 (.tmp 5) := D2.done 0
 clear D2
 refine tn ?_
 refine wp_seq ?_
 refine wp_block ?_
 refine loop (fun n1 a3 w1 => ∃ (t1 : GW) (xs : List Int) (f : Nat), t1.w = w1 ∧ From s0 t1 ∧ Ok 30 a3 ∧ (Pr.own 2 3 1 (List.length xs) (List.map Ty.int xs)).has t1 (a3.eval (.tmp 5)) ∧ At (Ty.nat n) t1 a3 (.tmp 0) ∧ At (Ty.lst Ty.int l) t1 a3 (.tmp 1) ∧ (n ≤ f + xs.length) ∧ (xs.length ≤ n + 1) ∧ (xs ++ rowF l n f xs.length = chgRow n l) ∧ n1 = n + 2 - xs.length) (n + 2 - (([] : List Int)).length) ?_ ?_
 ·
  exact ⟨s2, ([] : List Int), n, rfl, F2, ok2, (by have e : a2.eval (.tmp 5) = _ := q5; rw [e]; exact Own.nil _ _ _ _), q3, q4, by simp, by simp, rfl, rfl⟩
 ·
  rintro n2 a4 w2 ⟨t2, xs, f, rfl, F3, ok3, q6, q7, q8, hf, hx, heq, rfl⟩
  refine wp_seq ?_
  refine wp_seq ?_
  refine reg (a := a4) (σ := t2) rfl (fun i_ => List.getD [(Ty.pr (Ty.val (a4.eval (.tmp 5)))), (Ty.pr (Ty.nat (List.length xs))), (Ty.pr (Ty.nat n)), (Ty.pr (Ty.bool (decide ((((List.length xs) : Nat) : Int) < ((n : Nat) : Int)))))] i_ Pr.any) ok3 rfl ⟨?_, ?_, ?_, ?_, trivial⟩ ?_
  · intro ax tx hs okx sm
    exact run_plain rfl (y_move (sm 5 rfl))
  · intro ax tx hs okx sm d0
    have e0 := ed d0 rfl rfl rfl
    exact run_plain rfl (own_len Try.underlying23 (al e0 ((Pr.own 2 3 1 (List.length xs) (List.map Ty.int xs)).up hs q6)))
  · intro ax tx hs okx sm
    exact run_plain rfl (y_move (kp (sm 0 rfl) hs q7))
  · intro ax tx hs okx sm d0 d1
    have e1 := ed d0 rfl rfl rfl
    have e2 := ed d1 rfl rfl rfl
    exact run_plain rfl (y_lss e1 e2)
  intro a5 s3 D3
  have ok4 := D3.ok
  have F4 := F3.step0 D3.stp
  have q9 : (Pr.own 2 3 1 (List.length xs) (List.map Ty.int xs)).has s3 (a5.eval (.tmp 5)) := D3.ko q6 rfl
  have q10 := D3.kt q7 rfl
  have q11 := D3.kt q8 rfl
  have q12 : At (Ty.bool (decide ((((List.length xs) : Nat) : Int) < ((n : Nat) : Int)))) s3 a5 (.tmp 11) := D3.done 3
  clear D3
  refine tn ?_
  refine cond_p (p := ((((List.length xs) : Nat) : Int) < ((n : Nat) : Int))) q12 (fun c1 => ?_) (fun c1 => ?_)
  ·
   refine wp_skip ?_
   refine tn ?_
   refine wp_block ?_
   refine wp_seq ?_
   refine reg (a := a5) (σ := s3) rfl (fun i_ => List.getD [(Ty.pr (Ty.val (a5.eval (.tmp 5)))), (Ty.pr (Ty.nat (List.length xs))), (Ty.pr (Ty.nat (List.length xs)))] i_ Pr.any) ok4 rfl ⟨?_, ?_, ?_, trivial⟩ ?_
   · intro ax tx hs okx sm
     exact run_plain rfl (y_move (sm 5 rfl))
   · intro ax tx hs okx sm d0
     have e0 := ed d0 rfl rfl rfl
     exact run_plain rfl (own_len Try.underlying23 (al e0 ((Pr.own 2 3 1 (List.length xs) (List.map Ty.int xs)).up hs q9)))
   · intro ax tx hs okx sm d0 d1 d2
     have e1 := ed d0 rfl rfl rfl
     exact run_plain rfl (y_assign e1)
   intro a6 s4 D4
   have ok5 := D4.ok
   have F5 := F4.step0 D4.stp
   have q13 : (Pr.own 2 3 1 (List.length xs) (List.map Ty.int xs)).has s4 (a6.eval (.tmp 5)) := D4.ko q9 rfl
   have q14 := D4.kt q10 rfl
   have q15 := D4.kt q11 rfl
   have q16 : At (Ty.nat (List.length xs)) s4 a6 (.tmp 6) := D4.done 2
   clear D4
   refine tn ?_
   refine wp_seq ?_
   refine reg (a := a6) (σ := s4) rfl (fun i_ => List.getD [(Ty.pr (Ty.lst Ty.int l)), (Ty.pr (Ty.nat (List.length xs))), (Ty.pr (Ty.int ((((List.length xs) : Nat) : Int) + (1 : Int)))), (Ty.pr (Ty.bool (decide ((((((List.length xs) : Nat) : Int) + (1 : Int))) ∈ (l))))), (Ty.pr (Ty.bool (decide ((((((List.length xs) : Nat) : Int) + (1 : Int))) ∈ (l)))))] i_ Pr.any) ok5 rfl ⟨?_, ?_, ?_, ?_, ?_, trivial⟩ ?_
   · intro ax tx hs okx sm
     exact run_plain rfl (y_move (kp (sm 1 rfl) hs q15))
   · intro ax tx hs okx sm
     exact run_plain rfl (y_move (kp (sm 6 rfl) hs q16))
   · intro ax tx hs okx sm d0
     have e1 := ed d0 rfl rfl rfl
     exact run_plain rfl (y_add e1 rfl (w64 (by omega) (by omega)))
   · intro ax tx hs okx sm d0 d1
     have e0 := ed d0 rfl rfl rfl
     have e2 := ed d1 rfl rfl rfl
     exact run_plain rfl (y_call #[ax.eval (.tmp 14), ax.eval (.tmp 16)] Try.func114 rfl rfl (by simp only [List.map_toArray, List.map_cons, List.map_nil]) (rIsIn_fn (l) (((((List.length xs) : Nat) : Int) + (1 : Int))) _ _ _ e0 e2 ))
   · intro ax tx hs okx sm d0 d1 d2 d3 d4 d5
     have e3 := ed d0 rfl rfl rfl
     exact run_plain rfl (y_assign e3)
   intro a7 s5 D5
   have ok6 := D5.ok
   have F6 := F5.step0 D5.stp
   have q17 : (Pr.own 2 3 1 (List.length xs) (List.map Ty.int xs)).has s5 (a7.eval (.tmp 5)) := D5.ko q13 rfl
   have q18 := D5.kt q14 rfl
   have q19 := D5.kt q15 rfl
   have q20 := D5.kt q16 rfl
   have q21 : At (Ty.bool (decide ((((((List.length xs) : Nat) : Int) + (1 : Int))) ∈ (l)))) s5 a7 (.tmp 7) := D5.done 4
   clear D5
   refine tn ?_
   refine wp_seq ?_
   refine reg (a := a7) (σ := s5) rfl (fun i_ => List.getD [(Ty.pr (Ty.bool (decide ((((((List.length xs) : Nat) : Int) + (1 : Int))) ∈ (l)))))] i_ Pr.any) ok6 rfl ⟨?_, trivial⟩ ?_
   · intro ax tx hs okx sm
     exact run_plain rfl (y_move (kp (sm 7 rfl) hs q21))
   intro a8 s6 D6
   have ok7 := D6.ok
   have F7 := F6.step0 D6.stp
   have q22 : (Pr.own 2 3 1 (List.length xs) (List.map Ty.int xs)).has s6 (a8.eval (.tmp 5)) := D6.ko q17 rfl
   have q23 := D6.kt q18 rfl
   have q24 := D6.kt q19 rfl
   have q25 := D6.kt q20 rfl
   have q26 : At (Ty.bool (decide ((((((List.length xs) : Nat) : Int) + (1 : Int))) ∈ (l)))) s6 a8 (.tmp 18) := D6.done 0
   clear D6
   refine tn ?_
   refine cond_t q26 (fun c2 => ?_) (fun c2 => ?_)
   ·
    have c2 := of_decide_eq_true c2
    refine reg2 (a := a8) (σ := s6) rfl 3 (fun i_ => List.getD [(Ty.pr (Ty.val (a8.eval (.tmp 5)))), (Ty.pr (Ty.nat (List.length xs))), (Ty.pr (Ty.sl 1 1 [(Ty.nat (List.length xs))]))] i_ Pr.any) ok7 rfl (by decide) rfl ⟨?_, ?_, ?_, trivial⟩ ?_
    · intro ax tx hs okx sm
      exact run_plain rfl (y_move (sm 5 rfl))
    · intro ax tx hs okx sm
      exact run_plain rfl (y_move (kp (sm 6 rfl) hs q25))
    · intro ax tx hs okx sm d0
      have e1 := ed d0 rfl rfl rfl
      exact run_plain rfl (y_build1o Try.underlying23 Try.inf3 rfl (one_val rfl) e1)
    intro a9 s7 D7
    have ok8 := D7.ok
    have F8 := F7.step0 D7.stp
    have q27 := (Pr.own 2 3 1 (List.length xs) (List.map Ty.int xs)).up D7.stp q22
    have q28 : a9.eval (.tmp 5) = a8.eval (.tmp 5) := D7.same 5 rfl
    have q29 := D7.kt q23 rfl
    have q30 := D7.kt q24 rfl
    have q31 : At (Ty.val (a8.eval (.tmp 5))) s7 a9 (.tmp 19) := D7.done 0 (by decide)
    have q32 : At (Ty.sl 1 1 [(Ty.nat (List.length xs))]) s7 a9 (.tmp 21) := D7.done 2 (by decide)
    clear D7
    refine tail_step (m := 2) (R := (fun v τ => Own τ 2 3 1 v ((List.length xs) + 1) ((List.map Ty.int xs) ++ [(Ty.nat (List.length xs))]))) rfl rfl (by decide) ok8 (m_append Try.underlying23 Try.inf3 (by decide) rfl (by decide) (al q31 q27) q32 (by intro U hU; simp at hU;  subst hU; exact one_val rfl) (by omega) (by omega)) (fun a10 s8 hs1 ok9 r1 sm1 => ?_)
    have F9 := F8.step hs1 (by decide)
    have q33 : At (Ty.nat n) s8 a10 (.tmp 0) := kpm hs1 (by decide) (sm1 0 (by decide)) q29
    have q34 : At (Ty.lst Ty.int l) s8 a10 (.tmp 1) := kpm hs1 (by decide) (sm1 1 (by decide)) q30
    have q35 : At (Ty.sl 1 1 [(Ty.nat (List.length xs))]) s8 a10 (.tmp 21) := kpm hs1 (by decide) (sm1 21 (by decide)) q32
    have q36 : (Pr.own 2 3 1 (List.length (xs ++ [(((List.length xs) : Nat) : Int)])) (List.map Ty.int (xs ++ [(((List.length xs) : Nat) : Int)]))).has s8 (a10.eval (.tmp 22)) := (cvo (by simp) (by first | (rw [List.map_append]; rfl) | simp) r1)
    refine tail_step (m := 0) (R := (fun v τ => Pr.has (Pr.own 2 3 1 (List.length (xs ++ [(((List.length xs) : Nat) : Int)])) (List.map Ty.int (xs ++ [(((List.length xs) : Nat) : Int)]))) τ v)) rfl rfl (by decide) ok9 (Yld.toM (y_assign q36)) (fun a11 s9 hs2 ok10 r2 sm2 => ?_)
    have F10 := F9.step hs2 (by decide)
    have q37 : At (Ty.nat n) s9 a11 (.tmp 0) := kpm hs2 (by decide) (sm2 0 (by decide)) q33
    have q38 : At (Ty.lst Ty.int l) s9 a11 (.tmp 1) := kpm hs2 (by decide) (sm2 1 (by decide)) q34
    have q39 : At (Ty.sl 1 1 [(Ty.nat (List.length xs))]) s9 a11 (.tmp 21) := kpm hs2 (by decide) (sm2 21 (by decide)) q35
    have q40 : (Pr.own 2 3 1 (List.length (xs ++ [(((List.length xs) : Nat) : Int)])) (List.map Ty.int (xs ++ [(((List.length xs) : Nat) : Int)]))).has s9 (a11.eval (.tmp 22)) := kpmo hs2 (by decide) (.inl rfl) (sm2 22 (by decide)) q36
    have q41 : (Pr.own 2 3 1 (List.length (xs ++ [(((List.length xs) : Nat) : Int)])) (List.map Ty.int (xs ++ [(((List.length xs) : Nat) : Int)]))).has s9 (a11.eval (.tmp 5)) := r2
    refine wpList_nil ?_
    refine bn ?_
    exact tn ⟨n + 2 - ((xs ++ [((xs.length : Nat) : Int)])).length, by simp; omega, s9, (xs ++ [((xs.length : Nat) : Int)]), (f-1), rfl, F10, ok10, (cvo (by (simp)) (by (simp)) q41), q37, q38, by simp; omega, by simp; omega, by rw [List.length_append]; exact rowF_yes heq (by omega) hf c2, rfl⟩
   ·
    have c2 := of_decide_eq_false c2
    refine reg2 (a := a8) (σ := s6) rfl 5 (fun i_ => List.getD [(Ty.pr (Ty.val (a8.eval (.tmp 5)))), (Ty.pr (Ty.nat (List.length xs))), (Ty.pr (Ty.int ((((List.length xs) : Nat) : Int) + (1 : Int)))), (Ty.pr (Ty.nat (List.length xs))), (Ty.pr (Ty.sl 1 2 [(Ty.int ((((List.length xs) : Nat) : Int) + (1 : Int))), (Ty.nat (List.length xs))]))] i_ Pr.any) ok7 rfl (by decide) rfl ⟨?_, ?_, ?_, ?_, ?_, trivial⟩ ?_
    · intro ax tx hs okx sm
      exact run_plain rfl (y_move (sm 5 rfl))
    · intro ax tx hs okx sm
      exact run_plain rfl (y_move (kp (sm 6 rfl) hs q25))
    · intro ax tx hs okx sm d0
      have e1 := ed d0 rfl rfl rfl
      exact run_plain rfl (y_add e1 rfl (w64 (by omega) (by omega)))
    · intro ax tx hs okx sm
      exact run_plain rfl (y_move (kp (sm 6 rfl) hs q25))
    · intro ax tx hs okx sm d0 d1
      have e2 := ed d0 rfl rfl rfl
      have e3 := ed d1 rfl rfl rfl
      exact run_plain rfl (y_build2 Try.underlying23 Try.inf3 rfl (one_val rfl) (one_val rfl) e2 e3)
    intro a12 s10 D8
    have ok11 := D8.ok
    have F11 := F7.step0 D8.stp
    have q42 := (Pr.own 2 3 1 (List.length xs) (List.map Ty.int xs)).up D8.stp q22
    have q43 : a12.eval (.tmp 5) = a8.eval (.tmp 5) := D8.same 5 rfl
    have q44 := D8.kt q23 rfl
    have q45 := D8.kt q24 rfl
    have q46 : At (Ty.val (a8.eval (.tmp 5))) s10 a12 (.tmp 23) := D8.done 0 (by decide)
    have q47 : At (Ty.sl 1 2 [(Ty.int ((((List.length xs) : Nat) : Int) + (1 : Int))), (Ty.nat (List.length xs))]) s10 a12 (.tmp 27) := D8.done 4 (by decide)
    clear D8
    refine tail_step (m := 2) (R := (fun v τ => Own τ 2 3 1 v ((List.length xs) + 2) ((List.map Ty.int xs) ++ [(Ty.int ((((List.length xs) : Nat) : Int) + (1 : Int))), (Ty.nat (List.length xs))]))) rfl rfl (by decide) ok11 (m_append Try.underlying23 Try.inf3 (by decide) rfl (by decide) (al q46 q42) q47 (by intro U hU; simp at hU;  rcases hU with rfl | rfl <;> exact one_val rfl) (by omega) (by omega)) (fun a13 s11 hs3 ok12 r3 sm3 => ?_)
    have F12 := F11.step hs3 (by decide)
    have q48 : At (Ty.nat n) s11 a13 (.tmp 0) := kpm hs3 (by decide) (sm3 0 (by decide)) q44
    have q49 : At (Ty.lst Ty.int l) s11 a13 (.tmp 1) := kpm hs3 (by decide) (sm3 1 (by decide)) q45
    have q50 : At (Ty.sl 1 2 [(Ty.int ((((List.length xs) : Nat) : Int) + (1 : Int))), (Ty.nat (List.length xs))]) s11 a13 (.tmp 27) := kpm hs3 (by decide) (sm3 27 (by decide)) q47
    have q51 : (Pr.own 2 3 1 (List.length (xs ++ [((((List.length xs) : Nat) : Int) + (1 : Int)), (((List.length xs) : Nat) : Int)])) (List.map Ty.int (xs ++ [((((List.length xs) : Nat) : Int) + (1 : Int)), (((List.length xs) : Nat) : Int)]))).has s11 (a13.eval (.tmp 28)) := (cvo (by simp) (by first | (rw [List.map_append]; rfl) | simp) r3)
    refine tail_step (m := 0) (R := (fun v τ => Pr.has (Pr.own 2 3 1 (List.length (xs ++ [((((List.length xs) : Nat) : Int) + (1 : Int)), (((List.length xs) : Nat) : Int)])) (List.map Ty.int (xs ++ [((((List.length xs) : Nat) : Int) + (1 : Int)), (((List.length xs) : Nat) : Int)]))) τ v)) rfl rfl (by decide) ok12 (Yld.toM (y_assign q51)) (fun a14 s12 hs4 ok13 r4 sm4 => ?_)
    have F13 := F12.step hs4 (by decide)
    have q52 : At (Ty.nat n) s12 a14 (.tmp 0) := kpm hs4 (by decide) (sm4 0 (by decide)) q48
    have q53 : At (Ty.lst Ty.int l) s12 a14 (.tmp 1) := kpm hs4 (by decide) (sm4 1 (by decide)) q49
    have q54 : At (Ty.sl 1 2 [(Ty.int ((((List.length xs) : Nat) : Int) + (1 : Int))), (Ty.nat (List.length xs))]) s12 a14 (.tmp 27) := kpm hs4 (by decide) (sm4 27 (by decide)) q50
    have q55 : (Pr.own 2 3 1 (List.length (xs ++ [((((List.length xs) : Nat) : Int) + (1 : Int)), (((List.length xs) : Nat) : Int)])) (List.map Ty.int (xs ++ [((((List.length xs) : Nat) : Int) + (1 : Int)), (((List.length xs) : Nat) : Int)]))).has s12 (a14.eval (.tmp 28)) := kpmo hs4 (by decide) (.inl rfl) (sm4 28 (by decide)) q51
    have q56 : (Pr.own 2 3 1 (List.length (xs ++ [((((List.length xs) : Nat) : Int) + (1 : Int)), (((List.length xs) : Nat) : Int)])) (List.map Ty.int (xs ++ [((((List.length xs) : Nat) : Int) + (1 : Int)), (((List.length xs) : Nat) : Int)]))).has s12 (a14.eval (.tmp 5)) := r4
    refine wpList_nil ?_
    refine bn ?_
    exact tn ⟨n + 2 - ((xs ++ [((xs.length : Nat) : Int) + 1, ((xs.length : Nat) : Int)])).length, by simp; omega, s12, (xs ++ [((xs.length : Nat) : Int) + 1, ((xs.length : Nat) : Int)]), (f-1), rfl, F13, ok13, (cvo (by (simp)) (by (simp)) q56), q52, q53, by simp; omega, by simp; omega, by rw [List.length_append]; exact rowF_no heq (by omega) hf c2, rfl⟩
  ·
   refine wp_exit ?_
   refine tx ?_
   refine tx ?_
   refine bx ?_
   refine tn ?_
   refine wp_seq ?_
   refine reg (a := a5) (σ := s3) rfl (fun i_ => List.getD [(Ty.pr (Ty.val (a5.eval (.tmp 5)))), (Ty.pr (Ty.val (a5.eval (.tmp 5))))] i_ Pr.any) ok4 rfl ⟨?_, ?_, trivial⟩ ?_
   · intro ax tx hs okx sm
     exact run_plain rfl (y_move (sm 5 rfl))
   · intro ax tx hs okx sm d0 d1
     have e0 := ed d0 rfl rfl rfl
     exact run_plain rfl (y_assign e0)
   intro a15 s13 D9
   have ok14 := D9.ok
   have F14 := F4.step0 D9.stp
   have q57 : (Pr.own 2 3 1 (List.length xs) (List.map Ty.int xs)).has s13 (a15.eval (.tmp 4)) := al (show _ = _ from D9.done 1) ((Pr.own 2 3 1 (List.length xs) (List.map Ty.int xs)).up D9.stp q9)
   clear D9
   refine tn ?_
   refine wp_ret ?_
   obtain ⟨t3, e1, h1, q58⟩ := Own.seal q57 (by decide)
   rw [← e1]
   have F15 := F14.step h1 (by decide)
   exact ret1 rfl ok14 F15 (cvt (by (rw [rowF_end (by omega), List.append_nil] at heq; rw [heq])) q58)


set_option maxRecDepth 100000 in
theorem rBy_fn (a : List Int) (b : List Int) (σ : GW) (v0 v1 : Value) (hv0 : Ty.has (Ty.lst Ty.int a) σ v0) (hv1 : Ty.has (Ty.lst Ty.int b) σ v1) (hbd : ∀ i, i < b.length → 0 ≤ b.getD i 0 ∧ b.getD i 0 < a.length) (hs : b.length ≤ 1000000) :
    FnC Try.prog 65 #[v0, v1] σ (Ty.lst Ty.int (byL a b)) := by
 refine fn_intro Try.func65 rfl Try.ntmps65 (Nat.le_of_ble_eq_true rfl) (fun s0 a0 hle F0 ok0 hargs => ?_)
 have p0 : At (Ty.lst Ty.int a) s0 a0 (.tmp 0) := by have e := hargs 0 _ rfl; show Ty.has _ _ _; rw [e]; exact Ty.up _ hle hv0
 have b1 := sl_le p0
 have p1 : At (Ty.lst Ty.int b) s0 a0 (.tmp 1) := by have e := hargs 1 _ rfl; show Ty.has _ _ _; rw [e]; exact Ty.up _ hle hv1
 have b2 := sl_le p1
 clear hargs
 refine wp_seq ?_
 refine reg (a := a0) (σ := s0) rfl (fun i_ => List.getD [(Ty.pr (Ty.val (Value.slice none 0 0)))] i_ Pr.any) ok0 rfl ⟨?_, trivial⟩ ?_
 · intro ax tx hs okx sm
   exact run_plain rfl (y_assign rfl)
 intro a1 s1 D1
 have ok1 := D1.ok
 have F1 := F0.step0 D1.stp
 have q1 := D1.kt p0 rfl
 have q2 := D1.kt p1 rfl
 clear D1
 refine tn ?_
 refine wp_seq ?_
 refine reg (a := a1) (σ := s1) rfl (fun i_ => List.getD [(Ty.pr (Ty.val (Value.slice none 0 0)))] i_ Pr.any) ok1 rfl ⟨?_, trivial⟩ ?_
 · intro ax tx hs okx sm
   exact run_plain rfl (y_assign rfl)
 intro a2 s2 D2
 have ok2 := D2.ok
 have F2 := F1.step0 D2.stp
 have q3 := D2.kt q1 rfl
 have q4 := D2.kt q2 rfl
 have q5 : At (Ty.val (Value.slice none 0 0)) s2 a2 (.tmp 5) := D2.done 0
 clear D2
 refine tn ?_
 refine wp_seq ?_
 refine wp_seq ?_
 refine reg (a := a2) (σ := s2) rfl (fun i_ => List.getD [(Ty.pr (Ty.int (0 : Int)))] i_ Pr.any) ok2 rfl ⟨?_, trivial⟩ ?_
 · intro ax tx hs okx sm
   exact run_plain rfl (y_assign rfl)
 intro a3 s3 D3
 have ok3 := D3.ok
 have F3 := F2.step0 D3.stp
 have q6 := D3.kt q3 rfl
 have q7 := D3.kt q4 rfl
 have q8 := D3.kt q5 rfl
 have q9 : At (Ty.int (0 : Int)) s3 a3 (.tmp 6) := D3.done 0
 clear D3
 refine tn ?_
 refine wp_block ?_
 refine loop (fun n1 a4 w1 => ∃ (t1 : GW) (k : Nat), t1.w = w1 ∧ From s0 t1 ∧ Ok 24 a4 ∧ (Pr.own 2 3 1 (List.length (byL a (b.take k))) (List.map Ty.int (byL a (b.take k)))).has t1 (a4.eval (.tmp 5)) ∧ At (Ty.nat k) t1 a4 (.tmp 6) ∧ At (Ty.lst Ty.int a) t1 a4 (.tmp 0) ∧ At (Ty.lst Ty.int b) t1 a4 (.tmp 1) ∧ (k ≤ b.length) ∧ n1 = b.length - k) (b.length - (0)) ?_ ?_
 ·
  exact ⟨s3, 0, rfl, F3, ok3, (by have e : a3.eval (.tmp 5) = _ := q8; rw [e]; exact Own.nil _ _ _ _), (cvi (by (first | rfl | omega | (simp_all; done) | (simp_all; omega))) q9), q6, q7, by omega, rfl⟩
 ·
  rintro n2 a5 w2 ⟨t2, k, rfl, F4, ok4, q10, q11, q12, q13, hk, rfl⟩
  have hp := byL_take_len a b k
  refine wp_seq ?_
  refine wp_seq ?_
  refine reg (a := a5) (σ := t2) rfl (fun i_ => List.getD [(Ty.pr (Ty.nat k)), (Ty.pr (Ty.lst Ty.int b)), (Ty.pr (Ty.nat (List.length b))), (Ty.pr (Ty.bool (decide (((k : Nat) : Int) < (((List.length b) : Nat) : Int)))))] i_ Pr.any) ok4 rfl ⟨?_, ?_, ?_, ?_, trivial⟩ ?_
  · intro ax tx hs okx sm
    exact run_plain rfl (y_move (kp (sm 6 rfl) hs q11))
  · intro ax tx hs okx sm
    exact run_plain rfl (y_move (kp (sm 1 rfl) hs q13))
  · intro ax tx hs okx sm d0
    have e1 := ed d0 rfl rfl rfl
    exact run_plain rfl (y_len Try.underlying23 e1)
  · intro ax tx hs okx sm d0 d1
    have e0 := ed d0 rfl rfl rfl
    have e2 := ed d1 rfl rfl rfl
    exact run_plain rfl (y_lss e0 e2)
  intro a6 s4 D4
  have ok5 := D4.ok
  have F5 := F4.step0 D4.stp
  have q14 : (Pr.own 2 3 1 (List.length (byL a (b.take k))) (List.map Ty.int (byL a (b.take k)))).has s4 (a6.eval (.tmp 5)) := D4.ko q10 rfl
  have q15 := D4.kt q11 rfl
  have q16 := D4.kt q12 rfl
  have q17 := D4.kt q13 rfl
  have q18 : At (Ty.bool (decide (((k : Nat) : Int) < (((List.length b) : Nat) : Int)))) s4 a6 (.tmp 10) := D4.done 3
  clear D4
  refine tn ?_
  refine cond_p (p := (((k : Nat) : Int) < (((List.length b) : Nat) : Int))) q18 (fun c1 => ?_) (fun c1 => ?_)
  ·
   have hq := hbd k (by omega)
   refine wp_skip ?_
   refine tn ?_
   refine wp_seq ?_
   refine wp_block ?_
   refine reg2 (a := a6) (σ := s4) rfl 9 (fun i_ => List.getD [(Ty.pr (Ty.val (a6.eval (.tmp 5)))), (Ty.pr (Ty.lst Ty.int a)), (Ty.pr (Ty.lst Ty.int b)), (Ty.pr (Ty.nat k)), (Ty.pr (Ty.ref [(Ty.int (b.getD k 0))])), (Ty.pr (Ty.int (b.getD k 0))), (Ty.pr (Ty.ref [(Ty.int (a.getD ((b.getD k 0)).toNat 0))])), (Ty.pr (Ty.int (a.getD ((b.getD k 0)).toNat 0))), (Ty.pr (Ty.sl 1 1 [(Ty.int (a.getD ((b.getD k 0)).toNat 0))]))] i_ Pr.any) ok5 rfl (by decide) rfl ⟨?_, ?_, ?_, ?_, ?_, ?_, ?_, ?_, ?_, trivial⟩ ?_
   · intro ax tx hs okx sm
     exact run_plain rfl (y_move (sm 5 rfl))
   · intro ax tx hs okx sm
     exact run_plain rfl (y_move (kp (sm 0 rfl) hs q16))
   · intro ax tx hs okx sm
     exact run_plain rfl (y_move (kp (sm 1 rfl) hs q17))
   · intro ax tx hs okx sm
     exact run_plain rfl (y_move (kp (sm 6 rfl) hs q15))
   · intro ax tx hs okx sm d0 d1
     have e2 := ed d0 rfl rfl rfl
     have e3 := ed d1 rfl rfl rfl
     exact run_plain rfl (y_index1 Try.underlying23 Try.inf3 e2 e3 (by omega) (lst_get Ty.int b 0 k (by omega)))
   · intro ax tx hs okx sm d0
     have e4 := ed d0 rfl rfl rfl
     exact run_plain rfl (y_load Try.underlying3 rfl e4 rfl)
   · intro ax tx hs okx sm d0 d1
     have e1 := ed d0 rfl rfl rfl
     have e5 := ed d1 rfl rfl rfl
     exact run_plain rfl (y_index1 Try.underlying23 Try.inf3 e1 e5 (by omega) (lst_get Ty.int a 0 ((b.getD k 0)).toNat (by omega)))
   · intro ax tx hs okx sm d0
     have e6 := ed d0 rfl rfl rfl
     exact run_plain rfl (y_load Try.underlying3 rfl e6 rfl)
   · intro ax tx hs okx sm d0
     have e7 := ed d0 rfl rfl rfl
     exact run_plain rfl (y_build1o Try.underlying23 Try.inf3 rfl (one_val rfl) e7)
   intro a7 s5 D5
   have ok6 := D5.ok
   have F6 := F5.step0 D5.stp
   have q19 := (Pr.own 2 3 1 (List.length (byL a (b.take k))) (List.map Ty.int (byL a (b.take k)))).up D5.stp q14
   have q20 : a7.eval (.tmp 5) = a6.eval (.tmp 5) := D5.same 5 rfl
   have q21 := D5.kt q15 rfl
   have q22 := D5.kt q16 rfl
   have q23 := D5.kt q17 rfl
   have q24 : At (Ty.val (a6.eval (.tmp 5))) s5 a7 (.tmp 13) := D5.done 0 (by decide)
   have q25 : At (Ty.sl 1 1 [(Ty.int (a.getD ((b.getD k 0)).toNat 0))]) s5 a7 (.tmp 21) := D5.done 8 (by decide)
   clear D5
   refine tail_step (m := 2) (R := (fun v τ => Own τ 2 3 1 v ((List.length (byL a (b.take k))) + 1) ((List.map Ty.int (byL a (b.take k))) ++ [(Ty.int (a.getD ((b.getD k 0)).toNat 0))]))) rfl rfl (by decide) ok6 (m_append Try.underlying23 Try.inf3 (by decide) rfl (by decide) (al q24 q19) q25 (by intro U hU; simp at hU;  subst hU; exact one_val rfl) (by omega) (by omega)) (fun a8 s6 hs1 ok7 r1 sm1 => ?_)
   have F7 := F6.step hs1 (by decide)
   have q26 : At (Ty.nat k) s6 a8 (.tmp 6) := kpm hs1 (by decide) (sm1 6 (by decide)) q21
   have q27 : At (Ty.lst Ty.int a) s6 a8 (.tmp 0) := kpm hs1 (by decide) (sm1 0 (by decide)) q22
   have q28 : At (Ty.lst Ty.int b) s6 a8 (.tmp 1) := kpm hs1 (by decide) (sm1 1 (by decide)) q23
   have q29 : At (Ty.sl 1 1 [(Ty.int (a.getD ((b.getD k 0)).toNat 0))]) s6 a8 (.tmp 21) := kpm hs1 (by decide) (sm1 21 (by decide)) q25
   have q30 : (Pr.own 2 3 1 (List.length ((byL a (b.take k)) ++ [(a.getD ((b.getD k 0)).toNat 0)])) (List.map Ty.int ((byL a (b.take k)) ++ [(a.getD ((b.getD k 0)).toNat 0)]))).has s6 (a8.eval (.tmp 22)) := (cvo (by simp) (by first | (rw [List.map_append]; rfl) | simp) r1)
   refine tail_step (m := 0) (R := (fun v τ => Pr.has (Pr.own 2 3 1 (List.length ((byL a (b.take k)) ++ [(a.getD ((b.getD k 0)).toNat 0)])) (List.map Ty.int ((byL a (b.take k)) ++ [(a.getD ((b.getD k 0)).toNat 0)]))) τ v)) rfl rfl (by decide) ok7 (Yld.toM (y_assign q30)) (fun a9 s7 hs2 ok8 r2 sm2 => ?_)
   have F8 := F7.step hs2 (by decide)
   have q31 : At (Ty.nat k) s7 a9 (.tmp 6) := kpm hs2 (by decide) (sm2 6 (by decide)) q26
   have q32 : At (Ty.lst Ty.int a) s7 a9 (.tmp 0) := kpm hs2 (by decide) (sm2 0 (by decide)) q27
   have q33 : At (Ty.lst Ty.int b) s7 a9 (.tmp 1) := kpm hs2 (by decide) (sm2 1 (by decide)) q28
   have q34 : At (Ty.sl 1 1 [(Ty.int (a.getD ((b.getD k 0)).toNat 0))]) s7 a9 (.tmp 21) := kpm hs2 (by decide) (sm2 21 (by decide)) q29
   have q35 : (Pr.own 2 3 1 (List.length ((byL a (b.take k)) ++ [(a.getD ((b.getD k 0)).toNat 0)])) (List.map Ty.int ((byL a (b.take k)) ++ [(a.getD ((b.getD k 0)).toNat 0)]))).has s7 (a9.eval (.tmp 22)) := kpmo hs2 (by decide) (.inl rfl) (sm2 22 (by decide)) q30
   have q36 : (Pr.own 2 3 1 (List.length ((byL a (b.take k)) ++ [(a.getD ((b.getD k 0)).toNat 0)])) (List.map Ty.int ((byL a (b.take k)) ++ [(a.getD ((b.getD k 0)).toNat 0)]))).has s7 (a9.eval (.tmp 5)) := r2
   refine wpList_nil ?_
   refine bn ?_
   refine tn ?_
   refine reg (a := a9) (σ := s7) rfl (fun i_ => List.getD [(Ty.pr (Ty.nat k)), (Ty.pr (Ty.int (((k : Nat) : Int) + (1 : Int)))), (Ty.pr (Ty.int (((k : Nat) : Int) + (1 : Int))))] i_ Pr.any) ok8 rfl ⟨?_, ?_, ?_, trivial⟩ ?_
   · intro ax tx hs okx sm
     exact run_plain rfl (y_move (kp (sm 6 rfl) hs q31))
   · intro ax tx hs okx sm d0
     have e0 := ed d0 rfl rfl rfl
     exact run_plain rfl (y_add e0 rfl (w64 (by omega) (by omega)))
   · intro ax tx hs okx sm d0 d1 d2
     have e1 := ed d0 rfl rfl rfl
     exact run_plain rfl (y_assign e1)
   intro a10 s8 D6
   have ok9 := D6.ok
   have F9 := F8.step0 D6.stp
   have q37 := D6.kt q32 rfl
   have q38 := D6.kt q33 rfl
   have q39 : (Pr.own 2 3 1 (List.length ((byL a (b.take k)) ++ [(a.getD ((b.getD k 0)).toNat 0)])) (List.map Ty.int ((byL a (b.take k)) ++ [(a.getD ((b.getD k 0)).toNat 0)]))).has s8 (a10.eval (.tmp 5)) := D6.ko q36 rfl
   have q40 : At (Ty.int (((k : Nat) : Int) + (1 : Int))) s8 a10 (.tmp 6) := D6.done 2
   clear D6
   exact tn ⟨b.length - ((k+1)), by omega, s8, (k+1), rfl, F9, ok9, (cvo (by (rw [byL_snoc a b k (by omega)])) (by (rw [byL_snoc a b k (by omega)])) q39), (cvi (by (first | rfl | omega | (simp_all; done) | (simp_all; omega))) q40), q37, q38, by omega, rfl⟩
  ·
   refine wp_exit ?_
   refine tx ?_
   refine tx ?_
   refine bx ?_
   refine tn ?_
   refine wp_seq ?_
   refine reg (a := a6) (σ := s4) rfl (fun i_ => List.getD [(Ty.pr (Ty.val (a6.eval (.tmp 5)))), (Ty.pr (Ty.val (a6.eval (.tmp 5))))] i_ Pr.any) ok5 rfl ⟨?_, ?_, trivial⟩ ?_
   · intro ax tx hs okx sm
     exact run_plain rfl (y_move (sm 5 rfl))
   · intro ax tx hs okx sm d0 d1
     have e0 := ed d0 rfl rfl rfl
     exact run_plain rfl (y_assign e0)
   intro a11 s9 D7
   have ok10 := D7.ok
   have F10 := F5.step0 D7.stp
   have q41 : (Pr.own 2 3 1 (List.length (byL a (b.take k))) (List.map Ty.int (byL a (b.take k)))).has s9 (a11.eval (.tmp 4)) := al (show _ = _ from D7.done 1) ((Pr.own 2 3 1 (List.length (byL a (b.take k))) (List.map Ty.int (byL a (b.take k)))).up D7.stp q14)
   clear D7
   refine tn ?_
   refine wp_ret ?_
   obtain ⟨t3, e1, h1, q42⟩ := Own.seal q41 (by decide)
   rw [← e1]
   have F11 := F10.step h1 (by decide)
   exact ret1 rfl ok10 F11 (cvt (by (obtain rfl : k = b.length := (by omega); rw [List.take_length])) q42)


set_option maxHeartbeats 4000000 in
set_option maxRecDepth 100000 in
theorem rFrom_fn (r : List Int) (l : List (List Int)) (σ : GW)  (v0 v1 : Value) (hv0 : Ty.has (Ty.lst Ty.int r) σ v0) (hv1 : Ty.has (Ty.lst Ty.ints l) σ v1)  (hr : r.length ≤ 12) (hok : ∀ k, k < l.length → okL 0 (l.getD k []) r.length) (hl : l.length ≤ 200) :
    FnC Try.prog 63 #[v0, v1] σ (Ty.lst Ty.ints (fromL r l)) := by
 refine fn_intro0 Try.func63 rfl Try.ntmps63 (Nat.le_of_ble_eq_true rfl) (fun s0 a0 hle F0 ok0 hargs => ?_)
 have p0 : At (Ty.lst Ty.int r) s0 a0 (.tmp 0) := by have e := hargs 0 _ rfl; show Ty.has _ _ _; rw [e]; exact Ty.up _ hle hv0
 have b1 := sl_le p0
 have p1 : At (Ty.lst Ty.ints l) s0 a0 (.tmp 1) := by have e := hargs 1 _ rfl; show Ty.has _ _ _; rw [e]; exact Ty.up _ hle hv1
 have b2 := sl_le p1
 clear hargs
 refine wp_seq ?_
 refine reg (a := a0) (σ := s0) rfl (fun i_ => List.getD [(Ty.pr (Ty.val (Value.slice none 0 0)))] i_ Pr.any) ok0 rfl ⟨?_, trivial⟩ ?_
 · intro ax tx hs okx sm
   exact run_plain rfl (y_assign rfl)
 intro a1 s1 D1
 have ok1 := D1.ok
 have F1 := F0.step0 D1.stp
 have q1 := D1.kt p0 rfl
 have q2 := D1.kt p1 rfl
 clear D1
 refine tn ?_
 refine wp_seq ?_
 refine reg2 (a := a1) (σ := s1) rfl 2 (fun i_ => List.getD [(Ty.pr (Ty.lst Ty.int r)), (Pr.own 5 23 1 1 (List.map Ty.ints [r]))] i_ Pr.any) ok1 rfl (by decide) rfl ⟨?_, ?_, trivial⟩ ?_
 · intro ax tx hs okx sm
   exact run_plain rfl (y_move (kp (sm 0 rfl) hs q1))
 · intro ax tx hs okx sm d0
   have e0 := ed d0 rfl rfl rfl
   exact run_plain rfl ((y_lit1 (k := 5) Try.underlying29 Try.inf23 rfl (one_sl) e0).mono (fun _ _ h => cvo (by simp) (by simp) h))
 intro a2 s2 D2
 have ok2 := D2.ok
 have F2 := F1.step0 D2.stp
 have q3 := D2.kt q1 rfl
 have q4 := D2.kt q2 rfl
 obtain ⟨x1, hx1⟩ : ∃ x, a2.eval (.tmp 9) = x := ⟨_, rfl⟩
 have q5 : At (Ty.val x1) s2 a2 (.tmp 9) := hx1
 have o1 : Own s2 5 23 1 x1 1 (List.map Ty.ints [r]) := al2 (R := (Pr.own 5 23 1 1 (List.map Ty.ints [r]))) hx1 (D2.done 1 (by decide))
 clear D2
 refine tailL (L := []) (R := (fun v τ => Pr.has (Ty.pr (Ty.val x1)) τ v)) rfl rfl (by decide) ok2 (Yld.toL (y_assign q5)) (fun a3 s3 hs1 ok3 r1 sm1 => ?_)
 have F3 := F2.stepL hs1 (by decide)
 have q6 := kpL hs1 (by decide) (sm1 0 (by decide)) q3
 have q7 := kpL hs1 (by decide) (sm1 1 (by decide)) q4
 have o2 := Own.keepL o1 hs1 (by decide) (by decide)
 have q8 : At (Ty.val x1) s3 a3 (.tmp 5) := r1
 clear r1
 refine wpList_nil ?_
 refine tn ?_
 refine wp_seq ?_
 refine wp_seq ?_
 refine reg (a := a3) (σ := s3) rfl (fun i_ => List.getD [(Ty.pr (Ty.int (0 : Int)))] i_ Pr.any) ok3 rfl ⟨?_, trivial⟩ ?_
 · intro ax tx hs okx sm
   exact run_plain rfl (y_assign rfl)
 intro a4 s4 D3
 have ok4 := D3.ok
 have F4 := F3.step0 D3.stp
 have q9 := D3.kt q6 rfl
 have q10 := D3.kt q7 rfl
 have q11 := D3.kt q8 rfl
 have o3 := Own.k0 o2 D3.stp
 have q12 : At (Ty.int (0 : Int)) s4 a4 (.tmp 6) := D3.done 0
 clear D3
 refine tn ?_
 refine wp_block ?_
 refine loop (fun n1 a5 w1 => ∃ (t1 : GW) (k : Nat) (x5_0 : Value), t1.w = w1 ∧ FromL [] s0 t1 ∧ Ok 31 a5 ∧ At (Ty.nat k) t1 a5 (.tmp 6) ∧ At (Ty.lst Ty.int (curL r l k)) t1 a5 (.tmp 0) ∧ At (Ty.val x5_0) t1 a5 (.tmp 5) ∧ At (Ty.lst Ty.ints l) t1 a5 (.tmp 1) ∧ Own t1 5 23 1 x5_0 (List.length (fromTo r l k)) (List.map Ty.ints (fromTo r l k)) ∧ (k ≤ l.length) ∧ n1 = l.length - k) (l.length - (0)) ?_ ?_
 ·
  exact ⟨s4, 0, x1, rfl, F4, ok4, (cvi (by (first | rfl | omega | (simp_all; done) | (simp_all; omega))) q12), (cvt (by (rfl)) q9), q11, q10, (cvo (by (simp [fromTo_zero])) (by (simp [fromTo_zero])) o3), by omega, rfl⟩
 ·
  rintro n2 a6 w2 ⟨t2, k, x5_0, rfl, F5, ok5, q13, q14, q15, q16, o4, hk, rfl⟩
  have hcl := curL_len hok k hk
  have hfl := fromTo_len r l k
  refine wp_seq ?_
  refine wp_seq ?_
  refine reg (a := a6) (σ := t2) rfl (fun i_ => List.getD [(Ty.pr (Ty.nat k)), (Ty.pr (Ty.lst Ty.ints l)), (Ty.pr (Ty.nat (List.length l))), (Ty.pr (Ty.bool (decide (((k : Nat) : Int) < (((List.length l) : Nat) : Int)))))] i_ Pr.any) ok5 rfl ⟨?_, ?_, ?_, ?_, trivial⟩ ?_
  · intro ax tx hs okx sm
    exact run_plain rfl (y_move (kp (sm 6 rfl) hs q13))
  · intro ax tx hs okx sm
    exact run_plain rfl (y_move (kp (sm 1 rfl) hs q16))
  · intro ax tx hs okx sm d0
    have e1 := ed d0 rfl rfl rfl
    exact run_plain rfl (y_len Try.underlying29 e1)
  · intro ax tx hs okx sm d0 d1
    have e0 := ed d0 rfl rfl rfl
    have e2 := ed d1 rfl rfl rfl
    exact run_plain rfl (y_lss e0 e2)
  intro a7 s5 D4
  have ok6 := D4.ok
  have F6 := F5.step0 D4.stp
  have q17 := D4.kt q13 rfl
  have q18 := D4.kt q14 rfl
  have q19 := D4.kt q15 rfl
  have q20 := D4.kt q16 rfl
  have o5 := Own.k0 o4 D4.stp
  have q21 : At (Ty.bool (decide (((k : Nat) : Int) < (((List.length l) : Nat) : Int)))) s5 a7 (.tmp 13) := D4.done 3
  clear D4
  refine tn ?_
  refine cond_p (p := (((k : Nat) : Int) < (((List.length l) : Nat) : Int))) q21 (fun c1 => ?_) (fun c1 => ?_)
  ·
   have hokk := hok k (by omega); rw [← hcl] at hokk; have hcc := chgRow_len hokk; have hcd := hcc.symm; have hcl0 : (curL r l k).length ≤ 12 := (by omega); have hbd : ∀ i, i < (chgRow (curL r l k).length (l.getD k [])).length → 0 ≤ (chgRow (curL r l k).length (l.getD k [])).getD i 0 ∧ (chgRow (curL r l k).length (l.getD k [])).getD i 0 < ((curL r l k).length : Int) := (fun i hi => chgRow_bd hokk hi)
   refine wp_skip ?_
   refine tn ?_
   refine wp_seq ?_
   refine wp_block ?_
   refine wp_seq ?_
   refine reg (a := a7) (σ := s5) rfl (fun i_ => List.getD [(Ty.pr (Ty.lst Ty.int (curL r l k))), (Ty.pr (Ty.nat (List.length (curL r l k)))), (Ty.pr (Ty.lst Ty.ints l)), (Ty.pr (Ty.nat k)), (Ty.pr (Ty.ref [(Ty.lst Ty.int (l.getD k []))])), (Ty.pr (Ty.lst Ty.int (l.getD k []))), (Ty.pr (Ty.lst Ty.int (chgRow ((List.length (curL r l k))) ((l.getD k []))))), (Ty.pr (Ty.lst Ty.int (chgRow ((List.length (curL r l k))) ((l.getD k [])))))] i_ Pr.any) ok6 rfl ⟨?_, ?_, ?_, ?_, ?_, ?_, ?_, ?_, trivial⟩ ?_
   · intro ax tx hs okx sm
     exact run_plain rfl (y_move (kp (sm 0 rfl) hs q18))
   · intro ax tx hs okx sm d0
     have e0 := ed d0 rfl rfl rfl
     exact run_plain rfl (y_len Try.underlying23 e0)
   · intro ax tx hs okx sm
     exact run_plain rfl (y_move (kp (sm 1 rfl) hs q20))
   · intro ax tx hs okx sm
     exact run_plain rfl (y_move (kp (sm 6 rfl) hs q17))
   · intro ax tx hs okx sm d0 d1
     have e2 := ed d0 rfl rfl rfl
     have e3 := ed d1 rfl rfl rfl
     exact run_plain rfl (y_index1 Try.underlying29 Try.inf23 e2 e3 (by omega) (lst_get Ty.ints l [] k (by omega)))
   · intro ax tx hs okx sm d0
     have e4 := ed d0 rfl rfl rfl
     exact run_plain rfl (y_load Try.underlying23 rfl e4 rfl)
   · intro ax tx hs okx sm d0 d1
     have e1 := ed d0 rfl rfl rfl
     have e5 := ed d1 rfl rfl rfl
     exact run_plain rfl (y_call #[ax.eval (.tmp 17), ax.eval (.tmp 21)] Try.func92 rfl rfl (by simp only [List.map_toArray, List.map_cons, List.map_nil]) (rChangeRow_fn ((List.length (curL r l k))) ((l.getD k [])) _ _ _ (cvi (σ := tx) (by omega) e1) e5 (by omega)))
   · intro ax tx hs okx sm d0 d1 d2 d3 d4 d5 d6 d7 d8
     have e6 := ed d0 rfl rfl rfl
     exact run_plain rfl (y_assign e6)
   intro a8 s6 D5
   have ok7 := D5.ok
   have F7 := F6.step0 D5.stp
   have q22 := D5.kt q17 rfl
   have q23 := D5.kt q18 rfl
   have q24 := D5.kt q19 rfl
   have q25 := D5.kt q20 rfl
   have o6 := Own.k0 o5 D5.stp
   have q26 : At (Ty.lst Ty.int (chgRow ((List.length (curL r l k))) ((l.getD k [])))) s6 a8 (.tmp 7) := D5.done 7
   clear D5
   refine tn ?_
   refine wp_seq ?_
   refine reg (a := a8) (σ := s6) rfl (fun i_ => List.getD [(Ty.pr (Ty.lst Ty.int (curL r l k))), (Ty.pr (Ty.lst Ty.int (chgRow ((List.length (curL r l k))) ((l.getD k []))))), (Ty.pr (Ty.lst Ty.int (byL ((curL r l k)) ((chgRow ((List.length (curL r l k))) ((l.getD k []))))))), (Ty.pr (Ty.lst Ty.int (byL ((curL r l k)) ((chgRow ((List.length (curL r l k))) ((l.getD k [])))))))] i_ Pr.any) ok7 rfl ⟨?_, ?_, ?_, ?_, trivial⟩ ?_
   · intro ax tx hs okx sm
     exact run_plain rfl (y_move (kp (sm 0 rfl) hs q23))
   · intro ax tx hs okx sm
     exact run_plain rfl (y_move (kp (sm 7 rfl) hs q26))
   · intro ax tx hs okx sm d0 d1
     have e0 := ed d0 rfl rfl rfl
     have e1 := ed d1 rfl rfl rfl
     exact run_plain rfl (y_call #[ax.eval (.tmp 23), ax.eval (.tmp 24)] Try.func65 rfl rfl (by simp only [List.map_toArray, List.map_cons, List.map_nil]) (rBy_fn ((curL r l k)) ((chgRow ((List.length (curL r l k))) ((l.getD k [])))) _ _ _ e0 e1 (by first | assumption | omega) (by first | assumption | omega)))
   · intro ax tx hs okx sm d0 d1 d2 d3 d4
     have e2 := ed d0 rfl rfl rfl
     exact run_plain rfl (y_assign e2)
   intro a9 s7 D6
   have ok8 := D6.ok
   have F8 := F7.step0 D6.stp
   have q27 := D6.kt q22 rfl
   have q28 := D6.kt q24 rfl
   have q29 := D6.kt q25 rfl
   have o7 := Own.k0 o6 D6.stp
   have q30 : At (Ty.lst Ty.int (byL ((curL r l k)) ((chgRow ((List.length (curL r l k))) ((l.getD k [])))))) s7 a9 (.tmp 0) := D6.done 3
   clear D6
   refine tn ?_
   refine reg2 (a := a9) (σ := s7) rfl 3 (fun i_ => List.getD [(Ty.pr (Ty.val x5_0)), (Ty.pr (Ty.lst Ty.int (byL ((curL r l k)) ((chgRow ((List.length (curL r l k))) ((l.getD k []))))))), (Ty.pr (Ty.sl 1 1 [(Ty.lst Ty.int (byL ((curL r l k)) ((chgRow ((List.length (curL r l k))) ((l.getD k []))))))]))] i_ Pr.any) ok8 rfl (by decide) rfl ⟨?_, ?_, ?_, trivial⟩ ?_
   · intro ax tx hs okx sm
     exact run_plain rfl (y_move (kp (sm 5 rfl) hs q28))
   · intro ax tx hs okx sm
     exact run_plain rfl (y_move (kp (sm 0 rfl) hs q30))
   · intro ax tx hs okx sm d0
     have e1 := ed d0 rfl rfl rfl
     exact run_plain rfl (y_build1o Try.underlying29 Try.inf23 rfl (one_sl) e1)
   intro a10 s8 D7
   have ok9 := D7.ok
   have F9 := F8.step0 D7.stp
   have q31 := D7.kt q27 rfl
   have q32 := D7.kt q28 rfl
   have q33 := D7.kt q29 rfl
   have q34 := D7.kt q30 rfl
   have o8 := Own.k0 o7 D7.stp
   have q35 : At (Ty.val x5_0) s8 a10 (.tmp 26) := D7.done 0 (by decide)
   have q36 : At (Ty.sl 1 1 [(Ty.lst Ty.int (byL ((curL r l k)) ((chgRow ((List.length (curL r l k))) ((l.getD k []))))))]) s8 a10 (.tmp 28) := D7.done 2 (by decide)
   have b3 := sl_le q36
   clear D7
   refine tailL (L := [5]) (R := (fun v τ => Own τ 5 23 1 v ((List.length (fromTo r l k)) + 1) ((List.map Ty.ints (fromTo r l k)) ++ [(Ty.lst Ty.int (byL ((curL r l k)) ((chgRow ((List.length (curL r l k))) ((l.getD k []))))))]))) rfl rfl (by decide) ok9 (YldM.toL (m_append Try.underlying29 Try.inf23 (by decide) rfl (by decide) (al (R := (Pr.own 5 23 1 (List.length (fromTo r l k)) (List.map Ty.ints (fromTo r l k)))) q35 o8) q36 (by intro U hU; simp at hU; subst hU; exact one_sl) (by omega) (by omega))) (fun a11 s9 hs2 ok10 r2 sm2 => ?_)
   have F10 := F9.stepL hs2 (by decide)
   have q37 := kpL hs2 (by decide) (sm2 6 (by decide)) q31
   have q38 := kpL hs2 (by decide) (sm2 5 (by decide)) q32
   have q39 := kpL hs2 (by decide) (sm2 1 (by decide)) q33
   have q40 := kpL hs2 (by decide) (sm2 0 (by decide)) q34
   obtain ⟨x2, hx2⟩ : ∃ x, a11.eval (.tmp 29) = x := ⟨_, rfl⟩
   have q41 : At (Ty.val x2) s9 a11 (.tmp 29) := hx2
   have o9 : Own s9 5 23 1 x2 (List.length ((fromTo r l k) ++ [(byL ((curL r l k)) ((chgRow ((List.length (curL r l k))) ((l.getD k [])))))])) (List.map Ty.ints ((fromTo r l k) ++ [(byL ((curL r l k)) ((chgRow ((List.length (curL r l k))) ((l.getD k [])))))])) := al2 (R := (Pr.own 5 23 1 (List.length ((fromTo r l k) ++ [(byL ((curL r l k)) ((chgRow ((List.length (curL r l k))) ((l.getD k [])))))])) (List.map Ty.ints ((fromTo r l k) ++ [(byL ((curL r l k)) ((chgRow ((List.length (curL r l k))) ((l.getD k [])))))])))) hx2 (cvo (by simp) (by first | (rw [List.map_append]; rfl) | simp) r2)
   clear r2
   refine tailL (L := []) (R := (fun v τ => Pr.has (Ty.pr (Ty.val x2)) τ v)) rfl rfl (by decide) ok10 (Yld.toL (y_assign q41)) (fun a12 s10 hs3 ok11 r3 sm3 => ?_)
   have F11 := F10.stepL hs3 (by decide)
   have q42 := kpL hs3 (by decide) (sm3 6 (by decide)) q37
   have q43 := kpL hs3 (by decide) (sm3 1 (by decide)) q39
   have q44 := kpL hs3 (by decide) (sm3 0 (by decide)) q40
   have o10 := Own.keepL o9 hs3 (by decide) (by decide)
   have q45 : At (Ty.val x2) s10 a12 (.tmp 5) := r3
   clear r3
   refine wpList_nil ?_
   refine bn ?_
   refine tn ?_
   refine reg (a := a12) (σ := s10) rfl (fun i_ => List.getD [(Ty.pr (Ty.nat k)), (Ty.pr (Ty.int (((k : Nat) : Int) + (1 : Int)))), (Ty.pr (Ty.int (((k : Nat) : Int) + (1 : Int))))] i_ Pr.any) ok11 rfl ⟨?_, ?_, ?_, trivial⟩ ?_
   · intro ax tx hs okx sm
     exact run_plain rfl (y_move (kp (sm 6 rfl) hs q42))
   · intro ax tx hs okx sm d0
     have e0 := ed d0 rfl rfl rfl
     exact run_plain rfl (y_add e0 rfl (w64 (by omega) (by omega)))
   · intro ax tx hs okx sm d0 d1 d2
     have e1 := ed d0 rfl rfl rfl
     exact run_plain rfl (y_assign e1)
   intro a13 s11 D8
   have ok12 := D8.ok
   have F12 := F11.step0 D8.stp
   have q46 := D8.kt q43 rfl
   have q47 := D8.kt q44 rfl
   have q48 := D8.kt q45 rfl
   have o11 := Own.k0 o10 D8.stp
   have q49 : At (Ty.int (((k : Nat) : Int) + (1 : Int))) s11 a13 (.tmp 6) := D8.done 2
   clear D8
   exact tn ⟨l.length - ((k+1)), by omega, s11, (k+1), x2, rfl, F12, ok12, (cvi (by (first | rfl | omega | (simp_all; done) | (simp_all; omega))) q49), (cvt (by (rw [curL_succ r l k (by omega)])) q47), q48, q46, (cvo (by (rw [fromTo_succ, curL_succ r l k (by omega)])) (by (rw [fromTo_succ, curL_succ r l k (by omega)])) o11), by omega, rfl⟩
  ·
   refine wp_exit ?_
   refine tx ?_
   refine tx ?_
   refine bx ?_
   refine tn ?_
   refine wp_seq ?_
   refine reg (a := a7) (σ := s5) rfl (fun i_ => List.getD [(Ty.pr (Ty.val x5_0)), (Ty.pr (Ty.val x5_0))] i_ Pr.any) ok6 rfl ⟨?_, ?_, trivial⟩ ?_
   · intro ax tx hs okx sm
     exact run_plain rfl (y_move (kp (sm 5 rfl) hs q19))
   · intro ax tx hs okx sm d0 d1
     have e0 := ed d0 rfl rfl rfl
     exact run_plain rfl (y_assign e0)
   intro a14 s12 D9
   have ok13 := D9.ok
   have F13 := F6.step0 D9.stp
   have o12 := Own.k0 o5 D9.stp
   have q50 : At (Ty.val x5_0) s12 a14 (.tmp 4) := D9.done 1
   clear D9
   refine tn ?_
   refine wp_ret ?_
   obtain ⟨t3, e1, h1, q51⟩ := Own.seal o12 (by decide)
   rw [← e1]
   have F14 := F13.step h1 (by decide)
   have q52 : At (Ty.lst Ty.ints (fromTo r l k)) t3 a14 (.tmp 4) := by have e : a14.eval (.tmp 4) = x5_0 := q50; show Ty.has _ _ _; rw [e]; exact q51
   exact retL1 rfl ok13 F14 (cvt (by (obtain rfl : k = l.length := (by omega); rfl)) q52)


set_option maxHeartbeats 4000000 in
set_option maxRecDepth 100000 in
theorem rTouchRows_fn (nm : ByteArray) (n : Int) (l : List (List Int)) (cs : List BCall) (leads : List Int) (σ : GW)  (v0 v1 v2 : Value) (hv0 : Ty.has (Ty.agg [(Ty.val (Value.string nm)), (Ty.int n), (Ty.lst Ty.ints l)]) σ v0) (hv1 : Ty.has (Ty.lstc 2 callC cs) σ v1) (hv2 : Ty.has (Ty.lst Ty.int leads) σ v2)  (h0 : touchMay nm n l cs leads = 0) :
    FnC Try.prog 29 #[v0, v1, v2] σ (Ty.lst Ty.ints (tRows n.toNat l cs leads leads.length)) := by
 obtain ⟨hok, hnn, hlo, hlh, hin, hlim⟩ := touchMay_ok h0; have hl1 := hok.meth.l1; have hl2 := hok.meth.l2; have hn1 := hok.meth.n1; have hn2 := hok.meth.n2
 refine fn_intro0 Try.func29 rfl Try.ntmps29 (Nat.le_of_ble_eq_true rfl) (fun s0 a0 hle F0 ok0 hargs => ?_)
 have p0 : At (Ty.agg [(Ty.val (Value.string nm)), (Ty.int n), (Ty.lst Ty.ints l)]) s0 a0 (.tmp 0) := by have e := hargs 0 _ rfl; show Ty.has _ _ _; rw [e]; exact Ty.up _ hle hv0
 have p1 : At (Ty.lstc 2 callC cs) s0 a0 (.tmp 1) := by have e := hargs 1 _ rfl; show Ty.has _ _ _; rw [e]; exact Ty.up _ hle hv1
 have b1 := sl_le p1
 have p2 : At (Ty.lst Ty.int leads) s0 a0 (.tmp 2) := by have e := hargs 2 _ rfl; show Ty.has _ _ _; rw [e]; exact Ty.up _ hle hv2
 have b2 := sl_le p2
 clear hargs
 refine wp_seq ?_
 refine reg (a := a0) (σ := s0) rfl (fun i_ => List.getD [(Ty.pr (Ty.ref [(Ty.val (Value.string nm)), (Ty.int n), (Ty.lst Ty.ints l)])), (Ty.pr (Ty.val (Value.slice none 0 0)))] i_ Pr.any) ok0 rfl ⟨?_, ?_, trivial⟩ ?_
 · intro ax tx hs okx sm
   exact run_plain rfl (y_boxagg (kp (sm 0 rfl) hs p0))
 · intro ax tx hs okx sm
   exact run_plain rfl (y_assign rfl)
 intro a1 s1 D1
 have ok1 := D1.ok
 have F1 := F0.step0 D1.stp
 have q1 := D1.kt p1 rfl
 have q2 := D1.kt p2 rfl
 have q3 : At (Ty.ref [(Ty.val (Value.string nm)), (Ty.int n), (Ty.lst Ty.ints l)]) s1 a1 (.tmp 3) := D1.done 0
 clear D1
 refine tn ?_
 refine wp_seq ?_
 refine reg2 (a := a1) (σ := s1) rfl 4 (fun i_ => List.getD [(Ty.pr (Ty.ref [(Ty.int n), (Ty.lst Ty.ints l)])), (Ty.pr (Ty.int n)), (Ty.pr (Ty.lst Ty.int (roundsL ((n).toNat)))), (Pr.own 5 23 1 1 (List.map Ty.ints [(roundsL ((n).toNat))]))] i_ Pr.any) ok1 rfl (by decide) rfl ⟨?_, ?_, ?_, ?_, trivial⟩ ?_
 · intro ax tx hs okx sm
   exact run_plain rfl (y_field Try.fld31_1 Try.inf3 (by decide) (kp (sm 3 rfl) hs q3) rfl)
 · intro ax tx hs okx sm d0
   have e0 := ed d0 rfl rfl rfl
   exact run_plain rfl (y_load Try.underlying3 rfl e0 rfl)
 · intro ax tx hs okx sm d0
   have e1 := ed d0 rfl rfl rfl
   exact run_plain rfl (y_call #[ax.eval (.tmp 11)] Try.func64 rfl rfl (by simp only [List.map_toArray, List.map_cons, List.map_nil]) (rRounds_fn ((n).toNat) _ _ (cvi (σ := tx) (by omega) e1) (by omega)))
 · intro ax tx hs okx sm d0
   have e2 := ed d0 rfl rfl rfl
   exact run_plain rfl ((y_lit1 (k := 5) Try.underlying29 Try.inf23 rfl (one_sl) e2).mono (fun _ _ h => cvo (by simp) (by simp) h))
 intro a2 s2 D2
 have ok2 := D2.ok
 have F2 := F1.step0 D2.stp
 have q4 := D2.kt q1 rfl
 have q5 := D2.kt q2 rfl
 have q6 := D2.kt q3 rfl
 obtain ⟨x1, hx1⟩ : ∃ x, a2.eval (.tmp 13) = x := ⟨_, rfl⟩
 have q7 : At (Ty.val x1) s2 a2 (.tmp 13) := hx1
 have o1 : Own s2 5 23 1 x1 1 (List.map Ty.ints [(roundsL ((n).toNat))]) := al2 (R := (Pr.own 5 23 1 1 (List.map Ty.ints [(roundsL ((n).toNat))]))) hx1 (D2.done 3 (by decide))
 clear D2
 refine tailL (L := []) (R := (fun v τ => Pr.has (Ty.pr (Ty.val x1)) τ v)) rfl rfl (by decide) ok2 (Yld.toL (y_assign q7)) (fun a3 s3 hs1 ok3 r1 sm1 => ?_)
 have F3 := F2.stepL hs1 (by decide)
 have q8 := kpL hs1 (by decide) (sm1 1 (by decide)) q4
 have q9 := kpL hs1 (by decide) (sm1 2 (by decide)) q5
 have q10 := kpL hs1 (by decide) (sm1 3 (by decide)) q6
 have o2 := Own.keepL o1 hs1 (by decide) (by decide)
 have q11 : At (Ty.val x1) s3 a3 (.tmp 7) := r1
 clear r1
 refine wpList_nil ?_
 refine tn ?_
 refine wp_seq ?_
 refine wp_seq ?_
 refine reg (a := a3) (σ := s3) rfl (fun i_ => List.getD [(Ty.pr (Ty.int (0 : Int)))] i_ Pr.any) ok3 rfl ⟨?_, trivial⟩ ?_
 · intro ax tx hs okx sm
   exact run_plain rfl (y_assign rfl)
 intro a4 s4 D3
 have ok4 := D3.ok
 have F4 := F3.step0 D3.stp
 have q12 := D3.kt q8 rfl
 have q13 := D3.kt q9 rfl
 have q14 := D3.kt q10 rfl
 have q15 := D3.kt q11 rfl
 have o3 := Own.k0 o2 D3.stp
 have q16 : At (Ty.int (0 : Int)) s4 a4 (.tmp 8) := D3.done 0
 clear D3
 refine tn ?_
 refine wp_block ?_
 refine loop (fun n1 a5 w1 => ∃ (t1 : GW) (k : Nat) (x7_0 : Value), t1.w = w1 ∧ FromL [] s0 t1 ∧ Ok 41 a5 ∧ At (Ty.nat k) t1 a5 (.tmp 8) ∧ At (Ty.val x7_0) t1 a5 (.tmp 7) ∧ At (Ty.lstc 2 callC cs) t1 a5 (.tmp 1) ∧ At (Ty.lst Ty.int leads) t1 a5 (.tmp 2) ∧ At (Ty.ref [(Ty.val (Value.string nm)), (Ty.int n), (Ty.lst Ty.ints l)]) t1 a5 (.tmp 3) ∧ Own t1 5 23 1 x7_0 (List.length (tRows n.toNat l cs leads k)) (List.map Ty.ints (tRows n.toNat l cs leads k)) ∧ (k ≤ leads.length) ∧ n1 = leads.length - k) (leads.length - (0)) ?_ ?_
 ·
  exact ⟨s4, 0, x1, rfl, F4, ok4, (cvi (by (first | rfl | omega | (simp_all; done) | (simp_all; omega))) q16), q15, q12, q13, q14, (cvo (by (rfl)) (by (rfl)) o3), by omega, rfl⟩
 ·
  rintro n2 a6 w2 ⟨t2, k, x7_0, rfl, F5, ok5, q17, q18, q19, q20, q21, o4, hk, rfl⟩
  have htl := tRows_len hok hin k hk
  refine wp_seq ?_
  refine wp_seq ?_
  refine reg (a := a6) (σ := t2) rfl (fun i_ => List.getD [(Ty.pr (Ty.nat k)), (Ty.pr (Ty.lst Ty.int leads)), (Ty.pr (Ty.nat (List.length leads))), (Ty.pr (Ty.bool (decide (((k : Nat) : Int) < (((List.length leads) : Nat) : Int)))))] i_ Pr.any) ok5 rfl ⟨?_, ?_, ?_, ?_, trivial⟩ ?_
  · intro ax tx hs okx sm
    exact run_plain rfl (y_move (kp (sm 8 rfl) hs q17))
  · intro ax tx hs okx sm
    exact run_plain rfl (y_move (kp (sm 2 rfl) hs q20))
  · intro ax tx hs okx sm d0
    have e1 := ed d0 rfl rfl rfl
    exact run_plain rfl (y_len Try.underlying23 e1)
  · intro ax tx hs okx sm d0 d1
    have e0 := ed d0 rfl rfl rfl
    have e2 := ed d1 rfl rfl rfl
    exact run_plain rfl (y_lss e0 e2)
  intro a7 s5 D4
  have ok6 := D4.ok
  have F6 := F5.step0 D4.stp
  have q22 := D4.kt q17 rfl
  have q23 := D4.kt q18 rfl
  have q24 := D4.kt q19 rfl
  have q25 := D4.kt q20 rfl
  have q26 := D4.kt q21 rfl
  have o5 := Own.k0 o4 D4.stp
  have q27 : At (Ty.bool (decide (((k : Nat) : Int) < (((List.length leads) : Nat) : Int)))) s5 a7 (.tmp 17) := D4.done 3
  clear D4
  refine tn ?_
  refine cond_p (p := (((k : Nat) : Int) < (((List.length leads) : Nat) : Int))) q27 (fun c1 => ?_) (fun c1 => ?_)
  ·
   have hkl : k < leads.length := (by omega); obtain ⟨hk0, hkc⟩ := hin k hkl; obtain ⟨E, hE⟩ : ∃ E, E = leadE l cs leads k := ⟨_, rfl⟩; have hsh := hok.short (leads.getD k 0).toNat (by omega); obtain ⟨hHr, hHl⟩ := tHd_row hok hin k (by omega); have hR : ((tRows n.toNat l cs leads k).getD ((((((tRows n.toNat l cs leads k).length : Nat) : Int) - (1 : Int))).toNat) []) = tHd n.toNat l cs leads k := (by rw [htl, show ((((k * l.length + 1 : Nat) : Int) - (1 : Int))).toNat = k * l.length by omega]; exact tRows_last hok hin k (by omega)); have hRl : ((tRows n.toNat l cs leads k).getD ((((((tRows n.toNat l cs leads k).length : Nat) : Int) - (1 : Int))).toNat) []).length = n.toNat := (by rw [hR, hHl]); have hokE : ∀ j, j < E.length → okL 0 (E.getD j []) ((tRows n.toNat l cs leads k).getD ((((((tRows n.toNat l cs leads k).length : Nat) : Int) - (1 : Int))).toNat) []).length := (by rw [hRl, hE]; exact leadE_ok hok hin hkl); have hEl : E.length = l.length := (by rw [hE]; exact leadE_len hok hin hkl); have hfl := fromL_len (tHd n.toNat l cs leads k) E; have hfd : ((fromL (tHd n.toNat l cs leads k) E).drop 1).length = E.length := (by rw [List.length_drop, hfl]; omega); have hkm : k * l.length ≤ 400 * 200 := Nat.mul_le_mul (by omega) hl2
   refine wp_skip ?_
   refine tn ?_
   refine wp_seq ?_
   refine wp_block ?_
   refine wp_seq ?_
   refine reg (a := a7) (σ := s5) rfl (fun i_ => List.getD [(Ty.pr (Ty.val x7_0)), (Ty.pr (Ty.val x7_0)), (Ty.pr (Ty.nat (List.length (tRows n.toNat l cs leads k)))), (Ty.pr (Ty.int ((((List.length (tRows n.toNat l cs leads k)) : Nat) : Int) - (1 : Int)))), (Ty.pr (Ty.val (cellPtr x7_0 (((((List.length (tRows n.toNat l cs leads k)) : Nat) : Int) - (1 : Int))).toNat))), (Ty.pr (Ty.lst Ty.int ((tRows n.toNat l cs leads k).getD (((((List.length (tRows n.toNat l cs leads k)) : Nat) : Int) - (1 : Int))).toNat []))), (Ty.pr (Ty.agg [(Ty.val (Value.string nm)), (Ty.int n), (Ty.lst Ty.ints l)])), (Ty.pr (Ty.lstc 2 callC cs)), (Ty.pr (Ty.lst Ty.int leads)), (Ty.pr (Ty.nat k)), (Ty.pr (Ty.ref [(Ty.int (leads.getD k 0))])), (Ty.pr (Ty.int (leads.getD k 0))), (Ty.pr (Ty.ref [(Ty.val (Value.int .i32 ((cs.getD ((leads.getD k 0)).toNat D0)).1)), (Ty.lst Ty.ints ((cs.getD ((leads.getD k 0)).toNat D0)).2)])), (Ty.pr (Ty.agg [(Ty.val (Value.int .i32 ((cs.getD ((leads.getD k 0)).toNat D0)).1)), (Ty.lst Ty.ints ((cs.getD ((leads.getD k 0)).toNat D0)).2)])), (Ty.pr (Ty.lst Ty.ints E)), (Ty.pr (Ty.lst Ty.ints (fromL (tHd n.toNat l cs leads k) E))), (Ty.pr (Ty.lst Ty.ints (fromL (tHd n.toNat l cs leads k) E)))] i_ Pr.any) ok6 rfl ⟨?_, ?_, ?_, ?_, ?_, ?_, ?_, ?_, ?_, ?_, ?_, ?_, ?_, ?_, ?_, ?_, ?_, trivial⟩ ?_
   · intro ax tx hs okx sm
     exact run_plain rfl (y_move (kp (sm 7 rfl) hs q23))
   · intro ax tx hs okx sm
     exact run_plain rfl (y_move (kp (sm 7 rfl) hs q23))
   · intro ax tx hs okx sm d0
     have e1 := ed d0 rfl rfl rfl
     exact run_plain rfl (own_len Try.underlying29 (al (R := (Pr.own 5 23 1 (List.length (tRows n.toNat l cs leads k)) (List.map Ty.ints (tRows n.toNat l cs leads k)))) e1 (Own.k0 o5 hs)))
   · intro ax tx hs okx sm d0
     have e2 := ed d0 rfl rfl rfl
     exact run_plain rfl (y_sub e2 rfl (w64 (by omega) (by omega)))
   · intro ax tx hs okx sm d0 d1
     have e0 := ed d0 rfl rfl rfl
     have e3 := ed d1 rfl rfl rfl
     exact run_plain rfl (own_index1 (i := ((((List.length (tRows n.toNat l cs leads k)) : Nat) : Int) - (1 : Int))) Try.underlying29 Try.inf23 (Own.k0 o5 hs) e0 e3 (by omega) (by omega))
   · intro ax tx hs okx sm d0
     have e4 := ed d0 rfl rfl rfl
     exact run_plain rfl (own_load Try.underlying23 rfl (Own.k0 o5 hs) e4 (lst_get Ty.ints (tRows n.toNat l cs leads k) [] (((((List.length (tRows n.toNat l cs leads k)) : Nat) : Int) - (1 : Int))).toNat (by omega)))
   · intro ax tx hs okx sm
     exact run_plain rfl (y_loadagg Try.underlying31 Try.inf31 (kp (sm 3 rfl) hs q26))
   · intro ax tx hs okx sm
     exact run_plain rfl (y_move (kp (sm 1 rfl) hs q24))
   · intro ax tx hs okx sm
     exact run_plain rfl (y_move (kp (sm 2 rfl) hs q25))
   · intro ax tx hs okx sm
     exact run_plain rfl (y_move (kp (sm 8 rfl) hs q22))
   · intro ax tx hs okx sm d0 d1
     have e8 := ed d0 rfl rfl rfl
     have e9 := ed d1 rfl rfl rfl
     exact run_plain rfl (y_index1 Try.underlying23 Try.inf3 e8 e9 (by omega) (lst_get Ty.int leads 0 k (by omega)))
   · intro ax tx hs okx sm d0
     have e10 := ed d0 rfl rfl rfl
     exact run_plain rfl (y_load Try.underlying3 rfl e10 rfl)
   · intro ax tx hs okx sm d0 d1
     have e7 := ed d0 rfl rfl rfl
     have e11 := ed d1 rfl rfl rfl
     exact run_plain rfl (y_indexc (i := (leads.getD k 0)) D0 Try.underlying22 Try.inf56 e7 e11 (by omega) (by omega) (by decide) (fun _ => rfl))
   · intro ax tx hs okx sm d0
     have e12 := ed d0 rfl rfl rfl
     exact run_plain rfl (y_loadagg Try.underlying56 Try.inf56 e12)
   · intro ax tx hs okx sm d0 d1
     have e6 := ed d0 rfl rfl rfl
     have e13 := ed d1 rfl rfl rfl
     exact run_plain rfl ((y_call #[ax.eval (.tmp 26), ax.eval (.tmp 33)] Try.func67 rfl rfl (by simp only [List.map_toArray, List.map_cons, List.map_nil]) (rEnds_fn (nm) (n) (l) (((cs.getD ((leads.getD k 0)).toNat D0)).1) (((cs.getD ((leads.getD k 0)).toNat D0)).2) _ _ _ e6 e13 (by first | omega | assumption) (by first | omega | assumption))).mono (fun τ _ h => cvt (σ := τ) (T := (Ty.lst Ty.ints (endsL l ((((cs.getD ((leads.getD k 0)).toNat D0)).1), (((cs.getD ((leads.getD k 0)).toNat D0)).2))))) (U := (Ty.lst Ty.ints E)) (by rw [hE]; rfl) h))
   · intro ax tx hs okx sm d0 d1 d2
     have e5 := ed d0 rfl rfl rfl
     have e14 := ed d1 rfl rfl rfl
     exact run_plain rfl ((y_call #[ax.eval (.tmp 25), ax.eval (.tmp 34)] Try.func63 rfl rfl (by simp only [List.map_toArray, List.map_cons, List.map_nil]) (rFrom_fn (((tRows n.toNat l cs leads k).getD (((((List.length (tRows n.toNat l cs leads k)) : Nat) : Int) - (1 : Int))).toNat [])) (E) _ _ _ e5 e14 (by first | omega | assumption) (by first | omega | assumption) (by first | omega | assumption))).mono (fun τ _ h => cvt (σ := τ) (T := (Ty.lst Ty.ints (fromL (((tRows n.toNat l cs leads k).getD (((((List.length (tRows n.toNat l cs leads k)) : Nat) : Int) - (1 : Int))).toNat [])) (E)))) (U := (Ty.lst Ty.ints (fromL (tHd n.toNat l cs leads k) E))) (by rw [hR]) h))
   · intro ax tx hs okx sm d0 d1 d2 d3 d4 d5 d6 d7 d8 d9 d10 d11 d12 d13 d14 d15 d16 d17
     have e15 := ed d0 rfl rfl rfl
     exact run_plain rfl (y_assign e15)
   intro a8 s6 D5
   have ok7 := D5.ok
   have F7 := F6.step0 D5.stp
   have q28 := D5.kt q22 rfl
   have q29 := D5.kt q23 rfl
   have q30 := D5.kt q24 rfl
   have q31 := D5.kt q25 rfl
   have q32 := D5.kt q26 rfl
   have o6 := Own.k0 o5 D5.stp
   have q33 : At (Ty.lst Ty.ints (fromL (tHd n.toNat l cs leads k) E)) s6 a8 (.tmp 9) := D5.done 16
   clear D5
   refine tn ?_
   refine reg2 (a := a8) (σ := s6) rfl 3 (fun i_ => List.getD [(Ty.pr (Ty.val x7_0)), (Ty.pr (Ty.lst Ty.ints (fromL (tHd n.toNat l cs leads k) E))), (Ty.pr (Ty.lst Ty.ints ((fromL (tHd n.toNat l cs leads k) E).drop 1)))] i_ Pr.any) ok7 rfl (by decide) rfl ⟨?_, ?_, ?_, trivial⟩ ?_
   · intro ax tx hs okx sm
     exact run_plain rfl (y_move (kp (sm 7 rfl) hs q29))
   · intro ax tx hs okx sm
     exact run_plain rfl (y_move (kp (sm 9 rfl) hs q33))
   · intro ax tx hs okx sm d0
     have e1 := ed d0 rfl rfl rfl
     exact run_plain rfl (y_drop Try.underlying29 Try.inf23 e1 (toN (σ := tx) rfl (by omega)) (by omega))
   intro a9 s7 D6
   have ok8 := D6.ok
   have F8 := F7.step0 D6.stp
   have q34 := D6.kt q28 rfl
   have q35 := D6.kt q29 rfl
   have q36 := D6.kt q30 rfl
   have q37 := D6.kt q31 rfl
   have q38 := D6.kt q32 rfl
   have o7 := Own.k0 o6 D6.stp
   have q39 : At (Ty.val x7_0) s7 a9 (.tmp 36) := D6.done 0 (by decide)
   have q40 : At (Ty.lst Ty.ints ((fromL (tHd n.toNat l cs leads k) E).drop 1)) s7 a9 (.tmp 38) := D6.done 2 (by decide)
   have b3 := sl_le q40
   clear D6
   refine tailL (L := [5]) (R := (fun v τ => Own τ 5 23 1 v ((List.length (tRows n.toNat l cs leads k)) + (List.length ((fromL (tHd n.toNat l cs leads k) E).drop 1))) ((List.map Ty.ints (tRows n.toNat l cs leads k)) ++ (List.map Ty.ints ((fromL (tHd n.toNat l cs leads k) E).drop 1))))) rfl rfl (by decide) ok8 (YldM.toL (m_append Try.underlying29 Try.inf23 (by decide) rfl (by decide) (al (R := (Pr.own 5 23 1 (List.length (tRows n.toNat l cs leads k)) (List.map Ty.ints (tRows n.toNat l cs leads k)))) q39 o7) q40 (one_map (fun _ => one_sl)) (by omega) (by omega))) (fun a10 s8 hs2 ok9 r2 sm2 => ?_)
   have F9 := F8.stepL hs2 (by decide)
   have q41 := kpL hs2 (by decide) (sm2 8 (by decide)) q34
   have q42 := kpL hs2 (by decide) (sm2 7 (by decide)) q35
   have q43 := kpL hs2 (by decide) (sm2 1 (by decide)) q36
   have q44 := kpL hs2 (by decide) (sm2 2 (by decide)) q37
   have q45 := kpL hs2 (by decide) (sm2 3 (by decide)) q38
   obtain ⟨x2, hx2⟩ : ∃ x, a10.eval (.tmp 39) = x := ⟨_, rfl⟩
   have q46 : At (Ty.val x2) s8 a10 (.tmp 39) := hx2
   have o8 : Own s8 5 23 1 x2 (List.length ((tRows n.toNat l cs leads k) ++ ((fromL (tHd n.toNat l cs leads k) E).drop 1))) (List.map Ty.ints ((tRows n.toNat l cs leads k) ++ ((fromL (tHd n.toNat l cs leads k) E).drop 1))) := al2 (R := (Pr.own 5 23 1 (List.length ((tRows n.toNat l cs leads k) ++ ((fromL (tHd n.toNat l cs leads k) E).drop 1))) (List.map Ty.ints ((tRows n.toNat l cs leads k) ++ ((fromL (tHd n.toNat l cs leads k) E).drop 1))))) hx2 (cvo (by simp) (by first | (rw [List.map_append]; rfl) | simp) r2)
   clear r2
   refine tailL (L := []) (R := (fun v τ => Pr.has (Ty.pr (Ty.val x2)) τ v)) rfl rfl (by decide) ok9 (Yld.toL (y_assign q46)) (fun a11 s9 hs3 ok10 r3 sm3 => ?_)
   have F10 := F9.stepL hs3 (by decide)
   have q47 := kpL hs3 (by decide) (sm3 8 (by decide)) q41
   have q48 := kpL hs3 (by decide) (sm3 1 (by decide)) q43
   have q49 := kpL hs3 (by decide) (sm3 2 (by decide)) q44
   have q50 := kpL hs3 (by decide) (sm3 3 (by decide)) q45
   have o9 := Own.keepL o8 hs3 (by decide) (by decide)
   have q51 : At (Ty.val x2) s9 a11 (.tmp 7) := r3
   clear r3
   refine wpList_nil ?_
   refine bn ?_
   refine tn ?_
   refine reg (a := a11) (σ := s9) rfl (fun i_ => List.getD [(Ty.pr (Ty.nat k)), (Ty.pr (Ty.nat (k + 1))), (Ty.pr (Ty.nat (k + 1)))] i_ Pr.any) ok10 rfl ⟨?_, ?_, ?_, trivial⟩ ?_
   · intro ax tx hs okx sm
     exact run_plain rfl (y_move (kp (sm 8 rfl) hs q47))
   · intro ax tx hs okx sm d0
     have e0 := ed d0 rfl rfl rfl
     exact run_plain rfl ((y_add e0 rfl (w64 (by omega) (by omega))).mono (fun τ _ h => cvi (σ := τ) (by first | omega | exact (Int.natCast_mul _ _).symm) h))
   · intro ax tx hs okx sm d0 d1 d2
     have e1 := ed d0 rfl rfl rfl
     exact run_plain rfl (y_assign e1)
   intro a12 s10 D7
   have ok11 := D7.ok
   have F11 := F10.step0 D7.stp
   have q52 := D7.kt q48 rfl
   have q53 := D7.kt q49 rfl
   have q54 := D7.kt q50 rfl
   have q55 := D7.kt q51 rfl
   have o10 := Own.k0 o9 D7.stp
   have q56 : At (Ty.nat (k + 1)) s10 a12 (.tmp 8) := D7.done 2
   clear D7
   exact tn ⟨leads.length - ((k+1)), by omega, s10, (k+1), x2, rfl, F11, ok11, (cvi (by (first | rfl | omega | (simp_all; done) | (simp_all; omega))) q56), q55, q52, q53, q54, (cvo (by (rw [tRows, ← hE])) (by (rw [tRows, ← hE])) o10), by omega, rfl⟩
  ·
   refine wp_exit ?_
   refine tx ?_
   refine tx ?_
   refine bx ?_
   refine tn ?_
   refine wp_seq ?_
   refine reg (a := a7) (σ := s5) rfl (fun i_ => List.getD [(Ty.pr (Ty.val x7_0)), (Ty.pr (Ty.val x7_0))] i_ Pr.any) ok6 rfl ⟨?_, ?_, trivial⟩ ?_
   · intro ax tx hs okx sm
     exact run_plain rfl (y_move (kp (sm 7 rfl) hs q23))
   · intro ax tx hs okx sm d0 d1
     have e0 := ed d0 rfl rfl rfl
     exact run_plain rfl (y_assign e0)
   intro a13 s11 D8
   have ok12 := D8.ok
   have F12 := F6.step0 D8.stp
   have o11 := Own.k0 o5 D8.stp
   have q57 : At (Ty.val x7_0) s11 a13 (.tmp 6) := D8.done 1
   clear D8
   refine tn ?_
   refine wp_ret ?_
   obtain ⟨t3, e1, h1, q58⟩ := Own.seal o11 (by decide)
   rw [← e1]
   have F13 := F12.step h1 (by decide)
   have q59 : At (Ty.lst Ty.ints (tRows n.toNat l cs leads k)) t3 a13 (.tmp 6) := by have e : a13.eval (.tmp 6) = x7_0 := q57; show Ty.has _ _ _; rw [e]; exact q58
   exact retL1 rfl ok12 F13 (cvt (by (rw [show k = leads.length by omega])) q59)


set_option maxHeartbeats 4000000 in
set_option maxRecDepth 100000 in
theorem rFact_fn : ∀ (m : Nat) (n : Nat) (σ : GW)  (v0 : Value) (hv0 : Ty.has (Ty.nat n) σ v0)  (hm : m = n) (hn : n ≤ 12), FnC Try.prog 34 #[v0] σ (Ty.nat (fct n)) := by
 intro m
 induction m using Nat.strongRecOn with
 | _ m ih =>
 intro n σ v0 hv0 hm hn
 refine fn_intro0 Try.func34 rfl Try.ntmps34 (Nat.le_of_ble_eq_true rfl) (fun s0 a0 hle F0 ok0 hargs => ?_)
 have p0 : At (Ty.nat n) s0 a0 (.tmp 0) := by have e := hargs 0 _ rfl; show Ty.has _ _ _; rw [e]; exact Ty.up _ hle hv0
 clear hargs
 refine wp_seq ?_
 refine reg (a := a0) (σ := s0) rfl (fun i_ => List.getD [(Ty.pr (Ty.int (0 : Int)))] i_ Pr.any) ok0 rfl ⟨?_, trivial⟩ ?_
 · intro ax tx hs okx sm
   exact run_plain rfl (y_assign rfl)
 intro a1 s1 D1
 have ok1 := D1.ok
 have F1 := F0.step0 D1.stp
 have q1 := D1.kt p0 rfl
 clear D1
 refine tn ?_
 refine wp_seq ?_
 refine wp_seq ?_
 refine reg (a := a1) (σ := s1) rfl (fun i_ => List.getD [(Ty.pr (Ty.nat n)), (Ty.pr (Ty.bool (decide (((n : Nat) : Int) < (2 : Int)))))] i_ Pr.any) ok1 rfl ⟨?_, ?_, trivial⟩ ?_
 · intro ax tx hs okx sm
   exact run_plain rfl (y_move (kp (sm 0 rfl) hs q1))
 · intro ax tx hs okx sm d0
   have e0 := ed d0 rfl rfl rfl
   exact run_plain rfl (y_lss e0 rfl)
 intro a2 s2 D2
 have ok2 := D2.ok
 have F2 := F1.step0 D2.stp
 have q2 := D2.kt q1 rfl
 have q3 : At (Ty.bool (decide (((n : Nat) : Int) < (2 : Int)))) s2 a2 (.tmp 4) := D2.done 1
 clear D2
 refine tn ?_
 refine cond_p (p := (((n : Nat) : Int) < (2 : Int))) q3 (fun c1 => ?_) (fun c1 => ?_)
 ·
  refine wp_seq ?_
  refine reg (a := a2) (σ := s2) rfl (fun i_ => List.getD [(Ty.pr (Ty.int (1 : Int)))] i_ Pr.any) ok2 rfl ⟨?_, trivial⟩ ?_
  · intro ax tx hs okx sm
    exact run_plain rfl (y_assign rfl)
  intro a3 s3 D3
  have ok3 := D3.ok
  have F3 := F2.step0 D3.stp
  have q4 : At (Ty.int (1 : Int)) s3 a3 (.tmp 2) := D3.done 0
  clear D3
  refine tn ?_
  refine wp_ret ?_
  refine tr ?_
  exact retL1 rfl ok3 F3 (cvi (by (rw [fct_small (by omega)]; rfl)) q4)
 ·
  have hm2 : ((n : Nat) : Int) * ((fct (n - 1) : Nat) : Int) ≤ 479001600 ∧ 0 ≤ ((n : Nat) : Int) * ((fct (n - 1) : Nat) : Int) := (by have h1 := fct_le12 hn; have h2 := fct_rec (n := n) (by omega); rw [← Int.natCast_mul]; omega)
  refine wp_skip ?_
  refine tn ?_
  refine wp_seq ?_
  refine reg (a := a2) (σ := s2) rfl (fun i_ => List.getD [(Ty.pr (Ty.nat n)), (Ty.pr (Ty.nat n)), (Ty.pr (Ty.nat (n - 1))), (Ty.pr (Ty.nat (fct ((n - 1))))), (Ty.pr (Ty.nat (n * (fct ((n - 1)))))), (Ty.pr (Ty.nat (n * (fct ((n - 1))))))] i_ Pr.any) ok2 rfl ⟨?_, ?_, ?_, ?_, ?_, ?_, trivial⟩ ?_
  · intro ax tx hs okx sm
    exact run_plain rfl (y_move (kp (sm 0 rfl) hs q2))
  · intro ax tx hs okx sm
    exact run_plain rfl (y_move (kp (sm 0 rfl) hs q2))
  · intro ax tx hs okx sm d0
    have e1 := ed d0 rfl rfl rfl
    exact run_plain rfl ((y_sub e1 rfl (w64 (by omega) (by omega))).mono (fun τ _ h => cvi (σ := τ) (by omega) h))
  · intro ax tx hs okx sm d0
    have e2 := ed d0 rfl rfl rfl
    exact run_plain rfl (y_call #[ax.eval (.tmp 7)] Try.func34 rfl rfl (by simp only [List.map_toArray, List.map_cons, List.map_nil]) (ih (((n - 1))) (by omega) ((n - 1)) _ _ (cvi (σ := tx) (by omega) e2) (by omega) (by omega)))
  · intro ax tx hs okx sm d0 d1
    have e0 := ed d0 rfl rfl rfl
    have e3 := ed d1 rfl rfl rfl
    exact run_plain rfl ((y_mul e0 e3 (w64 (by omega) (by omega))).mono (fun τ _ h => cvi (σ := τ) (by first | omega | exact (Int.natCast_mul _ _).symm) h))
  · intro ax tx hs okx sm d0 d1 d2 d3 d4 d5 d6
    have e4 := ed d0 rfl rfl rfl
    exact run_plain rfl (y_assign e4)
  intro a4 s4 D4
  have ok4 := D4.ok
  have F4 := F2.step0 D4.stp
  have q5 : At (Ty.nat (n * (fct ((n - 1))))) s4 a4 (.tmp 2) := D4.done 5
  clear D4
  refine tn ?_
  refine wp_ret ?_
  exact retL1 rfl ok4 F4 (cvi (by (rw [fct_rec (by omega)])) q5)


set_option maxHeartbeats 4000000 in
set_option maxRecDepth 100000 in
theorem rRank_fn (r : List Int) (σ : GW)  (v0 : Value) (hv0 : Ty.has (Ty.lst Ty.int r) σ v0)  (hr : IsRow r) :
    FnC Try.prog 41 #[v0] σ (Ty.nat (rankL r)) := by
 have hln := hr.le
 refine fn_intro0 Try.func41 rfl Try.ntmps41 (Nat.le_of_ble_eq_true rfl) (fun s0 a0 hle F0 ok0 hargs => ?_)
 have p0 : At (Ty.lst Ty.int r) s0 a0 (.tmp 0) := by have e := hargs 0 _ rfl; show Ty.has _ _ _; rw [e]; exact Ty.up _ hle hv0
 have b1 := sl_le p0
 clear hargs
 refine wp_seq ?_
 refine reg (a := a0) (σ := s0) rfl (fun i_ => List.getD [(Ty.pr (Ty.int (0 : Int)))] i_ Pr.any) ok0 rfl ⟨?_, trivial⟩ ?_
 · intro ax tx hs okx sm
   exact run_plain rfl (y_assign rfl)
 intro a1 s1 D1
 have ok1 := D1.ok
 have F1 := F0.step0 D1.stp
 have q1 := D1.kt p0 rfl
 clear D1
 refine tn ?_
 refine wp_seq ?_
 refine reg (a := a1) (σ := s1) rfl (fun i_ => List.getD [(Ty.pr (Ty.int (0 : Int)))] i_ Pr.any) ok1 rfl ⟨?_, trivial⟩ ?_
 · intro ax tx hs okx sm
   exact run_plain rfl (y_assign rfl)
 intro a2 s2 D2
 have ok2 := D2.ok
 have F2 := F1.step0 D2.stp
 have q2 := D2.kt q1 rfl
 have q3 : At (Ty.int (0 : Int)) s2 a2 (.tmp 3) := D2.done 0
 clear D2
 refine tn ?_
 refine wp_seq ?_
 refine wp_seq ?_
 refine reg (a := a2) (σ := s2) rfl (fun i_ => List.getD [(Ty.pr (Ty.int (0 : Int)))] i_ Pr.any) ok2 rfl ⟨?_, trivial⟩ ?_
 · intro ax tx hs okx sm
   exact run_plain rfl (y_assign rfl)
 intro a3 s3 D3
 have ok3 := D3.ok
 have F3 := F2.step0 D3.stp
 have q4 := D3.kt q2 rfl
 have q5 := D3.kt q3 rfl
 have q6 : At (Ty.int (0 : Int)) s3 a3 (.tmp 4) := D3.done 0
 clear D3
 refine tn ?_
 refine wp_block ?_
 refine loop (fun n1 a4 w1 => ∃ (t1 : GW) (i : Nat) (q : Nat), t1.w = w1 ∧ FromL [] s0 t1 ∧ Ok 44 a4 ∧ At (Ty.nat i) t1 a4 (.tmp 4) ∧ At (Ty.nat q) t1 a4 (.tmp 3) ∧ At (Ty.lst Ty.int r) t1 a4 (.tmp 0) ∧ (i ≤ r.length) ∧ (q + rankL (r.drop i) = rankL r) ∧ n1 = r.length - i) (r.length - (0)) ?_ ?_
 ·
  exact ⟨s3, 0, 0, rfl, F3, ok3, (cvi (by (first | rfl | omega | (simp_all; done) | (simp_all; omega))) q6), (cvi (by (first | rfl | omega | (simp_all; done) | (simp_all; omega))) q5), q4, by omega, by simp, rfl⟩
 ·
  rintro n2 a5 w2 ⟨t2, i, q, rfl, F4, ok4, q7, q8, q9, hi, hq, rfl⟩
  have hrl := rank_le12 hln
  refine wp_seq ?_
  refine wp_seq ?_
  refine reg (a := a5) (σ := t2) rfl (fun i_ => List.getD [(Ty.pr (Ty.nat i)), (Ty.pr (Ty.lst Ty.int r)), (Ty.pr (Ty.nat (List.length r))), (Ty.pr (Ty.bool (decide (((i : Nat) : Int) < (((List.length r) : Nat) : Int)))))] i_ Pr.any) ok4 rfl ⟨?_, ?_, ?_, ?_, trivial⟩ ?_
  · intro ax tx hs okx sm
    exact run_plain rfl (y_move (kp (sm 4 rfl) hs q7))
  · intro ax tx hs okx sm
    exact run_plain rfl (y_move (kp (sm 0 rfl) hs q9))
  · intro ax tx hs okx sm d0
    have e1 := ed d0 rfl rfl rfl
    exact run_plain rfl (y_len Try.underlying23 e1)
  · intro ax tx hs okx sm d0 d1
    have e0 := ed d0 rfl rfl rfl
    have e2 := ed d1 rfl rfl rfl
    exact run_plain rfl (y_lss e0 e2)
  intro a6 s4 D4
  have ok5 := D4.ok
  have F5 := F4.step0 D4.stp
  have q10 := D4.kt q7 rfl
  have q11 := D4.kt q8 rfl
  have q12 := D4.kt q9 rfl
  have q13 : At (Ty.bool (decide (((i : Nat) : Int) < (((List.length r) : Nat) : Int)))) s4 a6 (.tmp 10) := D4.done 3
  clear D4
  refine tn ?_
  refine cond_p (p := (((i : Nat) : Int) < (((List.length r) : Nat) : Int))) q13 (fun c1 => ?_) (fun c1 => ?_)
  ·
   have hmb := rank_mul hln (by omega) hq; have hbd := hr.at (i := i) (by omega)
   refine wp_skip ?_
   refine tn ?_
   refine wp_seq ?_
   refine wp_block ?_
   refine wp_seq ?_
   refine reg (a := a6) (σ := s4) rfl (fun i_ => List.getD [(Ty.pr (Ty.lst Ty.int r)), (Ty.pr (Ty.nat i)), (Ty.pr (Ty.ref [(Ty.int (r.getD i 0))])), (Ty.pr (Ty.int (r.getD i 0))), (Ty.pr (Ty.int (r.getD i 0)))] i_ Pr.any) ok5 rfl ⟨?_, ?_, ?_, ?_, ?_, trivial⟩ ?_
   · intro ax tx hs okx sm
     exact run_plain rfl (y_move (kp (sm 0 rfl) hs q12))
   · intro ax tx hs okx sm
     exact run_plain rfl (y_move (kp (sm 4 rfl) hs q10))
   · intro ax tx hs okx sm d0 d1
     have e0 := ed d0 rfl rfl rfl
     have e1 := ed d1 rfl rfl rfl
     exact run_plain rfl (y_index1 Try.underlying23 Try.inf3 e0 e1 (by omega) (lst_get Ty.int r 0 i (by omega)))
   · intro ax tx hs okx sm d0
     have e2 := ed d0 rfl rfl rfl
     exact run_plain rfl (y_load Try.underlying3 rfl e2 rfl)
   · intro ax tx hs okx sm d0 d1 d2 d3 d4
     have e3 := ed d0 rfl rfl rfl
     exact run_plain rfl (y_assign e3)
   intro a7 s5 D5
   have ok6 := D5.ok
   have F6 := F5.step0 D5.stp
   have q14 := D5.kt q10 rfl
   have q15 := D5.kt q11 rfl
   have q16 := D5.kt q12 rfl
   have q17 : At (Ty.int (r.getD i 0)) s5 a7 (.tmp 5) := D5.done 4
   clear D5
   refine tn ?_
   refine wp_seq ?_
   refine wp_seq ?_
   refine reg (a := a7) (σ := s5) rfl (fun i_ => List.getD [(Ty.pr (Ty.int (0 : Int)))] i_ Pr.any) ok6 rfl ⟨?_, trivial⟩ ?_
   · intro ax tx hs okx sm
     exact run_plain rfl (y_assign rfl)
   intro a8 s6 D6
   have ok7 := D6.ok
   have F7 := F6.step0 D6.stp
   have q18 := D6.kt q14 rfl
   have q19 := D6.kt q15 rfl
   have q20 := D6.kt q16 rfl
   have q21 := D6.kt q17 rfl
   have q22 : At (Ty.int (0 : Int)) s6 a8 (.tmp 6) := D6.done 0
   clear D6
   refine tn ?_
   refine wp_block ?_
   refine loop (fun n3 a9 w3 => ∃ (t3 : GW) (j : Nat), t3.w = w3 ∧ FromL [] s0 t3 ∧ Ok 44 a9 ∧ At (Ty.nat j) t3 a9 (.tmp 6) ∧ At (Ty.int (r.getD i 0 - ((lessN (r.getD i 0) (r.take j) : Nat) : Int))) t3 a9 (.tmp 5) ∧ At (Ty.nat i) t3 a9 (.tmp 4) ∧ At (Ty.nat q) t3 a9 (.tmp 3) ∧ At (Ty.lst Ty.int r) t3 a9 (.tmp 0) ∧ (j ≤ i) ∧ n3 = i - j) (i - (0)) ?_ ?_
   ·
    exact ⟨s6, 0, rfl, F7, ok7, (cvi (by (first | rfl | omega | (simp_all; done) | (simp_all; omega))) q22), (cvi (by (simp [lessN])) q21), q18, q19, q20, by omega, rfl⟩
   ·
    rintro n4 a10 w4 ⟨t4, j, rfl, F8, ok8, q23, q24, q25, q26, q27, hj, rfl⟩
    have hll := lessN_le (r.getD i 0) (r.take j)
    have htl := List.length_take_le j r
    refine wp_seq ?_
    refine wp_seq ?_
    refine reg (a := a10) (σ := t4) rfl (fun i_ => List.getD [(Ty.pr (Ty.nat j)), (Ty.pr (Ty.nat i)), (Ty.pr (Ty.bool (decide (((j : Nat) : Int) < ((i : Nat) : Int)))))] i_ Pr.any) ok8 rfl ⟨?_, ?_, ?_, trivial⟩ ?_
    · intro ax tx hs okx sm
      exact run_plain rfl (y_move (kp (sm 6 rfl) hs q23))
    · intro ax tx hs okx sm
      exact run_plain rfl (y_move (kp (sm 4 rfl) hs q25))
    · intro ax tx hs okx sm d0 d1
      have e0 := ed d0 rfl rfl rfl
      have e1 := ed d1 rfl rfl rfl
      exact run_plain rfl (y_lss e0 e1)
    intro a11 s7 D7
    have ok9 := D7.ok
    have F9 := F8.step0 D7.stp
    have q28 := D7.kt q23 rfl
    have q29 := D7.kt q24 rfl
    have q30 := D7.kt q25 rfl
    have q31 := D7.kt q26 rfl
    have q32 := D7.kt q27 rfl
    have q33 : At (Ty.bool (decide (((j : Nat) : Int) < ((i : Nat) : Int)))) s7 a11 (.tmp 19) := D7.done 2
    clear D7
    refine tn ?_
    refine cond_p (p := (((j : Nat) : Int) < ((i : Nat) : Int))) q33 (fun c2 => ?_) (fun c2 => ?_)
    ·
     refine wp_skip ?_
     refine tn ?_
     refine wp_seq ?_
     refine wp_block ?_
     refine wp_seq ?_
     refine reg (a := a11) (σ := s7) rfl (fun i_ => List.getD [(Ty.pr (Ty.lst Ty.int r)), (Ty.pr (Ty.nat j)), (Ty.pr (Ty.ref [(Ty.int (r.getD j 0))])), (Ty.pr (Ty.int (r.getD j 0))), (Ty.pr (Ty.lst Ty.int r)), (Ty.pr (Ty.nat i)), (Ty.pr (Ty.ref [(Ty.int (r.getD i 0))])), (Ty.pr (Ty.int (r.getD i 0))), (Ty.pr (Ty.bool (decide ((r.getD j 0) < (r.getD i 0)))))] i_ Pr.any) ok9 rfl ⟨?_, ?_, ?_, ?_, ?_, ?_, ?_, ?_, ?_, trivial⟩ ?_
     · intro ax tx hs okx sm
       exact run_plain rfl (y_move (kp (sm 0 rfl) hs q32))
     · intro ax tx hs okx sm
       exact run_plain rfl (y_move (kp (sm 6 rfl) hs q28))
     · intro ax tx hs okx sm d0 d1
       have e0 := ed d0 rfl rfl rfl
       have e1 := ed d1 rfl rfl rfl
       exact run_plain rfl (y_index1 Try.underlying23 Try.inf3 e0 e1 (by omega) (lst_get Ty.int r 0 j (by omega)))
     · intro ax tx hs okx sm d0
       have e2 := ed d0 rfl rfl rfl
       exact run_plain rfl (y_load Try.underlying3 rfl e2 rfl)
     · intro ax tx hs okx sm
       exact run_plain rfl (y_move (kp (sm 0 rfl) hs q32))
     · intro ax tx hs okx sm
       exact run_plain rfl (y_move (kp (sm 4 rfl) hs q30))
     · intro ax tx hs okx sm d0 d1
       have e4 := ed d0 rfl rfl rfl
       have e5 := ed d1 rfl rfl rfl
       exact run_plain rfl (y_index1 Try.underlying23 Try.inf3 e4 e5 (by omega) (lst_get Ty.int r 0 i (by omega)))
     · intro ax tx hs okx sm d0
       have e6 := ed d0 rfl rfl rfl
       exact run_plain rfl (y_load Try.underlying3 rfl e6 rfl)
     · intro ax tx hs okx sm d0 d1
       have e3 := ed d0 rfl rfl rfl
       have e7 := ed d1 rfl rfl rfl
       exact run_plain rfl (y_lss e3 e7)
     intro a12 s8 D8
     have ok10 := D8.ok
     have F10 := F9.step0 D8.stp
     have q34 := D8.kt q28 rfl
     have q35 := D8.kt q29 rfl
     have q36 := D8.kt q30 rfl
     have q37 := D8.kt q31 rfl
     have q38 := D8.kt q32 rfl
     have q39 : At (Ty.bool (decide ((r.getD j 0) < (r.getD i 0)))) s8 a12 (.tmp 30) := D8.done 8
     clear D8
     refine tn ?_
     refine cond_p (p := ((r.getD j 0) < (r.getD i 0))) q39 (fun c3 => ?_) (fun c3 => ?_)
     ·
      refine reg (a := a12) (σ := s8) rfl (fun i_ => List.getD [(Ty.pr (Ty.int (r.getD i 0 - ((lessN (r.getD i 0) (r.take j) : Nat) : Int)))), (Ty.pr (Ty.int ((r.getD i 0 - ((lessN (r.getD i 0) (r.take j) : Nat) : Int)) - (1 : Int)))), (Ty.pr (Ty.int ((r.getD i 0 - ((lessN (r.getD i 0) (r.take j) : Nat) : Int)) - (1 : Int))))] i_ Pr.any) ok10 rfl ⟨?_, ?_, ?_, trivial⟩ ?_
      · intro ax tx hs okx sm
        exact run_plain rfl (y_move (kp (sm 5 rfl) hs q35))
      · intro ax tx hs okx sm d0
        have e0 := ed d0 rfl rfl rfl
        exact run_plain rfl (y_sub e0 rfl (w64 (by omega) (by omega)))
      · intro ax tx hs okx sm d0 d1 d2
        have e1 := ed d0 rfl rfl rfl
        exact run_plain rfl (y_assign e1)
      intro a13 s9 D9
      have ok11 := D9.ok
      have F11 := F10.step0 D9.stp
      have q40 := D9.kt q34 rfl
      have q41 := D9.kt q36 rfl
      have q42 := D9.kt q37 rfl
      have q43 := D9.kt q38 rfl
      have q44 : At (Ty.int ((r.getD i 0 - ((lessN (r.getD i 0) (r.take j) : Nat) : Int)) - (1 : Int))) s9 a13 (.tmp 5) := D9.done 2
      clear D9
      refine bn ?_
      refine tn ?_
      refine reg (a := a13) (σ := s9) rfl (fun i_ => List.getD [(Ty.pr (Ty.nat j)), (Ty.pr (Ty.nat (j + 1))), (Ty.pr (Ty.nat (j + 1)))] i_ Pr.any) ok11 rfl ⟨?_, ?_, ?_, trivial⟩ ?_
      · intro ax tx hs okx sm
        exact run_plain rfl (y_move (kp (sm 6 rfl) hs q40))
      · intro ax tx hs okx sm d0
        have e0 := ed d0 rfl rfl rfl
        exact run_plain rfl ((y_add e0 rfl (w64 (by omega) (by omega))).mono (fun τ _ h => cvi (σ := τ) (by first | omega | exact (Int.natCast_mul _ _).symm) h))
      · intro ax tx hs okx sm d0 d1 d2
        have e1 := ed d0 rfl rfl rfl
        exact run_plain rfl (y_assign e1)
      intro a14 s10 D10
      have ok12 := D10.ok
      have F12 := F11.step0 D10.stp
      have q45 := D10.kt q41 rfl
      have q46 := D10.kt q42 rfl
      have q47 := D10.kt q43 rfl
      have q48 := D10.kt q44 rfl
      have q49 : At (Ty.nat (j + 1)) s10 a14 (.tmp 6) := D10.done 2
      clear D10
      exact tn ⟨i - ((j+1)), by omega, s10, (j+1), rfl, F12, ok12, (cvi (by (first | rfl | omega | (simp_all; done) | (simp_all; omega))) q49), (cvi (by (rw [lessN_snoc _ _ _ (by omega), if_pos (by assumption)]; omega)) q48), q45, q46, q47, by omega, rfl⟩
     ·
      refine wp_skip ?_
      refine bn ?_
      refine tn ?_
      refine reg (a := a12) (σ := s8) rfl (fun i_ => List.getD [(Ty.pr (Ty.nat j)), (Ty.pr (Ty.nat (j + 1))), (Ty.pr (Ty.nat (j + 1)))] i_ Pr.any) ok10 rfl ⟨?_, ?_, ?_, trivial⟩ ?_
      · intro ax tx hs okx sm
        exact run_plain rfl (y_move (kp (sm 6 rfl) hs q34))
      · intro ax tx hs okx sm d0
        have e0 := ed d0 rfl rfl rfl
        exact run_plain rfl ((y_add e0 rfl (w64 (by omega) (by omega))).mono (fun τ _ h => cvi (σ := τ) (by first | omega | exact (Int.natCast_mul _ _).symm) h))
      · intro ax tx hs okx sm d0 d1 d2
        have e1 := ed d0 rfl rfl rfl
        exact run_plain rfl (y_assign e1)
      intro a15 s11 D11
      have ok13 := D11.ok
      have F13 := F10.step0 D11.stp
      have q50 := D11.kt q35 rfl
      have q51 := D11.kt q36 rfl
      have q52 := D11.kt q37 rfl
      have q53 := D11.kt q38 rfl
      have q54 : At (Ty.nat (j + 1)) s11 a15 (.tmp 6) := D11.done 2
      clear D11
      exact tn ⟨i - ((j+1)), by omega, s11, (j+1), rfl, F13, ok13, (cvi (by (first | rfl | omega | (simp_all; done) | (simp_all; omega))) q54), (cvi (by (rw [lessN_snoc _ _ _ (by omega), if_neg (by assumption)]; rfl)) q50), q51, q52, q53, by omega, rfl⟩
    ·
     have q55 : At (Ty.nat (lessN (r.getD i 0) (r.drop (i + 1)))) s7 a11 (.tmp 5) := cvt (T := (Ty.int (r.getD i 0 - ((lessN (r.getD i 0) (r.take j) : Nat) : Int)))) (U := (Ty.nat (lessN (r.getD i 0) (r.drop (i + 1))))) (by have e : j = i := (by omega); rw [e]; exact congrArg Ty.int (less_after hr (by omega))) q29
     refine wp_exit ?_
     refine tx ?_
     refine tx ?_
     refine bx ?_
     refine tn ?_
     refine reg (a := a11) (σ := s7) rfl (fun i_ => List.getD [(Ty.pr (Ty.nat q)), (Ty.pr (Ty.nat (lessN (r.getD i 0) (r.drop (i + 1))))), (Ty.pr (Ty.lst Ty.int r)), (Ty.pr (Ty.nat (List.length r))), (Ty.pr (Ty.nat ((List.length r) - 1))), (Ty.pr (Ty.nat i)), (Ty.pr (Ty.nat (((List.length r) - 1) - i))), (Ty.pr (Ty.nat (fct ((((List.length r) - 1) - i))))), (Ty.pr (Ty.nat ((lessN (r.getD i 0) (r.drop (i + 1))) * (fct ((((List.length r) - 1) - i)))))), (Ty.pr (Ty.nat (q + ((lessN (r.getD i 0) (r.drop (i + 1))) * (fct ((((List.length r) - 1) - i))))))), (Ty.pr (Ty.nat (q + ((lessN (r.getD i 0) (r.drop (i + 1))) * (fct ((((List.length r) - 1) - i)))))))] i_ Pr.any) ok9 rfl ⟨?_, ?_, ?_, ?_, ?_, ?_, ?_, ?_, ?_, ?_, ?_, trivial⟩ ?_
     · intro ax tx hs okx sm
       exact run_plain rfl (y_move (kp (sm 3 rfl) hs q31))
     · intro ax tx hs okx sm
       exact run_plain rfl (y_move (kp (sm 5 rfl) hs q55))
     · intro ax tx hs okx sm
       exact run_plain rfl (y_move (kp (sm 0 rfl) hs q32))
     · intro ax tx hs okx sm d0
       have e2 := ed d0 rfl rfl rfl
       exact run_plain rfl (y_len Try.underlying23 e2)
     · intro ax tx hs okx sm d0
       have e3 := ed d0 rfl rfl rfl
       exact run_plain rfl ((y_sub e3 rfl (w64 (by omega) (by omega))).mono (fun τ _ h => cvi (σ := τ) (by omega) h))
     · intro ax tx hs okx sm
       exact run_plain rfl (y_move (kp (sm 4 rfl) hs q30))
     · intro ax tx hs okx sm d0 d1
       have e4 := ed d0 rfl rfl rfl
       have e5 := ed d1 rfl rfl rfl
       exact run_plain rfl ((y_sub e4 e5 (w64 (by omega) (by omega))).mono (fun τ _ h => cvi (σ := τ) (by omega) h))
     · intro ax tx hs okx sm d0
       have e6 := ed d0 rfl rfl rfl
       exact run_plain rfl (y_call #[ax.eval (.tmp 39)] Try.func34 rfl rfl (by simp only [List.map_toArray, List.map_cons, List.map_nil]) (rFact_fn (((((List.length r) - 1) - i))) ((((List.length r) - 1) - i)) _ _ (cvi (σ := tx) (by omega) e6) (by omega) (by omega)))
     · intro ax tx hs okx sm d0 d1
       have e1 := ed d0 rfl rfl rfl
       have e7 := ed d1 rfl rfl rfl
       exact run_plain rfl ((y_mul e1 e7 (w64 (by omega) (by omega))).mono (fun τ _ h => cvi (σ := τ) (by first | omega | exact (Int.natCast_mul _ _).symm) h))
     · intro ax tx hs okx sm d0 d1
       have e0 := ed d0 rfl rfl rfl
       have e8 := ed d1 rfl rfl rfl
       exact run_plain rfl ((y_add e0 e8 (w64 (by omega) (by omega))).mono (fun τ _ h => cvi (σ := τ) (by first | omega | exact (Int.natCast_mul _ _).symm) h))
     · intro ax tx hs okx sm d0 d1 d2 d3 d4 d5 d6 d7 d8 d9 d10 d11
       have e9 := ed d0 rfl rfl rfl
       exact run_plain rfl (y_assign e9)
     intro a16 s12 D12
     have ok14 := D12.ok
     have F14 := F9.step0 D12.stp
     have q56 := D12.kt q30 rfl
     have q57 := D12.kt q32 rfl
     have q58 : At (Ty.nat (q + ((lessN (r.getD i 0) (r.drop (i + 1))) * (fct ((((List.length r) - 1) - i)))))) s12 a16 (.tmp 3) := D12.done 10
     clear D12
     refine bn ?_
     refine tn ?_
     refine reg (a := a16) (σ := s12) rfl (fun i_ => List.getD [(Ty.pr (Ty.nat i)), (Ty.pr (Ty.nat (i + 1))), (Ty.pr (Ty.nat (i + 1)))] i_ Pr.any) ok14 rfl ⟨?_, ?_, ?_, trivial⟩ ?_
     · intro ax tx hs okx sm
       exact run_plain rfl (y_move (kp (sm 4 rfl) hs q56))
     · intro ax tx hs okx sm d0
       have e0 := ed d0 rfl rfl rfl
       exact run_plain rfl ((y_add e0 rfl (w64 (by omega) (by omega))).mono (fun τ _ h => cvi (σ := τ) (by first | omega | exact (Int.natCast_mul _ _).symm) h))
     · intro ax tx hs okx sm d0 d1 d2
       have e1 := ed d0 rfl rfl rfl
       exact run_plain rfl (y_assign e1)
     intro a17 s13 D13
     have ok15 := D13.ok
     have F15 := F14.step0 D13.stp
     have q59 := D13.kt q57 rfl
     have q60 := D13.kt q58 rfl
     have q61 : At (Ty.nat (i + 1)) s13 a17 (.tmp 4) := D13.done 2
     clear D13
     exact tn ⟨r.length - ((i+1)), by omega, s13, (i+1), (q + lessN (r.getD i 0) (r.drop (i + 1)) * fct (r.length - 1 - i)), rfl, F15, ok15, (cvi (by (first | rfl | omega | (simp_all; done) | (simp_all; omega))) q61), (cvi (by (first | rfl | omega | (simp_all; done) | (simp_all; omega))) q60), q59, by omega, rank_step' (by omega) hq, rfl⟩
  ·
   refine wp_exit ?_
   refine tx ?_
   refine tx ?_
   refine bx ?_
   refine tn ?_
   refine wp_seq ?_
   refine reg (a := a6) (σ := s4) rfl (fun i_ => List.getD [(Ty.pr (Ty.nat q)), (Ty.pr (Ty.nat q))] i_ Pr.any) ok5 rfl ⟨?_, ?_, trivial⟩ ?_
   · intro ax tx hs okx sm
     exact run_plain rfl (y_move (kp (sm 3 rfl) hs q11))
   · intro ax tx hs okx sm d0 d1
     have e0 := ed d0 rfl rfl rfl
     exact run_plain rfl (y_assign e0)
   intro a18 s14 D14
   have ok16 := D14.ok
   have F16 := F5.step0 D14.stp
   have q62 : At (Ty.nat q) s14 a18 (.tmp 2) := D14.done 1
   clear D14
   refine tn ?_
   refine wp_ret ?_
   exact retL1 rfl ok16 F16 (cvi (by (obtain rfl : i = r.length := (by omega); exact congrArg _ (by rw [List.drop_length] at hq; exact hq))) q62)


end Go.Proofs.Ytbilebfnanlgfaa
